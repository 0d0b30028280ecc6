/- exact: Scaled. -/
import Derived.Test.YtjmbpeniibdnoaaMemA
set_option linter.unusedVariables false
set_option linter.unusedSimpArgs false
namespace Go.Proofs.Ytjmbpeniibdnoaa
open Go.RowKit

theorem IntV.al {w : World} {v : Int} {A : Option Addr} {n c : Nat} {x : Int} (h : IntV w v A n c x) (o : Obj) : IntV (w.alloc o) v A n c x := h.kp ((Kp.refl _ _).alloc o)
theorem IntV.dr {w : World} {v : Int} {A : Option Addr} {n c : Nat} {x : Int} (h : IntV w v A n c x) : IntV w.drew v A n c x := h.kp (Kp.refl _ _).drew
theorem sclM_app (m : Int) (l : List Rat) (x : Rat) : sclM m (l ++ [x]) = sclM m l * ((x.den : Int) / (Int.gcd (sclM m l) x.den : Int)) := by
  induction l generalizing m with
  | nil => rfl
  | cons y l ih => exact ih _
theorem sclG_app (g : Int) (l : List Int) (z : Int) : sclG g (l ++ [z]) = (Int.gcd (sclG g l) z : Int) := by
  induction l generalizing g with
  | nil => rfl
  | cons y l ih => exact ih _
theorem take_snoc {α : Type} (l : List α) (d : α) (k : Nat) (hk : k < l.length) : l.take (k + 1) = l.take k ++ [l.getD k d] := by
  rw [List.take_add_one, List.getElem?_eq_getElem hk, List.getD_eq_getElem?_getD, List.getElem?_eq_getElem hk]; rfl
theorem Sz.gcd {k : Nat} {x y : Int} (h : Sz k x) (e : Sz k y) : Sz k (Int.gcd x y : Int) := by
  unfold Sz at *
  rw [Int.natAbs_natCast]
  by_cases h0 : x = 0
  · subst h0; rw [Int.gcd_zero_left]; exact e
  · exact Nat.lt_of_le_of_lt (Nat.le_of_dvd (by omega) (Nat.gcd_dvd_left _ _)) h
theorem sclM_sz {k : Nat} (X : List Rat) (sk : ∀ j, SzR k (X.getD j 0)) (kk : Nat) (hkk : kk ≤ X.length) : Sz (k * kk + 1) (sclM 1 (X.take kk)) := by
  induction kk with
  | zero => show Sz _ 1; unfold Sz; exact Nat.one_lt_two_pow (by omega)
  | succ kk ih =>
    rw [take_snoc X 0 kk (by omega), sclM_app, Nat.mul_succ]
    refine ((ih (by omega)).mul ((sk kk).2.le (y := ((X.getD kk 0).den : Int) / _) ?_)).mono (by omega)
    exact Int.natAbs_ediv_le_natAbs _ _
theorem kp_setJ {W : World} {g : Nat} {cs : Array Value} (hb : W.heap[g]? = some (.cells cs 61 (0, 0))) (i j : Nat) (x y : Value) : Kp 118 W ((W.setCell ⟨g, i, none⟩ x).setCell ⟨g, j, none⟩ y) :=
  ((Kp.refl _ _).set (p := ⟨g, i, none⟩) hb (by decide) x).set (p := ⟨g, j, none⟩) (blk_set hb i x) (by decide) y
/-- The first k entries by f, the others by h. -/
def upt2 (f h : Nat → Int) (n k : Nat) : List Int := (List.range n).map fun j => if j < k then f j else h j
theorem upt2_len (f h : Nat → Int) (n k : Nat) : (upt2 f h n k).length = n := by simp [upt2]
theorem upt2_zero (f h : Nat → Int) (n : Nat) (l : List Int) (hl : l.length = n) (hh : ∀ j, j < n → h j = l.getD j 0) : l = upt2 f h n 0 := by
  apply List.ext_getElem?
  intro j
  unfold upt2
  rw [List.getElem?_map]
  by_cases hj : j < n
  · rw [List.getElem?_range hj, List.getElem?_eq_getElem (by omega)]
    simp only [Option.map_some, Nat.not_lt_zero, if_false]
    rw [hh j hj, List.getD_eq_getElem?_getD, List.getElem?_eq_getElem (by omega)]; rfl
  · rw [List.getElem?_eq_none (by omega), List.getElem?_eq_none (by simp; omega)]; rfl
theorem upt2_at (f h : Nat → Int) (n k : Nat) (hk : k < n) : (upt2 f h n k).getD k 0 = h k := by
  unfold upt2
  rw [List.getD_eq_getElem?_getD, List.getElem?_map, List.getElem?_range hk]
  simp
theorem upt2_set (f h : Nat → Int) (n k : Nat) (hk : k < n) : (upt2 f h n k).set k (f k) = upt2 f h n (k + 1) := by
  apply List.ext_getElem?
  intro j
  by_cases hj : j = k
  · subst hj
    rw [List.getElem?_set_self (by rw [upt2_len]; exact hk)]
    unfold upt2
    rw [List.getElem?_map, List.getElem?_range hk]; simp
  · rw [List.getElem?_set_ne (by omega)]
    unfold upt2
    rw [List.getElem?_map, List.getElem?_map]
    by_cases h : j < n
    · rw [List.getElem?_range h]
      simp only [Option.map_some]
      by_cases h1 : j < k
      · rw [if_pos h1, if_pos (by omega)]
      · rw [if_neg h1, if_neg (by omega)]
    · rw [List.getElem?_eq_none (by simp; omega)]; rfl
theorem upt2_full (f h : Nat → Int) (n : Nat) (l : List Int) (hl : l.length = n) (hf : ∀ j, j < n → f j = l.getD j 0) : upt2 f h n n = l := by
  apply List.ext_getElem?
  intro j
  unfold upt2
  rw [List.getElem?_map]
  by_cases hj : j < n
  · rw [List.getElem?_range hj, List.getElem?_eq_getElem (by omega)]
    simp only [Option.map_some, if_pos hj]
    rw [hf j hj, List.getD_eq_getElem?_getD, List.getElem?_eq_getElem (by omega)]; rfl
  · rw [List.getElem?_eq_none (by simp; omega), List.getElem?_eq_none (by omega)]; rfl

set_option maxHeartbeats 100000000
set_option maxRecDepth 100000
theorem scaled_calls (A : Option Addr) (n c : Nat) (X : List Rat) (w : World) (h : RdQ w A n X) (k : Nat) (sk : ∀ j, SzR k (X.getD j 0)) (hk : k * (n + 2) + 66 ≤ 10000000000) :
    Calls Try.prog 35 #[.slice A n c] w fun e w' => (∃ g cap, e = .returned (.slice (some ⟨g, 0, none⟩) n cap) ∧ OwnJ w' w.heap.size g n cap (scl X)) ∧ Below w.heap.size w w' := by
  have LN := Lib.hid h.1
  have hn := h.2.1
  obtain ⟨KK, hKK0⟩ : ∃ KK, KK = k * (n + 2) + 66 := ⟨_, rfl⟩
  have hKK : KK ≤ 10000000000 := by omega
  have hmono : ∀ kk, kk ≤ n → k * kk + 1 ≤ KK ∧ k + (k * kk + 1) ≤ KK := fun kk hkk => by
    have := Nat.mul_le_mul_left k (show kk ≤ n from hkk)
    rw [Nat.mul_add] at hKK0
    omega
  have SM : Hid (∀ kk, kk ≤ n → Sz KK (sclM 1 (X.take kk))) := Lib.hid fun kk hkk => (sclM_sz X sk kk (by rw [LN.out]; exact hkk)).mono (hmono kk hkk).1
  have SDN : Hid (∀ j, Sz KK ((X.getD j 0).den : Int)) := Lib.hid fun j => (sk j).2.mono (by have := (hmono 0 (by omega)).2; omega)
  have SO : Hid (∀ j, Sz KK ((X.getD j 0).num * (sclM 1 X / ((X.getD j 0).den : Int)))) := Lib.hid fun j => by
    have h1 := sclM_sz X sk n (by rw [LN.out]; exact Nat.le_refl _)
    rw [List.take_of_length_le (by rw [LN.out]; exact Nat.le_refl _)] at h1
    exact ((sk j).1.mul (h1.le (Int.natAbs_ediv_le_natAbs _ _))).mono (hmono n (Nat.le_refl _)).2
  have SNM : Hid (∀ j, Sz KK ((X.getD j 0).num)) := Lib.hid fun j => (sk j).1.mono (by have := (hmono 0 (by omega)).2; omega)
  clear sk hk hmono hKK0
  go_enter Try.func35, Try.ntmps35
  go_wp2_with fail
  refine (one_calls _).mono ?_
  rintro e w1 ⟨⟨vy, Ay, ny, cy, rfl, ty⟩, hB1⟩
  have lgy := hB1.size
  have ay : (w1.alloc (.cells #[.int .i64 vy, .slice Ay ny cy] 61)).heap[w1.heap.size]? = some (.cells #[.int .i64 vy, .slice Ay ny cy] 61 (0, 0)) := blk_at _ rfl
  replace ty := IntV.al ty (.cells #[.int .i64 vy, .slice Ay ny cy] 61)
  have B0 := bl_alloc hB1 (.cells #[.int .i64 vy, .slice Ay ny cy] 61)
  clear hB1
  go_wp2_with fail
  generalize w1.heap.size = gy at *
  generalize w1.alloc (.cells #[.int .i64 vy, .slice Ay ny cy] 61) = W1 at *
  go_loopw [19] (fun i wr => ∃ (kk : Nat) (vy : Int) (Ay : Option Addr) (ny cy : Nat), kk ≤ n ∧ i = .int .i64 kk ∧ wr.heap[gy]? = some (.cells #[.int .i64 vy, .slice Ay ny cy] 61 (0, 0)) ∧ IntV wr vy Ay ny cy (sclM 1 (X.take kk)) ∧ Below w.heap.size w wr) (fun i _ => n - (intOf i).toNat)
  case atStart => exact ⟨0, _, _, _, _, Nat.zero_le _, rfl, ay, ty, B0⟩
  case round =>
    clear ay ty B0
    obtain ⟨kk, vy, Ay, ny, cy, hkk, rfl, ay, ty, B0⟩ := hrel
    by_cases hlt : kk < n
    · obtain ⟨g, off, rfl, hg, hc⟩ := (h.below B0).2.2.1 (by omega)
      obtain ⟨z, ⟨p1, p2, p3, p4⟩, hz⟩ := hc kk hlt
      clear hc h
      have hx : RatV wr z.v z.A z.n z.c z.v' z.A' z.n' z.c' (X.getD kk 0) := hz
      have SY := SM.out kk hkk
      have SD := SDN.out kk
      have E := Lib.hid (show sclM 1 (X.take (kk + 1)) = sclM 1 (X.take kk) * (((X.getD kk 0).den : Int).tdiv (Int.gcd (sclM 1 (X.take kk)) (X.getD kk 0).den : Int)) by
        rw [take_snoc X 0 kk (by rw [LN.out]; exact hlt), sclM_app, Int.tdiv_eq_ediv_of_nonneg (by omega)])
      have hg0 : (Int.gcd (sclM 1 (X.take kk)) (X.getD kk 0).den : Int) ≠ 0 := by
        have := (X.getD kk 0).den_pos
        have h2 : 0 < Int.gcd (sclM 1 (X.take kk)) (X.getD kk 0).den := Int.gcd_pos_of_ne_zero_right _ (by omega)
        omega
      clear hz
      generalize X.getD kk 0 = q at *
      generalize sclM 1 (X.take kk) = my at *
      have SG := SY.gcd SD
      have SQ : Sz KK ((q.den : Int).tdiv (Int.gcd my q.den : Int)) := SD.le (tdiv_abs _ _)
      go_upto_region 5 with (fail)
      have ax : (wr.alloc (.cells #[.int .i64 z.v, .slice z.A z.n z.c, .int .i64 z.v', .slice z.A' z.n' z.c'] 63)).heap[wr.heap.size]? = some (.cells #[.int .i64 z.v, .slice z.A z.n z.c, .int .i64 z.v', .slice z.A' z.n' z.c'] 63 (0, 0)) := blk_at _ rfl
      replace ay := blk_alloc ay (.cells #[.int .i64 z.v, .slice z.A z.n z.c, .int .i64 z.v', .slice z.A' z.n' z.c'] 63)
      replace ty := IntV.al ty (.cells #[.int .i64 z.v, .slice z.A z.n z.c, .int .i64 z.v', .slice z.A' z.n' z.c'] 63)
      have hz := RatV.al hx (.cells #[.int .i64 z.v, .slice z.A z.n z.c, .int .i64 z.v', .slice z.A' z.n' z.c'] 63)
      replace B0 := bl_alloc B0 (.cells #[.int .i64 z.v, .slice z.A z.n z.c, .int .i64 z.v', .slice z.A' z.n' z.c'] 63)
      clear p1 p2 p3 p4 hg hx
      generalize hgx : wr.heap.size = gx at *
      generalize wr.alloc (.cells #[.int .i64 z.v, .slice z.A z.n z.c, .int .i64 z.v', .slice z.A' z.n' z.c'] 63) = W5 at *
      clear hgx
      go_cut [6] (fun x wd => ∃ (g7 : Nat) (u : Int) (D : Option Addr) (m d : Nat), x = .pointer (some ⟨g7, 0, none⟩) ∧ IntV wd u D m d ((Int.gcd my q.den : Int)) ∧ wd.heap[g7]? = some (.cells #[.int .i64 u, .slice D m d] 61 (0, 0)) ∧ Below W5.heap.size W5 wd ∧ W5.heap.size ≤ g7)
      case first =>
        have ax_0 := ax
        have ay_0 := ay
        have HB_0 := Below.refl W5.heap.size W5
        have lx0 := blk_lt ax
        have ly0 := blk_lt ay
        go_region_held3 (fun W => W.cell? ⟨gx, 0, none⟩ = some (Value.int .i64 z.v) ∧ W.cell? ⟨gx, 1, none⟩ = some (Value.slice z.A z.n z.c) ∧ W.cell? ⟨gx, 2, none⟩ = some (Value.int .i64 z.v') ∧ W.cell? ⟨gx, 3, none⟩ = some (Value.slice z.A' z.n' z.c') ∧ W.cell? ⟨gy, 0, none⟩ = some (Value.int .i64 vy) ∧ W.cell? ⟨gy, 1, none⟩ = some (Value.slice Ay ny cy)) (first | (refine qj4 (qx4 (t := 63) ?_) (qx2 (t := 61) ?_) <;> (repeat (first | with_reducible exact ax_2 | with_reducible exact ax_1 | with_reducible exact ax_0 | with_reducible exact ay_2 | with_reducible exact ay_1 | with_reducible exact ay_0 | with_reducible refine blk_alloc ?_ _ | with_reducible refine blk_drew ?_ | with_reducible refine blk_far ?_ ?_ | omega | (simp; omega))); done) | go_keep) (first | (have _hh := tl; go_at_call 59; refine (gcd_calls vy Ay ny cy my vl Al nl cl (q.den : Int) _ (by repeat (first | with_reducible exact ly_1 | with_reducible refine IntV.al ?_ _ | with_reducible refine IntV.dr ?_)) (by repeat (first | with_reducible exact tl | with_reducible refine IntV.al ?_ _ | with_reducible refine IntV.dr ?_)) KK SY SD (by omega)).mono ?_; rintro e y2 ⟨u, D, m, d, rfl, tq, hB2⟩; have s2 := hB2.size; (try simp only [World.size_alloc, World.size_drew] at s2); have ax_2 : y2.heap[gx]? = some (.cells #[.int .i64 z.v, .slice z.A z.n z.c, .int .i64 z.v', .slice z.A' z.n' z.c'] 63 (0, 0)) := (by repeat (first | with_reducible exact ax_1 | with_reducible refine blk_below ?_ hB2 | with_reducible refine blk_alloc ?_ _ | with_reducible refine blk_drew ?_)); have ay_2 : y2.heap[gy]? = some (.cells #[.int .i64 vy, .slice Ay ny cy] 61 (0, 0)) := (by repeat (first | with_reducible exact ay_1 | with_reducible refine blk_below ?_ hB2 | with_reducible refine blk_alloc ?_ _ | with_reducible refine blk_drew ?_)); have HB_2 : Below W5.heap.size W5 y2 := (by repeat (first | with_reducible exact HB_1 | with_reducible refine bl_then ?_ hB2 | with_reducible refine bl_alloc ?_ _ | with_reducible refine bl_drew ?_)); (first | (have F0 := blk_below E0 hB2) | (have F0 : y2.heap[y1.heap.size]? = some (.cells #[.int .i64 0, .slice none 0 0] 61 (0, 0)) := blk_below (blk_at (W := y1) _ rfl) hB2) | skip); (try (have G0 := bx2 F0; obtain ⟨f0, g0, h0, i0⟩ := G0))) | (go_at_call 53; refine (low_calls z.v z.A z.n z.c z.v' z.A' z.n' z.c' q _ (by repeat (first | with_reducible exact hz | with_reducible refine RatV.al ?_ _ | with_reducible refine RatV.dr ?_))).mono ?_; rintro e y1 ⟨⟨vl, Al, nl, cl, rfl, tl⟩, hB1⟩; have ax_1 : y1.heap[gx]? = some (.cells #[.int .i64 z.v, .slice z.A z.n z.c, .int .i64 z.v', .slice z.A' z.n' z.c'] 63 (0, 0)) := (by repeat (first | with_reducible exact ax_0 | with_reducible refine blk_below ?_ hB1 | with_reducible refine blk_alloc ?_ _ | with_reducible refine blk_drew ?_)); have ay_1 : y1.heap[gy]? = some (.cells #[.int .i64 vy, .slice Ay ny cy] 61 (0, 0)) := (by repeat (first | with_reducible exact ay_0 | with_reducible refine blk_below ?_ hB1 | with_reducible refine blk_alloc ?_ _ | with_reducible refine blk_drew ?_)); have HB_1 : Below W5.heap.size W5 y1 := (by repeat (first | with_reducible exact HB_0 | with_reducible refine bl_then ?_ hB1 | with_reducible refine bl_alloc ?_ _ | with_reducible refine bl_drew ?_)); have ly_1 : IntV y1 vy Ay ny cy my := (by repeat (first | with_reducible exact ty | with_reducible refine IntV.below ?_ hB1 | with_reducible refine IntV.al ?_ _ | with_reducible refine IntV.dr ?_)); have lz1 := HB_1.size; (first | (have E0 : y1.heap[W5.heap.size]? = some (.cells #[.int .i64 0, .slice none 0 0] 61 (0, 0)) := blk_below (blk_drew (blk_at _ rfl)) hB1) | (have E0 : y1.heap[W5.heap.size]? = some (.cells #[.int .i64 0, .slice none 0 0] 61 (0, 0)) := blk_below (blk_at (W := W5.drew) _ rfl) hB1) | skip)) | fail)
        all_goals
          go_wp2
          go_meet
          case rel =>
            refine ⟨_, u, D, m, d, rfl, ?_, ?_, ?_, ?_⟩
            · (repeat (first | exact tq | refine IntV.kp ?_ ((Kp.refl _ _).alloc _) | refine IntV.kp ?_ (Kp.refl _ _).drew | refine IntV.kp ?_ (kp_setI (a := .int .i64 0) (b := .slice none 0 0) ?_ _ _) | first | with_reducible exact F0 | with_reducible exact F1 | with_reducible exact F2 | with_reducible exact F3 | (with_reducible refine blk_at _ ?_; (first | rfl | (simp; done))) | with_reducible refine blk_alloc ?_ _ | with_reducible refine blk_drew ?_ | with_reducible refine blk_set2 (a := .int .i64 0) (b := .slice none 0 0) ?_ _ _ | (with_reducible refine blk_far2 ?_ ?_; focus (first | omega | (simp; omega)))))
            · repeat (first | with_reducible exact F0 | with_reducible exact F1 | with_reducible exact F2 | with_reducible exact F3 | (with_reducible refine blk_at _ ?_; (first | rfl | (simp; done))) | with_reducible refine blk_alloc ?_ _ | with_reducible refine blk_drew ?_ | with_reducible refine blk_set2 (a := .int .i64 0) (b := .slice none 0 0) ?_ _ _ | (with_reducible refine blk_far2 ?_ ?_; focus (first | omega | (simp; omega))))
            · repeat (first | with_reducible exact HB_2 | with_reducible refine bl_alloc ?_ _ | with_reducible refine bl_drew ?_ | refine bl_set ?_ (by first | omega | (simp <;> omega)) _)
            · first | omega | (simp <;> omega)
      case rest =>
        obtain ⟨gg, vg, Ag, ng, cg, rfl, tg, ag, HB7, l6⟩ := hcut
        replace ay := blk_below ay HB7
        replace ax := blk_below ax HB7
        replace ty := ty.below HB7
        replace hz := RatV.below hz HB7
        replace B0 := bl_then B0 HB7
        clear HB7 l6
        generalize hgg : (Int.gcd my q.den : Int) = gn at *
        clear hgg
        go_upto_region 6 with (fail)
        go_cut [7, 8] (fun x y we => ∃ (g7 : Nat) (u : Int) (D : Option Addr) (m d : Nat), x = .pointer (some ⟨g7, 0, none⟩) ∧ IntV we u D m d ((q.den : Int).tdiv gn) ∧ we.heap[g7]? = some (.cells #[.int .i64 u, .slice D m d] 61 (0, 0)) ∧ Below wc.heap.size wc we ∧ wc.heap.size ≤ g7)
        case first =>
          have ax_0 := ax
          have ag_0 := ag
          have HB_0 := Below.refl wc.heap.size wc
          have lx0 := blk_lt ax
          have ly0 := blk_lt ag
          go_region_held3 (fun W => W.cell? ⟨gx, 0, none⟩ = some (Value.int .i64 z.v) ∧ W.cell? ⟨gx, 1, none⟩ = some (Value.slice z.A z.n z.c) ∧ W.cell? ⟨gx, 2, none⟩ = some (Value.int .i64 z.v') ∧ W.cell? ⟨gx, 3, none⟩ = some (Value.slice z.A' z.n' z.c') ∧ W.cell? ⟨gg, 0, none⟩ = some (Value.int .i64 vg) ∧ W.cell? ⟨gg, 1, none⟩ = some (Value.slice Ag ng cg)) (first | (refine qj4 (qx4 (t := 63) ?_) (qx2 (t := 61) ?_) <;> (repeat (first | with_reducible exact ax_2 | with_reducible exact ax_1 | with_reducible exact ax_0 | with_reducible exact ag_2 | with_reducible exact ag_1 | with_reducible exact ag_0 | with_reducible refine blk_alloc ?_ _ | with_reducible refine blk_drew ?_ | with_reducible refine blk_far ?_ ?_ | omega | (simp; omega))); done) | go_keep) (first | (have _hh := tl; go_at_call 63; refine (quo_calls vl Al nl cl (q.den : Int) vg Ag ng cg gn _ (by repeat (first | with_reducible exact tl | with_reducible refine IntV.al ?_ _ | with_reducible refine IntV.dr ?_)) (by repeat (first | with_reducible exact lg_1 | with_reducible refine IntV.al ?_ _ | with_reducible refine IntV.dr ?_)) KK SD SG (by omega) hg0).mono ?_; rintro e y2 ⟨u, D, m, d, u', D', m', d', rfl, tq, tr, hB2⟩; have s2 := hB2.size; (try simp only [World.size_alloc, World.size_drew] at s2); have ax_2 : y2.heap[gx]? = some (.cells #[.int .i64 z.v, .slice z.A z.n z.c, .int .i64 z.v', .slice z.A' z.n' z.c'] 63 (0, 0)) := (by repeat (first | with_reducible exact ax_1 | with_reducible refine blk_below ?_ hB2 | with_reducible refine blk_alloc ?_ _ | with_reducible refine blk_drew ?_)); have ag_2 : y2.heap[gg]? = some (.cells #[.int .i64 vg, .slice Ag ng cg] 61 (0, 0)) := (by repeat (first | with_reducible exact ag_1 | with_reducible refine blk_below ?_ hB2 | with_reducible refine blk_alloc ?_ _ | with_reducible refine blk_drew ?_)); have HB_2 : Below wc.heap.size wc y2 := (by repeat (first | with_reducible exact HB_1 | with_reducible refine bl_then ?_ hB2 | with_reducible refine bl_alloc ?_ _ | with_reducible refine bl_drew ?_)); (first | (have F0 := blk_below E0 hB2; have F1 := blk_below E1 hB2) | (have F0 := blk_below E0 hB2) | (have F0 := blk_below (blk_alloc E0 _) hB2; have F2 : y2.heap[y1.heap.size]? = some (.cells #[.int .i64 0, .slice none 0 0] 61 (0, 0)) := blk_below (blk_at (W := y1) _ rfl) hB2) | (have F2 : y2.heap[y1.heap.size]? = some (.cells #[.int .i64 0, .slice none 0 0] 61 (0, 0)) := blk_below (blk_alloc (blk_at (W := y1) _ rfl) (.cells #[.int .i64 0, .slice none 0 0] 61)) hB2; have F3 : y2.heap[y1.heap.size + 1]? = some (.cells #[.int .i64 0, .slice none 0 0] 61 (0, 0)) := blk_below (blk_at (W := y1.alloc (.cells #[.int .i64 0, .slice none 0 0] 61)) _ (World.size_alloc _ _).symm) hB2) | (have F2 : y2.heap[y1.heap.size]? = some (.cells #[.int .i64 0, .slice none 0 0] 61 (0, 0)) := blk_below (blk_at (W := y1) _ rfl) hB2) | skip); (try have lF0 := blk_lt F0); (try have lF1 := blk_lt F1); (try have lF2 := blk_lt F2); (try have lF3 := blk_lt F3); (try (have G0 := bx2 F0; obtain ⟨f0, g0, h0, i0⟩ := G0)); (try (have G4 := bx2 (blk_alloc F0 (.cells #[.int .i64 0, .slice none 0 0] 61)); obtain ⟨f4, g4, h4, i4⟩ := G4)); (try (have G1 := bx2 F1; obtain ⟨f1, g1, h1, i1⟩ := G1)); (try (have G5 := bx2 (blk_alloc F1 (.cells #[.int .i64 0, .slice none 0 0] 61)); obtain ⟨f5, g5, h5, i5⟩ := G5)); (try (have G2 := bx2 F2; obtain ⟨f2, g2, h2, i2⟩ := G2)); (try (have G6 := bx2 (blk_alloc F2 (.cells #[.int .i64 0, .slice none 0 0] 61)); obtain ⟨f6, g6, h6, i6⟩ := G6)); (try (have G3 := bx2 F3; obtain ⟨f3, g3, h3, i3⟩ := G3)); (try (have G7 := bx2 (blk_alloc F3 (.cells #[.int .i64 0, .slice none 0 0] 61)); obtain ⟨f7, g7, h7, i7⟩ := G7)); (try (have Gs0 := bx2 (st_fresh (a := .int .i64 u) (b := .slice D m d) (c0 := .int .i64 0) (c1 := .slice none 0 0) (t' := 61) F0); obtain ⟨js0, ks0, ls0, ms0⟩ := Gs0)); (try (have Gm0 := bx2 (blk_alloc F0 (.cells #[.int .i64 u, .slice D m d] 61)); obtain ⟨jm0, km0, lm0, mm0⟩ := Gm0)); (try (have Gs1 := bx2 (st_fresh (a := .int .i64 u) (b := .slice D m d) (c0 := .int .i64 0) (c1 := .slice none 0 0) (t' := 61) F1); obtain ⟨js1, ks1, ls1, ms1⟩ := Gs1)); (try (have Gm1 := bx2 (blk_alloc F1 (.cells #[.int .i64 u, .slice D m d] 61)); obtain ⟨jm1, km1, lm1, mm1⟩ := Gm1)); (try (have Gs2 := bx2 (st_fresh (a := .int .i64 u) (b := .slice D m d) (c0 := .int .i64 0) (c1 := .slice none 0 0) (t' := 61) F2); obtain ⟨js2, ks2, ls2, ms2⟩ := Gs2)); (try (have Gm2 := bx2 (blk_alloc F2 (.cells #[.int .i64 u, .slice D m d] 61)); obtain ⟨jm2, km2, lm2, mm2⟩ := Gm2)); (try (have Gs3 := bx2 (st_fresh (a := .int .i64 u) (b := .slice D m d) (c0 := .int .i64 0) (c1 := .slice none 0 0) (t' := 61) F3); obtain ⟨js3, ks3, ls3, ms3⟩ := Gs3)); (try (have Gm3 := bx2 (blk_alloc F3 (.cells #[.int .i64 u, .slice D m d] 61)); obtain ⟨jm3, km3, lm3, mm3⟩ := Gm3)); (try (have Go01 := bx2 (st_old (a := .int .i64 u) (b := .slice D m d) (gq := wc.heap.size) F1 (Nat.ne_of_gt (Nat.lt_succ_self _))); obtain ⟨jo01, ko01, lo01, mo01⟩ := Go01)); (try (have Go10 := bx2 (st_old (a := .int .i64 u) (b := .slice D m d) (gq := wc.heap.size + 1) F0 (Nat.ne_of_lt (Nat.lt_succ_self _))); obtain ⟨jo10, ko10, lo10, mo10⟩ := Go10)); (try (have Go23 := bx2 (st_old (a := .int .i64 u) (b := .slice D m d) (gq := y1.heap.size) F3 (Nat.ne_of_gt (Nat.lt_succ_self _))); obtain ⟨jo23, ko23, lo23, mo23⟩ := Go23)); (try (have Go32 := bx2 (st_old (a := .int .i64 u) (b := .slice D m d) (gq := y1.heap.size + 1) F2 (Nat.ne_of_lt (Nat.lt_succ_self _))); obtain ⟨jo32, ko32, lo32, mo32⟩ := Go32)); (try (have Go02 := bx2 (st_old (a := .int .i64 u) (b := .slice D m d) (gq := wc.heap.size) F2 (Nat.ne_of_gt (blk_lt E0))); obtain ⟨jo02, ko02, lo02, mo02⟩ := Go02)); (try (have Go20 := bx2 (st_old (a := .int .i64 u) (b := .slice D m d) (gq := y1.heap.size) F0 (Nat.ne_of_lt (blk_lt E0))); obtain ⟨jo20, ko20, lo20, mo20⟩ := Go20))) | (go_at_call 53; refine (low_calls z.v z.A z.n z.c z.v' z.A' z.n' z.c' q _ (by repeat (first | with_reducible exact hz | with_reducible refine RatV.al ?_ _ | with_reducible refine RatV.dr ?_))).mono ?_; rintro e y1 ⟨⟨vl, Al, nl, cl, rfl, tl⟩, hB1⟩; have ax_1 : y1.heap[gx]? = some (.cells #[.int .i64 z.v, .slice z.A z.n z.c, .int .i64 z.v', .slice z.A' z.n' z.c'] 63 (0, 0)) := (by repeat (first | with_reducible exact ax_0 | with_reducible refine blk_below ?_ hB1 | with_reducible refine blk_alloc ?_ _ | with_reducible refine blk_drew ?_)); have ag_1 : y1.heap[gg]? = some (.cells #[.int .i64 vg, .slice Ag ng cg] 61 (0, 0)) := (by repeat (first | with_reducible exact ag_0 | with_reducible refine blk_below ?_ hB1 | with_reducible refine blk_alloc ?_ _ | with_reducible refine blk_drew ?_)); have HB_1 : Below wc.heap.size wc y1 := (by repeat (first | with_reducible exact HB_0 | with_reducible refine bl_then ?_ hB1 | with_reducible refine bl_alloc ?_ _ | with_reducible refine bl_drew ?_)); have lg_1 : IntV y1 vg Ag ng cg gn := (by repeat (first | with_reducible exact tg | with_reducible refine IntV.below ?_ hB1 | with_reducible refine IntV.al ?_ _ | with_reducible refine IntV.dr ?_)); have lz1 := HB_1.size; (first | (have E0 : y1.heap[wc.heap.size]? = some (.cells #[.int .i64 0, .slice none 0 0] 61 (0, 0)) := blk_below (blk_alloc (blk_at (W := wc.drew) _ rfl) (.cells #[.int .i64 0, .slice none 0 0] 61)) hB1; have E1 : y1.heap[wc.heap.size + 1]? = some (.cells #[.int .i64 0, .slice none 0 0] 61 (0, 0)) := blk_below (blk_at (W := wc.drew.alloc (.cells #[.int .i64 0, .slice none 0 0] 61)) _ (World.size_alloc _ _).symm) hB1) | (have E0 : y1.heap[wc.heap.size]? = some (.cells #[.int .i64 0, .slice none 0 0] 61 (0, 0)) := blk_below (blk_at (W := wc.drew) _ rfl) hB1) | skip); (try have lE0 := blk_lt E0); (try have lE1 := blk_lt E1)) | fail)
          all_goals
            go_wp2
            go_meet
            case rel =>
              refine ⟨_, u, D, m, d, rfl, ?_, ?_, ?_, ?_⟩
              · (repeat (first | exact tq | refine IntV.kp ?_ ((Kp.refl _ _).alloc _) | refine IntV.kp ?_ (Kp.refl _ _).drew | refine IntV.kp ?_ (kp_setI (a := .int .i64 0) (b := .slice none 0 0) ?_ _ _) | first | with_reducible exact F0 | with_reducible exact F1 | with_reducible exact F2 | with_reducible exact F3 | (with_reducible refine blk_at _ ?_; (first | rfl | (simp; done))) | with_reducible refine blk_alloc ?_ _ | with_reducible refine blk_drew ?_ | with_reducible refine blk_set2 (a := .int .i64 0) (b := .slice none 0 0) ?_ _ _ | (with_reducible refine blk_far2 ?_ ?_; focus (first | omega | (simp; omega)))))
              · repeat (first | with_reducible exact F0 | with_reducible exact F1 | with_reducible exact F2 | with_reducible exact F3 | (with_reducible refine blk_at _ ?_; (first | rfl | (simp; done))) | with_reducible refine blk_alloc ?_ _ | with_reducible refine blk_drew ?_ | with_reducible refine blk_set2 (a := .int .i64 0) (b := .slice none 0 0) ?_ _ _ | (with_reducible refine blk_far2 ?_ ?_; focus (first | omega | (simp; omega))))
              · repeat (first | with_reducible exact HB_2 | with_reducible refine bl_alloc ?_ _ | with_reducible refine bl_drew ?_ | refine bl_set ?_ (by first | omega | (simp <;> omega)) _)
              · first | omega | (simp <;> omega)
        case rest =>
          obtain ⟨g7, vq, Aq, nq, cq, rfl, tq, aq, HB7, l7⟩ := hcut
          replace ay := blk_below ay HB7
          replace ty := ty.below HB7
          replace B0 := bl_then B0 HB7
          obtain ⟨p1, p2, p3, p4⟩ := bx2 ay
          obtain ⟨r1, r2, r3, r4⟩ := bx2 aq
          go_wp2_with fail
          refine (mul_calls vy Ay ny cy my vq Aq nq cq _ _ ty tq KK SY SQ hKK).mono ?_
          rintro e w8 ⟨v8, A8, n8, c8, rfl, t8, hB8⟩
          replace ay := blk_below ay hB8
          replace B0 := bl_then B0 hB8
          clear p1 p2 p3 p4 r1 r2 r3 r4 hB8
          obtain ⟨p1, p2, p3, p4⟩ := bx2 ay
          have hE := Lib.hid (putInt t8 ay B0 lgy)
          go_wp2
          go_roundw
          case rel => exact ⟨kk + 1, v8, A8, n8, c8, hlt, by go_num, hE.out.2.2, by rw [E.out]; exact hE.out.1, hE.out.2.1⟩
          case measure => simp [intOf]; omega
    · have hkn : n = kk := by omega
      subst hkn
      rw [List.take_of_length_le (by rw [LN.out]; exact Nat.le_refl _)] at ty
      generalize hmy : sclM 1 X = my at *
      have HMY := Lib.hid hmy
      have HMP : 0 < my := by rw [← hmy]; exact (sclM_spec 1 (by decide) X).1
      have HSM : Sz KK my := by
        have := SM.out n (Nat.le_refl _)
        rw [List.take_of_length_le (by rw [LN.out]; exact Nat.le_refl _), hmy] at this
        exact this
      have HOJ : Hid (∀ j, j < n → (sclO my X).getD j 0 = (X.getD j 0).num * my.tdiv ((X.getD j 0).den : Int)) := Lib.hid fun j hj => by
        rw [show (sclO my X).getD j 0 = (X.getD j 0).num * (my / ((X.getD j 0).den : Int)) from getD_map (fun x : Rat => x.num * (my / (x.den : Int))) X j 0 0 (by rw [LN.out]; exact hj), Int.tdiv_eq_ediv_of_nonneg (by omega)]
      have HSO : Hid (∀ j, j < n → Sz KK ((sclO my X).getD j 0)) := Lib.hid fun j hj => by
        rw [show (sclO my X).getD j 0 = (X.getD j 0).num * (my / ((X.getD j 0).den : Int)) from getD_map (fun x : Rat => x.num * (my / (x.den : Int))) X j 0 0 (by rw [LN.out]; exact hj)]
        exact SO.out j
      have HLO : Hid ((sclO my X).length = n) := Lib.hid (by unfold sclO; rw [List.length_map]; exact LN.out)
      have HSC : Hid (scl X = if sclG 0 (sclO my X) = 0 then sclO my X else (sclO my X).map (· / sclG 0 (sclO my X))) := Lib.hid (by unfold scl; rw [hmy])
      clear SM SO hmy
      generalize sclO my X = O at *
      have HSG : Hid (∀ j, j ≤ n → Sz KK (sclG 0 (O.take j))) := Lib.hid fun j hj => by
        induction j with
        | zero => show Sz KK 0; unfold Sz; exact Nat.pow_pos (by omega)
        | succ j ih => rw [take_snoc O 0 j (by rw [HLO.out]; omega), sclG_app]; exact (ih (by omega)).gcd (HSO.out j (by omega))
      have HGD : Hid (∀ j, j < n → sclG 0 O ∣ O.getD j 0) := Lib.hid fun j hj => (sclG_spec 0 (by omega) O).2.2.1 _ (mem_getD (by rw [HLO.out]; exact hj))
      obtain ⟨cs, om, qm⟩ := made_j n hn
      have OJ := (om wr w.heap.size _ rfl B0.size).al (.cells #[.int .i64 0, .slice none 0 0] 61)
      clear om
      have ag : ((wr.alloc (.cells cs 61)).alloc (.cells #[.int .i64 0, .slice none 0 0] 61)).heap[wr.heap.size + 1]? = some (.cells #[.int .i64 0, .slice none 0 0] 61 (0, 0)) := blk_at _ (by simp)
      have tg : IntV ((wr.alloc (.cells cs 61)).alloc (.cells #[.int .i64 0, .slice none 0 0] 61)) 0 none 0 0 0 := IntV.small _ (by decide) (by decide)
      have lgo := blk_lt ay
      replace ay := blk_alloc (blk_alloc ay (.cells cs 61)) (.cells #[.int .i64 0, .slice none 0 0] 61)
      replace ty := IntV.al (IntV.al ty (.cells cs 61)) (.cells #[.int .i64 0, .slice none 0 0] 61)
      replace B0 := bl_alloc (bl_alloc B0 (.cells cs 61)) (.cells #[.int .i64 0, .slice none 0 0] 61)
      go_wp2_with fail
      generalize hgg : wr.heap.size + 1 = gg at *
      generalize hgo : wr.heap.size = go at *
      generalize (wr.alloc (.cells cs 61)).alloc (.cells #[.int .i64 0, .slice none 0 0] 61) = W9 at *
      rw [uptoi_zero (fun j => O.getD j 0) n] at OJ
      clear qm
      have lgs : go < gg := by omega
      clear hgg hgo
      go_loopw [43] (fun i wr => ∃ (kk : Nat) (vg : Int) (Ag : Option Addr) (ng cg : Nat), kk ≤ n ∧ i = .int .i64 kk ∧ OwnJ wr w.heap.size go n n (uptoi (fun j => O.getD j 0) n kk) ∧ wr.heap[gy]? = some (.cells #[.int .i64 vy, .slice Ay ny cy] 61 (0, 0)) ∧ IntV wr vy Ay ny cy my ∧ wr.heap[gg]? = some (.cells #[.int .i64 vg, .slice Ag ng cg] 61 (0, 0)) ∧ IntV wr vg Ag ng cg (sclG 0 (O.take kk)) ∧ Below w.heap.size w wr) (fun i _ => n - (intOf i).toNat)
      case atStart => exact ⟨0, _, _, _, _, Nat.zero_le _, rfl, OJ, ay, ty, ag, tg, B0⟩
      case round =>
        clear OJ ay ty ag tg B0
        obtain ⟨kk, vg, Ag, ng, cg, hkk, rfl, OJ, ay, ty, ag, tg, B0⟩ := hrel
        by_cases hlt : kk < n
        · obtain ⟨g, off, rfl, hg, hc⟩ := (h.below B0).2.2.1 (by omega)
          obtain ⟨z, ⟨p1, p2, p3, p4⟩, hz⟩ := hc kk hlt
          clear hc h
          have hx : RatV _ z.v z.A z.n z.c z.v' z.A' z.n' z.c' (X.getD kk 0) := hz
          have SY := HSM
          have SD := SDN.out kk
          have SN := SNM.out kk
          have hd0 : ((X.getD kk 0).den : Int) ≠ 0 := by have := (X.getD kk 0).den_pos; omega
          have HON := Lib.hid (HOJ.out kk hlt)
          have SON := HSO.out kk hlt
          have SGN := HSG.out kk hkk
          have EG := Lib.hid (show sclG 0 (O.take (kk + 1)) = (Int.gcd (sclG 0 (O.take kk)) (O.getD kk 0) : Int) by rw [take_snoc O 0 kk (by rw [HLO.out]; exact hlt), sclG_app])
          have hk0 : (0 : Int) ≤ (kk : Int) := by omega
          have hkn : (kk : Int) < (n : Int) := by omega
          clear hz
          generalize X.getD kk 0 = q at *
          generalize sclG 0 (O.take kk) = gn at *
          generalize hon : O.getD kk 0 = on at *
          have HOK := Lib.hid hon
          clear hon
          generalize hW : wr = W12 at *
          clear hW
          go_upto_region 14 with (fail)
          have ax : (W12.alloc (.cells #[.int .i64 z.v, .slice z.A z.n z.c, .int .i64 z.v', .slice z.A' z.n' z.c'] 63)).heap[W12.heap.size]? = some (.cells #[.int .i64 z.v, .slice z.A z.n z.c, .int .i64 z.v', .slice z.A' z.n' z.c'] 63 (0, 0)) := blk_at _ rfl
          replace ay := blk_alloc ay (.cells #[.int .i64 z.v, .slice z.A z.n z.c, .int .i64 z.v', .slice z.A' z.n' z.c'] 63)
          replace ty := IntV.al ty (.cells #[.int .i64 z.v, .slice z.A z.n z.c, .int .i64 z.v', .slice z.A' z.n' z.c'] 63)
          replace ag := blk_alloc ag (.cells #[.int .i64 z.v, .slice z.A z.n z.c, .int .i64 z.v', .slice z.A' z.n' z.c'] 63)
          replace tg := IntV.al tg (.cells #[.int .i64 z.v, .slice z.A z.n z.c, .int .i64 z.v', .slice z.A' z.n' z.c'] 63)
          replace OJ := OJ.al (.cells #[.int .i64 z.v, .slice z.A z.n z.c, .int .i64 z.v', .slice z.A' z.n' z.c'] 63)
          have hz := RatV.al hx (.cells #[.int .i64 z.v, .slice z.A z.n z.c, .int .i64 z.v', .slice z.A' z.n' z.c'] 63)
          replace B0 := bl_alloc B0 (.cells #[.int .i64 z.v, .slice z.A z.n z.c, .int .i64 z.v', .slice z.A' z.n' z.c'] 63)
          clear p1 p2 p3 p4 hg hx
          generalize hgx : W12.heap.size = gx at *
          generalize W12.alloc (.cells #[.int .i64 z.v, .slice z.A z.n z.c, .int .i64 z.v', .slice z.A' z.n' z.c'] 63) = W13 at *
          clear hgx
          go_cut [13, 14] (fun x y we => ∃ (g7 : Nat) (u : Int) (D : Option Addr) (m d : Nat), x = .pointer (some ⟨g7, 0, none⟩) ∧ IntV we u D m d (my.tdiv (q.den : Int)) ∧ we.heap[g7]? = some (.cells #[.int .i64 u, .slice D m d] 61 (0, 0)) ∧ Below W13.heap.size W13 we ∧ W13.heap.size ≤ g7)
          case first =>
            have ax_0 := ax
            have ay_0 := ay
            have HB_0 := Below.refl W13.heap.size W13
            have lx0 := blk_lt ax
            have ly0 := blk_lt ay
            go_region_held3 (fun W => W.cell? ⟨gx, 0, none⟩ = some (Value.int .i64 z.v) ∧ W.cell? ⟨gx, 1, none⟩ = some (Value.slice z.A z.n z.c) ∧ W.cell? ⟨gx, 2, none⟩ = some (Value.int .i64 z.v') ∧ W.cell? ⟨gx, 3, none⟩ = some (Value.slice z.A' z.n' z.c') ∧ W.cell? ⟨gy, 0, none⟩ = some (Value.int .i64 vy) ∧ W.cell? ⟨gy, 1, none⟩ = some (Value.slice Ay ny cy)) (first | (refine qj4 (qx4 (t := 63) ?_) (qx2 (t := 61) ?_) <;> (repeat (first | with_reducible exact ax_2 | with_reducible exact ax_1 | with_reducible exact ax_0 | with_reducible exact ay_2 | with_reducible exact ay_1 | with_reducible exact ay_0 | with_reducible refine blk_alloc ?_ _ | with_reducible refine blk_drew ?_ | with_reducible refine blk_far ?_ ?_ | omega | (simp; omega))); done) | go_keep) (first | (have _hh := tl; go_at_call 63; refine (quo_calls vy Ay ny cy my vl Al nl cl (q.den : Int) _ (by repeat (first | with_reducible exact ly_1 | with_reducible refine IntV.al ?_ _ | with_reducible refine IntV.dr ?_)) (by repeat (first | with_reducible exact tl | with_reducible refine IntV.al ?_ _ | with_reducible refine IntV.dr ?_)) KK SY SD (by omega) hd0).mono ?_; rintro e y2 ⟨u, D, m, d, u', D', m', d', rfl, tq, tr, hB2⟩; have s2 := hB2.size; (try simp only [World.size_alloc, World.size_drew] at s2); have ax_2 : y2.heap[gx]? = some (.cells #[.int .i64 z.v, .slice z.A z.n z.c, .int .i64 z.v', .slice z.A' z.n' z.c'] 63 (0, 0)) := (by repeat (first | with_reducible exact ax_1 | with_reducible refine blk_below ?_ hB2 | with_reducible refine blk_alloc ?_ _ | with_reducible refine blk_drew ?_)); have ay_2 : y2.heap[gy]? = some (.cells #[.int .i64 vy, .slice Ay ny cy] 61 (0, 0)) := (by repeat (first | with_reducible exact ay_1 | with_reducible refine blk_below ?_ hB2 | with_reducible refine blk_alloc ?_ _ | with_reducible refine blk_drew ?_)); have HB_2 : Below W13.heap.size W13 y2 := (by repeat (first | with_reducible exact HB_1 | with_reducible refine bl_then ?_ hB2 | with_reducible refine bl_alloc ?_ _ | with_reducible refine bl_drew ?_)); (first | (have F0 := blk_below E0 hB2; have F1 := blk_below E1 hB2) | (have F0 := blk_below E0 hB2) | (have F0 := blk_below (blk_alloc E0 _) hB2; have F2 : y2.heap[y1.heap.size]? = some (.cells #[.int .i64 0, .slice none 0 0] 61 (0, 0)) := blk_below (blk_at (W := y1) _ rfl) hB2) | (have F2 : y2.heap[y1.heap.size]? = some (.cells #[.int .i64 0, .slice none 0 0] 61 (0, 0)) := blk_below (blk_alloc (blk_at (W := y1) _ rfl) (.cells #[.int .i64 0, .slice none 0 0] 61)) hB2; have F3 : y2.heap[y1.heap.size + 1]? = some (.cells #[.int .i64 0, .slice none 0 0] 61 (0, 0)) := blk_below (blk_at (W := y1.alloc (.cells #[.int .i64 0, .slice none 0 0] 61)) _ (World.size_alloc _ _).symm) hB2) | (have F2 : y2.heap[y1.heap.size]? = some (.cells #[.int .i64 0, .slice none 0 0] 61 (0, 0)) := blk_below (blk_at (W := y1) _ rfl) hB2) | skip); (try have lF0 := blk_lt F0); (try have lF1 := blk_lt F1); (try have lF2 := blk_lt F2); (try have lF3 := blk_lt F3); (try (have G0 := bx2 F0; obtain ⟨f0, g0, h0, i0⟩ := G0)); (try (have G4 := bx2 (blk_alloc F0 (.cells #[.int .i64 0, .slice none 0 0] 61)); obtain ⟨f4, g4, h4, i4⟩ := G4)); (try (have G1 := bx2 F1; obtain ⟨f1, g1, h1, i1⟩ := G1)); (try (have G5 := bx2 (blk_alloc F1 (.cells #[.int .i64 0, .slice none 0 0] 61)); obtain ⟨f5, g5, h5, i5⟩ := G5)); (try (have G2 := bx2 F2; obtain ⟨f2, g2, h2, i2⟩ := G2)); (try (have G6 := bx2 (blk_alloc F2 (.cells #[.int .i64 0, .slice none 0 0] 61)); obtain ⟨f6, g6, h6, i6⟩ := G6)); (try (have G3 := bx2 F3; obtain ⟨f3, g3, h3, i3⟩ := G3)); (try (have G7 := bx2 (blk_alloc F3 (.cells #[.int .i64 0, .slice none 0 0] 61)); obtain ⟨f7, g7, h7, i7⟩ := G7)); (try (have Gs0 := bx2 (st_fresh (a := .int .i64 u) (b := .slice D m d) (c0 := .int .i64 0) (c1 := .slice none 0 0) (t' := 61) F0); obtain ⟨js0, ks0, ls0, ms0⟩ := Gs0)); (try (have Gm0 := bx2 (blk_alloc F0 (.cells #[.int .i64 u, .slice D m d] 61)); obtain ⟨jm0, km0, lm0, mm0⟩ := Gm0)); (try (have Gs1 := bx2 (st_fresh (a := .int .i64 u) (b := .slice D m d) (c0 := .int .i64 0) (c1 := .slice none 0 0) (t' := 61) F1); obtain ⟨js1, ks1, ls1, ms1⟩ := Gs1)); (try (have Gm1 := bx2 (blk_alloc F1 (.cells #[.int .i64 u, .slice D m d] 61)); obtain ⟨jm1, km1, lm1, mm1⟩ := Gm1)); (try (have Gs2 := bx2 (st_fresh (a := .int .i64 u) (b := .slice D m d) (c0 := .int .i64 0) (c1 := .slice none 0 0) (t' := 61) F2); obtain ⟨js2, ks2, ls2, ms2⟩ := Gs2)); (try (have Gm2 := bx2 (blk_alloc F2 (.cells #[.int .i64 u, .slice D m d] 61)); obtain ⟨jm2, km2, lm2, mm2⟩ := Gm2)); (try (have Gs3 := bx2 (st_fresh (a := .int .i64 u) (b := .slice D m d) (c0 := .int .i64 0) (c1 := .slice none 0 0) (t' := 61) F3); obtain ⟨js3, ks3, ls3, ms3⟩ := Gs3)); (try (have Gm3 := bx2 (blk_alloc F3 (.cells #[.int .i64 u, .slice D m d] 61)); obtain ⟨jm3, km3, lm3, mm3⟩ := Gm3)); (try (have Go01 := bx2 (st_old (a := .int .i64 u) (b := .slice D m d) (gq := W13.heap.size) F1 (Nat.ne_of_gt (Nat.lt_succ_self _))); obtain ⟨jo01, ko01, lo01, mo01⟩ := Go01)); (try (have Go10 := bx2 (st_old (a := .int .i64 u) (b := .slice D m d) (gq := W13.heap.size + 1) F0 (Nat.ne_of_lt (Nat.lt_succ_self _))); obtain ⟨jo10, ko10, lo10, mo10⟩ := Go10)); (try (have Go23 := bx2 (st_old (a := .int .i64 u) (b := .slice D m d) (gq := y1.heap.size) F3 (Nat.ne_of_gt (Nat.lt_succ_self _))); obtain ⟨jo23, ko23, lo23, mo23⟩ := Go23)); (try (have Go32 := bx2 (st_old (a := .int .i64 u) (b := .slice D m d) (gq := y1.heap.size + 1) F2 (Nat.ne_of_lt (Nat.lt_succ_self _))); obtain ⟨jo32, ko32, lo32, mo32⟩ := Go32)); (try (have Go02 := bx2 (st_old (a := .int .i64 u) (b := .slice D m d) (gq := W13.heap.size) F2 (Nat.ne_of_gt (blk_lt E0))); obtain ⟨jo02, ko02, lo02, mo02⟩ := Go02)); (try (have Go20 := bx2 (st_old (a := .int .i64 u) (b := .slice D m d) (gq := y1.heap.size) F0 (Nat.ne_of_lt (blk_lt E0))); obtain ⟨jo20, ko20, lo20, mo20⟩ := Go20))) | (go_at_call 53; refine (low_calls z.v z.A z.n z.c z.v' z.A' z.n' z.c' q _ (by repeat (first | with_reducible exact hz | with_reducible refine RatV.al ?_ _ | with_reducible refine RatV.dr ?_))).mono ?_; rintro e y1 ⟨⟨vl, Al, nl, cl, rfl, tl⟩, hB1⟩; have ax_1 : y1.heap[gx]? = some (.cells #[.int .i64 z.v, .slice z.A z.n z.c, .int .i64 z.v', .slice z.A' z.n' z.c'] 63 (0, 0)) := (by repeat (first | with_reducible exact ax_0 | with_reducible refine blk_below ?_ hB1 | with_reducible refine blk_alloc ?_ _ | with_reducible refine blk_drew ?_)); have ay_1 : y1.heap[gy]? = some (.cells #[.int .i64 vy, .slice Ay ny cy] 61 (0, 0)) := (by repeat (first | with_reducible exact ay_0 | with_reducible refine blk_below ?_ hB1 | with_reducible refine blk_alloc ?_ _ | with_reducible refine blk_drew ?_)); have HB_1 : Below W13.heap.size W13 y1 := (by repeat (first | with_reducible exact HB_0 | with_reducible refine bl_then ?_ hB1 | with_reducible refine bl_alloc ?_ _ | with_reducible refine bl_drew ?_)); have ly_1 : IntV y1 vy Ay ny cy my := (by repeat (first | with_reducible exact ty | with_reducible refine IntV.below ?_ hB1 | with_reducible refine IntV.al ?_ _ | with_reducible refine IntV.dr ?_)); have lz1 := HB_1.size; (first | (have E0 : y1.heap[W13.heap.size]? = some (.cells #[.int .i64 0, .slice none 0 0] 61 (0, 0)) := blk_below (blk_alloc (blk_at (W := W13.drew) _ rfl) (.cells #[.int .i64 0, .slice none 0 0] 61)) hB1; have E1 : y1.heap[W13.heap.size + 1]? = some (.cells #[.int .i64 0, .slice none 0 0] 61 (0, 0)) := blk_below (blk_at (W := W13.drew.alloc (.cells #[.int .i64 0, .slice none 0 0] 61)) _ (World.size_alloc _ _).symm) hB1) | (have E0 : y1.heap[W13.heap.size]? = some (.cells #[.int .i64 0, .slice none 0 0] 61 (0, 0)) := blk_below (blk_at (W := W13.drew) _ rfl) hB1) | skip); (try have lE0 := blk_lt E0); (try have lE1 := blk_lt E1)) | fail)
            all_goals
              go_wp2
              go_meet
              case rel =>
                refine ⟨_, u, D, m, d, rfl, ?_, ?_, ?_, ?_⟩
                · (repeat (first | exact tq | refine IntV.kp ?_ ((Kp.refl _ _).alloc _) | refine IntV.kp ?_ (Kp.refl _ _).drew | refine IntV.kp ?_ (kp_setI (a := .int .i64 0) (b := .slice none 0 0) ?_ _ _) | first | with_reducible exact F0 | with_reducible exact F1 | with_reducible exact F2 | with_reducible exact F3 | (with_reducible refine blk_at _ ?_; (first | rfl | (simp; done))) | with_reducible refine blk_alloc ?_ _ | with_reducible refine blk_drew ?_ | with_reducible refine blk_set2 (a := .int .i64 0) (b := .slice none 0 0) ?_ _ _ | (with_reducible refine blk_far2 ?_ ?_; focus (first | omega | (simp; omega)))))
                · repeat (first | with_reducible exact F0 | with_reducible exact F1 | with_reducible exact F2 | with_reducible exact F3 | (with_reducible refine blk_at _ ?_; (first | rfl | (simp; done))) | with_reducible refine blk_alloc ?_ _ | with_reducible refine blk_drew ?_ | with_reducible refine blk_set2 (a := .int .i64 0) (b := .slice none 0 0) ?_ _ _ | (with_reducible refine blk_far2 ?_ ?_; focus (first | omega | (simp; omega))))
                · repeat (first | with_reducible exact HB_2 | with_reducible refine bl_alloc ?_ _ | with_reducible refine bl_drew ?_ | refine bl_set ?_ (by first | omega | (simp <;> omega)) _)
                · first | omega | (simp <;> omega)
          case rest =>
            obtain ⟨g7, vq, Aq, nq, cq, rfl, tq, aq, HB7, l7⟩ := hcut
            replace ay := blk_below ay HB7
            replace ax := blk_below ax HB7
            replace ag := blk_below ag HB7
            replace ty := ty.below HB7
            replace tg := tg.below HB7
            replace hz := RatV.below hz HB7
            replace OJ := OJ.below HB7
            replace B0 := bl_then B0 HB7
            clear HB7
            have SQ : Sz KK (my.tdiv (q.den : Int)) := SY.le (tdiv_abs _ _)
            generalize my.tdiv (q.den : Int) = qq at *
            obtain ⟨⟨p1, p2, p3, p4⟩, p5⟩ := bx4 ax
            obtain ⟨r1, r2, r3, r4⟩ := bx2 aq
            go_wp2_with fail
            refine (mul_calls z.v z.A z.n z.c q.num vq Aq nq cq _ _ hz.1 tq KK SN SQ hKK).mono ?_
            rintro e w8 ⟨v8, A8, n8, c8, rfl, t8, hB8⟩
            rw [← HON.out] at t8
            replace ay := blk_below ay hB8
            replace ag := blk_below ag hB8
            replace ty := ty.below hB8
            replace tg := tg.below hB8
            replace OJ := OJ.below hB8
            replace B0 := bl_then B0 hB8
            clear p1 p2 p3 p4 p5 r1 r2 r3 r4 hB8 hz tq aq ax
            obtain ⟨o0, q1, q2, q9⟩ := OJ.at kk hlt
            have q3 := OJ.frozen (kk * 2)
            have q4 := OJ.frozen (kk * 2 + 1)
            have lgo8 := OJ.ge.2
            have US := OJ.set B0 (Nat.le_refl _) kk hlt v8 A8 n8 c8 on t8
            obtain ⟨bs, hbs⟩ := OJ.blk
            have KP := kp_setJ hbs (kk * 2) (kk * 2 + 1) (.int .i64 v8) (.slice A8 n8 c8)
            have UY := blk_far (i := kk * 2 + 1) (v := .slice A8 n8 c8) (blk_far (i := kk * 2) (v := .int .i64 v8) ay (show gy ≠ go by omega)) (show gy ≠ go by omega)
            have UG := blk_far (i := kk * 2 + 1) (v := .slice A8 n8 c8) (blk_far (i := kk * 2) (v := .int .i64 v8) ag (show gg ≠ go by omega)) (show gg ≠ go by omega)
            replace ty := ty.kp KP
            replace tg := tg.kp KP
            clear ay ag KP hbs OJ B0
            go_upto_region 16 with (fail)
            obtain ⟨OJ, B0⟩ := US
            rw [show (uptoi (fun j => O.getD j 0) n kk).set kk on = uptoi (fun j => O.getD j 0) n (kk + 1) by rw [← HOK.out, uptoi_set (fun j => O.getD j 0) n kk hlt]] at OJ
            generalize (w8.setCell ⟨go, kk * 2, none⟩ (.int .i64 v8)).setCell ⟨go, kk * 2 + 1, none⟩ (.slice A8 n8 c8) = w9 at *
            have ay := UY
            have ag := UG
            clear UY UG q1 q2 q3 q4 q9 o0
            obtain ⟨o, s3, s4, ho⟩ := OJ.at kk hlt
            have e9 : (uptoi (fun j => O.getD j 0) n (kk + 1)).getD kk 0 = on := by
              unfold uptoi
              rw [getD_map _ _ _ 0 0 (by simp; exact hlt)]
              simp [List.getD_eq_getElem?_getD, List.getElem?_range hlt]
              rw [← List.getD_eq_getElem?_getD]
              exact HOK.out
            rw [e9] at ho
            obtain ⟨s1, s2, s5, s6⟩ := bx2 ag
            have lgo9 := OJ.ge.2
            have lgg9 := blk_lt ag
            clear e9
            have hS0 : w9.drew.cell? ⟨gg, 0, none⟩ = some (Value.int .i64 vg) ∧ w9.drew.cell? ⟨gg, 1, none⟩ = some (Value.slice Ag ng cg) ∧ w9.drew.cell? ⟨go, kk * 2, none⟩ = some (Value.int .i64 o.v) ∧ w9.drew.cell? ⟨go, kk * 2 + 1, none⟩ = some (Value.slice o.A o.n o.c) := ⟨s1, s2, s3, s4⟩
            refine wp_region_T (n := 6) (fun W => W.cell? ⟨gg, 0, none⟩ = some (Value.int .i64 vg) ∧ W.cell? ⟨gg, 1, none⟩ = some (Value.slice Ag ng cg) ∧ W.cell? ⟨go, kk * 2, none⟩ = some (Value.int .i64 o.v) ∧ W.cell? ⟨go, kk * 2 + 1, none⟩ = some (Value.slice o.A o.n o.c)) (by kernel_rfl) ?_
            refine wpT_take (n := 6) (i := 0) (v := ?_) (by decide) (by kernel_rfl) rfl (by kernel_rfl) (by kernel_rfl) (by kernel_rfl) (fun _ _ _ h => h) (Or.inl ⟨by rfl, ?_⟩) hS0 ?_
            rotate_left
            · intro w' hSw
              (try dsimp only at hSw)
              go_simp
              (try with_reducible rfl)
            try simp only [Act.put, List.setIfInBounds_toArray, List.set_cons_zero, List.set_cons_succ]
            refine wpT_take (n := 6) (i := 1) (v := ?_) (by decide) (by kernel_rfl) rfl (by kernel_rfl) (by kernel_rfl) (by kernel_rfl) (fun _ _ _ h => h) (Or.inl ⟨by rfl, ?_⟩) hS0 ?_
            rotate_left
            · intro w' hSw
              (try dsimp only at hSw)
              go_simp
              (try with_reducible rfl)
            try simp only [Act.put, List.setIfInBounds_toArray, List.set_cons_zero, List.set_cons_succ]
            refine wpT_take (n := 6) (i := 2) (v := ?_) (by decide) (by kernel_rfl) rfl (by kernel_rfl) (by kernel_rfl) (by kernel_rfl) (fun _ _ _ h => h) (Or.inl ⟨by rfl, ?_⟩) hS0 ?_
            rotate_left
            · intro w' hSw
              (try dsimp only at hSw)
              go_simp
              (try with_reducible rfl)
            try simp only [Act.put, List.setIfInBounds_toArray, List.set_cons_zero, List.set_cons_succ]
            refine wpT_take (n := 6) (i := 3) (v := ?_) (by decide) (by kernel_rfl) rfl (by kernel_rfl) (by kernel_rfl) (by kernel_rfl) (fun _ _ _ h => h) (Or.inl ⟨by rfl, ?_⟩) hS0 ?_
            rotate_left
            · intro w' hSw
              (try dsimp only at hSw)
              go_simp
              (try with_reducible rfl)
            try simp only [Act.put, List.setIfInBounds_toArray, List.set_cons_zero, List.set_cons_succ]
            refine wpT_take (n := 6) (i := 4) (v := ?_) (by decide) (by kernel_rfl) rfl (by kernel_rfl) (by kernel_rfl) (by kernel_rfl) (fun _ _ _ h => h) (Or.inl ⟨by rfl, ?_⟩) hS0 ?_
            rotate_left
            · intro w' hSw
              (try dsimp only at hSw)
              go_simp
              (try with_reducible rfl)
            try simp only [Act.put, List.setIfInBounds_toArray, List.set_cons_zero, List.set_cons_succ]
            refine wpT_one (n := 6) (i := 5) (by kernel_rfl) rfl (fun K9 hK9 => ?_)
            go_simp
            refine (gcd_calls vg Ag ng cg gn o.v o.A o.n o.c on _ (IntV.dr tg) (IntV.dr ho) KK SGN SON (by omega)).mono ?_
            rintro e y1 ⟨v1, A1, n1, c1, rfl, t1, hB1⟩
            have ag_1 := blk_below (blk_drew ag) hB1
            obtain ⟨k1, k2, k3, k4⟩ := bx2 ag_1
            have c0 := (cells_below hB1).1 go
            have c3 := (c0 (kk * 2) (by simp; omega)).trans s3
            have c4 := (c0 (kk * 2 + 1) (by simp; omega)).trans s4
            have hS1 : y1.cell? ⟨gg, 0, none⟩ = some (Value.int .i64 vg) ∧ y1.cell? ⟨gg, 1, none⟩ = some (Value.slice Ag ng cg) ∧ y1.cell? ⟨go, kk * 2, none⟩ = some (Value.int .i64 o.v) ∧ y1.cell? ⟨go, kk * 2 + 1, none⟩ = some (Value.slice o.A o.n o.c) := by exact ⟨k1, k2, c3, c4⟩
            refine hK9.out _ _ (fun _ => hS1) (fun _ => ?_)
            clear hK9 K9
            try simp only [Act.put, List.setIfInBounds_toArray, List.set_cons_zero, List.set_cons_succ]
            refine wpT_one (n := 6) (i := 6) (by kernel_rfl) rfl (fun K9 hK9 => ?_)
            go_simp
            refine hK9.out _ _ (fun h => absurd rfl h) (fun _ => ?_)
            clear hK9 K9
            try simp only [Act.put, List.setIfInBounds_toArray, List.set_cons_zero, List.set_cons_succ]
            refine wpT_done (by kernel_rfl) ?_ _
            have hE := Lib.hid (putInt t1 ag_1 (bl_then (bl_drew B0) hB1) (by omega))
            obtain ⟨bs, hbs⟩ := (OwnJ.below (OwnJ.dr OJ) hB1).blk
            have KP := kp_setI ag_1 (.int .i64 v1) (.slice A1 n1 c1)
            have V1 := (OwnJ.below (OwnJ.dr OJ) hB1).far (by rw [heap_setCell_other _ _ _ _ (show go ≠ gg by omega), heap_setCell_other _ _ _ _ (show go ≠ gg by omega)]) KP
            have V2 := blk_far2 (x := .int .i64 v1) (y := .slice A1 n1 c1) (show gy ≠ gg by omega) (blk_below (blk_drew ay) hB1)
            have V3 := (IntV.below (IntV.dr ty) hB1).kp KP
            go_wp2
            go_roundw
            case rel => exact ⟨kk + 1, v1, A1, n1, c1, hlt, by go_num, V1, V2, V3, hE.out.2.2, by rw [EG.out]; exact hE.out.1, hE.out.2.1⟩
            case measure => simp [intOf]; omega
        · have hkn : n = kk := by omega
          subst hkn
          rw [uptoi_full (fun j => O.getD j 0) n O HLO.out (fun j hj => rfl)] at OJ
          rw [List.take_of_length_le (by rw [HLO.out]; exact Nat.le_refl _)] at tg
          have SGN : Sz KK (sclG 0 O) := by
            have := HSG.out n (Nat.le_refl _)
            rw [List.take_of_length_le (by rw [HLO.out]; exact Nat.le_refl _)] at this
            exact this
          clear HMY HOJ HSG ay ty SDN SNM
          obtain ⟨s1, s2, s5, s6⟩ := bx2 ag
          go_wp2_with fail
          refine (sign_calls vg Ag ng cg _ _ tg).mono ?_
          rintro e w5 ⟨rfl, hB5⟩
          replace ag := blk_below ag hB5
          replace tg := tg.below hB5
          replace OJ := OJ.below hB5
          replace B0 := bl_then B0 hB5
          clear hB5 s1 s2 s5 s6
          by_cases hG : sclG 0 O = 0
          · rw [if_pos hG] at HSC
            rw [hG]
            go_wp2
            go_ret
            exact ⟨⟨go, n, rfl, by rw [HSC.out]; exact OJ⟩, B0⟩
          · rw [if_neg hG] at HSC
            have hsg : ¬ (sclG 0 O).sign = 0 := fun h => hG (Int.sign_eq_zero_iff_zero.1 h)
            have HGE : Hid (∀ j, j < n → (O.getD j 0).tdiv (sclG 0 O) = O.getD j 0 / sclG 0 O) := Lib.hid fun j hj => Int.tdiv_eq_ediv_of_dvd (HGD.out j hj)
            clear HGD
            have HOM : Hid ((O.map (· / sclG 0 O)).length = n ∧ ∀ j, j < n → (O.map (· / sclG 0 O)).getD j 0 = O.getD j 0 / sclG 0 O) := Lib.hid ⟨by rw [List.length_map]; exact HLO.out, fun j hj => getD_map (· / sclG 0 O) O j 0 0 (by rw [HLO.out]; exact hj)⟩
            generalize O.map (· / sclG 0 O) = OM at *
            generalize sclG 0 O = gn at *
            have hgn : gn ≠ 0 := hG
            clear hG
            generalize gn.sign = sg at *
            have hsb : (sg == 0) = false := by simpa using hsg
            clear hsg
            go_wp2_with fail
            clear hsb
            rw [upt2_zero (fun j => O.getD j 0 / gn) (fun j => O.getD j 0) n O HLO.out (fun j hj => rfl)] at OJ
            go_loopw [75] (fun i wr => ∃ kk : Nat, kk ≤ n ∧ i = .int .i64 kk ∧ OwnJ wr w.heap.size go n n (upt2 (fun j => O.getD j 0 / gn) (fun j => O.getD j 0) n kk) ∧ wr.heap[gg]? = some (.cells #[.int .i64 vg, .slice Ag ng cg] 61 (0, 0)) ∧ IntV wr vg Ag ng cg gn ∧ Below w.heap.size w wr) (fun i _ => n - (intOf i).toNat)
            case atStart => exact ⟨0, Nat.zero_le _, rfl, OJ, ag, tg, B0⟩
            case round =>
              clear OJ ag tg B0
              obtain ⟨kk, hkk, rfl, OJ, ag, tg, B0⟩ := hrel
              by_cases hlt : kk < n
              · obtain ⟨o, s3, s4, ho⟩ := OJ.at kk hlt
                rw [upt2_at (fun j => O.getD j 0 / gn) (fun j => O.getD j 0) n kk hlt] at ho
                have SON := HSO.out kk hlt
                have HGQ := Lib.hid (HGE.out kk hlt)
                have hk0 : (0 : Int) ≤ (kk : Int) := by omega
                have hkn : (kk : Int) < (n : Int) := by omega
                generalize hon : O.getD kk 0 = on at *
                have HOK := Lib.hid hon
                clear hon
                obtain ⟨s1, s2, s5, s6⟩ := bx2 ag
                have lgo9 := OJ.ge.2
                have lgg9 := blk_lt ag
                go_upto_region 23 with (fail)
                have hS0 : wr.drew.cell? ⟨gg, 0, none⟩ = some (Value.int .i64 vg) ∧ wr.drew.cell? ⟨gg, 1, none⟩ = some (Value.slice Ag ng cg) ∧ wr.drew.cell? ⟨go, kk * 2, none⟩ = some (Value.int .i64 o.v) ∧ wr.drew.cell? ⟨go, kk * 2 + 1, none⟩ = some (Value.slice o.A o.n o.c) := ⟨s1, s2, s3, s4⟩
                refine wp_region_U (n := 12) (fun W => W.cell? ⟨gg, 0, none⟩ = some (Value.int .i64 vg) ∧ W.cell? ⟨gg, 1, none⟩ = some (Value.slice Ag ng cg) ∧ W.cell? ⟨go, kk * 2, none⟩ = some (Value.int .i64 o.v) ∧ W.cell? ⟨go, kk * 2 + 1, none⟩ = some (Value.slice o.A o.n o.c)) (by kernel_rfl) ?_
                refine wpU_take (n := 12) (i := 0) (v := ?_) (by decide) (by kernel_rfl) rfl (by kernel_rfl) (by kernel_rfl) (by kernel_rfl) (fun _ _ _ h => h) (by kernel_rfl) (Or.inl ⟨by rfl, ?_⟩) hS0 ?_
                rotate_left
                · intro w' hSw
                  (try dsimp only at hSw)
                  go_simp
                  (try with_reducible rfl)
                try simp only [Act.put, List.setIfInBounds_toArray, List.set_cons_zero, List.set_cons_succ]
                refine wpU_take (n := 12) (i := 1) (v := ?_) (by decide) (by kernel_rfl) rfl (by kernel_rfl) (by kernel_rfl) (by kernel_rfl) (fun _ _ _ h => h) (by kernel_rfl) (Or.inl ⟨by rfl, ?_⟩) hS0 ?_
                rotate_left
                · intro w' hSw
                  (try dsimp only at hSw)
                  go_simp
                  (try with_reducible rfl)
                try simp only [Act.put, List.setIfInBounds_toArray, List.set_cons_zero, List.set_cons_succ]
                refine wpU_take (n := 12) (i := 2) (v := ?_) (by decide) (by kernel_rfl) rfl (by kernel_rfl) (by kernel_rfl) (by kernel_rfl) (fun _ _ _ h => h) (by kernel_rfl) (Or.inl ⟨by rfl, ?_⟩) hS0 ?_
                rotate_left
                · intro w' hSw
                  (try dsimp only at hSw)
                  go_simp
                  (try with_reducible rfl)
                try simp only [Act.put, List.setIfInBounds_toArray, List.set_cons_zero, List.set_cons_succ]
                refine wpU_take (n := 12) (i := 3) (v := ?_) (by decide) (by kernel_rfl) rfl (by kernel_rfl) (by kernel_rfl) (by kernel_rfl) (fun _ _ _ h => h) (by kernel_rfl) (Or.inl ⟨by rfl, ?_⟩) hS0 ?_
                rotate_left
                · intro w' hSw
                  (try dsimp only at hSw)
                  go_simp
                  (try with_reducible rfl)
                try simp only [Act.put, List.setIfInBounds_toArray, List.set_cons_zero, List.set_cons_succ]
                refine wpU_take (n := 12) (i := 4) (v := ?_) (by decide) (by kernel_rfl) rfl (by kernel_rfl) (by kernel_rfl) (by kernel_rfl) (fun _ _ _ h => h) (by kernel_rfl) (Or.inl ⟨by rfl, ?_⟩) hS0 ?_
                rotate_left
                · intro w' hSw
                  (try dsimp only at hSw)
                  go_simp
                  (try with_reducible rfl)
                try simp only [Act.put, List.setIfInBounds_toArray, List.set_cons_zero, List.set_cons_succ]
                refine wpU_take (n := 12) (i := 5) (v := ?_) (by decide) (by kernel_rfl) rfl (by kernel_rfl) (by kernel_rfl) (by kernel_rfl) (fun _ _ _ h => h) (by kernel_rfl) (Or.inl ⟨by rfl, ?_⟩) hS0 ?_
                rotate_left
                · intro w' hSw
                  (try dsimp only at hSw)
                  go_simp
                  (try with_reducible rfl)
                try simp only [Act.put, List.setIfInBounds_toArray, List.set_cons_zero, List.set_cons_succ]
                refine wpU_take (n := 12) (i := 6) (v := ?_) (by decide) (by kernel_rfl) rfl (by kernel_rfl) (by kernel_rfl) (by kernel_rfl) (fun _ _ _ h => h) (by kernel_rfl) (Or.inl ⟨by rfl, ?_⟩) hS0 ?_
                rotate_left
                · intro w' hSw
                  (try dsimp only at hSw)
                  go_simp
                  (try with_reducible rfl)
                try simp only [Act.put, List.setIfInBounds_toArray, List.set_cons_zero, List.set_cons_succ]
                refine wpU_one (n := 12) (i := 7) (by kernel_rfl) rfl (fun K9 hK9 => ?_)
                go_simp
                refine (quo_calls o.v o.A o.n o.c on vg Ag ng cg gn _ (IntV.dr ho) (IntV.dr tg) KK SON SGN (by omega) hgn).mono ?_
                rintro e y1 ⟨v1, A1, n1, c1, v1', A1', n1', c1', rfl, t1, t1', hB1⟩
                have ag_1 := blk_below (blk_drew ag) hB1
                obtain ⟨k1, k2, k3, k4⟩ := bx2 ag_1
                have c0 := (cells_below hB1).1 go
                have c3 := (c0 (kk * 2) (by simp; omega)).trans s3
                have c4 := (c0 (kk * 2 + 1) (by simp; omega)).trans s4
                have OJ_1 := OwnJ.below (OwnJ.dr OJ) hB1
                have fz1 := OJ_1.frozen (kk * 2)
                have fz2 := OJ_1.frozen (kk * 2 + 1)
                have hS1 : y1.cell? ⟨gg, 0, none⟩ = some (Value.int .i64 vg) ∧ y1.cell? ⟨gg, 1, none⟩ = some (Value.slice Ag ng cg) ∧ y1.cell? ⟨go, kk * 2, none⟩ = some (Value.int .i64 o.v) ∧ y1.cell? ⟨go, kk * 2 + 1, none⟩ = some (Value.slice o.A o.n o.c) := by exact ⟨k1, k2, c3, c4⟩
                refine hK9.out _ _ (fun _ _ => hS1) (fun _ => ?_)
                clear hK9 K9
                try simp only [Act.put, List.setIfInBounds_toArray, List.set_cons_zero, List.set_cons_succ]
                refine wpU_take (n := 12) (i := 8) (v := ?_) (by decide) (by kernel_rfl) rfl (by kernel_rfl) (by kernel_rfl) (by kernel_rfl) (fun _ _ _ h => h) (by kernel_rfl) (Or.inl ⟨by rfl, ?_⟩) hS1 ?_
                rotate_left
                · intro w' hSw
                  (try dsimp only at hSw)
                  go_simp
                  (try with_reducible rfl)
                try simp only [Act.put, List.setIfInBounds_toArray, List.set_cons_zero, List.set_cons_succ]
                refine wpU_take (n := 12) (i := 9) (v := ?_) (by decide) (by kernel_rfl) rfl (by kernel_rfl) (by kernel_rfl) (by kernel_rfl) (fun _ _ _ h => h) (by kernel_rfl) (Or.inl ⟨by rfl, ?_⟩) hS1 ?_
                rotate_left
                · intro w' hSw
                  (try dsimp only at hSw)
                  go_simp
                  (try with_reducible rfl)
                try simp only [Act.put, List.setIfInBounds_toArray, List.set_cons_zero, List.set_cons_succ]
                refine wpU_take (n := 12) (i := 11) (v := ?_) (by decide) (by kernel_rfl) rfl (by kernel_rfl) (by kernel_rfl) (by kernel_rfl) (fun _ _ _ h => h) (by kernel_rfl) (Or.inl ⟨by rfl, ?_⟩) hS1 ?_
                rotate_left
                · intro w' hSw
                  (try dsimp only at hSw)
                  go_simp
                  (try with_reducible rfl)
                try simp only [Act.put, List.setIfInBounds_toArray, List.set_cons_zero, List.set_cons_succ]
                refine wpU_two (n := 12) (i := 10) (k := 12) (by kernel_rfl) rfl rfl (fun K9 hK9 => ?_) (fun K9 hK9 => ?_)
                · go_simp
                  refine hK9.out _ _ (fun _ _ => hS1) (fun _ => ?_)
                  clear hK9 K9
                  try simp only [Act.put, List.setIfInBounds_toArray, List.set_cons_zero, List.set_cons_succ]
                  refine wpU_one (n := 12) (i := 12) (by kernel_rfl) rfl (fun K9 hK9 => ?_)
                  go_simp
                  refine hK9.out _ _ (fun _ h => absurd rfl h) (fun _ => ?_)
                  clear hK9 K9
                  try simp only [Act.put, List.setIfInBounds_toArray, List.set_cons_zero, List.set_cons_succ]
                  refine wpU_done (by kernel_rfl) ?_ _
                  rw [HGQ.out] at t1
                  have US := Lib.hid (OJ_1.set (bl_then (bl_drew B0) hB1) (Nat.le_refl _) kk hlt v1 A1 n1 c1 _ t1)
                  obtain ⟨bs, hbs⟩ := OJ_1.blk
                  have KP := kp_setJ hbs (kk * 2) (kk * 2 + 1) (.int .i64 v1) (.slice A1 n1 c1)
                  have V2 := blk_far (i := kk * 2 + 1) (v := .slice A1 n1 c1) (blk_far (i := kk * 2) (v := .int .i64 v1) ag_1 (show gg ≠ go by omega)) (show gg ≠ go by omega)
                  have V3 := (IntV.below (IntV.dr tg) hB1).kp KP
                  have E9 := Lib.hid (show (upt2 (fun j => O.getD j 0 / gn) (fun j => O.getD j 0) n kk).set kk (on / gn) = upt2 (fun j => O.getD j 0 / gn) (fun j => O.getD j 0) n (kk + 1) by rw [← HOK.out, upt2_set (fun j => O.getD j 0 / gn) (fun j => O.getD j 0) n kk hlt])
                  go_wp2
                  go_roundw
                  case rel => exact ⟨kk + 1, hlt, by go_num, (by have h9 := US.out.1; rw [E9.out] at h9; exact h9), V2, V3, US.out.2⟩
                  case measure => simp [intOf]; omega
                · go_simp
                  refine hK9.out _ _ (fun _ h => absurd rfl h) (fun _ => ?_)
                  clear hK9 K9
                  try simp only [Act.put, List.setIfInBounds_toArray, List.set_cons_zero, List.set_cons_succ]
                  refine wpU_one (n := 12) (i := 10) (by kernel_rfl) rfl (fun K9 hK9 => ?_)
                  go_simp
                  refine hK9.out _ _ (fun h => absurd h (by decide)) (fun _ => ?_)
                  clear hK9 K9
                  try simp only [Act.put, List.setIfInBounds_toArray, List.set_cons_zero, List.set_cons_succ]
                  refine wpU_done (by kernel_rfl) ?_ _
                  rw [HGQ.out] at t1
                  have US := Lib.hid (OJ_1.set (bl_then (bl_drew B0) hB1) (Nat.le_refl _) kk hlt v1 A1 n1 c1 _ t1)
                  obtain ⟨bs, hbs⟩ := OJ_1.blk
                  have KP := kp_setJ hbs (kk * 2) (kk * 2 + 1) (.int .i64 v1) (.slice A1 n1 c1)
                  have V2 := blk_far (i := kk * 2 + 1) (v := .slice A1 n1 c1) (blk_far (i := kk * 2) (v := .int .i64 v1) ag_1 (show gg ≠ go by omega)) (show gg ≠ go by omega)
                  have V3 := (IntV.below (IntV.dr tg) hB1).kp KP
                  have E9 := Lib.hid (show (upt2 (fun j => O.getD j 0 / gn) (fun j => O.getD j 0) n kk).set kk (on / gn) = upt2 (fun j => O.getD j 0 / gn) (fun j => O.getD j 0) n (kk + 1) by rw [← HOK.out, upt2_set (fun j => O.getD j 0 / gn) (fun j => O.getD j 0) n kk hlt])
                  go_wp2
                  go_roundw
                  case rel => exact ⟨kk + 1, hlt, by go_num, (by have h9 := US.out.1; rw [E9.out] at h9; exact h9), V2, V3, US.out.2⟩
                  case measure => simp [intOf]; omega
              · have hkn : kk = n := by omega
                subst hkn
                rw [upt2_full (fun j => O.getD j 0 / gn) (fun j => O.getD j 0) kk OM HOM.out.1 (fun j hj => (HOM.out.2 j hj).symm)] at OJ
                go_wp2
                go_ret
                exact ⟨⟨go, kk, rfl, by rw [HSC.out]; exact OJ⟩, B0⟩
end Go.Proofs.Ytjmbpeniibdnoaa
