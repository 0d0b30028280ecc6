/- lin: Rank. Reference 02: From. Reference 02: Forms, Echelon. Reference 02: Nums. Reference 02: Point. Reference 02: Solve; LinEchelon: plain laws. few, of a list of forms. LinEchelon: the walk. -/
import Derived.Test.YtloplmmnmehkmaaGreatEcB
import Derived.Test.YtloplmmnmehkmaaGreatEcA
set_option linter.unusedVariables false
set_option linter.unusedSimpArgs false
namespace Go.Proofs.YtloplmmnmehkmaaGreat
open Go.RowKit

theorem getD_set1 {α : Type} (l : List α) (i : Nat) (x d : α) (h : i < l.length) : (l.set i x).getD i d = x := by
  rw [List.getD_eq_getElem?_getD, List.getElem?_set_self h]; rfl
theorem getD_set2 {α : Type} (l : List α) (i j : Nat) (x d : α) (h : i ≠ j) : (l.set j x).getD i d = l.getD i d := by
  rw [List.getD_eq_getElem?_getD, List.getElem?_set_ne (fun e => h e.symm), ← List.getD_eq_getElem?_getD]
theorem wcl_set4 (l : List WC) (j : Nat) : ((((wcl l).set (j * 6 + 1) (.int .i64 0)).set (j * 6 + 1 + 1) (.slice none 0 0)).set (j * 6 + 1 + 2) (.int .i64 0)).set (j * 6 + 1 + 3) (.slice none 0 0) = wcl (l.set j ⟨(l.getD j WC.zero).A, (l.getD j WC.zero).n, (l.getD j WC.zero).c, RC.zero, (l.getD j WC.zero).b⟩) := by
  induction l generalizing j with
  | nil => simp [wcl]
  | cons y l ih =>
    cases j with
    | zero => rfl
    | succ j =>
      have h2 : y.cells.length = 6 := rfl
      show ((((y.cells ++ wcl l).set ((j + 1) * 6 + 1) _).set _ _).set _ _).set _ _ = y.cells ++ wcl (l.set j _)
      have ih := ih j
      have e : (y :: l).getD (j + 1) WC.zero = l.getD j WC.zero := rfl
      rw [e, ← ih]
      rw [show (j + 1) * 6 + 1 = y.cells.length + (j * 6 + 1) by rw [h2]; omega]
      simp only [Nat.add_assoc, List.set_append_right _ _ (Nat.le_add_right _ _), Nat.add_sub_cancel_left]
def bareW (r : Rw) : Rw := (r.1, 0)
def mixW (t : Nat) (R : List Rw) : List Rw := (R.take t).map bareW ++ R.drop t
theorem mixW_at (t : Nat) (R : List Rw) (h : t < R.length) : (mixW t R).getD t ([], 0) = R.getD t ([], 0) := by
  unfold mixW
  rw [List.getD_eq_getElem?_getD, List.getElem?_append_right (by simp; omega), List.getElem?_drop]
  have : t + (t - ((R.take t).map bareW).length) = t := by simp; omega
  rw [this, ← List.getD_eq_getElem?_getD]
theorem mixW_set (t : Nat) (R : List Rw) (h : t < R.length) : (mixW t R).set t (bareW (R.getD t ([], 0))) = mixW (t + 1) R := by
  have hl : ((R.take t).map bareW).length = t := by simp; omega
  have eg : R.getD t ([], 0) = R[t] := by rw [List.getD_eq_getElem?_getD, List.getElem?_eq_getElem h]; rfl
  unfold mixW
  rw [List.set_append_right _ _ (by omega), hl, Nat.sub_self, eg]
  have e1 : R.drop t = R[t] :: R.drop (t + 1) := (List.getElem_cons_drop h).symm
  have e2 : (R.take (t + 1)).map bareW = (R.take t).map bareW ++ [bareW R[t]] := by
    rw [List.take_succ_eq_append_getElem h, List.map_append]; rfl
  rw [e1, e2, List.set_cons_zero, List.append_assoc]; rfl
/-- The constant of a row is set to 0. -/
def setW (w : World) (g o : Nat) : World := (((w.setCell ⟨g, o, none⟩ (.int .i64 0)).setCell ⟨g, o + 1, none⟩ (.slice none 0 0)).setCell ⟨g, o + 2, none⟩ (.int .i64 0)).setCell ⟨g, o + 3, none⟩ (.slice none 0 0)
theorem OwnW.blk {w : World} {base n g c : Nat} {R : List Rw} (h : OwnW w base (.slice (some ⟨g, 0, none⟩) n c) n R) : base ≤ g ∧ ∃ cs, w.heap[g]? = some (.cells cs 90 (0, 0)) := by
  obtain ⟨l, h1, _⟩ := h
  rcases h1.2 with ⟨h0, _⟩ | ⟨g', cap', cur, hv, hb, hg, r⟩
  · cases h0
  · cases hv; exact ⟨hb, cur, hg⟩
theorem OwnW.form {w : World} {base n : Nat} {v : Value} {R : List Rw} (h : OwnW w base v n R) : (v = .slice none 0 0 ∧ n = 0) ∨ ∃ g c, v = .slice (some ⟨g, 0, none⟩) n c := by
  obtain ⟨l, h1, _⟩ := h
  rcases h1.2 with h0 | ⟨g', cap', cur, hv, hb, hg, r⟩
  · exact .inl h0
  · exact .inr ⟨g', cap', hv⟩
theorem OwnW.set0 {w : World} {base n g c : Nat} {R : List Rw} (h : OwnW w base (.slice (some ⟨g, 0, none⟩) n c) n R) (j : Nat) (hj : j < n) : OwnW (setW w g (j * 6 + 1)) base (.slice (some ⟨g, 0, none⟩) n c) n (R.set j (bareW (R.getD j ([], 0)))) := by
  obtain ⟨_, cs, hb⟩ := h.blk
  obtain ⟨l, h1, h2, h3, h4⟩ := h
  have kp : ∀ t, 90 ≠ t → Kp t w (setW w g (j * 6 + 1)) := fun t ht =>
    ((((Kp.refl _ _).set (p := ⟨g, j * 6 + 1, none⟩) hb ht _).set (p := ⟨g, j * 6 + 1 + 1, none⟩) (blk_set hb (j * 6 + 1) _) ht _).set (p := ⟨g, j * 6 + 1 + 2, none⟩) (blk_set (blk_set hb (j * 6 + 1) _) (j * 6 + 1 + 1) _) ht _).set (p := ⟨g, j * 6 + 1 + 3, none⟩) (blk_set (blk_set (blk_set hb (j * 6 + 1) _) (j * 6 + 1 + 1) _) (j * 6 + 1 + 2) _) ht _
  refine ⟨l.set j ⟨(l.getD j WC.zero).A, (l.getD j WC.zero).n, (l.getD j WC.zero).c, RC.zero, (l.getD j WC.zero).b⟩, ?_, by simpa using h2, by simpa using h3, fun i hi => ?_⟩
  · rw [← wcl_set4]
    exact ((((h1.stored (j * 6 + 1) _).1.stored (j * 6 + 1 + 1) _).1.stored (j * 6 + 1 + 2) _).1.stored (j * 6 + 1 + 3) _).1
  · by_cases e : i = j
    · subst e
      rw [getD_set1 _ _ _ _ (by omega), getD_set1 _ _ _ _ (by omega)]
      exact ⟨RdQ.heap (h4 i hi).1 (kp _ (by decide)) (kp _ (by decide)), RC.zero_is _⟩
    · rw [getD_set2 _ _ _ _ _ e, getD_set2 _ _ _ _ _ e]
      exact ⟨RdQ.heap (h4 i hi).1 (kp _ (by decide)) (kp _ (by decide)), RC.Is.kp (h4 i hi).2 (kp _ (by decide))⟩
def lrkF (n : Int) (F : List Fm) : Int := if OkFs n F then (((rowsF n.toNat ((F.map bareZ).map rowF)).getD []).length : Int) else 0
theorem bare_rows (F : List Fm) : (F.map rowF).map bareW = (F.map bareZ).map rowF := by
  rw [List.map_map, List.map_map]
  refine List.map_congr_left fun f _ => ?_
  show ((rowF f).1, (0 : Rat)) = ((rowF (f.1, 0)).1, ((0 : Int) : Rat))
  rfl
theorem okfs_bare {n : Int} {F : List Fm} (h : OkFs n F) : OkFs n (F.map bareZ) := by
  refine ⟨h.1, by simpa using h.2.1, fun f hf => ?_⟩
  obtain ⟨y, hy, rfl⟩ := List.mem_map.1 hf
  exact ⟨(h.2.2 y hy).1, (h.2.2 y hy).2.1, by unfold mid; simp [bareZ], (h.2.2 y hy).2.2.2⟩
set_option maxHeartbeats 40000000
set_option maxRecDepth 100000
theorem rowsO_calls (A : Option Addr) (m c : Nat) (F : List Fm) (w : World) (h : RdF w A m F) (hi : ∀ f ∈ F, I64F f) (hl : ∀ f ∈ F, f.1.length ≤ 1000000) (hm : m ≤ 500) :
    Calls Tryz.prog 44 #[.slice A m c] w fun e w' => (∃ v, e = .returned v ∧ OwnW w' w.heap.size v m (F.map rowF)) ∧ Below w.heap.size w w' := by
  have L := Lib.hid h.1
  have HI := Lib.hid hi
  have HL := Lib.hid hl
  clear hi hl
  go_enter Tryz.func44, Tryz.ntmps44
  have O0 := OwnW.nil w w.heap.size
  have B0 := Below.refl w.heap.size w
  go_wp2_with fail
  go_loopw [3, 8] (fun v i wr => ∃ kk : Nat, kk ≤ m ∧ i = .int .i64 kk ∧ OwnW wr w.heap.size v kk ((F.take kk).map rowF) ∧ Below w.heap.size w wr) (fun _ i _ => m - (intOf i).toNat)
  case atStart => exact ⟨0, Nat.zero_le _, rfl, O0, B0⟩
  case round =>
    clear O0 B0
    obtain ⟨kk, hkk, rfl, OW, B0⟩ := hrel
    by_cases hlt : kk < m
    · obtain ⟨g, off, rfl, hg, hc⟩ := (h.below B0).2.2 (by omega)
      obtain ⟨A1, n1, c1', c1, c2, c3⟩ := hc kk hlt
      have hmem : F.getD kk ([], 0) ∈ F := mem_getD (by rw [L.out]; exact hlt)
      have h64 := HI.out _ hmem
      have hlen := HL.out _ hmem
      have E := Lib.hid (map_take_succ rowF F ([], 0) kk (by rw [L.out]; exact hlt))
      clear hc hmem
      generalize F.getD kk ([], 0) = f1 at *
      have c4 := c3.below (bl_alloc (Below.refl _ _) (.cells #[.slice A1 n1 c1', .int .i64 f1.2] 44))
      have c5 := Lib.hid c4.1
      replace OW := OW.below (bl_alloc (Below.refl _ _) (.cells #[.slice A1 n1 c1', .int .i64 f1.2] 44))
      replace B0 := bl_alloc B0 (.cells #[.slice A1 n1 c1', .int .i64 f1.2] 44)
      go_wp2_with fail
      refine (lrow_calls A1 n1 c1' f1 _ c4 h64 (by rw [← c5.out]; exact hlen)).mono ?_
      rintro e w1 ⟨⟨A2, n2, c2', x2, rfl, t2⟩, hB1⟩
      replace OW := OW.below hB1
      replace B0 := bl_then B0 hB1
      clear hB1 c1 c2 c3 c4 hg
      have r2 := RdW.one (c := c2') (b := false) t2
      replace OW := OW.below (bl_alloc (Below.refl _ _) (.cells #[.slice A2 n2 c2', .int .i64 x2.v, .slice x2.A x2.n x2.c, .int .i64 x2.v', .slice x2.A' x2.n' x2.c', .bool false] 90))
      have B1 := bl_alloc B0 (.cells #[.slice A2 n2 c2', .int .i64 x2.v, .slice x2.A x2.n x2.c, .int .i64 x2.v', .slice x2.A' x2.n' x2.c', .bool false] 90)
      obtain ⟨v', W', hrun, O2, hgr⟩ := appw (c := 1) OW r2 (by omega) (by omega) (by intro h; cases h) B1.size
      rw [← E.out] at O2
      have HR := Lib.hid hrun
      have HO := Lib.hid O2
      have hOB : ∀ b, u3.ownBlock = some b → w.heap.size ≤ b := fun b hb => (OW.choose_spec.1.lt b hb).1
      have V2 : Hid (Below w.heap.size w W') := Lib.hid (below_of_grown B1 hgr B1.size (fun b hb => by have := hOB b hb; omega))
      clear hrun O2 hgr hOB OW r2
      go_wp2_with (at_builtin; refine wpList_ap rfl (.tmp 12) (.tmp 15) 72 (by rfl) _ _ (by rfl) (by rfl) _ (by rfl) _ _ HR.out ?_)
      go_roundw
      case rel => exact ⟨kk + 1, hlt, by go_num, HO.out, V2.out⟩
      case measure => simp [intOf]; omega
    · have hkn : kk = m := by omega
      subst hkn
      rw [List.take_of_length_le (by rw [L.out]; exact Nat.le_refl _)] at OW
      have HRD := Lib.hid OW
      clear OW
      go_wp2
      go_ret
      exact ⟨⟨_, rfl, HRD.out⟩, B0⟩
theorem lrank_calls (n : Int) (A : Option Addr) (m c : Nat) (F : List Fm) (w : World) (h : RdF w A m F) (hi : ∀ f ∈ F, I64F f) (hl : ∀ f ∈ F, f.1.length ≤ 1000000) (hm : m ≤ 500) :
    Calls Tryz.prog 15 #[.int .i64 n, .slice A m c] w fun e w' => e = .returned (.tuple #[.int .i64 (lrkF n F), .int .i64 (rkE n F)]) ∧ Below w.heap.size w w' := by
  have L := Lib.hid h.1
  have HI := Lib.hid hi
  have HL := Lib.hid hl
  have NO : ¬ OkFs n F → lrkF n F = 0 ∧ rkE n F = 1 := fun hh => ⟨if_neg hh, if_neg hh⟩
  have YES : OkFs n F → lrkF n F = (((rowsF n.toNat ((F.map bareZ).map rowF)).getD []).length : Int) ∧ rkE n F = 0 := fun h1 => ⟨if_pos h1, if_pos h1⟩
  generalize lrkF n F = sB at *
  generalize rkE n F = sE at *
  clear hi hl
  go_enter Tryz.func15, Tryz.ntmps15
  go_wp2_with fail
  refine (forms_calls n A m c F _ h).mono ?_
  rintro e w1 ⟨he, B0⟩
  by_cases hok : OkFs n F
  · rw [decide_eq_true hok] at he
    subst he
    obtain ⟨nn, rfl⟩ : ∃ nn : Nat, n = nn := ⟨n.toNat, by have := hok.1.1; omega⟩
    obtain ⟨hy1, rfl⟩ := YES hok
    rw [Int.toNat_natCast] at hy1
    have HY := Lib.hid hy1
    have HOK := Lib.hid (okfs_bare hok)
    have hn8 : nn ≤ 8 := by have := hok.1.2; omega
    clear YES NO hok hy1
    go_wp2_with fail
    refine (rowsO_calls A m c F _ (h.below B0) HI.out HL.out hm).mono ?_
    rintro e w3 ⟨⟨v3, rfl, O3⟩, hB3⟩
    have hbs : w.heap.size ≤ w1.heap.size := B0.size
    replace B0 := bl_then B0 hB3
    have HLR : Hid ((F.map rowF).length = m) := Lib.hid (by simpa using L.out)
    have HBR := Lib.hid (bare_rows F)
    clear hB3
    generalize F.map rowF = R at *
    generalize w1.heap.size = bs at *
    have hform := O3.form
    obtain ⟨A3, c3, rfl, hA3⟩ : ∃ A c, v3 = .slice A m c ∧ (0 < m → ∃ g, A = some ⟨g, 0, none⟩) := by
      rcases hform with ⟨rfl, rfl⟩ | ⟨g, c, rfl⟩
      · exact ⟨none, 0, rfl, fun h => absurd h (by omega)⟩
      · exact ⟨_, c, rfl, fun _ => ⟨g, rfl⟩⟩
    clear hform
    go_wp2_with fail
    go_loopw [18] (fun i wr => ∃ kk : Nat, kk ≤ m ∧ i = .int .i64 kk ∧ OwnW wr bs (.slice A3 m c3) m (mixW kk R) ∧ Below w.heap.size w wr) (fun i _ => m - (intOf i).toNat)
    case atStart => exact ⟨0, Nat.zero_le _, rfl, O3, B0⟩
    case round =>
      clear O3 B0
      obtain ⟨kk, hkk, rfl, OW, B0⟩ := hrel
      by_cases hlt : kk < m
      · obtain ⟨g, rfl⟩ := hA3 (by omega)
        obtain ⟨hbg, cs, hcs⟩ := OW.blk
        have hex : ∀ i, i < 6 → ∃ u, wr.cell? ⟨g, kk * 6 + i, none⟩ = some u := fun i hi => by
          obtain ⟨l, h1, h2, _⟩ := OW
          have e := h1.cellAt (kk * 6 + i) (by omega)
          have e2 := wcl_at l kk i (by omega) hi
          have e3 : ((l.getD kk WC.zero).cells)[i]? = some (((l.getD kk WC.zero).cells)[i]'(show i < 6 from hi)) := List.getElem?_eq_getElem _
          exact ⟨_, e.trans (e2.trans e3)⟩
        obtain ⟨x1, c1⟩ := hex 1 (by omega)
        obtain ⟨x2, c2⟩ := hex 2 (by omega)
        obtain ⟨x3, c3'⟩ := hex 3 (by omega)
        obtain ⟨x4, c4⟩ := hex 4 (by omega)
        have f1 := (blk_cell hcs (kk * 6 + 1)).2
        have f2 := (blk_cell hcs (kk * 6 + 2)).2
        have f3 := (blk_cell hcs (kk * 6 + 3)).2
        have f4 := (blk_cell hcs (kk * 6 + 4)).2
        have Y1 := OW.set0 kk hlt
        rw [mixW_at kk R (by rw [HLR.out]; exact hlt), mixW_set kk R (by rw [HLR.out]; exact hlt)] at Y1
        have HY1 := Lib.hid Y1
        have HY2 : Hid (Below w.heap.size w (setW wr g (kk * 6 + 1))) := Lib.hid ((((B0.setCell (p := ⟨g, kk * 6 + 1, none⟩) (Nat.le_trans hbs hbg) _).setCell (p := ⟨g, kk * 6 + 1 + 1, none⟩) (Nat.le_trans hbs hbg) _).setCell (p := ⟨g, kk * 6 + 1 + 2, none⟩) (Nat.le_trans hbs hbg) _).setCell (p := ⟨g, kk * 6 + 1 + 3, none⟩) (Nat.le_trans hbs hbg) _)
        have hk0 : (0 : Int) ≤ (kk : Int) := by omega
        have hkn : (kk : Int) < (m : Int) := by omega
        clear Y1 OW B0 hex hcs
        go_wp2_with fail
        go_roundw
        case rel => exact ⟨kk + 1, hlt, by go_num, HY1.out, HY2.out⟩
        case measure => simp [intOf]; omega
      · have hkn : m = kk := by omega
        subst hkn
        have e : mixW m R = R.map bareW := by unfold mixW; rw [List.take_of_length_le (by rw [HLR.out]; exact Nat.le_refl _), List.drop_eq_nil_of_le (by rw [HLR.out]; exact Nat.le_refl _), List.append_nil]
        rw [e, HBR.out] at OW
        obtain ⟨A', c', e', hrd⟩ := OW.rd (by omega)
        cases e'
        have LM : Hid ((F.map bareZ).length = m) := Lib.hid (by rw [List.length_map]; exact L.out)
        clear OW e
        go_wp2_with fail
        refine (lrows_calls nn hn8 A3 m c3 ((F.map bareZ).map rowF) _ hrd hm (okf_rows HOK.out).1 17851 61 (okf_rows HOK.out).2.1 (fun kk hkk => (okf_rows HOK.out).2.2 kk (by rw [LM.out]; exact hkk)) kR_a kR_b (by omega) (by omega)).mono ?_
        rintro e w4 ⟨⟨A4, m4, c4, he, hr4⟩, hB4⟩
        replace B0 := bl_then B0 hB4
        have hlen := hr4.1
        have hm4 := hr4.2.1
        clear hB4 hrd hr4
        generalize (rowsF nn ((F.map bareZ).map rowF)).isSome = d1 at *
        have hsB : sB = (m4 : Int) := by rw [HY.out, hlen]
        subst hsB he
        clear HY hlen
        go_wp2
        go_ret2
        exact ⟨rfl, B0⟩
  · rw [decide_eq_false hok] at he
    subst he
    obtain ⟨rfl, rfl⟩ := NO hok
    clear YES NO hok
    go_wp2
    go_ret2
    exact ⟨rfl, B0⟩
theorem rank_law (n : Int) (F : List Fm) : lrkF n F = rkF n F := by
  unfold lrkF rkF
  by_cases h : OkFs n F
  · rw [if_pos h, if_pos h, solved_rows (okfs_len (okfs_bare h))]
    cases soZ n.toNat (F.map bareZ) with
    | none => rfl
    | some R => show ((R.map rowF).length : Int) = (R.length : Int); rw [List.length_map]
  · rw [if_neg h, if_neg h]
end Go.Proofs.YtloplmmnmehkmaaGreat

namespace Go.Proofs.YtloplmmnmehkmaaGreat
open Go.RowKit

theorem qj23 {A B C D E : Prop} (h : A ∧ B) (h2 : C ∧ D ∧ E) : A ∧ B ∧ C ∧ D ∧ E := ⟨h.1, h.2, h2⟩
theorem bx3c {w : World} {g : Nat} {t : TypeId} {a b c : Value} (h : w.heap[g]? = some (.cells #[a, b, c] t (0, 0))) : w.cell? ⟨g, 0, none⟩ = some a ∧ w.cell? ⟨g, 1, none⟩ = some b ∧ w.cell? ⟨g, 2, none⟩ = some c := (bx3 h).1
theorem RV.dr2 {w : World} {s : Int} {b : Bool} {A : Option Addr} {n c : Nat} {z : Int} (h : RV w s b A n c z) : RV w.drew s b A n c z := h.kp (Kp.refl _ _).drew
def smV (x : Int) : Int := if mid x then x else 0
def smB (x : Int) : Bool := decide (mid x)
theorem small_any (s : Int) (b : Bool) (A : Option Addr) (n c : Nat) (x : Int) (w : World) (h : RV w s b A n c x) :
    Calls Tryz.prog 74 #[.agg #[.int .i64 s, .bool b, .slice A n c]] w fun e w' => e = .returned (.tuple #[.int .i64 (smV x), .bool (smB x)]) ∧ Below w.heap.size w w' := by
  unfold smV smB
  by_cases hm : mid x
  · rw [if_pos hm, decide_eq_true hm]
    exact small_yes s b A n c x w h hm.1 hm.2
  · rw [if_neg hm, decide_eq_false hm]
    exact small_no s b A n c x w h (by unfold mid at hm; omega)
/-- All of a row fits. -/
def midF (f : Fm) : Prop := (∀ z ∈ f.1, mid z) ∧ mid f.2
instance (f : Fm) : Decidable (midF f) := by unfold midF; infer_instance
def okN (zs : List Int) : Nat → Bool
  | 0 => true
  | k + 1 => okN zs k && smB (zs.getD k 0)
theorem okN_spec (zs : List Int) (k : Nat) : okN zs k = true ↔ ∀ j, j < k → mid (zs.getD j 0) := by
  induction k with
  | zero => exact ⟨fun _ j hj => absurd hj (by omega), fun _ => rfl⟩
  | succ k ih =>
    show (okN zs k && smB (zs.getD k 0)) = true ↔ _
    rw [Bool.and_eq_true, ih]
    unfold smB
    rw [decide_eq_true_iff]
    constructor
    · intro h j hj
      rcases Nat.lt_or_ge j k with h' | h'
      · exact h.1 j h'
      · have : j = k := by omega
        rw [this]; exact h.2
    · exact fun h => ⟨fun j hj => h j (by omega), h k (by omega)⟩
theorem midF_iff {zs : List Int} {z0 : Int} {n : Nat} (hn : zs.length = n) : decide (midF (zs, z0)) = (okN zs n && smB z0) := by
  have h1 : (okN zs n && smB z0) = true ↔ midF (zs, z0) := by
    rw [Bool.and_eq_true, okN_spec]
    unfold smB midF
    rw [decide_eq_true_iff]
    refine and_congr ⟨fun h z hz => ?_, fun h j hj => h _ (mem_getD (show j < zs.length by omega))⟩ Iff.rfl
    obtain ⟨j, hj, rfl⟩ := List.getElem_of_mem hz
    have hj : j < zs.length := hj
    have := h j (by omega)
    rwa [List.getD_eq_getElem?_getD, List.getElem?_eq_getElem hj] at this
  by_cases h : midF (zs, z0)
  · rw [decide_eq_true h, h1.2 h]
  · rw [decide_eq_false h]
    cases e : okN zs n && smB z0 with
    | false => rfl
    | true => exact absurd (h1.1 e) h
set_option maxHeartbeats 40000000
set_option maxRecDepth 100000
theorem r2fromg_calls (A : Option Addr) (n c : Nat) (x : JC) (zs : List Int) (z0 : Int) (w : World) (h : RdR w A n zs) (hx : x.Is w z0) :
    Calls Tryz.prog 73 #[.agg #[.slice A n c, .int .i64 x.s, .bool x.g, .slice x.A x.n x.c]] w fun e w' => (∃ v, e = .returned (.tuple #[v, .bool (decide (midF (zs, z0)))]) ∧ FmR v w' (if midF (zs, z0) then (zs, z0) else ([], 0))) ∧ Below w.heap.size w w' := by
  have LN := Lib.hid h.1
  have hn := h.2.1
  have HD := Lib.hid (midF_iff (z0 := z0) h.1)
  have HIF : Hid ((okN zs n && smB z0) = true → (if midF (zs, z0) then (zs, z0) else (([], 0) : Fm)) = (zs, z0)) := Lib.hid fun e => if_pos (of_decide_eq_true (HD.out.trans e))
  have HIF2 : Hid ((okN zs n && smB z0) = false → (if midF (zs, z0) then (zs, z0) else (([], 0) : Fm)) = ([], 0)) := Lib.hid fun e => if_neg (of_decide_eq_false (HD.out.trans e))
  have HVV : Hid (okN zs n = true → ∀ j, j < n → smV (zs.getD j 0) = zs.getD j 0) := Lib.hid fun e j hj => if_pos ((okN_spec zs n).1 e j hj)
  have HV0 : Hid (smB z0 = true → smV z0 = z0) := Lib.hid fun e => if_pos (of_decide_eq_true e)
  generalize (if midF (zs, z0) then (zs, z0) else (([], 0) : Fm)) = FR at *
  generalize decide (midF (zs, z0)) = D at *
  obtain ⟨cs, om, qm⟩ := made_i n hn
  have OM := Lib.hid om
  clear om
  go_enter Tryz.func73, Tryz.ntmps73
  go_upto_region 3 with (fail)
  have B0 : Below w.heap.size w ((((w.alloc (.cells #[.slice A n c, .int .i64 x.s, .bool x.g, .slice x.A x.n x.c] 60)).alloc (.cells #[.slice none 0 0, .int .i64 0] 44)).alloc (.cells cs 3)).alloc (.cells #[.slice (some ⟨w.heap.size + 1 + 1, 0, none⟩) n n, .int .i64 0] 44)) := bl_alloc (bl_alloc (bl_alloc (bl_alloc (Below.refl w.heap.size w) _) _) _) _
  have a1 : ((((w.alloc (.cells #[.slice A n c, .int .i64 x.s, .bool x.g, .slice x.A x.n x.c] 60)).alloc (.cells #[.slice none 0 0, .int .i64 0] 44)).alloc (.cells cs 3)).alloc (.cells #[.slice (some ⟨w.heap.size + 1 + 1, 0, none⟩) n n, .int .i64 0] 44)).heap[w.heap.size]? = some (.cells #[.slice A n c, .int .i64 x.s, .bool x.g, .slice x.A x.n x.c] 60 (0, 0)) := blk_alloc (blk_alloc (blk_alloc (blk_at _ rfl) _) _) _
  have a2 : ((((w.alloc (.cells #[.slice A n c, .int .i64 x.s, .bool x.g, .slice x.A x.n x.c] 60)).alloc (.cells #[.slice none 0 0, .int .i64 0] 44)).alloc (.cells cs 3)).alloc (.cells #[.slice (some ⟨w.heap.size + 1 + 1, 0, none⟩) n n, .int .i64 0] 44)).heap[w.heap.size + 1]? = some (.cells #[.slice none 0 0, .int .i64 0] 44 (0, 0)) := blk_alloc (blk_alloc (blk_at _ (by simp)) _) _
  have OQ : OwnI ((((w.alloc (.cells #[.slice A n c, .int .i64 x.s, .bool x.g, .slice x.A x.n x.c] 60)).alloc (.cells #[.slice none 0 0, .int .i64 0] 44)).alloc (.cells cs 3)).alloc (.cells #[.slice (some ⟨w.heap.size + 1 + 1, 0, none⟩) n n, .int .i64 0] 44)) w.heap.size (w.heap.size + 1 + 1) n n (List.replicate n 0) := (OM.out _ _ _ (by simp) (by simp; omega)).al _
  have a4 : ((((w.alloc (.cells #[.slice A n c, .int .i64 x.s, .bool x.g, .slice x.A x.n x.c] 60)).alloc (.cells #[.slice none 0 0, .int .i64 0] 44)).alloc (.cells cs 3)).alloc (.cells #[.slice (some ⟨w.heap.size + 1 + 1, 0, none⟩) n n, .int .i64 0] 44)).heap[w.heap.size + 1 + 1 + 1]? = some (.cells #[.slice (some ⟨w.heap.size + 1 + 1, 0, none⟩) n n, .int .i64 0] 44 (0, 0)) := blk_at _ (by simp)
  generalize (((w.alloc (.cells #[.slice A n c, .int .i64 x.s, .bool x.g, .slice x.A x.n x.c] 60)).alloc (.cells #[.slice none 0 0, .int .i64 0] 44)).alloc (.cells cs 3)).alloc (.cells #[.slice (some ⟨w.heap.size + 1 + 1, 0, none⟩) n n, .int .i64 0] 44) = W0 at *
  have c1 := (q4c a1).1
  rw [uptoi_zero (fun j => smV (zs.getD j 0)) n] at OQ
  go_wp2_with fail
  clear c1 qm
  go_loopw [5, 18] (fun bv i wr => ∃ kk : Nat, kk ≤ n ∧ bv = .bool (okN zs kk) ∧ i = .int .i64 kk ∧ OwnI wr w.heap.size (w.heap.size + 1 + 1) n n (uptoi (fun j => smV (zs.getD j 0)) n kk) ∧ wr.heap[w.heap.size + 1 + 1 + 1]? = some (.cells #[.slice (some ⟨w.heap.size + 1 + 1, 0, none⟩) n n, .int .i64 0] 44 (0, 0)) ∧ wr.heap[w.heap.size + 1]? = some (.cells #[.slice none 0 0, .int .i64 0] 44 (0, 0)) ∧ wr.heap[w.heap.size]? = some (.cells #[.slice A n c, .int .i64 x.s, .bool x.g, .slice x.A x.n x.c] 60 (0, 0)) ∧ Below w.heap.size w wr) (fun _ i _ => n - (intOf i).toNat)
  case atStart => exact ⟨0, Nat.zero_le _, rfl, rfl, OQ, a4, a2, a1, B0⟩
  case round =>
    clear OQ a4 a2 a1 B0
    obtain ⟨kk, hkk, rfl, rfl, OQ, a4, a2, a1, B0⟩ := hrel
    by_cases hlt : kk < n
    · obtain ⟨g, rfl, hg, hc⟩ := (h.below B0).2.2 (by omega)
      obtain ⟨z, ⟨p1, p2, p3⟩, hz0⟩ := hc kk hlt
      have hz : RV wr z.s z.g z.A z.n z.c (zs.getD kk 0) := hz0
      have HOK : Hid (okN zs (kk + 1) = (okN zs kk && smB (zs.getD kk 0))) := Lib.hid rfl
      clear hc h hz0
      have hk0 : (0 : Int) ≤ (kk : Int) := by omega
      have hkn : (kk : Int) < (n : Int) := by omega
      have lw4 := blk_lt a4
      have lws := OQ.ge
      go_upto_region 7 with (fail)
      have a5 : (wr.alloc (.cells #[.int .i64 z.s, .bool z.g, .slice z.A z.n z.c] 49)).heap[wr.heap.size]? = some (.cells #[.int .i64 z.s, .bool z.g, .slice z.A z.n z.c] 49 (0, 0)) := blk_at _ rfl
      replace a4 := blk_alloc a4 (.cells #[.int .i64 z.s, .bool z.g, .slice z.A z.n z.c] 49)
      replace a2 := blk_alloc a2 (.cells #[.int .i64 z.s, .bool z.g, .slice z.A z.n z.c] 49)
      replace a1 := blk_alloc a1 (.cells #[.int .i64 z.s, .bool z.g, .slice z.A z.n z.c] 49)
      replace B0 := bl_alloc B0 (.cells #[.int .i64 z.s, .bool z.g, .slice z.A z.n z.c] 49)
      replace OQ := OQ.al (.cells #[.int .i64 z.s, .bool z.g, .slice z.A z.n z.c] 49)
      replace hz := RV.al2 hz (.cells #[.int .i64 z.s, .bool z.g, .slice z.A z.n z.c] 49)
      clear p1 p2 p3 hg
      generalize hg9 : wr.heap.size = g9 at *
      generalize wr.alloc (.cells #[.int .i64 z.s, .bool z.g, .slice z.A z.n z.c] 49) = W9 at *
      clear hg9
      have HSM : Hid (∀ W, RV W z.s z.g z.A z.n z.c (zs.getD kk 0) → Calls Tryz.prog 74 #[.agg #[.int .i64 z.s, .bool z.g, .slice z.A z.n z.c]] W fun e w' => e = .returned (.tuple #[.int .i64 (smV (zs.getD kk 0)), .bool (smB (zs.getD kk 0))]) ∧ Below W.heap.size W w') := Lib.hid fun W h => small_any z.s z.g z.A z.n z.c _ W h
      generalize hq1 : smV (zs.getD kk 0) = sv at *
      have HQS : Hid ((uptoi (fun j => smV (zs.getD j 0)) n kk).set kk sv = uptoi (fun j => smV (zs.getD j 0)) n (kk + 1)) := Lib.hid (by rw [← hq1]; exact uptoi_set (fun j => smV (zs.getD j 0)) n kk hlt)
      clear hq1
      generalize smB (zs.getD kk 0) = sb at *
      generalize okN zs kk = b0 at *
      generalize zs.getD kk 0 = cz at *
      have a2_0 := a2
      have a4_0 := a4
      have a5_0 := a5
      have HB_0 := B0
      have hz_0 := hz
      go_region_held3 (fun W => W.cell? ⟨w.heap.size + 1 + 1 + 1, 0, none⟩ = some (Value.slice (some ⟨w.heap.size + 1 + 1, 0, none⟩) n n) ∧ W.cell? ⟨w.heap.size + 1 + 1 + 1, 1, none⟩ = some (Value.int .i64 0) ∧ W.cell? ⟨g9, 0, none⟩ = some (Value.int .i64 z.s) ∧ W.cell? ⟨g9, 1, none⟩ = some (Value.bool z.g) ∧ W.cell? ⟨g9, 2, none⟩ = some (Value.slice z.A z.n z.c)) (first | (refine qj23 (qx2 (t := 44) ?_) (bx3c (t := 49) ?_) <;> (repeat (first | with_reducible exact a4_1 | with_reducible exact a4_0 | with_reducible exact a5_1 | with_reducible exact a5_0 | with_reducible refine blk_alloc ?_ _ | with_reducible refine blk_drew ?_ | with_reducible refine blk_far ?_ ?_ | omega)); done) | go_keep) (first | (go_at_call 74; refine (HSM.out _ (by repeat (first | with_reducible exact hz_0 | with_reducible refine RV.al2 ?_ _ | with_reducible refine RV.dr2 ?_))).mono ?_; rintro e ww ⟨rfl, hB5⟩; have a4_1 : ww.heap[w.heap.size + 1 + 1 + 1]? = some (.cells #[.slice (some ⟨w.heap.size + 1 + 1, 0, none⟩) n n, .int .i64 0] 44 (0, 0)) := (by repeat (first | with_reducible exact a4_0 | with_reducible refine blk_below ?_ hB5 | with_reducible refine blk_alloc ?_ _ | with_reducible refine blk_drew ?_)); have a5_1 : ww.heap[g9]? = some (.cells #[.int .i64 z.s, .bool z.g, .slice z.A z.n z.c] 49 (0, 0)) := (by repeat (first | with_reducible exact a5_0 | with_reducible refine blk_below ?_ hB5 | with_reducible refine blk_alloc ?_ _ | with_reducible refine blk_drew ?_)); have a2_1 : ww.heap[w.heap.size + 1]? = some (.cells #[.slice none 0 0, .int .i64 0] 44 (0, 0)) := (by repeat (first | with_reducible exact a2_0 | with_reducible refine blk_below ?_ hB5 | with_reducible refine blk_alloc ?_ _ | with_reducible refine blk_drew ?_)); have a1_1 := (blk_below (blk_drew a1) hB5); have HB_1 : Below w.heap.size w ww := (by repeat (first | with_reducible exact HB_0 | with_reducible refine bl_then ?_ hB5 | with_reducible refine bl_alloc ?_ _ | with_reducible refine bl_drew ?_)); have OQ_1 := (by first | exact OwnI.below OQ hB5 | exact OwnI.below (OwnI.dr OQ) hB5); have o1 := OQ_1.at kk hlt; have o2 := OQ_1.frozen kk; have lg := OQ_1.ge.2) | fail)
      all_goals
        have U1 := Lib.hid (OwnI.set OQ_1 HB_1 (Nat.le_refl _) kk sv)
        have U4 := blk_far (i := kk) (v := .int .i64 sv) a4_1 (show w.heap.size + 1 + 1 + 1 ≠ w.heap.size + 1 + 1 by omega)
        have U3 := blk_far (i := kk) (v := .int .i64 sv) a2_1 (show w.heap.size + 1 ≠ w.heap.size + 1 + 1 by omega)
        have U5 := blk_far (i := kk) (v := .int .i64 sv) a1_1 (show w.heap.size ≠ w.heap.size + 1 + 1 by omega)
        have h9 := U1.out.1
        rw [HQS.out] at h9
        have HU9 := Lib.hid h9
        have HU2 := Lib.hid U1.out.2
        clear h9 U1
        cases b0 <;> (go_wp2; go_roundw; (case rel => exact ⟨kk + 1, hlt, (by rw [HOK.out]; first | rfl | simp), by go_num, HU9.out, U4, U3, U5, HU2.out⟩); (case measure => simp [intOf]; omega))
    · have hkn : n = kk := by omega
      subst hkn
      have hx1 : RV wr x.s x.g x.A x.n x.c z0 := RV.kp hx (Kp.below B0)
      obtain ⟨f1, f2, f3, f4, _⟩ := q4c a1
      go_wp2_with fail
      refine (small_any x.s x.g x.A x.n x.c z0 _ hx1).mono ?_
      rintro e w5 ⟨rfl, hB5⟩
      replace a4 := blk_below a4 hB5
      replace a2 := blk_below a2 hB5
      replace B0 := bl_then B0 hB5
      replace OQ := OQ.below hB5
      clear f1 f2 f3 f4 a1 hB5 hx1
      have ha := OQ.ge
      have b4 : (w5.setCell ⟨w.heap.size + 1 + 1 + 1, 1, none⟩ (.int .i64 (smV z0))).heap[w.heap.size + 1 + 1 + 1]? = some (.cells #[.slice (some ⟨w.heap.size + 1 + 1, 0, none⟩) n n, .int .i64 (smV z0)] 44 (0, 0)) := blk_set a4 1 _
      have b2 := blk_far (i := 1) (v := .int .i64 (smV z0)) a2 (show w.heap.size + 1 ≠ w.heap.size + 1 + 1 + 1 by omega)
      have bO := OQ.far (w' := w5.setCell ⟨w.heap.size + 1 + 1 + 1, 1, none⟩ (.int .i64 (smV z0))) (heap_setCell_other _ _ _ _ (show w.heap.size + 1 + 1 ≠ w.heap.size + 1 + 1 + 1 by omega))
      have bB := bl_set B0 (p := ⟨w.heap.size + 1 + 1 + 1, 1, none⟩) (show w.heap.size ≤ w.heap.size + 1 + 1 + 1 by omega) (.int .i64 (smV z0))
      obtain ⟨m1, m2, m3, m4⟩ := bx2 a4
      obtain ⟨k1, k2, k3, k4⟩ := bx2 b4
      obtain ⟨l1, l2, l3, l4⟩ := bx2 b2
      by_cases hall : (okN zs n && smB z0) = true
      · have hy := HIF.out hall
        have hD := HD.out.trans hall
        subst hy hD
        obtain ⟨h1, h2⟩ := (Bool.and_eq_true _ _).mp hall
        rw [HV0.out h2] at *
        rw [uptoi_full (fun j => smV (zs.getD j 0)) n zs LN.out (HVV.out h1)] at bO
        rw [h1, h2]
        clear HIF HIF2 HD HVV HV0 hall h1 h2 OQ
        have V1 := bO.far (w' := (w5.setCell ⟨w.heap.size + 1 + 1 + 1, 1, none⟩ (.int .i64 z0)).setCell ⟨w.heap.size + 1, 0, none⟩ (.slice (some ⟨w.heap.size + 1 + 1, 0, none⟩) n n)) (heap_setCell_other _ _ _ _ (show w.heap.size + 1 + 1 ≠ w.heap.size + 1 by omega))
        have V2 := V1.far (w' := ((w5.setCell ⟨w.heap.size + 1 + 1 + 1, 1, none⟩ (.int .i64 z0)).setCell ⟨w.heap.size + 1, 0, none⟩ (.slice (some ⟨w.heap.size + 1 + 1, 0, none⟩) n n)).setCell ⟨w.heap.size + 1, 1, none⟩ (.int .i64 z0)) (heap_setCell_other _ _ _ _ (show w.heap.size + 1 + 1 ≠ w.heap.size + 1 by omega))
        clear V1
        go_wp2
        refine bodyPost_ret (results_cell_tmp_row rfl _ _ (w.heap.size + 1) 44 #[.slice (some ⟨w.heap.size + 1 + 1, 0, none⟩) n n, .int .i64 z0] (0, 0) _ _ rfl (blk_set2 b2 _ _) Tryz.underlying44 rfl (by kernel_rfl) rfl) rfl ?_
        exact ⟨⟨_, rfl, _, _, _, rfl, V2.rd⟩, bl_set (bl_set bB (by simp) _) (by simp) _⟩
      · have hall2 : (okN zs n && smB z0) = false := by simpa using hall
        have hy := HIF2.out hall2
        have hD := HD.out.trans hall2
        subst hy hD
        have V2 := bl_set (bl_set bB (p := ⟨w.heap.size + 1, 0, none⟩) (by simp) (.slice none 0 0)) (p := ⟨w.heap.size + 1, 1, none⟩) (by simp) (.int .i64 0)
        have V1 := blk_set2 b2 (.slice none 0 0) (.int .i64 0)
        have hcc : okN zs n = false ∨ (okN zs n = true ∧ smB z0 = false) := by
          cases e1 : okN zs n with
          | false => exact .inl rfl
          | true => rw [e1, Bool.true_and] at hall2; exact .inr ⟨rfl, hall2⟩
        clear HIF HIF2 HD HVV HV0 hall hall2 OQ bO
        rcases hcc with h1 | ⟨h1, h2⟩
        · rw [h1]
          generalize smB z0 = sb0 at *
          go_wp2
          refine bodyPost_ret (results_cell_tmp_row rfl _ _ (w.heap.size + 1) 44 #[.slice none 0 0, .int .i64 0] (0, 0) _ _ rfl V1 Tryz.underlying44 rfl (by kernel_rfl) rfl) rfl ?_
          exact ⟨⟨_, rfl, _, _, _, rfl, rfl, by omega, fun h => absurd h (by omega)⟩, V2⟩
        · rw [h1, h2]
          go_wp2
          refine bodyPost_ret (results_cell_tmp_row rfl _ _ (w.heap.size + 1) 44 #[.slice none 0 0, .int .i64 0] (0, 0) _ _ rfl V1 Tryz.underlying44 rfl (by kernel_rfl) rfl) rfl ?_
          exact ⟨⟨_, rfl, _, _, _, rfl, rfl, by omega, fun h => absurd h (by omega)⟩, V2⟩
end Go.Proofs.YtloplmmnmehkmaaGreat

namespace Go.Proofs.YtloplmmnmehkmaaGreat
open Go.RowKit

def fzOk (R : List Fm) : Prop := ∀ r ∈ R, midF r
instance (R : List Fm) : Decidable (fzOk R) := by unfold fzOk; infer_instance
def fzE (R : List Fm) : Int := if fzOk R then 0 else 3
def fzF (R : List Fm) : List Fm := if fzOk R then R else []
/-- What the reference's Echelon hands back. -/
def zecF (n : Int) (F : List Fm) : List Fm × Bool × Int :=
  if OkFs n F then match soZ n.toNat F with
    | none => ([], false, 0)
    | some R => (fzF R, fzE R == 0, fzE R)
  else ([], false, 1)
theorem soZ_len (n : Nat) (l : List Fm) : ((soZ n l).getD []).length ≤ l.length := by
  unfold soZ
  split
  · have := ruZ_len (n := n) l n
    show (ruZ n l n).2.length ≤ _
    omega
  · exact Nat.zero_le _
set_option maxHeartbeats 40000000
set_option maxRecDepth 100000
theorem r2forms_calls (A : Option Addr) (m c : Nat) (R : List Fm) (w : World) (h : RdWJ w A m R) (hm : m ≤ 500) :
    Calls Tryz.prog 49 #[.slice A m c] w fun e w' => (∃ A' n' c', e = .returned (.tuple #[.slice A' n' c', .int .i64 (fzE R)]) ∧ RdF w' A' n' (fzF R)) ∧ Below w.heap.size w w' := by
  have L := Lib.hid h.1
  have NO : ¬ fzOk R → fzE R = 3 ∧ fzF R = [] := fun h => ⟨if_neg h, if_neg h⟩
  have YES : fzOk R → fzE R = 0 ∧ fzF R = R := fun h => ⟨if_pos h, if_pos h⟩
  generalize fzE R = e9 at *
  generalize fzF R = F9 at *
  go_enter Tryz.func49, Tryz.ntmps49
  have O0 := Kind.Own.nil (K := KF) w w.heap.size
  have B0 := Below.refl w.heap.size w
  go_wp2_with fail
  go_loopw [4, 11] (fun v i wr => ∃ kk : Nat, kk ≤ m ∧ i = .int .i64 kk ∧ (∀ j, j < kk → midF (R.getD j ([], 0))) ∧ KF.Own wr w.heap.size v kk (R.take kk) ∧ Below w.heap.size w wr) (fun _ i _ => m - (intOf i).toNat)
  case atStart => exact ⟨0, Nat.zero_le _, rfl, fun j hj => absurd hj (by omega), O0, B0⟩
  case round =>
    clear O0 B0
    obtain ⟨kk, hkk, rfl, hall, OW, B0⟩ := hrel
    have HALL := Lib.hid hall
    clear hall
    by_cases hlt : kk < m
    · obtain ⟨g, rfl, _, A1, n1, c1', x1, ⟨p1, p2, p3, p4⟩, c3, c3'⟩ := (h.below B0).row kk hlt
      have E := Lib.hid (take_snoc R ([], 0) kk (by rw [L.out]; exact hlt))
      have HMEM := Lib.hid (mem_getD (d := (([], 0) : Fm)) (by rw [L.out]; exact hlt : kk < R.length))
      clear h
      generalize hr1 : R.getD kk ([], 0) = r1 at *
      have HR1 := Lib.hid hr1
      clear hr1
      have c4 := c3.below (bl_alloc (Below.refl _ _) (.cells #[.slice A1 n1 c1', .int .i64 x1.s, .bool x1.g, .slice x1.A x1.n x1.c] 60))
      have c5 := RV.al2 c3' (.cells #[.slice A1 n1 c1', .int .i64 x1.s, .bool x1.g, .slice x1.A x1.n x1.c] 60)
      have a7 : (wr.alloc (.cells #[.slice A1 n1 c1', .int .i64 x1.s, .bool x1.g, .slice x1.A x1.n x1.c] 60)).heap[wr.heap.size]? = some (.cells #[.slice A1 n1 c1', .int .i64 x1.s, .bool x1.g, .slice x1.A x1.n x1.c] 60 (0, 0)) := blk_at _ rfl
      replace OW := OW.below KF.ok (bl_alloc (Below.refl _ _) (.cells #[.slice A1 n1 c1', .int .i64 x1.s, .bool x1.g, .slice x1.A x1.n x1.c] 60))
      replace B0 := bl_alloc B0 (.cells #[.slice A1 n1 c1', .int .i64 x1.s, .bool x1.g, .slice x1.A x1.n x1.c] 60)
      obtain ⟨k1, k2, k3, k4, _⟩ := q4c a7
      go_wp2_with fail
      refine (r2fromg_calls A1 n1 c1' x1 r1.1 r1.2 _ c4.1 c5).mono ?_
      rintro e w1 ⟨⟨v2, he, A2, n2, c2', rfl, t2⟩, hB1⟩
      replace OW := OW.below KF.ok hB1
      replace B0 := bl_then B0 hB1
      clear hB1 p1 p2 p3 p4 c3 c3' c4 c5 a7 k1 k2 k3 k4
      by_cases hok : midF r1
      · rw [show decide (midF (r1.1, r1.2)) = true from decide_eq_true hok] at he
        subst he
        rw [show (if midF (r1.1, r1.2) then (r1.1, r1.2) else (([], 0) : Fm)) = r1 from if_pos hok] at t2 ⊢
        have HOK := Lib.hid hok
        clear hok
        replace OW := OW.below KF.ok (bl_alloc (Below.refl _ _) (.cells #[.slice A2 n2 c2', .int .i64 r1.2] 44))
        replace B0 := bl_alloc B0 (.cells #[.slice A2 n2 c2', .int .i64 r1.2] 44)
        replace OW := OW.below KF.ok (bl_alloc (Below.refl _ _) (.cells #[.slice A2 n2 c2', .int .i64 r1.2] 44))
        have B1 := bl_alloc B0 (.cells #[.slice A2 n2 c2', .int .i64 r1.2] 44)
        replace t2 := t2.below (bl_alloc (bl_alloc (Below.refl _ _) (.cells #[.slice A2 n2 c2', .int .i64 r1.2] 44)) (.cells #[.slice A2 n2 c2', .int .i64 r1.2] 44))
        obtain ⟨v', W', hrun, O2, hgr⟩ := appg1 (c := 1) (g := w1.heap.size + 1) KF.ok 22 _ 32 info_form Tryz.underlying22 rfl (by omega) OW ⟨A2, n2, c2', r1.2⟩ r1 _ (blk_at _ (by simp)) rfl ⟨t2, rfl⟩ (by omega) B1.size
        rw [← E.out] at O2
        have HR := Lib.hid hrun
        have HO := Lib.hid O2
        have hOB := OW.ge
        have V2 : Hid (Below w.heap.size w W') := Lib.hid (below_of_grown B1 hgr B1.size hOB)
        clear hrun O2 hgr hOB OW t2 B1
        go_wp2_with (at_builtin; refine wpList_ap rfl (.tmp 22) (.tmp 24) 22 (by rfl) _ _ (by rfl) (by rfl) _ (by rfl) _ _ HR.out ?_)
        go_roundw
        case rel =>
          refine ⟨kk + 1, hlt, by go_num, ?_, HO.out, V2.out⟩
          intro j hj
          rcases Nat.lt_or_ge j kk with h1 | h1
          · exact HALL.out j h1
          · have : j = kk := by omega
            subst this
            rw [HR1.out]
            exact HOK.out
        case measure => simp [intOf]; omega
      · rw [show decide (midF (r1.1, r1.2)) = false from decide_eq_false hok] at he
        subst he
        rw [show (if midF (r1.1, r1.2) then (r1.1, r1.2) else (([], 0) : Fm)) = ([], 0) from if_neg hok] at t2 ⊢
        obtain ⟨rfl, rfl⟩ := NO fun hh => hok (hh _ HMEM.out)
        have B1 := bl_alloc B0 (.cells #[.slice A2 n2 c2', .int .i64 0] 44)
        go_wp2
        go_ret2
        exact ⟨⟨none, 0, 0, rfl, RdF.nil _ _⟩, B1⟩
    · have hkn : kk = m := by omega
      subst hkn
      have hok : fzOk R := all_of_getD (p := midF) fun j hj => HALL.out j (by rw [L.out] at hj; omega)
      obtain ⟨rfl, rfl⟩ := YES hok
      obtain ⟨A', c', rfl, hrd⟩ := KF.rdF OW (by omega)
      rw [List.take_of_length_le (by rw [L.out]; exact Nat.le_refl _)] at hrd
      have HRD := Lib.hid hrd
      clear OW hrd YES NO
      go_wp2
      go_ret2
      exact ⟨⟨A', kk, c', rfl, HRD.out⟩, B0⟩
theorem r2ech_calls (n : Int) (A : Option Addr) (m c : Nat) (F : List Fm) (w : World) (h : RdF w A m F) (hi : ∀ f ∈ F, I64F f) (hm : m ≤ 500) :
    Calls Tryz.prog 12 #[.int .i64 n, .slice A m c] w fun e w' => (∃ A' m' c', e = .returned (.tuple #[.slice A' m' c', .bool (zecF n F).2.1, .int .i64 (zecF n F).2.2]) ∧ RdF w' A' m' (zecF n F).1) ∧ Below w.heap.size w w' := by
  have L := Lib.hid h.1
  have HI := Lib.hid hi
  have NO : ¬ OkFs n F → zecF n F = ([], false, 1) := fun hh => if_neg hh
  have YES : OkFs n F → zecF n F = match soZ n.toNat F with | none => ([], false, 0) | some R => (fzF R, fzE R == 0, fzE R) := fun hh => if_pos hh
  generalize zecF n F = E9 at *
  clear hi
  go_enter Tryz.func12, Tryz.ntmps12
  go_wp2_with fail
  refine (r2vforms_calls n A m c F _ h).mono ?_
  rintro e w1 ⟨he, hB1⟩
  by_cases hok : OkFs n F
  · rw [decide_eq_true hok] at he
    subst he
    obtain ⟨nn, rfl⟩ : ∃ nn : Nat, n = nn := ⟨n.toNat, by have := hok.1.1; omega⟩
    have Y := YES hok
    have HOK := Lib.hid hok
    rw [Int.toNat_natCast] at Y
    have HY := Lib.hid Y
    have hn8 : nn ≤ 8 := by have := hok.1.2; omega
    have LF : Hid (∀ f ∈ F, f.1.length = nn) := Lib.hid (okfs_len hok)
    have SF := Lib.hid (okfs_sz hok)
    have HLN : Hid (((soZ nn F).getD []).length ≤ 500) := Lib.hid (Nat.le_trans (soZ_len nn F) (by rw [L.out]; exact hm))
    clear YES NO hok Y
    go_wp2_with fail
    refine (r2all_calls A m c F _ (h.below hB1) (fun f hf => ⟨HI.out f hf, by have := LF.out f hf; omega⟩) hm).mono ?_
    rintro e w2 ⟨⟨A2, c2, rfl, hr2⟩, hB2⟩
    have B2 := bl_then hB1 hB2
    clear hB1 hB2
    go_wp2_with fail
    refine (r2solved_calls nn A2 m c2 F _ hr2 LF.out SF.out hn8 hm).mono ?_
    rintro e w3 ⟨⟨A3, m3, c3, he, hr3⟩, hB3⟩
    have B3 := bl_then B2 hB3
    clear B2 hB3
    have hm3 := HLN.out
    rw [hr3.1] at hm3
    cases hR : soZ nn F with
    | none =>
      rw [hR] at he
      subst he
      have hy := HY.out
      rw [hR] at hy
      dsimp only at hy
      subst hy
      clear HY hR
      simp only [Option.isSome_none]
      go_wp2
      go_ret3
      exact ⟨⟨none, 0, ⟨0, rfl⟩, RdF.nil _ _⟩, B3⟩
    | some R =>
      rw [hR] at he hr3
      subst he
      have hy := HY.out
      rw [hR] at hy
      dsimp only at hy
      subst hy
      simp only [Option.getD_some] at hr3
      clear HY hR
      simp only [Option.isSome_some]
      go_wp2_with fail
      refine (r2forms_calls A3 m3 c3 R _ hr3 (by omega)).mono ?_
      rintro e w4 ⟨⟨A4, m4, c4, rfl, hr4⟩, hB4⟩
      have B4 := bl_then B3 hB4
      clear hB4 B3
      go_wp2
      go_ret3
      exact ⟨⟨A4, m4, ⟨c4, rfl⟩, hr4⟩, B4⟩
  · rw [decide_eq_false hok] at he
    subst he
    have hy := NO hok
    subst hy
    clear YES NO hok
    go_wp2
    go_ret3
    exact ⟨⟨none, 0, ⟨0, rfl⟩, RdF.nil _ _⟩, hB1⟩
end Go.Proofs.YtloplmmnmehkmaaGreat

namespace Go.Proofs.YtloplmmnmehkmaaGreat
open Go.RowKit

theorem rfrom_any (s1 : Int) (b1 : Bool) (A1 : Option Addr) (n1 c1 : Nat) (s1' : Int) (b1' : Bool) (A1' : Option Addr) (n1' c1' : Nat) (q : Rat) (w : World) (h1 : RRV w s1 b1 A1 n1 c1 s1' b1' A1' n1' c1' q) :
    Calls Tryz.prog 104 #[.agg #[.int .i64 s1, .bool b1, .slice A1 n1 c1, .int .i64 s1', .bool b1', .slice A1' n1' c1']] w fun e w' => e = .returned (.tuple #[.agg #[.int .i64 (outT q), .int .i64 (outL q)], .bool (decide (Fits q))]) ∧ Below w.heap.size w w' := by
  by_cases hf : Fits q
  · rw [show outT q = q.num from if_pos hf, show outL q = (q.den : Int) from if_pos hf, decide_eq_true hf]
    have hh := hf
    unfold Fits at hh
    exact rfrom_yy s1 b1 A1 n1 c1 s1' b1' A1' n1' c1' q w h1 (by omega) (by omega) (by omega)
  · rw [show outT q = 0 from if_neg hf, show outL q = 0 from if_neg hf, decide_eq_false hf]
    exact rfrom_no s1 b1 A1 n1 c1 s1' b1' A1' n1' c1' q w h1 hf
set_option maxHeartbeats 40000000
set_option maxRecDepth 100000
theorem r2nums_calls (A : Option Addr) (m c : Nat) (R : List Rat) (w : World) (h : RdRR w A m R) (hm : m ≤ 500) :
    Calls Tryz.prog 54 #[.slice A m c] w fun e w' => (∃ A' n' c', e = .returned (.tuple #[.slice A' n' c', .int .i64 (osE R)]) ∧ RdN w' A' n' (osF R)) ∧ Below w.heap.size w w' := by
  have L := Lib.hid h.1
  have NO : ¬ osOk R → osE R = 3 ∧ osF R = [] := fun h => ⟨if_neg h, if_neg h⟩
  have YES : osOk R → osE R = 0 ∧ osF R = R.map outP := fun h => ⟨if_pos h, if_pos h⟩
  generalize osE R = e9 at *
  generalize osF R = F9 at *
  go_enter Tryz.func54, Tryz.ntmps54
  have O0 := Kind.Own.nil (K := KN) w w.heap.size
  have B0 := Below.refl w.heap.size w
  go_wp2_with fail
  go_loopw [4, 11] (fun v i wr => ∃ kk : Nat, kk ≤ m ∧ i = .int .i64 kk ∧ (∀ j, j < kk → Fits (R.getD j 0)) ∧ KN.Own wr w.heap.size v kk ((R.take kk).map outP) ∧ Below w.heap.size w wr) (fun _ i _ => m - (intOf i).toNat)
  case atStart => exact ⟨0, Nat.zero_le _, rfl, fun j hj => absurd hj (by omega), O0, B0⟩
  case round =>
    clear O0 B0
    obtain ⟨kk, hkk, rfl, hall, OW, B0⟩ := hrel
    have HALL := Lib.hid hall
    clear hall
    by_cases hlt : kk < m
    · obtain ⟨g, rfl, hg, hc⟩ := (h.below B0).2.2 (by omega)
      obtain ⟨x1, ⟨p1, p2, p3, p4, p5, p6⟩, c3⟩ := hc kk hlt
      have E := Lib.hid (map_take_succ outP R 0 kk (by rw [L.out]; exact hlt))
      have HMEM := Lib.hid (mem_getD (d := (0 : Rat)) (by rw [L.out]; exact hlt : kk < R.length))
      clear hc h
      generalize hr1 : R.getD kk 0 = r1 at *
      have HR1 := Lib.hid hr1
      clear hr1
      have c4 : RRV (wr.alloc (.cells #[.int .i64 x1.s, .bool x1.g, .slice x1.A x1.n x1.c, .int .i64 x1.s', .bool x1.g', .slice x1.A' x1.n' x1.c'] 51)) x1.s x1.g x1.A x1.n x1.c x1.s' x1.g' x1.A' x1.n' x1.c' r1 := RRV.below c3 (bl_alloc (Below.refl _ _) _)
      have a7 : (wr.alloc (.cells #[.int .i64 x1.s, .bool x1.g, .slice x1.A x1.n x1.c, .int .i64 x1.s', .bool x1.g', .slice x1.A' x1.n' x1.c'] 51)).heap[wr.heap.size]? = some (.cells #[.int .i64 x1.s, .bool x1.g, .slice x1.A x1.n x1.c, .int .i64 x1.s', .bool x1.g', .slice x1.A' x1.n' x1.c'] 51 (0, 0)) := blk_at _ rfl
      replace OW := OW.below KN.ok (bl_alloc (Below.refl _ _) (.cells #[.int .i64 x1.s, .bool x1.g, .slice x1.A x1.n x1.c, .int .i64 x1.s', .bool x1.g', .slice x1.A' x1.n' x1.c'] 51))
      replace B0 := bl_alloc B0 (.cells #[.int .i64 x1.s, .bool x1.g, .slice x1.A x1.n x1.c, .int .i64 x1.s', .bool x1.g', .slice x1.A' x1.n' x1.c'] 51)
      obtain ⟨⟨k1, k2, k3, k4, k5, k6⟩, _⟩ := bx6 a7
      go_wp2_with fail
      refine (rfrom_any x1.s x1.g x1.A x1.n x1.c x1.s' x1.g' x1.A' x1.n' x1.c' r1 _ c4).mono ?_
      rintro e w1 ⟨he, hB1⟩
      replace OW := OW.below KN.ok hB1
      replace B0 := bl_then B0 hB1
      clear hB1 p1 p2 p3 p4 p5 p6 c3 c4 hg a7 k1 k2 k3 k4 k5 k6
      by_cases hok : Fits r1
      · rw [decide_eq_true hok, show outT r1 = (outP r1).1 from if_pos hok, show outL r1 = (outP r1).2 from if_pos hok] at he
        subst he
        have HOK := Lib.hid hok
        clear hok
        generalize outP r1 = f2 at *
        replace OW := OW.below KN.ok (bl_alloc (Below.refl _ _) (.cells #[.int .i64 f2.1, .int .i64 f2.2] 56))
        replace B0 := bl_alloc B0 (.cells #[.int .i64 f2.1, .int .i64 f2.2] 56)
        replace OW := OW.below KN.ok (bl_alloc (Below.refl _ _) (.cells #[.int .i64 f2.1, .int .i64 f2.2] 56))
        have B1 := bl_alloc B0 (.cells #[.int .i64 f2.1, .int .i64 f2.2] 56)
        obtain ⟨v', W', hrun, O2, hgr⟩ := appg1 (c := 1) (g := w1.heap.size + 1) KN.ok 28 _ 16 info_num Tryz.underlying28 rfl (by omega) OW f2 f2 _ (blk_at _ (by simp)) rfl rfl (by omega) B1.size
        rw [← E.out] at O2
        have HR := Lib.hid hrun
        have HO := Lib.hid O2
        have hOB := OW.ge
        have V2 : Hid (Below w.heap.size w W') := Lib.hid (below_of_grown B1 hgr B1.size hOB)
        clear hrun O2 hgr hOB OW B1
        go_wp2_with (at_builtin; refine wpList_ap rfl (.tmp 22) (.tmp 24) 28 (by rfl) _ _ (by rfl) (by rfl) _ (by rfl) _ _ HR.out ?_)
        go_roundw
        case rel =>
          refine ⟨kk + 1, hlt, by go_num, ?_, HO.out, V2.out⟩
          intro j hj
          rcases Nat.lt_or_ge j kk with h1 | h1
          · exact HALL.out j h1
          · have : j = kk := by omega
            subst this
            rw [HR1.out]
            exact HOK.out
        case measure => simp [intOf]; omega
      · rw [decide_eq_false hok, show outT r1 = 0 from if_neg hok, show outL r1 = 0 from if_neg hok] at he
        subst he
        obtain ⟨rfl, rfl⟩ := NO fun hh => hok (hh _ HMEM.out)
        have B1 := bl_alloc B0 (.cells #[.int .i64 0, .int .i64 0] 56)
        go_wp2
        go_ret2
        exact ⟨⟨none, 0, 0, rfl, RdN.nil _ _⟩, B1⟩
    · have hkn : kk = m := by omega
      subst hkn
      have hok : osOk R := all_of_getD (p := Fits) fun j hj => HALL.out j (by rw [L.out] at hj; omega)
      obtain ⟨rfl, rfl⟩ := YES hok
      obtain ⟨A', c', rfl, hrd⟩ := KN.rdN OW (by omega)
      rw [List.take_of_length_le (by rw [L.out]; exact Nat.le_refl _)] at hrd
      have HRD := Lib.hid hrd
      clear OW hrd YES NO
      go_wp2
      go_ret2
      exact ⟨⟨A', _, c', rfl, HRD.out⟩, B0⟩
end Go.Proofs.YtloplmmnmehkmaaGreat

namespace Go.Proofs.YtloplmmnmehkmaaGreat
open Go.RowKit

/-- Rationals of the reference, or what lies there ahead of them. -/
def KPo : Kind JQ (Option Rat) := ⟨fun y => [.int .i64 y.s, .bool y.g, .slice y.A y.n y.c, .int .i64 y.s', .bool y.g', .slice y.A' y.n' y.c'], 6, 51, fun w y o => ∀ q, o = some q → y.Is w q, ⟨0, false, none, 0, 0, 0, false, none, 0, 0⟩, none⟩
theorem KPo.ok : KPo.Ok := ⟨fun _ => rfl, by decide, fun y u hu => by simp [KPo] at hu; rcases hu with rfl | rfl | rfl | rfl | rfl | rfl <;> rfl, fun W W' y r h k q e => RRV.kp (h q e) (k _ (by decide)), fun W W' y r h k q e => RRV.below (h q e) k⟩
theorem gcl_set6 (l : List JQ) (j : Nat) (x : JQ) : ((((((gcl KPo.cl l).set (j * 6) (.int .i64 x.s)).set (j * 6 + 1) (.bool x.g)).set (j * 6 + 2) (.slice x.A x.n x.c)).set (j * 6 + 3) (.int .i64 x.s')).set (j * 6 + 4) (.bool x.g')).set (j * 6 + 5) (.slice x.A' x.n' x.c') = gcl KPo.cl (l.set j x) := by
  induction l generalizing j with
  | nil => simp [gcl]
  | cons y l ih =>
    cases j with
    | zero => rfl
    | succ j =>
      have h2 : (KPo.cl y).length = 6 := rfl
      show ((((((KPo.cl y ++ gcl KPo.cl l).set ((j + 1) * 6) _).set _ _).set _ _).set _ _).set _ _).set _ _ = KPo.cl y ++ gcl KPo.cl (l.set j x)
      rw [← ih j]
      rw [show (j + 1) * 6 = (KPo.cl y).length + j * 6 by rw [h2]; omega]
      simp only [Nat.add_assoc, List.set_append_right _ _ (Nat.le_add_right _ _), Nat.add_sub_cancel_left]
/-- A rational is stored. -/
def set6 (w : World) (g o : Nat) (y : JQ) : World := (((((w.setCell ⟨g, o, none⟩ (.int .i64 y.s)).setCell ⟨g, o + 1, none⟩ (.bool y.g)).setCell ⟨g, o + 2, none⟩ (.slice y.A y.n y.c)).setCell ⟨g, o + 3, none⟩ (.int .i64 y.s')).setCell ⟨g, o + 4, none⟩ (.bool y.g')).setCell ⟨g, o + 5, none⟩ (.slice y.A' y.n' y.c')
theorem set6_kp {w : World} {g o : Nat} {y : JQ} {cs : Array Value} (hg : w.heap[g]? = some (.cells cs 51 (0, 0))) (t : TypeId) (ht : 51 ≠ t) : Kp t w (set6 w g o y) := by
  have h1 := blk_set hg o (.int .i64 y.s)
  have h2 := blk_set h1 (o + 1) (.bool y.g)
  have h3 := blk_set h2 (o + 2) (.slice y.A y.n y.c)
  have h4 := blk_set h3 (o + 3) (.int .i64 y.s')
  have h5 := blk_set h4 (o + 4) (.bool y.g')
  exact ((((((Kp.refl _ _).set (p := ⟨g, o, none⟩) hg ht _).set (p := ⟨g, o + 1, none⟩) h1 ht _).set (p := ⟨g, o + 2, none⟩) h2 ht _).set (p := ⟨g, o + 3, none⟩) h3 ht _).set (p := ⟨g, o + 4, none⟩) h4 ht _).set (p := ⟨g, o + 5, none⟩) h5 ht _
theorem set6_bl {w w0 : World} {B g o : Nat} {y : JQ} (h : Below B w0 w) (hg : B ≤ g) : Below B w0 (set6 w g o y) :=
  (((((h.setCell (p := ⟨g, o, none⟩) hg _).setCell (p := ⟨g, o + 1, none⟩) hg _).setCell (p := ⟨g, o + 2, none⟩) hg _).setCell (p := ⟨g, o + 3, none⟩) hg _).setCell (p := ⟨g, o + 4, none⟩) hg _).setCell (p := ⟨g, o + 5, none⟩) hg _
def OwnP (w : World) (base g n c : Nat) (X : List (Option Rat)) : Prop := KPo.Own w base (.slice (some ⟨g, 0, none⟩) n c) n X
theorem OwnP.below {w w' : World} {base g n c : Nat} {X : List (Option Rat)} (h : OwnP w base g n c X) (hb : Below w.heap.size w w') : OwnP w' base g n c X := Kind.Own.below KPo.ok h hb
theorem OwnP.blk {w : World} {base g n c : Nat} {X : List (Option Rat)} (h : OwnP w base g n c X) : base ≤ g ∧ ∃ cs, w.heap[g]? = some (.cells cs 51 (0, 0)) := by
  obtain ⟨l, h1, _⟩ := h
  rcases h1.2 with ⟨h0, _⟩ | ⟨g', cap', cur, hv, hb, hg, r⟩
  · cases h0
  · cases hv; exact ⟨hb, cur, hg⟩
theorem OwnP.cells {w : World} {base g n c : Nat} {X : List (Option Rat)} (h : OwnP w base g n c X) (j i : Nat) (hj : j < n) (hi : i < 6) : ∃ u, w.cell? ⟨g, j * 6 + i, none⟩ = some u := by
  obtain ⟨l, h1, h2, _⟩ := h
  have e := h1.cellAt (j * 6 + i) (show _ < n * 6 by omega)
  have e2 := gcl_at KPo.ok l j i (by omega) hi
  have e3 : (KPo.cl (l.getD j KPo.d))[i]? = some ((KPo.cl (l.getD j KPo.d))[i]'(show i < 6 from hi)) := List.getElem?_eq_getElem _
  exact ⟨_, e.trans (e2.trans e3)⟩
theorem OwnP.set {w : World} {base g n c : Nat} {X : List (Option Rat)} (h : OwnP w base g n c X) (j : Nat) (hj : j < n) (y : JQ) (q : Rat) (hy : y.Is w q) : OwnP (set6 w g (j * 6) y) base g n c (X.set j (some q)) := by
  obtain ⟨_, cs, hb⟩ := h.blk
  obtain ⟨l, h1, h2, h3, h4⟩ := h
  have kp : ∀ t, KPo.E ≠ t → Kp t w (set6 w g (j * 6) y) := fun t ht => set6_kp hb t ht
  refine ⟨l.set j y, ?_, by simpa using h2, by simpa using h3, fun i hi => ?_⟩
  · rw [← gcl_set6]
    exact ((((((h1.stored (j * 6) _).1.stored (j * 6 + 1) _).1.stored (j * 6 + 2) _).1.stored (j * 6 + 3) _).1.stored (j * 6 + 4) _).1.stored (j * 6 + 5) _).1
  · by_cases e : i = j
    · subst e
      rw [getD_set1 _ _ _ _ (by omega), getD_set1 _ _ _ _ (by omega)]
      exact KPo.ok.kp _ _ _ _ (fun q' e' => by cases e'; exact hy) kp
    · rw [getD_set2 _ _ _ _ _ e, getD_set2 _ _ _ _ _ e]
      exact KPo.ok.kp _ _ _ _ (h4 i hi) kp
theorem made_cells6 (n : Nat) : (madeCells #[.int .i64 0, .bool false, .slice none 0 0, .int .i64 0, .bool false, .slice none 0 0] (n * 6)).toList = gcl KPo.cl (List.replicate n KPo.d) := by
  apply List.ext_getElem?
  intro j
  rcases Nat.lt_or_ge j (n * 6) with h | h
  · have h1 := gcl_at KPo.ok (List.replicate n KPo.d) (j / 6) (j % 6) (by rw [List.length_replicate]; omega) (Nat.mod_lt _ (by decide))
    rw [show j / 6 * KPo.sz + j % 6 = j by show j / 6 * 6 + j % 6 = j; omega] at h1
    rw [h1, List.getD_eq_getElem?_getD, List.getElem?_replicate, if_pos (by omega : j / 6 < n)]
    have h2 : (madeCells #[Value.int .i64 0, .bool false, .slice none 0 0, .int .i64 0, .bool false, .slice none 0 0] (n * 6)).toList[j]? = some ((#[Value.int .i64 0, .bool false, .slice none 0 0, .int .i64 0, .bool false, .slice none 0 0])[j % 6]!) := by
      unfold madeCells
      simp [h]
    rw [h2]
    have h4 : j % 6 < 6 := by omega
    generalize j % 6 = m at *
    match m, h4 with
    | 0, _ => rfl
    | 1, _ => rfl
    | 2, _ => rfl
    | 3, _ => rfl
    | 4, _ => rfl
    | 5, _ => rfl
  · rw [List.getElem?_eq_none (by rw [Array.length_toList, size_madeCells]; exact h), List.getElem?_eq_none (by rw [gcl_len KPo.ok, List.length_replicate]; exact h)]
/-- make([]Rat, n). -/
theorem made_p (n : Nat) (hn : n ≤ 1000000) : ∃ cs : Array Value, (∀ (W : World) (base g : Nat), g = W.heap.size → base ≤ W.heap.size → OwnP (W.alloc (.cells cs 51)) base g n n (List.replicate n none)) ∧ ∀ W, (Instr.makeSlice 62 (.int .i64 (n : Nat)) (.int .i64 (n : Nat))).run Tryz.prog W = .ok (.slice (some ⟨W.heap.size, 0, none⟩) n n) (W.alloc (.cells cs 51)) := by
  have hinfo : (Tryz.prog.info? 51).map (fun i => (i.zero, i.size, i.bytes)) = some (some (.agg #[.int .i64 0, .bool false, .slice none 0 0, .int .i64 0, .bool false, .slice none 0 0]), 6, 80) := by kernel_rfl
  obtain ⟨i, hi, hz0, hz1, hz2⟩ := info_parts hinfo
  have hz := made_cells6 n
  have hs : (madeCells #[Value.int .i64 0, .bool false, .slice none 0 0, .int .i64 0, .bool false, .slice none 0 0] (n * 6)).size = n * 6 := size_madeCells _ _
  generalize hcs : madeCells #[Value.int .i64 0, .bool false, .slice none 0 0, .int .i64 0, .bool false, .slice none 0 0] (n * 6) = cs at hz hs
  refine ⟨cs, fun W base g hg hb => ?_, fun W => ?_⟩
  · subst hg
    refine ⟨List.replicate n KPo.d, ⟨by rw [gcl_len KPo.ok, List.length_replicate], .inr ⟨W.heap.size, n, cs, rfl, hb, heap_alloc_new W _, Nat.le_refl _, by simp only [maxLen]; omega, hs, by rw [List.take_of_length_le (by rw [Array.length_toList, hs]; exact Nat.le_refl _), hz]⟩⟩, by simp, by simp, fun j hj => ?_⟩
    rw [List.getD_eq_getElem?_getD, List.getD_eq_getElem?_getD, List.getElem?_replicate, List.getElem?_replicate, if_pos hj, if_pos hj]
    exact nofun
  · have h := run_make (P := Tryz.prog) W 62 51 i _ Tryz.underlying62 hi hz0 .i64 .i64 (n : Nat) (n : Nat) (by omega) (Int.le_refl _) (by rw [hz2]; omega) (by omega)
    rw [hz1, Int.toNat_natCast] at h
    rw [← hcs]
    exact h
theorem OwnP.rd {w : World} {base g n c : Nat} {X : List Rat} (h : OwnP w base g n c (X.map some)) (hn : n ≤ 1000000) : RdRR w (some ⟨g, 0, none⟩) n X := by
  obtain ⟨_, cs, hb⟩ := h.blk
  obtain ⟨l, h1, h2, h3, h4⟩ := h
  have hl : X.length = n := by simpa using h3
  refine ⟨hl, hn, fun _ => ⟨g, rfl, blk_lt hb, fun j hj => ?_⟩⟩
  have k : ∀ i, i < 6 → w.cell? ⟨g, j * 6 + i, none⟩ = (KPo.cl (l.getD j KPo.d))[i]? := fun i hi => (h1.cellAt (j * 6 + i) (show _ < n * 6 by omega)).trans (gcl_at KPo.ok l j i (by omega) hi)
  refine ⟨l.getD j KPo.d, ⟨k 0 (by omega), k 1 (by omega), k 2 (by omega), k 3 (by omega), k 4 (by omega), k 5 (by omega)⟩, h4 j hj _ ?_⟩
  show (X.map some).getD j none = some (X.getD j 0)
  exact getD_map some X j 0 none (by omega)
/-- What Point computes. -/
def ptS (x : List Rat) (r : Fm) : List Rat := x.set (ldZ r.1).toNat (Rat.divInt (-r.2) (r.1.getD (ldZ r.1).toNat 0))
def ptZ (n : Nat) (R : List Fm) : List Rat := R.foldl ptS (List.replicate n 0)
set_option maxHeartbeats 40000000
set_option maxRecDepth 100000
theorem r2point_calls (n : Nat) (A : Option Addr) (m c : Nat) (R : List Fm) (w : World) (h : RdWJ w A m R) (hm : m ≤ 500) (hn : n ≤ 8) (hR : ∀ r ∈ R, r.1.length = n ∧ ∃ v : Nat, v < n ∧ ldZ r.1 = v ∧ r.1.getD v 0 ≠ 0) (K : Nat) (hz : ∀ r ∈ R, (∀ j, Sz K (r.1.getD j 0)) ∧ Sz K r.2) (hK : K ≤ 1000000) (hK1 : 1 ≤ K) :
    Calls Tryz.prog 55 #[.int .i64 n, .slice A m c] w fun e w' => (∃ A' c', e = .returned (.slice A' n c') ∧ RdRR w' A' n (ptZ n R)) ∧ Below w.heap.size w w' := by
  have L := Lib.hid h.1
  have HR := Lib.hid hR
  have HZ := Lib.hid hz
  have HP : Hid (ptZ n R = (R.take m).foldl ptS (List.replicate n 0)) := Lib.hid (by rw [List.take_of_length_le (by rw [h.1]; exact Nat.le_refl _)]; rfl)
  obtain ⟨cs, om, qm⟩ := made_p n (by omega)
  have OM := Lib.hid om
  generalize ptZ n R = PR at *
  clear om hR hz
  go_enter Tryz.func55, Tryz.ntmps55
  have O0 := OM.out w w.heap.size w.heap.size rfl (Nat.le_refl _)
  have B0 := bl_alloc (Below.refl w.heap.size w) (.cells cs 51)
  have HRP : Hid (List.replicate n (none : Option Rat) = (List.replicate 0 (some (0 : Rat))) ++ List.replicate (n - 0) none) := Lib.hid rfl
  rw [HRP.out] at O0
  go_wp2_with fail
  clear qm OM HRP
  go_loopw [14] (fun i wr => ∃ kk : Nat, kk ≤ n ∧ i = .int .i64 kk ∧ OwnP wr w.heap.size w.heap.size n n (List.replicate kk (some 0) ++ List.replicate (n - kk) none) ∧ Below w.heap.size w wr) (fun i _ => n - (intOf i).toNat)
  case atStart => exact ⟨0, Nat.zero_le _, rfl, O0, B0⟩
  case round =>
    clear O0 B0
    obtain ⟨kk, hkk, rfl, OP, B0⟩ := hrel
    by_cases hlt : kk < n
    · have HS : Hid ((List.replicate kk (some (0 : Rat)) ++ List.replicate (n - kk) none).set kk (some 0) = List.replicate (kk + 1) (some 0) ++ List.replicate (n - (kk + 1)) none) := Lib.hid (by
        rw [List.set_append_right _ _ (by simp), List.length_replicate, Nat.sub_self, show n - kk = (n - (kk + 1)) + 1 by omega, List.replicate_succ, List.set_cons_zero, List.replicate_succ', List.append_assoc]; rfl)
      have hk0 : (0 : Int) ≤ (kk : Int) := by omega
      have hkn : (kk : Int) < (n : Int) := by omega
      go_wp2_with fail
      refine (rrwhole_calls 0 _ (by omega) (by omega)).mono ?_
      rintro e w1 ⟨⟨s, b, A1, n1, c1, s', b', A1', n1', c1', rfl, t1⟩, hB1⟩
      replace OP := OP.below hB1
      replace B0 := bl_then B0 hB1
      obtain ⟨_, cs1, hcs⟩ := OP.blk
      obtain ⟨x0, y0⟩ := OP.cells kk 0 hlt (by omega)
      have f0 := (blk_cell hcs (kk * 6 + 0)).2
      obtain ⟨x1, y1⟩ := OP.cells kk 1 hlt (by omega)
      have f1 := (blk_cell hcs (kk * 6 + 1)).2
      obtain ⟨x2, y2⟩ := OP.cells kk 2 hlt (by omega)
      have f2 := (blk_cell hcs (kk * 6 + 2)).2
      obtain ⟨x3, y3⟩ := OP.cells kk 3 hlt (by omega)
      have f3 := (blk_cell hcs (kk * 6 + 3)).2
      obtain ⟨x4, y4⟩ := OP.cells kk 4 hlt (by omega)
      have f4 := (blk_cell hcs (kk * 6 + 4)).2
      obtain ⟨x5, y5⟩ := OP.cells kk 5 hlt (by omega)
      have f5 := (blk_cell hcs (kk * 6 + 5)).2
      rw [Nat.add_zero] at y0 f0
      have Y1 := OP.set kk hlt ⟨s, b, A1, n1, c1, s', b', A1', n1', c1'⟩ 0 t1
      rw [HS.out] at Y1
      have HY1 := Lib.hid Y1
      have HY2 := Lib.hid (set6_bl (g := w.heap.size) (o := kk * 6) (y := ⟨s, b, A1, n1, c1, s', b', A1', n1', c1'⟩) B0 (Nat.le_refl _))
      clear Y1 OP B0 hcs hB1 t1 HS
      go_wp2_with fail
      go_roundw
      case rel => exact ⟨kk + 1, hlt, by go_num, HY1.out, HY2.out⟩
      case measure => simp [intOf]; omega
    · have hkn : n = kk := by omega
      subst hkn
      have HQ0 : Hid (List.replicate n (some (0 : Rat)) ++ List.replicate (n - n) none = ((R.take 0).foldl ptS (List.replicate n 0)).map some) := Lib.hid (by rw [Nat.sub_self]; simp)
      rw [HQ0.out] at OP
      clear HQ0
      generalize wr = W1 at *
      go_wp2_with fail
      go_loopw [24] (fun i wr => ∃ kk : Nat, kk ≤ m ∧ i = .int .i64 kk ∧ OwnP wr w.heap.size w.heap.size n n (((R.take kk).foldl ptS (List.replicate n 0)).map some) ∧ Below w.heap.size w wr) (fun i _ => m - (intOf i).toNat)
      case atStart => exact ⟨0, Nat.zero_le _, rfl, OP, B0⟩
      case round =>
        clear OP B0
        obtain ⟨kk, hkk, rfl, OP, B0⟩ := hrel
        by_cases hlt : kk < m
        · have hmem : R.getD kk ([], 0) ∈ R := mem_getD (by rw [L.out]; exact hlt)
          obtain ⟨g, rfl, _, Ay, ny, cy, xy, ⟨p1, p2, p3, p4⟩, t1, t2⟩ := (h.below B0).row kk hlt
          obtain ⟨hrl, v, hv, hld, hne⟩ := HR.out _ hmem
          have HSZ := Lib.hid (HZ.out _ hmem)
          have eny : n = ny := by rw [← hrl]; exact t1.1.1
          subst eny
          obtain ⟨gx, rfl, lgx, z, q1, q2, q3, hz⟩ := t1.int v hv
          have HS : Hid ((((R.take kk).foldl ptS (List.replicate n 0)).map some).set v (some (Rat.divInt (-(R.getD kk ([], 0)).2) ((R.getD kk ([], 0)).1.getD v 0))) = ((R.take (kk + 1)).foldl ptS (List.replicate n 0)).map some) := Lib.hid (by
            rw [take_snoc R ([], 0) kk (by rw [L.out]; exact hlt), List.foldl_append]
            show _ = (ptS _ _).map some
            unfold ptS
            rw [hld, Int.toNat_natCast, List.map_set])
          clear hmem hrl
          have HLD := Lib.hid hld
          have HNE := Lib.hid hne
          clear hld hne
          generalize R.getD kk ([], 0) = r at *
          obtain ⟨zs, z0⟩ := r
          dsimp only at t1 t2 hz HS HLD HNE HSZ
          have a8 : (wr.alloc (.cells #[.slice (some ⟨gx, 0, none⟩) n cy, .int .i64 xy.s, .bool xy.g, .slice xy.A xy.n xy.c] 60)).heap[wr.heap.size]? = some (.cells #[.slice (some ⟨gx, 0, none⟩) n cy, .int .i64 xy.s, .bool xy.g, .slice xy.A xy.n xy.c] 60 (0, 0)) := blk_at _ rfl
          have e3 := @cell3_below wr gx (v * 3) _ _ _ lgx q1 q2 q3
          replace OP := OP.below (bl_alloc (Below.refl _ _) (.cells #[.slice (some ⟨gx, 0, none⟩) n cy, .int .i64 xy.s, .bool xy.g, .slice xy.A xy.n xy.c] 60))
          replace B0 := bl_alloc B0 (.cells #[.slice (some ⟨gx, 0, none⟩) n cy, .int .i64 xy.s, .bool xy.g, .slice xy.A xy.n xy.c] 60)
          have BX : Below wr.heap.size wr (wr.alloc (.cells #[.slice (some ⟨gx, 0, none⟩) n cy, .int .i64 xy.s, .bool xy.g, .slice xy.A xy.n xy.c] 60)) := bl_alloc (Below.refl _ _) _
          have hv0 : (0 : Int) ≤ (v : Int) := by omega
          have hvn : (v : Int) < (n : Int) := by omega
          have hj0 : (0 : Int) ≤ (kk : Int) := by omega
          have hjn : (kk : Int) < (m : Int) := by omega
          obtain ⟨f1, f2, f3, f4, f5⟩ := q4c a8
          go_wp2_with fail
          refine (r2lead_calls (some ⟨gx, 0, none⟩) n cy xy zs _ (t1.1.below BX) (by omega)).mono ?_
          rintro e w2 ⟨rfl, hB2⟩
          rw [HLD.out]
          replace a8 := blk_below a8 hB2
          replace OP := OP.below hB2
          replace B0 := bl_then B0 hB2
          replace BX := bl_then BX hB2
          clear f1 f2 f3 f4 f5 q1 q2 q3 hB2
          have hz : RV wr z.s z.g z.A z.n z.c (zs.getD v 0) := hz
          have HSV := Lib.hid (HSZ.out.1 v)
          generalize zs.getD v 0 = zv at *
          go_upto_region 11 with (fail)
          have a8_0 := blk_drew a8
          have BX_0 := bl_drew BX
          have hS0 : (w2.drew.cell? ⟨wr.heap.size, 0, none⟩ = some (Value.slice (some ⟨gx, 0, none⟩) n cy) ∧ w2.drew.cell? ⟨wr.heap.size, 1, none⟩ = some (Value.int .i64 xy.s) ∧ w2.drew.cell? ⟨wr.heap.size, 2, none⟩ = some (Value.bool xy.g) ∧ w2.drew.cell? ⟨wr.heap.size, 3, none⟩ = some (Value.slice xy.A xy.n xy.c)) ∧ w2.drew.cell? ⟨gx, v * 3, none⟩ = some (Value.int .i64 z.s) ∧ w2.drew.cell? ⟨gx, v * 3 + 1, none⟩ = some (Value.bool z.g) ∧ w2.drew.cell? ⟨gx, v * 3 + 2, none⟩ = some (Value.slice z.A z.n z.c) := And.intro (qxr4 a8_0) (e3 BX_0)
          refine wp_region_T (n := 12) (fun W => (W.cell? ⟨wr.heap.size, 0, none⟩ = some (Value.slice (some ⟨gx, 0, none⟩) n cy) ∧ W.cell? ⟨wr.heap.size, 1, none⟩ = some (Value.int .i64 xy.s) ∧ W.cell? ⟨wr.heap.size, 2, none⟩ = some (Value.bool xy.g) ∧ W.cell? ⟨wr.heap.size, 3, none⟩ = some (Value.slice xy.A xy.n xy.c)) ∧ W.cell? ⟨gx, v * 3, none⟩ = some (Value.int .i64 z.s) ∧ W.cell? ⟨gx, v * 3 + 1, none⟩ = some (Value.bool z.g) ∧ W.cell? ⟨gx, v * 3 + 2, none⟩ = some (Value.slice z.A z.n z.c)) (by kernel_rfl) ?_
          refine wpT_take (n := 12) (i := 0) (v := ?_) (by decide) (by kernel_rfl) rfl (by kernel_rfl) (by kernel_rfl) (by kernel_rfl) (fun _ _ _ h => h) (Or.inl ⟨by rfl, ?_⟩) hS0 ?_
          rotate_left
          · intro w' hSw
            (try dsimp only at hSw)
            go_simp
            (try with_reducible rfl)
          try simp only [Act.put, List.setIfInBounds_toArray, List.set_cons_zero, List.set_cons_succ]
          refine wpT_take (n := 12) (i := 1) (v := ?_) (by decide) (by kernel_rfl) rfl (by kernel_rfl) (by kernel_rfl) (by kernel_rfl) (fun _ _ _ h => h) (Or.inl ⟨by rfl, ?_⟩) hS0 ?_
          rotate_left
          · intro w' hSw
            (try dsimp only at hSw)
            go_simp
            (try with_reducible rfl)
          try simp only [Act.put, List.setIfInBounds_toArray, List.set_cons_zero, List.set_cons_succ]
          refine wpT_take (n := 12) (i := 2) (v := ?_) (by decide) (by kernel_rfl) rfl (by kernel_rfl) (by kernel_rfl) (by kernel_rfl) (fun _ _ _ h => h) (Or.inl ⟨by rfl, ?_⟩) hS0 ?_
          rotate_left
          · intro w' hSw
            (try dsimp only at hSw)
            go_simp
            (try with_reducible rfl)
          try simp only [Act.put, List.setIfInBounds_toArray, List.set_cons_zero, List.set_cons_succ]
          refine wpT_take (n := 12) (i := 3) (v := ?_) (by decide) (by kernel_rfl) rfl (by kernel_rfl) (by kernel_rfl) (by kernel_rfl) (fun _ _ _ h => h) (Or.inl ⟨by rfl, ?_⟩) hS0 ?_
          rotate_left
          · intro w' hSw
            (try dsimp only at hSw)
            go_simp
            (try with_reducible rfl)
          try simp only [Act.put, List.setIfInBounds_toArray, List.set_cons_zero, List.set_cons_succ]
          refine wpT_take (n := 12) (i := 5) (v := ?_) (by decide) (by kernel_rfl) rfl (by kernel_rfl) (by kernel_rfl) (by kernel_rfl) (fun _ _ _ h => h) (Or.inl ⟨by rfl, ?_⟩) hS0 ?_
          rotate_left
          · intro w' hSw
            (try dsimp only at hSw)
            go_simp
            (try with_reducible rfl)
          try simp only [Act.put, List.setIfInBounds_toArray, List.set_cons_zero, List.set_cons_succ]
          refine wpT_take (n := 12) (i := 6) (v := ?_) (by decide) (by kernel_rfl) rfl (by kernel_rfl) (by kernel_rfl) (by kernel_rfl) (fun _ _ _ h => h) (Or.inl ⟨by rfl, ?_⟩) hS0 ?_
          rotate_left
          · intro w' hSw
            (try dsimp only at hSw)
            go_simp
            (try with_reducible rfl)
          try simp only [Act.put, List.setIfInBounds_toArray, List.set_cons_zero, List.set_cons_succ]
          refine wpT_take (n := 12) (i := 7) (v := ?_) (by decide) (by kernel_rfl) rfl (by kernel_rfl) (by kernel_rfl) (by kernel_rfl) (fun _ _ _ h => h) (Or.inl ⟨by rfl, ?_⟩) hS0 ?_
          rotate_left
          · intro w' hSw
            (try dsimp only at hSw)
            go_simp
            (try with_reducible rfl)
          try simp only [Act.put, List.setIfInBounds_toArray, List.set_cons_zero, List.set_cons_succ]
          refine wpT_take (n := 12) (i := 8) (v := ?_) (by decide) (by kernel_rfl) rfl (by kernel_rfl) (by kernel_rfl) (by kernel_rfl) (fun _ _ _ h => h) (Or.inl ⟨by rfl, ?_⟩) hS0 ?_
          rotate_left
          · intro w' hSw
            (try dsimp only at hSw)
            go_simp
            (try with_reducible rfl)
          try simp only [Act.put, List.setIfInBounds_toArray, List.set_cons_zero, List.set_cons_succ]
          refine wpT_take (n := 12) (i := 9) (v := ?_) (by decide) (by kernel_rfl) rfl (by kernel_rfl) (by kernel_rfl) (by kernel_rfl) (fun _ _ _ h => h) (Or.inl ⟨by rfl, ?_⟩) hS0 ?_
          rotate_left
          · intro w' hSw
            (try dsimp only at hSw)
            go_simp
            (try with_reducible rfl)
          try simp only [Act.put, List.setIfInBounds_toArray, List.set_cons_zero, List.set_cons_succ]
          refine wpT_one (n := 12) (i := 4) (by kernel_rfl) rfl (fun K9 hK9 => ?_)
          go_simp
          refine (rminus_calls xy.s xy.g xy.A xy.n xy.c z0 _ (RV.kp t2 (Kp.below BX_0))).mono ?_
          rintro e y1 ⟨rfl, hB1⟩
          have hq0 : RV y1 (-xy.s) (decide (0 < xy.n) && !xy.g) xy.A xy.n xy.c (-z0) := RV.neg (RV.kp t2 (Kp.below (bl_then BX_0 hB1)))
          have H1 : Below w2.heap.size w2 y1 := bl_then (bl_drew (Below.refl _ _)) hB1
          have a8_1 := blk_below a8 H1
          have BX_1 := bl_then BX H1
          have hS1 : (y1.cell? ⟨wr.heap.size, 0, none⟩ = some (Value.slice (some ⟨gx, 0, none⟩) n cy) ∧ y1.cell? ⟨wr.heap.size, 1, none⟩ = some (Value.int .i64 xy.s) ∧ y1.cell? ⟨wr.heap.size, 2, none⟩ = some (Value.bool xy.g) ∧ y1.cell? ⟨wr.heap.size, 3, none⟩ = some (Value.slice xy.A xy.n xy.c)) ∧ y1.cell? ⟨gx, v * 3, none⟩ = some (Value.int .i64 z.s) ∧ y1.cell? ⟨gx, v * 3 + 1, none⟩ = some (Value.bool z.g) ∧ y1.cell? ⟨gx, v * 3 + 2, none⟩ = some (Value.slice z.A z.n z.c) := And.intro (qxr4 a8_1) (e3 BX_1)
          refine hK9.out _ _ (fun _ => hS1) (fun _ => ?_)
          clear hK9 K9
          try simp only [Act.put, List.setIfInBounds_toArray, List.set_cons_zero, List.set_cons_succ]
          refine wpT_one (n := 12) (i := 10) (by kernel_rfl) rfl (fun K9 hK9 => ?_)
          go_simp
          refine (rmake_calls (-xy.s) (decide (0 < xy.n) && !xy.g) xy.A xy.n xy.c (-z0) z.s z.g z.A z.n z.c zv _ hq0 (RV.kp hz (Kp.below BX_1)) K HSZ.out.2.neg HSV.out (by omega) hK1 HNE.out).mono ?_
          rintro e y2 ⟨⟨s, b, A1, n1, c1, s', b', A1', n1', c1', rfl, t9⟩, hB3⟩
          have H2 := bl_then H1 hB3
          have a8_2 := blk_below a8 H2
          have BX_2 := bl_then BX H2
          have hS2 : (y2.cell? ⟨wr.heap.size, 0, none⟩ = some (Value.slice (some ⟨gx, 0, none⟩) n cy) ∧ y2.cell? ⟨wr.heap.size, 1, none⟩ = some (Value.int .i64 xy.s) ∧ y2.cell? ⟨wr.heap.size, 2, none⟩ = some (Value.bool xy.g) ∧ y2.cell? ⟨wr.heap.size, 3, none⟩ = some (Value.slice xy.A xy.n xy.c)) ∧ y2.cell? ⟨gx, v * 3, none⟩ = some (Value.int .i64 z.s) ∧ y2.cell? ⟨gx, v * 3 + 1, none⟩ = some (Value.bool z.g) ∧ y2.cell? ⟨gx, v * 3 + 2, none⟩ = some (Value.slice z.A z.n z.c) := And.intro (qxr4 a8_2) (e3 BX_2)
          replace OP := OP.below H2
          obtain ⟨_, cs1, hcs⟩ := OP.blk
          obtain ⟨x0, y0⟩ := OP.cells v 0 hv (by omega)
          have f0 := (blk_cell hcs (v * 6 + 0)).2
          obtain ⟨x1, y1⟩ := OP.cells v 1 hv (by omega)
          have f1 := (blk_cell hcs (v * 6 + 1)).2
          obtain ⟨x2, y2⟩ := OP.cells v 2 hv (by omega)
          have f2 := (blk_cell hcs (v * 6 + 2)).2
          obtain ⟨x3, y3⟩ := OP.cells v 3 hv (by omega)
          have f3 := (blk_cell hcs (v * 6 + 3)).2
          obtain ⟨x4, y4⟩ := OP.cells v 4 hv (by omega)
          have f4 := (blk_cell hcs (v * 6 + 4)).2
          obtain ⟨x5, y5⟩ := OP.cells v 5 hv (by omega)
          have f5 := (blk_cell hcs (v * 6 + 5)).2
          rw [Nat.add_zero] at y0 f0
          refine hK9.out _ _ (fun _ => hS2) (fun _ => ?_)
          clear hK9 K9
          try simp only [Act.put, List.setIfInBounds_toArray, List.set_cons_zero, List.set_cons_succ]
          refine wpT_take (n := 12) (i := 11) (v := ?_) (by decide) (by kernel_rfl) rfl (by kernel_rfl) (by kernel_rfl) (by kernel_rfl) (fun _ _ _ h => h) (Or.inl ⟨by rfl, ?_⟩) hS2 ?_
          rotate_left
          · intro w' hSw
            (try dsimp only at hSw)
            go_simp
            (try with_reducible rfl)
          try simp only [Act.put, List.setIfInBounds_toArray, List.set_cons_zero, List.set_cons_succ]
          refine wpT_one (n := 12) (i := 12) (by kernel_rfl) rfl (fun K9 hK9 => ?_)
          go_simp
          refine hK9.out _ _ (fun h => absurd rfl h) (fun _ => ?_)
          clear hK9 K9
          try simp only [Act.put, List.setIfInBounds_toArray, List.set_cons_zero, List.set_cons_succ]
          refine wpT_done (by kernel_rfl) ?_ _
          have Y1 := OP.set v hv ⟨s, b, A1, n1, c1, s', b', A1', n1', c1'⟩ _ t9
          rw [HS.out] at Y1
          have HY1 := Lib.hid Y1
          have HY2 := Lib.hid (set6_bl (g := w.heap.size) (o := v * 6) (y := ⟨s, b, A1, n1, c1, s', b', A1', n1', c1'⟩) (bl_then B0 H2) (Nat.le_refl _))
          clear Y1 OP hcs t9 HS hS0 hS1 hS2
          go_wp2
          go_roundw
          case rel => exact ⟨kk + 1, hlt, by go_num, HY1.out, HY2.out⟩
          case measure => simp [intOf]; omega
        · have hkn : m = kk := by omega
          subst hkn
          rw [← HP.out] at OP
          have X := OP.rd (by omega)
          have HX := Lib.hid X
          clear OP X
          go_wp2
          go_ret
          exact ⟨⟨_, n, rfl, HX.out⟩, B0⟩
end Go.Proofs.YtloplmmnmehkmaaGreat

namespace Go.Proofs.YtloplmmnmehkmaaGreat
open Go.RowKit

/-- What the reference's Solve hands back. -/
def zsoF (n : Int) (F : List Fm) : List (Int × Int) × Bool × Int :=
  if OkFs n F then match soZ n.toNat F with
    | none => ([], false, 0)
    | some R => (osF (ptZ n.toNat R), osE (ptZ n.toNat R) == 0, osE (ptZ n.toNat R))
  else ([], false, 1)
theorem soZ_ld {n : Nat} {l : List Fm} (hl : ∀ r ∈ l, r.1.length = n) : ∀ r ∈ (soZ n l).getD [], ∃ v : Nat, v < n ∧ r.1.length = n ∧ Ld (rv (rowF r)) v := by
  intro r hr
  unfold soZ at hr
  by_cases h0 : ∀ r ∈ (ruZ n l n).1, r.2 = 0
  · rw [if_pos h0] at hr
    have hr : r ∈ (ruZ n l n).2 := hr
    obtain ⟨C, hC, hI, e⟩ := (ruZ_inv hl n (Nat.le_refl n)).out
    rw [e] at hr
    obtain ⟨k, _, hk⟩ := List.mem_filterMap.1 hr
    obtain ⟨i1, i2, i3, i4, i5⟩ := hI.row k (rowF r) (by rw [hk]; rfl)
    exact ⟨k, i1, by rw [rowF_len] at i2; exact i2, i3⟩
  · rw [if_neg h0] at hr
    cases hr
theorem ld_ldZ {n v : Nat} {r : Fm} (hl : r.1.length = n) (hv : v < n) (h : Ld (rv (rowF r)) v) : ldZ r.1 = v ∧ r.1.getD v 0 ≠ 0 := by
  have h1 : r.1.getD v 0 ≠ 0 := fun e => h.1 (by rw [rowF_at r v (by omega), e]; rfl)
  exact ⟨ldZ_hit (by omega) (fun j hj => Rat.intCast_eq_zero_iff.1 ((rowF_at r j (by omega)).symm.trans (h.2 j hj))) h1, h1⟩
theorem soZ_lead {n : Nat} {l : List Fm} (hl : ∀ r ∈ l, r.1.length = n) : ∀ r ∈ (soZ n l).getD [], ∃ v : Nat, v < n ∧ ldZ r.1 = v ∧ r.1.getD v 0 ≠ 0 := fun r hr => by
  obtain ⟨v, hv, h1, h2⟩ := soZ_ld hl r hr
  exact ⟨v, hv, ld_ldZ h1 hv h2⟩
theorem kS_pos (v : Nat) : 1 ≤ kS v := by
  induction v with
  | zero => decide
  | succ v ih => show 1 ≤ kS v + kS v + 1; omega
theorem sol_pt {n : Nat} (R : List Fm) (hR : ∀ r ∈ R, ∃ v : Nat, v < n ∧ r.1.length = n ∧ Ld (rv (rowF r)) v) : ∀ x : List Rat, (R.map rowF).foldl (fun x q => x.set (ldF q.1) (-(q.2 / q.1.getD (ldF q.1) 0))) x = R.foldl ptS x := by
  induction R with
  | nil => exact fun _ => rfl
  | cons r R ih =>
    intro x
    obtain ⟨v, hv, hl, h⟩ := hR r (by simp)
    have e1 := ldF_eq (rowF r) v h (by rw [rowF_len]; omega)
    have e2 := (ld_ldZ hl hv h).1
    have e3 : (rowF r).1.getD v 0 = ((r.1.getD v 0 : Int) : Rat) := getD_map (fun x : Int => (x : Rat)) _ v 0 0 (by omega)
    have e4 : (rowF r).2 = ((r.2 : Int) : Rat) := rfl
    rw [List.map_cons, List.foldl_cons, List.foldl_cons]
    show (R.map rowF).foldl _ (x.set (ldF (rowF r).1) (-((rowF r).2 / (rowF r).1.getD (ldF (rowF r).1) 0))) = R.foldl ptS (ptS x r)
    rw [ih fun q hq => hR q (by simp [hq])]
    congr 1
    unfold ptS
    rw [e1, e2, e3, e4, Int.toNat_natCast, Rat.divInt_eq_div, Rat.intCast_neg, Rat.div_def, Rat.div_def, Rat.neg_mul]
theorem sol_law (n : Int) (F : List Fm) : solF n F = zsoF n F := by
  unfold solF zsoF
  by_cases h : OkFs n F
  · rw [if_pos h, if_pos h, solved_rows (okfs_len h)]
    have hL := soZ_ld (okfs_len h)
    cases e : soZ n.toNat F with
    | none => rfl
    | some R =>
      rw [e] at hL
      show (osF (solX n.toNat (R.map rowF)), osE (solX n.toNat (R.map rowF)) == 0, osE (solX n.toNat (R.map rowF))) = _
      have : solX n.toNat (R.map rowF) = ptZ n.toNat R := sol_pt R hL _
      rw [this]
  · rw [if_neg h, if_neg h]
theorem outOk_row (r : Fm) : outOk (rowF r) ↔ midF r := by
  unfold outOk midF
  refine ⟨fun h => ⟨fun z hz => ?_, ?_⟩, fun h => ⟨?_, fun q hq => ?_⟩⟩
  · have := h.2 (z : Rat) (List.mem_map.2 ⟨z, hz, rfl⟩)
    rwa [Rat.num_intCast] at this
  · have := h.1
    rwa [show (rowF r).2 = ((r.2 : Int) : Rat) from rfl, Rat.num_intCast] at this
  · rw [show (rowF r).2 = ((r.2 : Int) : Rat) from rfl, Rat.num_intCast]; exact h.2
  · obtain ⟨z, hz, rfl⟩ := List.mem_map.1 hq
    rw [Rat.num_intCast]; exact h.1 z hz
theorem outW_row (r : Fm) : outW (rowF r) = r := by
  refine Prod.ext ?_ ?_
  · show ((r.1.map fun x : Int => (x : Rat)).map Rat.num) = r.1
    rw [List.map_map]
    exact (List.map_congr_left fun x _ => Rat.num_intCast x).trans (List.map_id r.1)
  · exact Rat.num_intCast r.2
theorem fs_law (R : List Fm) : fsF (R.map rowF) = fzF R ∧ fsE (R.map rowF) = fzE R := by
  have h1 : fsOk (R.map rowF) ↔ fzOk R := by
    unfold fsOk fzOk
    exact ⟨fun h r hr => (outOk_row r).1 (h _ (List.mem_map.2 ⟨r, hr, rfl⟩)), fun h q hq => by obtain ⟨r, hr, rfl⟩ := List.mem_map.1 hq; exact (outOk_row r).2 (h r hr)⟩
  have h2 : (R.map rowF).map outW = R := by
    rw [List.map_map]
    exact (List.map_congr_left fun x _ => outW_row x).trans (List.map_id R)
  unfold fsF fzF fsE fzE
  by_cases h : fzOk R
  · rw [if_pos h, if_pos (h1.2 h), if_pos h, if_pos (h1.2 h), h2]; exact ⟨rfl, rfl⟩
  · rw [if_neg h, if_neg (fun h' => h (h1.1 h')), if_neg h, if_neg (fun h' => h (h1.1 h'))]; exact ⟨rfl, rfl⟩
theorem ech_law (n : Int) (F : List Fm) : echF n F = zecF n F := by
  unfold echF zecF
  by_cases h : OkFs n F
  · rw [if_pos h, if_pos h, solved_rows (okfs_len h)]
    cases soZ n.toNat F with
    | none => rfl
    | some R =>
      show (fsF (R.map rowF), fsE (R.map rowF) == 0, fsE (R.map rowF)) = _
      rw [(fs_law R).1, (fs_law R).2]
  · rw [if_neg h, if_neg h]
set_option maxHeartbeats 40000000
set_option maxRecDepth 100000
theorem r2solve_calls (n : Int) (A : Option Addr) (m c : Nat) (F : List Fm) (w : World) (h : RdF w A m F) (hi : ∀ f ∈ F, I64F f) (hm : m ≤ 500) :
    Calls Tryz.prog 14 #[.int .i64 n, .slice A m c] w fun e w' => (∃ A' m' c', e = .returned (.tuple #[.slice A' m' c', .bool (zsoF n F).2.1, .int .i64 (zsoF n F).2.2]) ∧ RdN w' A' m' (zsoF n F).1) ∧ Below w.heap.size w w' := by
  have L := Lib.hid h.1
  have HI := Lib.hid hi
  have NO : ¬ OkFs n F → zsoF n F = ([], false, 1) := fun hh => if_neg hh
  have YES : OkFs n F → zsoF n F = match soZ n.toNat F with | none => ([], false, 0) | some R => (osF (ptZ n.toNat R), osE (ptZ n.toNat R) == 0, osE (ptZ n.toNat R)) := fun hh => if_pos hh
  generalize zsoF n F = E9 at *
  clear hi
  go_enter Tryz.func14, Tryz.ntmps14
  go_wp2_with fail
  refine (r2vforms_calls n A m c F _ h).mono ?_
  rintro e w1 ⟨he, hB1⟩
  by_cases hok : OkFs n F
  · rw [decide_eq_true hok] at he
    subst he
    obtain ⟨nn, rfl⟩ : ∃ nn : Nat, n = nn := ⟨n.toNat, by have := hok.1.1; omega⟩
    have Y := YES hok
    have HOK := Lib.hid hok
    rw [Int.toNat_natCast] at Y
    have HY := Lib.hid Y
    have hn8 : nn ≤ 8 := by have := hok.1.2; omega
    have LF : Hid (∀ f ∈ F, f.1.length = nn) := Lib.hid (okfs_len hok)
    have SF := Lib.hid (okfs_sz hok)
    have HLN : Hid (((soZ nn F).getD []).length ≤ 500) := Lib.hid (Nat.le_trans (soZ_len nn F) (by rw [L.out]; exact hm))
    clear YES NO hok Y
    go_wp2_with fail
    refine (r2all_calls A m c F _ (h.below hB1) (fun f hf => ⟨HI.out f hf, by have := LF.out f hf; omega⟩) hm).mono ?_
    rintro e w2 ⟨⟨A2, c2, rfl, hr2⟩, hB2⟩
    have B2 := bl_then hB1 hB2
    clear hB1 hB2
    go_wp2_with fail
    refine (r2solved_calls nn A2 m c2 F _ hr2 LF.out SF.out hn8 hm).mono ?_
    rintro e w3 ⟨⟨A3, m3, c3, he, hr3⟩, hB3⟩
    have B3 := bl_then B2 hB3
    clear B2 hB3
    have hm3 := HLN.out
    rw [hr3.1] at hm3
    cases hR : soZ nn F with
    | none =>
      rw [hR] at he
      subst he
      have hy := HY.out
      rw [hR] at hy
      dsimp only at hy
      subst hy
      clear HY hR
      simp only [Option.isSome_none]
      go_wp2
      go_ret3
      exact ⟨⟨none, 0, ⟨0, rfl⟩, RdN.nil _ _⟩, B3⟩
    | some R =>
      rw [hR] at he hr3
      subst he
      have hy := HY.out
      rw [hR] at hy
      dsimp only at hy
      subst hy
      simp only [Option.getD_some] at hr3
      have hF := soZ_facts LF.out SF.out
      have hLd := soZ_lead LF.out
      rw [hR] at hF hLd
      have HRL : Hid (∀ r ∈ R, r.1.length = nn ∧ ∃ v : Nat, v < nn ∧ ldZ r.1 = v ∧ r.1.getD v 0 ≠ 0) := Lib.hid fun r hr => ⟨(hF r hr).1, hLd r hr⟩
      have HRZ : Hid (∀ r ∈ R, (∀ j, Sz (kS nn) (r.1.getD j 0)) ∧ Sz (kS nn) r.2) := Lib.hid fun r hr => (hF r hr).2
      have hks1 := kS_pos nn
      clear hF hLd
      clear HY hR
      simp only [Option.isSome_some]
      go_wp2_with fail
      refine (r2point_calls nn A3 m3 c3 R _ hr3 (by omega) hn8 HRL.out (kS nn) HRZ.out (by have := kS_le hn8; omega) hks1).mono ?_
      rintro e w4 ⟨⟨A5, c5, rfl, hr5⟩, hB4⟩
      replace B3 := bl_then B3 hB4
      clear hB4
      go_wp2_with fail
      refine (r2nums_calls A5 nn c5 (ptZ nn R) _ hr5 (by omega)).mono ?_
      rintro e w5 ⟨⟨A4, m4, c4, rfl, hr4⟩, hB4⟩
      have B4 := bl_then B3 hB4
      clear hB4 B3
      go_wp2
      go_ret3
      exact ⟨⟨A4, m4, ⟨c4, rfl⟩, hr4⟩, B4⟩
  · rw [decide_eq_false hok] at he
    subst he
    have hy := NO hok
    subst hy
    clear YES NO hok
    go_wp2
    go_ret3
    exact ⟨⟨none, 0, ⟨0, rfl⟩, RdN.nil _ _⟩, hB1⟩
end Go.Proofs.YtloplmmnmehkmaaGreat

namespace Go.Proofs.YtloplmmnmehkmaaGreat
open Go.RowKit

def fewP (F : List Fm) : Prop := (∀ f ∈ F, f.1.length ≤ 40) ∧ F.length < 140
instance (F : List Fm) : Decidable (fewP F) := by unfold fewP; infer_instance
set_option maxHeartbeats 40000000
set_option maxRecDepth 100000
theorem lfew_calls (A : Option Addr) (m c : Nat) (F : List Fm) (w : World) (h : RdF w A m F) :
    Calls Tryz.prog 9 #[.slice A m c] w fun e w' => e = .returned (.bool (decide (fewP F))) ∧ Below w.heap.size w w' := by
  have L := Lib.hid h.1
  have hm := h.2.1
  generalize hD : decide (fewP F) = D
  have HD := Lib.hid hD
  clear hD
  go_enter Tryz.func9, Tryz.ntmps9
  go_wp2_with fail
  go_loopw [7] (fun i wr => ∃ kk : Nat, kk ≤ m ∧ i = .int .i64 kk ∧ (∀ j, j < kk → (F.getD j ([], 0)).1.length ≤ 40) ∧ Below w.heap.size w wr) (fun i _ => m - (intOf i).toNat)
  case atStart => exact ⟨0, Nat.zero_le _, rfl, fun j hj => absurd hj (by omega), Below.refl _ _⟩
  case round =>
    obtain ⟨kk, hkk, rfl, hall, B0⟩ := hrel
    have HALL := Lib.hid hall
    clear hall
    by_cases hlt : kk < m
    · obtain ⟨g, off, rfl, hg, hc⟩ := (h.below B0).2.2 (by omega)
      obtain ⟨A1, n1, c1, p1, p2, hr⟩ := hc kk hlt
      have HMEM := Lib.hid (mem_getD (d := (([], 0) : Fm)) (by rw [L.out]; exact hlt : kk < F.length))
      have hn1 : (F.getD kk ([], 0)).1.length = n1 := hr.1
      have HN1 := Lib.hid hn1
      have hn2 := hr.2.1
      clear hc h hr hn1
      generalize hff : F.getD kk ([], 0) = f at *
      have HFF := Lib.hid hff
      clear hff
      have B1 := bl_alloc B0 (.cells #[.slice A1 n1 c1, .int .i64 f.2] 44)
      by_cases h40 : n1 ≤ 40
      · have d1 : decide ((40 : Int) < (n1 : Int)) = false := decide_eq_false (by omega)
        have d2 : ¬ (40 : Int) < (n1 : Int) := by omega
        go_wp2
        go_roundw
        case rel =>
          refine ⟨kk + 1, hlt, by go_num, ?_, B1⟩
          intro j hj
          rcases Nat.lt_or_ge j kk with h1 | h1
          · exact HALL.out j h1
          · have : j = kk := by omega
            subst this
            rw [HFF.out, HN1.out]; exact h40
        case measure => simp [intOf]; omega
      · have d1 : decide ((40 : Int) < (n1 : Int)) = true := decide_eq_true (by omega)
        have d2 : (40 : Int) < (n1 : Int) := by omega
        have hd := HD.out
        rw [decide_eq_false (fun hh => h40 (by rw [← HN1.out]; exact hh.1 _ HMEM.out))] at hd
        subst hd
        go_wp2
        go_ret
        exact ⟨rfl, B1⟩
    · have hkn : m = kk := by omega
      subst hkn
      have hd := HD.out
      by_cases h140 : m < 140
      · rw [decide_eq_true ⟨all_of_getD (p := fun f : Fm => f.1.length ≤ 40) (d := (([], 0) : Fm)) fun j hj => HALL.out j (by rw [L.out] at hj; omega), by rw [L.out]; exact h140⟩] at hd
        subst hd
        have d1 : decide ((m : Int) < 140) = true := decide_eq_true (by omega)
        have d2 : (m : Int) < 140 := by omega
        go_wp2
        go_ret
        exact ⟨by first | rfl | simp [d1], B0⟩
      · rw [decide_eq_false (fun hh => h140 (by rw [← L.out]; exact hh.2))] at hd
        subst hd
        have d1 : decide ((m : Int) < 140) = false := decide_eq_false (by omega)
        go_wp2
        go_ret
        exact ⟨by first | rfl | simp [d1] | (simp; omega), B0⟩
end Go.Proofs.YtloplmmnmehkmaaGreat

namespace Go.Proofs.YtloplmmnmehkmaaGreat
open Go.RowKit

set_option maxHeartbeats 40000000
set_option maxRecDepth 100000
theorem linech_walk (n : Int) (A : Option Addr) (m c : Nat) (F : List Fm) (w : World) (h : RdF w A m F) (hi : ∀ f ∈ F, I64F f) :
    Calls Tryz.prog 3 #[.int .i64 n, .slice A m c] w fun e w' => e = .returned (.bool true) ∧ Below w.heap.size w w' := by
  have L := Lib.hid h.1
  have HI := Lib.hid hi
  clear hi
  go_enter Tryz.func3, Tryz.ntmps3
  go_wp2_with fail
  refine (lfew_calls A m c F _ h).mono ?_
  rintro e w1 ⟨he, B0⟩
  by_cases hfew : fewP F
  · rw [decide_eq_true hfew] at he
    subst he
    have hm : m ≤ 500 := by have := hfew.2; have := L.out; omega
    have HLN : Hid (∀ f ∈ F, f.1.length ≤ 1000000) := Lib.hid fun f hf => by have := hfew.1 f hf; omega
    clear hfew
    have C1 := Lib.hid fun W (hB : Below w.heap.size w W) => lech_calls n A m c F W (h.below hB) HI.out HLN.out hm
    have C2 := Lib.hid fun W (hB : Below w.heap.size w W) => r2ech_calls n A m c F W (h.below hB) HI.out hm
    have C3 := Lib.hid fun W (hB : Below w.heap.size w W) => lsol_calls n A m c F W (h.below hB) HI.out HLN.out hm
    have C4 := Lib.hid fun W (hB : Below w.heap.size w W) => r2solve_calls n A m c F W (h.below hB) HI.out hm
    have C5 := Lib.hid fun W (hB : Below w.heap.size w W) => lrank_calls n A m c F W (h.below hB) HI.out HLN.out hm
    have C6 := Lib.hid fun W (hB : Below w.heap.size w W) => r2rank_calls n A m c F W (h.below hB) HI.out hm
    rw [← ech_law] at C2
    rw [← sol_law] at C4
    rw [rank_law] at C5
    generalize echF n F = E at *
    generalize solF n F = X at *
    generalize rkF n F = rk at *
    generalize rkE n F = re at *
    obtain ⟨E1, E2, E3⟩ := E
    obtain ⟨X1, X2, X3⟩ := X
    dsimp only at C1 C2 C3 C4
    go_wp2_with fail
    refine (C1.out _ B0).mono ?_
    rintro e w2 ⟨⟨Ap, mp, cp, rfl, tp⟩, hB⟩
    replace B0 := bl_then B0 hB
    clear hB C1
    go_wp2_with fail
    refine (C2.out _ B0).mono ?_
    rintro e w3 ⟨⟨Aq, mq, cq, rfl, tq⟩, hB⟩
    replace B0 := bl_then B0 hB
    replace tp := tp.below hB
    clear hB C2
    go_wp2_with fail
    refine (C3.out _ B0).mono ?_
    rintro e w4 ⟨⟨Ax, mx, cx, rfl, tx⟩, hB⟩
    replace B0 := bl_then B0 hB
    replace tp := tp.below hB
    replace tq := tq.below hB
    clear hB C3
    go_wp2_with fail
    refine (C4.out _ B0).mono ?_
    rintro e w5 ⟨⟨Ay, my, cy, rfl, ty⟩, hB⟩
    replace B0 := bl_then B0 hB
    replace tp := tp.below hB
    replace tq := tq.below hB
    replace tx := tx.below hB
    clear hB C4
    go_wp2_with fail
    refine (C5.out _ B0).mono ?_
    rintro e w6 ⟨rfl, hB⟩
    replace B0 := bl_then B0 hB
    replace tp := tp.below hB
    replace tq := tq.below hB
    replace tx := tx.below hB
    replace ty := ty.below hB
    clear hB C5
    go_wp2_with fail
    refine (C6.out _ B0).mono ?_
    rintro e w7 ⟨rfl, hB⟩
    replace B0 := bl_then B0 hB
    replace tp := tp.below hB
    replace tq := tq.below hB
    replace tx := tx.below hB
    replace ty := ty.below hB
    clear hB C6
    have e1 : mq = mp := by rw [← tp.1, ← tq.1]
    have e2 : my = mx := by rw [← tx.1, ← ty.1]
    subst e1 e2
    have d1 : (E2 == E2) = true := by simp
    have d2 : (E3 == E3) = true := by simp
    have d3 : decide (E2 = E2) = true := by simp
    have d4 : decide (E3 = E3) = true := by simp
    have d5 : (X2 == X2) = true := by simp
    have d6 : (X3 == X3) = true := by simp
    have d7 : (rk == rk) = true := by simp
    have d8 : (re == re) = true := by simp
    go_wp2_with fail
    refine (lsforms_calls Ap mq cp Aq cq E1 _ tp tq).mono ?_
    rintro e w8 ⟨rfl, hB⟩
    replace B0 := bl_then B0 hB
    replace tx := tx.below hB
    replace ty := ty.below hB
    clear hB tp tq
    go_wp2_with fail
    refine (lnsame_calls Ax my cx Ay cy X1 _ tx ty).mono ?_
    rintro e w9 ⟨rfl, hB⟩
    replace B0 := bl_then B0 hB
    clear hB tx ty
    go_wp2_with fail
    refine (lawake_calls _).mono ?_
    rintro e wz ⟨rfl, hBz⟩
    have Bz := bl_then B0 hBz
    go_wp2
    go_ret
    exact ⟨rfl, Bz⟩
  · rw [decide_eq_false hfew] at he
    subst he
    clear hfew
    go_wp2_with fail
    refine (lawake_calls _).mono ?_
    rintro e wz ⟨rfl, hBz⟩
    have Bz := bl_then B0 hBz
    go_wp2
    go_ret
    exact ⟨rfl, Bz⟩
end Go.Proofs.YtloplmmnmehkmaaGreat
