/- num: digits. num: shaped. num: Parse. -/
import Derived.Test.YtmeldkceajnobaaDoorInt8
import Derived.Test.YtmeldkceajnobaaDoorTxtA
import Derived.Lib.Strings
import Derived.Test.YtmeldkceajnobaaDoorNum1
set_option linter.unusedVariables false
set_option linter.unusedSimpArgs false
namespace Go.Proofs.YtmeldkceajnobaaDoor
open Go.RowKit

theorem ba_get {s : ByteArray} {l r : List UInt8} {c : UInt8} (h : s.data.toList = l ++ c :: r) (i : Nat) (e : i = l.length) (hi : i < s.size) : s[i] = c := by
  subst e
  have h1 : s.data.toList[l.length]? = some c := by rw [h]; simp
  rw [Array.getElem?_toList] at h1
  have h2 : s.data[l.length]? = some s.data[l.length] := Array.getElem?_eq_getElem hi
  rw [h2] at h1
  exact Option.some.inj h1
theorem ba_len {s : ByteArray} {l r : List UInt8} (h : s.data.toList = l ++ r) : l.length + r.length = s.size := by
  have := congrArg List.length h
  rw [List.length_append] at this
  rw [← this]; rfl
theorem ba_drop {s : ByteArray} {l r : List UInt8} (h : s.data.toList = l ++ r) (i : Nat) (e : i = l.length) : s.extract i s.size = ⟨r.toArray⟩ := by
  subst e
  rw [Lib.extract_eq, h]
  have := ba_len h
  congr 2
  rw [List.drop_left, List.take_of_length_le (by omega)]
theorem idx_str {t : TypeId} {P : Program} (ht : P.underlying t = some .string) {s : ByteArray} {l r : List UInt8} {c : UInt8} (h : s.data.toList = l ++ c :: r) (W : World) : (Instr.index t (.string s) (.int .i64 (l.length : Nat))).run P W = .ok (.int .u8 (c.toNat : Nat)) W := by
  have hl := ba_len h
  rw [List.length_cons] at hl
  rw [run_index_string W t s .i64 _ ht, dif_pos ⟨by omega, by omega⟩, ba_get h _ (by omega)]
theorem results_cell_tmp2_row {P : Program} {fn : Func} {p1 p2 p3 : Tmp} {ty1 : TypeId} (h : fn.results = #[.cell p1 ty1, .tmp p2, .tmp p3]) (tmps : Array Value) (w : World) (g1 : Nat) (t1 : TypeId) (cs1 : Array Value) (fr1 : Nat × Nat) (d1 : TypeDesc) (v v' : Value)
    (hp1 : tmps.getD p1 undef = .pointer (some ⟨g1, 0, none⟩)) (hg1 : w.heap[g1]? = some (.cells cs1 t1 fr1))
    (hu1 : P.underlying ty1 = some d1) (hd1 : (match d1 with | .struct _ | .array _ _ => true | _ => false) = true) (hi1 : (P.info? ty1).map (·.size) = some cs1.size)
    (hp2 : tmps.getD p2 undef = v) (hp3 : tmps.getD p3 undef = v') :
    (results fn tmps).run P w = .ok (.tuple #[.agg cs1, v, v']) w := by
  have hp1' : tmps[p1]?.getD undef = .pointer (some ⟨g1, 0, none⟩) := by simpa using hp1
  have hp2' : tmps[p2]?.getD undef = v := by simpa using hp2
  have hp3' : tmps[p3]?.getD undef = v' := by simpa using hp3
  simp [results, h, hp1', hp2', hp3', asAddr, run_loadVar_row w g1 t1 ty1 cs1 fr1 d1 hg1 hu1 hd1 hi1]
theorem nd_far {W : World} {g i : Nat} {v : Value} {k : Nat} {o : Obj} (h : W.heap[k]? = some o) (hk : k ≠ g) : (W.setCell ⟨g, i, none⟩ v).heap[k]? = some o := by
  rw [heap_setCell_other _ _ _ _ hk]; exact h
theorem nd_far2 {W : World} {g k : Nat} {o : Obj} (h : W.heap[k]? = some o) (hk : k ≠ g) (x y : Value) : ((W.setCell ⟨g, 0, none⟩ x).setCell ⟨g, 1, none⟩ y).heap[k]? = some o := nd_far (nd_far h hk) hk
/-- A box of an integer. -/
def NB (w : World) (g : Nat) (v : Int) (A : Option Addr) (n c : Nat) (x : Int) : Prop := w.heap[g]? = some (.cells #[.int .i64 v, .slice A n c] 38 (0, 0)) ∧ IntV w v A n c x
section
variable {w w' : World} {g k : Nat} {v : Int} {A : Option Addr} {n c : Nat} {x : Int} {a b : Value}
theorem NB.val (h : NB w g v A n c x) : IntV w v A n c x := h.2
theorem NB.s2 (h : NB w g v A n c x) : w.cell? ⟨g, 0, none⟩ = some (.int .i64 v) ∧ w.cell? ⟨g, 1, none⟩ = some (.slice A n c) := by
  obtain ⟨h1, h2, _⟩ := bx2 h.1
  exact ⟨h1, h2⟩
theorem NB.below (h : NB w g v A n c x) (hb : Below w.heap.size w w') : NB w' g v A n c x := ⟨blk_below h.1 hb, h.2.below hb⟩
theorem NB.alloc (h : NB w g v A n c x) (o : Obj) : NB (w.alloc o) g v A n c x := ⟨blk_alloc h.1 o, h.2.kp ((Kp.refl _ _).alloc o)⟩
theorem NB.drew (h : NB w g v A n c x) : NB w.drew g v A n c x := ⟨h.1, h.2.kp (Kp.refl _ _).drew⟩
theorem NB.new (W : World) (h : IntV W v A n c x) (hg : g = W.heap.size) : NB (W.alloc (.cells #[.int .i64 v, .slice A n c] 38)) g v A n c x := ⟨blk_at _ hg, h.kp ((Kp.refl _ _).alloc _)⟩
end
theorem dval_sz (l : List UInt8) (hd : ∀ b ∈ l, Dg b) (k : Nat) (hk : 4 * l.length ≤ k) : Sz k (dval l : Int) := by
  have h := dval_lt l hd
  unfold Sz
  have h1 : 10 ^ l.length ≤ 16 ^ l.length := Nat.pow_le_pow_left (by decide) _
  have h2 : 16 ^ l.length = 2 ^ (4 * l.length) := by rw [show (16 : Nat) = 2 ^ 4 from rfl, Nat.pow_mul]
  have h3 : 2 ^ (4 * l.length) ≤ 2 ^ k := Nat.pow_le_pow_right (by decide) hk
  rw [Int.natAbs_natCast]
  omega
theorem dval_snoc (l : List UInt8) (c : UInt8) (h : 48 ≤ c.toNat) : ((dval (l ++ [c]) : Nat) : Int) = (dval l : Int) * 10 + ((c.toNat : Int) - 48) := by
  unfold dval
  rw [dvalFrom_append, dvalFrom_cons, dvalFrom_nil]
  omega
/-- What digits hands back of a string. -/
def DigR (s : List UInt8) (e : Ending) (w : World) : Prop := ∃ (l r : List UInt8) (v : Int) (A : Option Addr) (n c : Nat), s = l ++ r ∧ (∀ b ∈ l, Dg b) ∧ (∀ d r', r = d :: r' → ¬ Dg d) ∧ e = .returned (.tuple #[.agg #[.int .i64 v, .slice A n c], .string ⟨r.toArray⟩, .bool (decide (0 < l.length))]) ∧ IntV w v A n c (dval l : Int)

set_option maxHeartbeats 40000000 in
set_option maxRecDepth 100000 in
theorem ndigits_calls (s : ByteArray) (w : World) (hs : s.size ≤ 500) :
    Calls Tryd.prog 16 #[.string s] w fun e w' => DigR s.data.toList e w' ∧ Below w.heap.size w w' := by
  go_enter Tryd.func16, Tryd.ntmps16
  go_wp2_with fail
  have B0 := bl_alloc (bl_alloc (Below.refl w.heap.size w) (.cells #[.int .i64 0, .slice none 0 0] 38)) (.cells #[.int .i64 0, .slice none 0 0] 38)
  have a1 : ((w.alloc (.cells #[.int .i64 0, .slice none 0 0] 38)).alloc (.cells #[.int .i64 0, .slice none 0 0] 38)).heap[w.heap.size]? = some (.cells #[.int .i64 0, .slice none 0 0] 38 (0, 0)) := blk_alloc (blk_at _ rfl) _
  have a2 : ((w.alloc (.cells #[.int .i64 0, .slice none 0 0] 38)).alloc (.cells #[.int .i64 0, .slice none 0 0] 38)).heap[w.heap.size + 1]? = some (.cells #[.int .i64 0, .slice none 0 0] 38 (0, 0)) := blk_at _ (by simp)
  generalize (w.alloc (.cells #[.int .i64 0, .slice none 0 0] 38)).alloc (.cells #[.int .i64 0, .slice none 0 0] 38) = W0 at *
  have R5 : NB W0 (w.heap.size + 1) 0 none 0 0 (((dval [] : Nat) : Int)) := ⟨a2, IntV.small _ (by decide) (by decide)⟩
  clear a2
  go_loopw [6] (fun i wr => ∃ (l r : List UInt8) (v8 : Int) (A8 : Option Addr) (n8 c8 : Nat), s.data.toList = l ++ r ∧ (∀ b ∈ l, Dg b) ∧ i = .int .i64 (l.length : Nat) ∧ NB wr (w.heap.size + 1) v8 A8 n8 c8 ((dval l : Int)) ∧ wr.heap[w.heap.size]? = some (.cells #[.int .i64 0, .slice none 0 0] 38 (0, 0)) ∧ Below w.heap.size w wr) (fun i _ => s.size - (intOf i).toNat)
  case atStart => exact ⟨[], s.data.toList, 0, none, 0, 0, rfl, by simp, rfl, R5, a1, B0⟩
  case round =>
    clear R5 a1 B0
    obtain ⟨l, r, v8, A8, n8, c8, hlr, hd, rfl, R5, a1, B0⟩ := hrel
    have hlen := ba_len hlr
    have q1 : ∀ W, (Instr.slice 9 (.string s) (some (.int .i64 (l.length : Nat))) none none).run Tryd.prog W = .ok (.string ⟨r.toArray⟩) W := fun W => by
      rw [run_slice_string_l W _ _ Tryd.underlying9 _ _ (by omega) (by omega), ba_drop hlr _ (by omega)]
    have HD := Lib.hid hd
    clear hd
    cases r with
    | nil =>
      have HLR := Lib.hid hlr
      have hnl : ¬ (l.length : Int) < (s.size : Int) := by rw [List.length_nil] at hlen; omega
      clear hlr
      obtain ⟨y1, y2, y3, y4⟩ := bx2 R5.1
      obtain ⟨z1, z2, z3, z4⟩ := bx2 a1
      have U1 := Lib.hid (putInt R5.2 a1 B0 (Nat.le_refl _))
      go_wp2
      go_region
      go_wp2
      refine bodyPost_ret (results_cell_tmp2_row rfl _ _ w.heap.size 38 #[.int .i64 v8, .slice A8 n8 c8] (0, 0) _ _ _ rfl U1.out.2.2 Tryd.underlying38 rfl (by kernel_rfl) rfl rfl) rfl ?_
      refine ⟨⟨l, [], v8, A8, n8, c8, HLR.out, HD.out, by simp, ?_, U1.out.1.kp (Kp.refl _ _).drew⟩, bl_drew U1.out.2.1⟩
      go_num
    | cons c r =>
      have hls : (l.length : Int) < (s.size : Int) := by rw [List.length_cons] at hlen; omega
      have q0 : ∀ W, (Instr.index 9 (.string s) (.int .i64 (l.length : Nat))).run Tryd.prog W = .ok (.int .u8 (c.toNat : Nat)) W := fun W => idx_str Tryd.underlying9 hlr W
      have HLR := Lib.hid hlr
      clear hlr
      have hc256 : (c.toNat : Int) < 256 := by have := c.toNat_lt; omega
      have hc0 : (0 : Int) ≤ (c.toNat : Int) := by omega
      by_cases hc : Dg c
      · have DV := Lib.hid (dval_snoc l c hc.1)
        have hl1 : l.length ≤ 500 := by omega
        have SL := dval_sz l HD.out 4000 (by omega)
        have SD : Sz 9000 ((c.toNat : Int) - 48) := (Sz.small (by unfold Dg at hc; omega) (by unfold Dg at hc; omega)).mono (by omega)
        have SM : Sz 9000 ((dval l : Int) * 10) := (SL.mul (Sz.small (x := 10) (by decide) (by decide))).mono (by omega)
        have HDC := Lib.hid (all_snoc HD.out hc)
        have HLR' := Lib.hid (show s.data.toList = (l ++ [c]) ++ r by rw [HLR.out]; simp)
        have h48 : (48 : Int) ≤ (c.toNat : Int) := by unfold Dg at hc; omega
        have h57 : (c.toNat : Int) ≤ 57 := by unfold Dg at hc; omega
        have hl0 : (0 : Int) ≤ (l.length : Int) := by omega
        have hl5 : (l.length : Int) < 1000 := by omega
        clear hc
        generalize hcz : (c.toNat : Int) = cz at *
        have HCZ := Lib.hid hcz
        obtain ⟨dg, hdg⟩ : ∃ d, d = cz - 48 := ⟨_, rfl⟩
        have WR : Hid (IntKind.i64.wrap (IntKind.u8.wrap (cz - 48)) = dg) := Lib.hid (by rw [IntKind.wrap_u8, IntKind.wrap_i64]; omega)
        rw [← hdg] at DV SD
        have hd0 : 0 ≤ dg := by omega
        have hd9 : dg ≤ 9 := by omega
        clear hdg
        clear hcz hlen hl1
        have R5_0 := R5
        have a1_0 := a1
        have HB_0 := B0
        obtain ⟨f1, f2, f3, f4⟩ := bx2 R5.1
        clear R5 a1 B0
        go_wp2_with fail
        go_region_with (first | (have _hh := HB_3; go_at_call 42; refine (add_calls v2 A2 n2 c2 ((dval l : Int) * 10) v3 A3 n3 c3 dg _ (by repeat (first | with_reducible exact t2_3 | with_reducible refine IntV.kp ?_ ((Kp.refl _ _).alloc _) | with_reducible refine IntV.kp ?_ (Kp.refl _ _).drew)) (by repeat (first | with_reducible exact t3_3 | with_reducible refine IntV.kp ?_ ((Kp.refl _ _).alloc _) | with_reducible refine IntV.kp ?_ (Kp.refl _ _).drew)) 9000 SM SD (by omega)).mono ?_; rintro e ww4 ⟨v4, A4, n4, c4, rfl, t4_4, hB4⟩; have R5_4 : NB ww4 (w.heap.size + 1) v8 A8 n8 c8 ((dval l : Int)) := (by repeat (first | with_reducible exact R5_3 | with_reducible refine NB.below ?_ hB4 | with_reducible refine NB.alloc ?_ _ | with_reducible refine NB.drew ?_)); have a1_4 : ww4.heap[w.heap.size]? = some (.cells #[.int .i64 0, .slice none 0 0] 38 (0, 0)) := (by repeat (first | with_reducible exact a1_3 | with_reducible refine blk_below ?_ hB4 | with_reducible refine blk_alloc ?_ _ | with_reducible refine blk_drew ?_)); have t1_4 : IntV ww4 v1 A1 n1 c1 10 := (by repeat (first | with_reducible exact t1_3 | with_reducible refine IntV.below ?_ hB4 | with_reducible refine IntV.kp ?_ ((Kp.refl _ _).alloc _) | with_reducible refine IntV.kp ?_ (Kp.refl _ _).drew)); have t2_4 : IntV ww4 v2 A2 n2 c2 ((dval l : Int) * 10) := (by repeat (first | with_reducible exact t2_3 | with_reducible refine IntV.below ?_ hB4 | with_reducible refine IntV.kp ?_ ((Kp.refl _ _).alloc _) | with_reducible refine IntV.kp ?_ (Kp.refl _ _).drew)); have t3_4 : IntV ww4 v3 A3 n3 c3 dg := (by repeat (first | with_reducible exact t3_3 | with_reducible refine IntV.below ?_ hB4 | with_reducible refine IntV.kp ?_ ((Kp.refl _ _).alloc _) | with_reducible refine IntV.kp ?_ (Kp.refl _ _).drew)); have HB_4 : Below w.heap.size w ww4 := (by repeat (first | with_reducible exact HB_3 | with_reducible refine bl_then ?_ hB4 | with_reducible refine bl_alloc ?_ _ | with_reducible refine bl_drew ?_)); have P4 := NB.s2 (R5_4); have F4 := bx2 R5_4.1; obtain ⟨f41, f42, f43, f44⟩ := F4) | (have _hh := HB_2; go_at_call 17; rw [WR.out]; go_at_call_of 17 (Value.int .i64 dg); refine (of_calls dg _ (by omega) (by omega)).mono ?_; rintro e ww3 ⟨v3, A3, n3, c3, rfl, t3_3, hB3⟩; have R5_3 : NB ww3 (w.heap.size + 1) v8 A8 n8 c8 ((dval l : Int)) := (by repeat (first | with_reducible exact R5_2 | with_reducible refine NB.below ?_ hB3 | with_reducible refine NB.alloc ?_ _ | with_reducible refine NB.drew ?_)); have a1_3 : ww3.heap[w.heap.size]? = some (.cells #[.int .i64 0, .slice none 0 0] 38 (0, 0)) := (by repeat (first | with_reducible exact a1_2 | with_reducible refine blk_below ?_ hB3 | with_reducible refine blk_alloc ?_ _ | with_reducible refine blk_drew ?_)); have t1_3 : IntV ww3 v1 A1 n1 c1 10 := (by repeat (first | with_reducible exact t1_2 | with_reducible refine IntV.below ?_ hB3 | with_reducible refine IntV.kp ?_ ((Kp.refl _ _).alloc _) | with_reducible refine IntV.kp ?_ (Kp.refl _ _).drew)); have t2_3 : IntV ww3 v2 A2 n2 c2 ((dval l : Int) * 10) := (by repeat (first | with_reducible exact t2_2 | with_reducible refine IntV.below ?_ hB3 | with_reducible refine IntV.kp ?_ ((Kp.refl _ _).alloc _) | with_reducible refine IntV.kp ?_ (Kp.refl _ _).drew)); have HB_3 : Below w.heap.size w ww3 := (by repeat (first | with_reducible exact HB_2 | with_reducible refine bl_then ?_ hB3 | with_reducible refine bl_alloc ?_ _ | with_reducible refine bl_drew ?_)); have P3 := NB.s2 (R5_3); have F3 := bx2 R5_3.1; obtain ⟨f31, f32, f33, f34⟩ := F3) | (have _hh := HB_1; go_at_call 41; refine (mul_calls v8 A8 n8 c8 (dval l : Int) v1 A1 n1 c1 10 _ (by repeat (first | with_reducible exact NB.val R5_1 | with_reducible refine IntV.kp ?_ ((Kp.refl _ _).alloc _) | with_reducible refine IntV.kp ?_ (Kp.refl _ _).drew)) (by repeat (first | with_reducible exact t1_1 | with_reducible refine IntV.kp ?_ ((Kp.refl _ _).alloc _) | with_reducible refine IntV.kp ?_ (Kp.refl _ _).drew)) 4000 SL (Sz.small (by decide) (by decide) |>.mono (by omega)) (by omega)).mono ?_; rintro e ww2 ⟨v2, A2, n2, c2, rfl, t2_2, hB2⟩; have R5_2 : NB ww2 (w.heap.size + 1) v8 A8 n8 c8 ((dval l : Int)) := (by repeat (first | with_reducible exact R5_1 | with_reducible refine NB.below ?_ hB2 | with_reducible refine NB.alloc ?_ _ | with_reducible refine NB.drew ?_)); have a1_2 : ww2.heap[w.heap.size]? = some (.cells #[.int .i64 0, .slice none 0 0] 38 (0, 0)) := (by repeat (first | with_reducible exact a1_1 | with_reducible refine blk_below ?_ hB2 | with_reducible refine blk_alloc ?_ _ | with_reducible refine blk_drew ?_)); have t1_2 : IntV ww2 v1 A1 n1 c1 10 := (by repeat (first | with_reducible exact t1_1 | with_reducible refine IntV.below ?_ hB2 | with_reducible refine IntV.kp ?_ ((Kp.refl _ _).alloc _) | with_reducible refine IntV.kp ?_ (Kp.refl _ _).drew)); have HB_2 : Below w.heap.size w ww2 := (by repeat (first | with_reducible exact HB_1 | with_reducible refine bl_then ?_ hB2 | with_reducible refine bl_alloc ?_ _ | with_reducible refine bl_drew ?_)); have P2 := NB.s2 (R5_2); have F2 := bx2 R5_2.1; obtain ⟨f21, f22, f23, f24⟩ := F2) | (go_at_call_of 17 (Value.int .i64 10); refine (of_calls 10 _ (by decide) (by decide)).mono ?_; rintro e ww1 ⟨v1, A1, n1, c1, rfl, t1_1, hB1⟩; have R5_1 : NB ww1 (w.heap.size + 1) v8 A8 n8 c8 ((dval l : Int)) := (by repeat (first | with_reducible exact R5_0 | with_reducible refine NB.below ?_ hB1 | with_reducible refine NB.alloc ?_ _ | with_reducible refine NB.drew ?_)); have a1_1 : ww1.heap[w.heap.size]? = some (.cells #[.int .i64 0, .slice none 0 0] 38 (0, 0)) := (by repeat (first | with_reducible exact a1_0 | with_reducible refine blk_below ?_ hB1 | with_reducible refine blk_alloc ?_ _ | with_reducible refine blk_drew ?_)); have HB_1 : Below w.heap.size w ww1 := (by repeat (first | with_reducible exact HB_0 | with_reducible refine bl_then ?_ hB1 | with_reducible refine bl_alloc ?_ _ | with_reducible refine bl_drew ?_)); have P1 := NB.s2 (R5_1); have F1 := bx2 R5_1.1; obtain ⟨f11, f12, f13, f14⟩ := F1))
        all_goals
          have U1 := Lib.hid (putInt t4_4 R5_4.1 HB_4 (by omega))
          have U2 := Lib.hid (nd_far2 a1_4 (show w.heap.size ≠ w.heap.size + 1 by omega) (.int .i64 v4) (.slice A4 n4 c4))
          go_wp2
          go_roundw
          case rel => exact ⟨l ++ [c], r, v4, A4, n4, c4, HLR'.out, HDC.out, by rw [List.length_append]; go_num, ⟨U1.out.2.2, by rw [DV.out]; exact U1.out.1⟩, U2.out, U1.out.2.1⟩
          case measure => simp [intOf]; omega
      · have hcd : (c.toNat : Int) < 48 ∨ 57 < (c.toNat : Int) := by unfold Dg at hc; omega
        have HC := Lib.hid hc
        clear hc
        rcases hcd with hcd | hcd
        · have hcn : ¬ (48 : Int) ≤ (c.toNat : Int) := by omega
          obtain ⟨y1, y2, y3, y4⟩ := bx2 R5.1
          obtain ⟨z1, z2, z3, z4⟩ := bx2 a1
          have U1 := Lib.hid (putInt R5.2 a1 B0 (Nat.le_refl _))
          go_wp2
          go_region
          go_wp2
          refine bodyPost_ret (results_cell_tmp2_row rfl _ _ w.heap.size 38 #[.int .i64 v8, .slice A8 n8 c8] (0, 0) _ _ _ rfl U1.out.2.2 Tryd.underlying38 rfl (by kernel_rfl) rfl rfl) rfl ?_
          refine ⟨⟨l, c :: r, v8, A8, n8, c8, HLR.out, HD.out, fun d r' e => by simp at e; rw [← e.1]; exact HC.out, ?_, U1.out.1.kp (Kp.refl _ _).drew⟩, bl_drew U1.out.2.1⟩
          go_num
        · have hcn : ¬ (c.toNat : Int) ≤ 57 := by omega
          have hcy : (48 : Int) ≤ (c.toNat : Int) := by omega
          obtain ⟨y1, y2, y3, y4⟩ := bx2 R5.1
          obtain ⟨z1, z2, z3, z4⟩ := bx2 a1
          have U1 := Lib.hid (putInt R5.2 a1 B0 (Nat.le_refl _))
          go_wp2
          go_region
          go_wp2
          refine bodyPost_ret (results_cell_tmp2_row rfl _ _ w.heap.size 38 #[.int .i64 v8, .slice A8 n8 c8] (0, 0) _ _ _ rfl U1.out.2.2 Tryd.underlying38 rfl (by kernel_rfl) rfl rfl) rfl ?_
          refine ⟨⟨l, c :: r, v8, A8, n8, c8, HLR.out, HD.out, fun d r' e => by simp at e; rw [← e.1]; exact HC.out, ?_, U1.out.1.kp (Kp.refl _ _).drew⟩, bl_drew U1.out.2.1⟩
          go_num
end Go.Proofs.YtmeldkceajnobaaDoor

namespace Go.Proofs.YtmeldkceajnobaaDoor
open Go.RowKit

theorem Sh.p_le {l : List UInt8} {p : Nat} {z : Bool} {s : Nat} (h : Sh l p z s) : p ≤ l.length ∧ s ≤ 1 := by
  rcases h with ⟨h1, h2, h3, h4⟩ | ⟨h1, a, d, b, h2, h3, h4, h5, h6, h7, h8⟩
  · omega
  · rw [h2, List.length_append, List.length_cons]; omega

set_option maxHeartbeats 40000000 in
set_option maxRecDepth 100000 in
theorem nshaped_calls (s : ByteArray) (w : World) (hs : s.size ≤ 500) :
    Calls Tryd.prog 15 #[.string s] w fun e w' => e = .returned (.bool (pz s.data.toList).isSome) ∧ Below w.heap.size w w' := by
  go_enter Tryd.func15, Tryd.ntmps15
  go_wp2_with fail
  have B0 := Below.refl w.heap.size w
  go_loopw [3, 4, 5, 10] (fun pv zv sv i wr => ∃ (l r : List UInt8) (p : Nat) (z : Bool) (sl : Nat), s.data.toList = l ++ r ∧ Sh l p z sl ∧ pv = .int .i64 p ∧ zv = .bool z ∧ sv = .int .i64 sl ∧ i = .int .i64 (l.length : Nat) ∧ Below w.heap.size w wr) (fun _ _ _ i _ => s.size - (intOf i).toNat)
  case atStart => exact ⟨[], s.data.toList, 0, true, 0, rfl, Sh.start, rfl, rfl, rfl, rfl, B0⟩
  case round =>
    clear B0
    obtain ⟨l, r, p, z, sl, hlr, hsh, rfl, rfl, rfl, rfl, B0⟩ := hrel
    have hlen := ba_len hlr
    have hpl := hsh.p_le
    have HSH := Lib.hid hsh
    clear hsh
    cases r with
    | nil =>
      have hnl : ¬ (l.length : Int) < (s.size : Int) := by rw [List.length_nil] at hlen; omega
      rw [List.append_nil] at hlr
      have HF := Lib.hid HSH.out.fin
      rw [← hlr] at HF
      clear hlr
      have hp0 : (0 : Int) ≤ (p : Int) := by omega
      rcases Nat.eq_zero_or_pos p with rfl | hp
      · replace HF : Hid ((pz s.data.toList).isSome = false) := Lib.hid (by rw [HF.out]; simp)
        clear hp0
        go_wp2
        go_ret
        exact ⟨by rw [HF.out]; rfl, B0⟩
      · have hp' : (0 : Int) < (p : Int) := by omega
        rcases Nat.eq_zero_or_pos sl with rfl | hsl
        · replace HF : Hid ((pz s.data.toList).isSome = true) := Lib.hid (by rw [HF.out]; simp; omega)
          go_wp2
          go_ret
          exact ⟨by rw [HF.out]; rfl, B0⟩
        · have hs1 : sl = 1 := by omega
          subst hs1
          replace HF : Hid ((pz s.data.toList).isSome = !z) := Lib.hid (by rw [HF.out]; simp; omega)
          cases z with
          | true =>
            go_wp2
            go_ret
            exact ⟨by rw [HF.out]; rfl, B0⟩
          | false =>
            go_wp2
            go_ret
            exact ⟨by rw [HF.out]; rfl, B0⟩
    | cons c r =>
      have hls : (l.length : Int) < (s.size : Int) := by rw [List.length_cons] at hlen; omega
      have q0 : ∀ W, (Instr.index 9 (.string s) (.int .i64 (l.length : Nat))).run Tryd.prog W = .ok (.int .u8 (c.toNat : Nat)) W := fun W => idx_str Tryd.underlying9 hlr W
      have HLR := Lib.hid (show s.data.toList = (l ++ [c]) ++ r by rw [hlr]; simp)
      have hc256 : (c.toNat : Int) < 256 := by have := c.toNat_lt; omega
      have hc0 : (0 : Int) ≤ (c.toNat : Int) := by omega
      have hl0 : (0 : Int) ≤ (l.length : Int) := by omega
      have hl5 : (l.length : Int) < 1000 := by omega
      have hp0 : (0 : Int) ≤ (p : Int) := by omega
      have hp5 : (p : Int) < 1000 := by omega
      by_cases hc : Dg c
      · have HS := Lib.hid (HSH.out.dig hc)
        have h48 : (48 : Int) ≤ (c.toNat : Int) := by unfold Dg at hc; omega
        have h57 : (c.toNat : Int) ≤ 57 := by unfold Dg at hc; omega
        have hz : decide ((c.toNat : Int) = 48) = decide (c.toNat = 48) := by apply decide_eq_decide.2; omega
        have HZ := Lib.hid hz
        clear hlr hc hlen hpl hz
        cases z with
        | true =>
          go_wp2
          go_roundw
          case rel => exact ⟨l ++ [c], r, p + 1, _, sl, HLR.out, HS.out, by go_num, by rw [Bool.true_and, ← HZ.out]; go_num, by go_num, by rw [List.length_append]; go_num, B0⟩
          case measure => simp [intOf]; omega
        | false =>
          go_wp2
          go_roundw
          case rel => exact ⟨l ++ [c], r, p + 1, _, sl, HLR.out, HS.out, by go_num, by go_num, by go_num, by rw [List.length_append]; go_num, B0⟩
          case measure => simp [intOf]; omega
      · by_cases hsl : c.toNat = 47 ∧ 0 < p ∧ sl = 0
        · obtain ⟨h47, hp, rfl⟩ := hsl
          have HS := Lib.hid (HSH.out.slash hp h47)
          have h47' : (c.toNat : Int) = 47 := by omega
          have hp' : (0 : Int) < (p : Int) := by omega
          rw [h47'] at q0
          clear hlr hc hlen hpl h47 hp h47' hc256 hc0
          go_wp2
          go_roundw
          case rel => exact ⟨l ++ [c], r, 0, true, 1, HLR.out, HS.out, by go_num, by go_num, by go_num, by rw [List.length_append]; go_num, B0⟩
          case measure => simp [intOf]; omega
        · have HB := Lib.hid (HSH.out.bad hc hsl r)
          rw [← hlr] at HB
          have hcd : (c.toNat : Int) < 48 ∨ 57 < (c.toNat : Int) := by unfold Dg at hc; omega
          have hd : ¬ (c.toNat : Int) = 47 ∨ ¬ (0 : Int) < (p : Int) ∨ ¬ ((sl : Int) = 0) := by omega
          clear hlr hc hlen hpl hsl
          generalize (c.toNat : Int) = cz at *
          rcases hcd with hcd | hcd
          · have hcn : ¬ (48 : Int) ≤ cz := by omega
            rcases hd with hd | hd | hd
            · go_wp2
              go_ret
              exact ⟨by rw [HB.out]; rfl, B0⟩
            · by_cases hx : cz = 47
              · subst hx
                go_wp2
                go_ret
                exact ⟨by rw [HB.out]; rfl, B0⟩
              · go_wp2
                go_ret
                exact ⟨by rw [HB.out]; rfl, B0⟩
            · by_cases hx : cz = 47
              · subst hx
                by_cases hy : (0 : Int) < (p : Int)
                · go_wp2
                  go_ret
                  exact ⟨by rw [HB.out]; rfl, B0⟩
                · go_wp2
                  go_ret
                  exact ⟨by rw [HB.out]; rfl, B0⟩
              · go_wp2
                go_ret
                exact ⟨by rw [HB.out]; rfl, B0⟩
          · have hcn : ¬ cz ≤ 57 := by omega
            have hcy : (48 : Int) ≤ cz := by omega
            have hx : ¬ cz = 47 := by omega
            go_wp2
            go_ret
            exact ⟨by rw [HB.out]; rfl, B0⟩
end Go.Proofs.YtmeldkceajnobaaDoor

namespace Go.Proofs.YtmeldkceajnobaaDoor
open Go.RowKit

theorem ba_nil {s : ByteArray} (h : s.data.toList = []) : s = ⟨#[]⟩ := by
  apply ByteArray.ext
  apply Array.toList_inj.1
  rw [h]
theorem ba_ne {s : ByteArray} {c : UInt8} {r : List UInt8} (h : s.data.toList = c :: r) : s ≠ ⟨#[]⟩ := by
  intro e
  rw [e] at h
  simp at h
theorem body_cons (c : UInt8) (r : List UInt8) (h : c.toNat = 45) : neg (c :: r) = true ∧ body (c :: r) = r := by
  have h1 : neg (c :: r) = true := by unfold neg; simp [h]
  exact ⟨h1, by unfold body; rw [h1]; rfl⟩
theorem ds_split {r l r2 : List UInt8} (h : r = l ++ r2) (hd : ∀ b ∈ l, Dg b) (hr : ∀ d r', r2 = d :: r' → ¬ Dg d) : Ds r ↔ l ≠ [] ∧ r2 = [] := by
  constructor
  · rintro ⟨h1, h2⟩
    have : r2 = [] := by
      cases r2 with
      | nil => rfl
      | cons d r' => exact absurd (h2 d (by rw [h]; simp)) (hr d r' rfl)
    subst this
    rw [List.append_nil] at h
    exact ⟨by rw [← h]; exact h1, rfl⟩
  · rintro ⟨h1, rfl⟩
    rw [List.append_nil] at h
    rw [h]
    exact ⟨h1, hd⟩
theorem body_pos (l : List UInt8) (h : ∀ c r, l = c :: r → c.toNat ≠ 45) : neg l = false ∧ body l = l := by
  have h1 : neg l = false := by
    unfold neg
    cases l with
    | nil => simp
    | cons c r => have := h c r rfl; simpa using this
  exact ⟨h1, by unfold body; rw [h1]; rfl⟩

set_option maxHeartbeats 40000000 in
set_option maxRecDepth 100000 in
theorem nparse_calls (s : ByteArray) (w : World) (hs : s.size ≤ 400) :
    Calls Tryd.prog 7 #[.string s] w fun e w' => NumR e (psT s.data.toList) (psL s.data.toList) (psE s.data.toList) ∧ Below w.heap.size w w' := by
  have FNo : Hid (pz (body s.data.toList) = none → psT s.data.toList = 0 ∧ psL s.data.toList = 0 ∧ psE s.data.toList = 4) := Lib.hid (fun h => by unfold psT psL psE; rw [h]; simp only [and_self])
  have FLo : Hid (∀ p q, pz (body s.data.toList) = some (p, q) → 200 < s.data.toList.length → psT s.data.toList = 0 ∧ psL s.data.toList = 0 ∧ psE s.data.toList = 3) := Lib.hid (fun p q h h2 => by unfold psT psL psE; rw [h]; simp only [if_pos h2, and_self])
  have FSo : Hid (∀ p q, pz (body s.data.toList) = some (p, q) → ¬ 200 < s.data.toList.length → outT (psQ s.data.toList p q) = psT s.data.toList ∧ outL (psQ s.data.toList p q) = psL s.data.toList ∧ outE (psQ s.data.toList p q) = psE s.data.toList) := Lib.hid (fun p q h h2 => by unfold psT psL psE; rw [h]; simp only [if_neg h2, and_self])
  generalize psT s.data.toList = oT at *
  generalize psL s.data.toList = oL at *
  generalize psE s.data.toList = oE at *
  cases hL : s.data.toList with
  | nil =>
    have E := ba_nil hL
    have HN : Hid (pz (body s.data.toList) = none) := Lib.hid (by rw [hL]; rfl)
    have hE : s.toList = [] := by rw [Lib.toList_data, hL]
    have hlz : ¬ (200 : Int) < (s.size : Int) := by rw [E]; decide
    have hsz : s.size ≤ 500 := by omega
    clear E
    go_enter Tryd.func7, Tryd.ntmps7
    go_wp2_with fail
    have B0 := bl_alloc (Below.refl w.heap.size w) (.cells #[.int .i64 0, .int .i64 0] 23)
    have a1 : (w.alloc (.cells #[.int .i64 0, .int .i64 0] 23)).heap[w.heap.size]? = some (.cells #[.int .i64 0, .int .i64 0] 23 (0, 0)) := blk_at _ rfl
    generalize w.alloc (.cells #[.int .i64 0, .int .i64 0] 23) = W0 at *
    refine (ndigits_calls _ _ hsz).mono ?_
    rintro e w1 ⟨⟨l, r1, v1, A1, n1, c1, hlr, hd, hr, rfl, t1⟩, hB1⟩
    rw [hL] at hlr
    have hl0 : l = [] ∧ r1 = [] := List.append_eq_nil_iff.1 hlr.symm
    obtain ⟨rfl, rfl⟩ := hl0
    clear hlr hd hr
    replace a1 := blk_alloc (blk_below a1 hB1) (.cells #[.int .i64 v1, .slice A1 n1 c1] 38)
    replace B0 := bl_alloc (bl_then B0 hB1) (.cells #[.int .i64 v1, .slice A1 n1 c1] 38)
    clear hB1
    go_wp2_with fail
    generalize w1.alloc (.cells #[.int .i64 v1, .slice A1 n1 c1] 38) = W1 at *
    refine (of_calls 1 _ (by decide) (by decide)).mono ?_
    rintro e w2 ⟨v2, A2, n2, c2, rfl, t2, hB2⟩
    replace a1 := blk_alloc (blk_below a1 hB2) (.cells #[.int .i64 v2, .slice A2 n2 c2] 38)
    replace B0 := bl_alloc (bl_then B0 hB2) (.cells #[.int .i64 v2, .slice A2 n2 c2] 38)
    clear hB2
    go_upto_region 11 with (fail)
    generalize w2.alloc (.cells #[.int .i64 v2, .slice A2 n2 c2] 38) = W2 at *
    clear t2
    obtain ⟨rfl, rfl, rfl⟩ := FNo.out HN.out
    obtain ⟨z1, z2, z3, z4⟩ := bx2 a1
    go_wp2
    refine bodyPost_ret (results_cell_tmp_row rfl _ _ w.heap.size 23 #[.int .i64 0, .int .i64 0] (0, 0) _ _ rfl (by first | exact a1 | exact blk_set2 a1 _ _) Tryd.underlying23 rfl (by kernel_rfl) rfl) rfl ?_
    exact ⟨rfl, by first | exact B0 | exact bl_set (bl_set B0 (Nat.le_refl _) _) (Nat.le_refl _) _⟩
  | cons c r =>
    have hlen := ba_len (l := []) hL
    rw [List.length_cons, List.length_nil] at hlen
    have hne : ¬ s.toList = [] := by rw [Lib.toList_data, hL]; simp
    have h0s : 0 < s.size := by omega
    have HC0 : Hid ((c.toNat : Int) = ((s[0]'h0s).toNat : Int)) := Lib.hid (by rw [ba_get (l := []) hL 0 rfl h0s])
    have HB45 : Hid (c.toNat = 45 → neg s.data.toList = true ∧ (s.extract 1 s.size).data.toList = body s.data.toList ∧ (s.extract 1 s.size).size ≤ 400) := Lib.hid (fun hc => by
      have BD := body_cons c r hc
      exact ⟨by rw [hL]; exact BD.1, by rw [hL, BD.2, ba_drop (l := [c]) (r := r) hL 1 rfl], by rw [ByteArray.size_extract]; omega⟩)
    have HBn : Hid (c.toNat ≠ 45 → neg s.data.toList = false ∧ s.data.toList = body s.data.toList) := Lib.hid (fun hc => by
      have BD := body_pos (c :: r) (fun a b e => by simp at e; rw [← e.1]; exact hc)
      exact ⟨by rw [hL]; exact BD.1, by rw [hL]; exact BD.2.symm⟩)
    clear hlen
    by_cases hlong : 200 < s.size
    · have hlz : (200 : Int) < (s.size : Int) := by omega
      go_enter Tryd.func7, Tryd.ntmps7
      go_wp2_with fail
      · have hx : (!s.toList.isEmpty) = true ∧ (((s[0]'h0s).toNat : Int) == 45) = true := by assumption
        generalize (((s[0]'h0s).toNat : Nat) : Int) = x0 at *
        have h45 : c.toNat = 45 := by have := hx.2; rw [← HC0.out] at this; simp at this; omega
        obtain ⟨NG, hb, hsz⟩ := HB45.out h45
        clear hx h45 hne
        have B0 := bl_alloc (Below.refl w.heap.size w) (.cells #[.int .i64 0, .int .i64 0] 23)
        have a1 : (w.alloc (.cells #[.int .i64 0, .int .i64 0] 23)).heap[w.heap.size]? = some (.cells #[.int .i64 0, .int .i64 0] 23 (0, 0)) := blk_at _ rfl
        generalize w.alloc (.cells #[.int .i64 0, .int .i64 0] 23) = W0 at *
        generalize hbx : s.extract 1 s.size = bx at *
        clear hbx
        replace NG := Lib.hid NG
        clear HB45 HBn HC0 hL
        refine (nshaped_calls bx _ (by omega)).mono ?_
        rintro e w1 ⟨rfl, hB1⟩
        rw [hb]
        replace a1 := blk_below a1 hB1
        replace B0 := bl_then B0 hB1
        clear hB1
        have HL2 : 200 < s.data.toList.length := hlong
        cases hpz : pz (body s.data.toList) with
        | none =>
          have HN := Lib.hid hpz
          clear hpz
          simp only [Option.isSome_none]
          obtain ⟨rfl, rfl, rfl⟩ := FNo.out HN.out
          obtain ⟨z1, z2, z3, z4⟩ := bx2 a1
          go_wp2
          refine bodyPost_ret (results_cell_tmp_row rfl _ _ w.heap.size 23 #[.int .i64 0, .int .i64 0] (0, 0) _ _ rfl (by first | exact a1 | exact blk_set2 a1 _ _) Tryd.underlying23 rfl (by kernel_rfl) rfl) rfl ?_
          exact ⟨rfl, by first | exact B0 | exact bl_set (bl_set B0 (Nat.le_refl _) _) (Nat.le_refl _) _⟩
        | some pq =>
          obtain ⟨p, q⟩ := pq
          obtain ⟨rfl, rfl, rfl⟩ := FLo.out p q hpz HL2
          clear hpz
          simp only [Option.isSome_some]
          obtain ⟨z1, z2, z3, z4⟩ := bx2 a1
          go_wp2
          refine bodyPost_ret (results_cell_tmp_row rfl _ _ w.heap.size 23 #[.int .i64 0, .int .i64 0] (0, 0) _ _ rfl (by first | exact a1 | exact blk_set2 a1 _ _) Tryd.underlying23 rfl (by kernel_rfl) rfl) rfl ?_
          exact ⟨rfl, by first | exact B0 | exact bl_set (bl_set B0 (Nat.le_refl _) _) (Nat.le_refl _) _⟩
      · have hx : (!s.toList.isEmpty) = false ∨ (((s[0]'h0s).toNat : Int) == 45) = false := by assumption
        generalize (((s[0]'h0s).toNat : Nat) : Int) = x0 at *
        have h45 : c.toNat ≠ 45 := by
          rcases hx with hx | hx
          · rw [Lib.toList_data, hL] at hx; simp at hx
          · rw [← HC0.out] at hx; simp at hx; omega
        obtain ⟨NG, hb⟩ := HBn.out h45
        clear hx h45 hne
        have B0 := bl_alloc (Below.refl w.heap.size w) (.cells #[.int .i64 0, .int .i64 0] 23)
        have a1 : (w.alloc (.cells #[.int .i64 0, .int .i64 0] 23)).heap[w.heap.size]? = some (.cells #[.int .i64 0, .int .i64 0] 23 (0, 0)) := blk_at _ rfl
        generalize w.alloc (.cells #[.int .i64 0, .int .i64 0] 23) = W0 at *
        replace NG := Lib.hid NG
        clear HB45 HBn HC0 hL
        refine (nshaped_calls s _ (by omega)).mono ?_
        rintro e w1 ⟨rfl, hB1⟩
        rw [hb]
        replace a1 := blk_below a1 hB1
        replace B0 := bl_then B0 hB1
        clear hB1
        have HL2 : 200 < s.data.toList.length := hlong
        cases hpz : pz (body s.data.toList) with
        | none =>
          have HN := Lib.hid hpz
          clear hpz
          simp only [Option.isSome_none]
          obtain ⟨rfl, rfl, rfl⟩ := FNo.out HN.out
          obtain ⟨z1, z2, z3, z4⟩ := bx2 a1
          go_wp2
          refine bodyPost_ret (results_cell_tmp_row rfl _ _ w.heap.size 23 #[.int .i64 0, .int .i64 0] (0, 0) _ _ rfl (by first | exact a1 | exact blk_set2 a1 _ _) Tryd.underlying23 rfl (by kernel_rfl) rfl) rfl ?_
          exact ⟨rfl, by first | exact B0 | exact bl_set (bl_set B0 (Nat.le_refl _) _) (Nat.le_refl _) _⟩
        | some pq =>
          obtain ⟨p, q⟩ := pq
          obtain ⟨rfl, rfl, rfl⟩ := FLo.out p q hpz HL2
          clear hpz
          simp only [Option.isSome_some]
          obtain ⟨z1, z2, z3, z4⟩ := bx2 a1
          go_wp2
          refine bodyPost_ret (results_cell_tmp_row rfl _ _ w.heap.size 23 #[.int .i64 0, .int .i64 0] (0, 0) _ _ rfl (by first | exact a1 | exact blk_set2 a1 _ _) Tryd.underlying23 rfl (by kernel_rfl) rfl) rfl ?_
          exact ⟨rfl, by first | exact B0 | exact bl_set (bl_set B0 (Nat.le_refl _) _) (Nat.le_refl _) _⟩

    · have hlz : ¬ (200 : Int) < (s.size : Int) := by omega
      go_enter Tryd.func7, Tryd.ntmps7
      go_wp2_with fail
      · have hx : (!s.toList.isEmpty) = true ∧ (((s[0]'h0s).toNat : Int) == 45) = true := by assumption
        generalize (((s[0]'h0s).toNat : Nat) : Int) = x0 at *
        have h45 : c.toNat = 45 := by have := hx.2; rw [← HC0.out] at this; simp at this; omega
        obtain ⟨NG, hb, hsz⟩ := HB45.out h45
        clear hx h45 hne
        have B0 := bl_alloc (Below.refl w.heap.size w) (.cells #[.int .i64 0, .int .i64 0] 23)
        have a1 : (w.alloc (.cells #[.int .i64 0, .int .i64 0] 23)).heap[w.heap.size]? = some (.cells #[.int .i64 0, .int .i64 0] 23 (0, 0)) := blk_at _ rfl
        generalize w.alloc (.cells #[.int .i64 0, .int .i64 0] 23) = W0 at *
        generalize hbx : s.extract 1 s.size = bx at *
        clear hbx
        replace NG := Lib.hid NG
        clear HB45 HBn HC0 hL
        refine (ndigits_calls bx _ (by omega)).mono ?_
        rintro e w1 ⟨⟨l, r1, v1, A1, n1, c1, hlr, hd, hr, rfl, t1⟩, hB1⟩
        have hll := ba_len hlr
        rw [hb] at hlr
        have PZD := Lib.hid (pz_digits l r1 hd hr)
        rw [← hlr] at PZD
        clear hlr hr
        have g1h : w.heap.size < w1.heap.size := blk_lt (blk_below a1 hB1)
        replace a1 := blk_alloc (blk_below a1 hB1) (.cells #[.int .i64 v1, .slice A1 n1 c1] 38)
        replace B0 := bl_alloc (bl_then B0 hB1) (.cells #[.int .i64 v1, .slice A1 n1 c1] 38)
        clear hB1
        have R1 := NB.new w1 t1 rfl
        clear t1
        have SZ1 := dval_sz l hd 2000 (by omega)
        by_cases hl0 : l = []
        · have HN : Hid (pz (body s.data.toList) = none) := Lib.hid (by rw [PZD.out, if_pos hl0])
          subst hl0
          go_wp2_with fail
          generalize w1.alloc (.cells #[.int .i64 v1, .slice A1 n1 c1] 38) = W1 at *
          refine (of_calls 1 _ (by decide) (by decide)).mono ?_
          rintro e w2 ⟨v2, A2, n2, c2, rfl, t2, hB2⟩
          replace a1 := blk_alloc (blk_below a1 hB2) (.cells #[.int .i64 v2, .slice A2 n2 c2] 38)
          replace B0 := bl_alloc (bl_then B0 hB2) (.cells #[.int .i64 v2, .slice A2 n2 c2] 38)
          clear hB2
          go_upto_region 11 with (fail)
          generalize w2.alloc (.cells #[.int .i64 v2, .slice A2 n2 c2] 38) = W2 at *
          clear R1 t2
          obtain ⟨rfl, rfl, rfl⟩ := FNo.out HN.out
          obtain ⟨z1, z2, z3, z4⟩ := bx2 a1
          go_wp2
          refine bodyPost_ret (results_cell_tmp_row rfl _ _ w.heap.size 23 #[.int .i64 0, .int .i64 0] (0, 0) _ _ rfl (by first | exact a1 | exact blk_set2 a1 _ _) Tryd.underlying23 rfl (by kernel_rfl) rfl) rfl ?_
          exact ⟨rfl, by first | exact B0 | exact bl_set (bl_set B0 (Nat.le_refl _) _) (Nat.le_refl _) _⟩
        · have hdl : decide (0 < l.length) = true := by cases l with | nil => exact absurd rfl hl0 | cons => simp
          rw [if_neg hl0] at PZD
          rw [hdl]
          clear hdl
          generalize hg1 : w1.heap.size = g1 at *
          go_wp2_with fail
          generalize w1.alloc (.cells #[.int .i64 v1, .slice A1 n1 c1] 38) = W1 at *
          clear hg1
          refine (of_calls 1 _ (by decide) (by decide)).mono ?_
          rintro e w2 ⟨v2, A2, n2, c2, rfl, t2, hB2⟩
          have sz2 : g1 < w2.heap.size := blk_lt (R1.below hB2).1
          replace R1 := (R1.below hB2).alloc (.cells #[.int .i64 v2, .slice A2 n2 c2] 38)
          replace a1 := blk_alloc (blk_below a1 hB2) (.cells #[.int .i64 v2, .slice A2 n2 c2] 38)
          replace B0 := bl_alloc (bl_then B0 hB2) (.cells #[.int .i64 v2, .slice A2 n2 c2] 38)
          have R2 := NB.new w2 t2 rfl
          clear hB2 t2
          go_upto_region 11 with (fail)
          generalize hg2 : w2.heap.size = g2 at *
          generalize w2.alloc (.cells #[.int .i64 v2, .slice A2 n2 c2] 38) = W2 at *
          clear hg2
          have hsl : s.data.toList.length = s.size := rfl
          generalize hrt : (⟨r1.toArray⟩ : ByteArray) = rt at *
          have hrl : rt.data.toList = r1 := by rw [← hrt]
          clear hrt
          cases r1 with
          | nil =>
            have HQ : Hid (pz (body s.data.toList) = some (dval l, 1)) := Lib.hid PZD.out
            have HO : Hid (outT (Rat.divInt (-(dval l : Int)) (1 : Int)) = oT ∧ outL (Rat.divInt (-(dval l : Int)) (1 : Int)) = oL ∧ outE (Rat.divInt (-(dval l : Int)) (1 : Int)) = oE) := Lib.hid (by
              have h1 := FSo.out _ _ HQ.out (by rw [hsl]; exact hlong)
              unfold psQ at h1
              rw [NG.out] at h1
              rw [show ((1 : Nat) : Int) = 1 from rfl] at h1
              exact h1)
            clear PZD
            have hE : rt.toList = [] := by rw [Lib.toList_data, hrl]
            have hy0 : (1 : Int) ≠ 0 := by decide
            have SX : Sz 2000 (-(dval l : Int)) := SZ1.neg
            clear hrl
            obtain ⟨f5, f6, f7, f8⟩ := bx2 R2.1
            go_wp2_with fail
            refine (sign_calls v2 A2 n2 c2 1 _ R2.2).mono ?_
            rintro e w3 ⟨rfl, hB3⟩
            replace R1 := R1.below hB3
            replace R2 := R2.below hB3
            replace a1 := blk_below a1 hB3
            replace B0 := bl_then B0 hB3
            clear hB3 f5 f6 f7 f8
            rw [show Int.sign 1 = 1 from rfl]
            obtain ⟨f1, f2, f3, f4⟩ := bx2 R1.1
            go_wp2_with fail
            refine (neg_calls v1 A1 n1 c1 _ _ R1.2).mono ?_
            rintro e w5 ⟨rfl, hB5⟩
            replace R1 := R1.below hB5
            replace R2 := R2.below hB5
            replace a1 := blk_below a1 hB5
            replace B0 := bl_then B0 hB5
            clear hB5
            have T5 : IntV w5 (-v1) A1 n1 c1 (-(dval l : Int)) := R1.2.neg
            clear f1 f2 f3 f4
            obtain ⟨f1, f2, f3, f4⟩ := bx2 R1.1
            have U1 := Lib.hid (putInt T5 R1.1 B0 (Nat.le_of_lt g1h))
            have U2 := Lib.hid (nd_far2 a1 (show w.heap.size ≠ g1 by omega) (.int .i64 (-v1)) (.slice A1 n1 c1))
            have U3 := Lib.hid (nd_far2 R2.1 (show g2 ≠ g1 by omega) (.int .i64 (-v1)) (.slice A1 n1 c1))
            have U4 := Lib.hid (R2.2.kp (((Kp.refl _ _).set (p := ⟨g1, 0, none⟩) R1.1 (by decide) (.int .i64 (-v1))).set (p := ⟨g1, 1, none⟩) (blk_set R1.1 0 _) (by decide) (.slice A1 n1 c1)))
            go_upto_region 17 with (fail)
            replace a1 := U2.out
            replace B0 := U1.out.2.1
            replace R2 : NB _ g2 v2 A2 n2 c2 1 := ⟨U3.out, U4.out⟩
            replace R1 : NB _ g1 (-v1) A1 n1 c1 (-(dval l : Int)) := ⟨U1.out.2.2, U1.out.1⟩
            clear U1 U2 U3 U4 f1 f2 f3 f4 T5
            generalize (w5.setCell ⟨g1, 0, none⟩ (.int .i64 (-v1))).setCell ⟨g1, 1, none⟩ (.slice A1 n1 c1) = W5 at *
            obtain ⟨f1, f2, f3, f4⟩ := bx2 R1.1
            obtain ⟨f5, f6, f7, f8⟩ := bx2 R2.1
            go_wp2_with fail
            refine (ratio_calls (-v1) A1 n1 c1 (-(dval l : Int)) v2 A2 n2 c2 1 _ R1.2 R2.2 2000 SX (Sz.small (by decide) (by decide) |>.mono (by omega)) (by omega) hy0).mono ?_
            rintro e w6 ⟨⟨v6, A6, n6, c6, v6', A6', n6', c6', rfl, t6⟩, hB6⟩
            replace a1 := blk_below a1 hB6
            replace B0 := bl_then B0 hB6
            clear hB6
            go_wp2_with fail
            refine (out_calls v6 A6 n6 c6 v6' A6' n6' c6' _ _ t6).mono ?_
            rintro e w7 ⟨he, hB7⟩
            rw [HO.out.1, HO.out.2.1, HO.out.2.2] at he
            unfold NumR at he
            subst he
            replace a1 := blk_below a1 hB7
            replace B0 := bl_then B0 hB7
            clear hB7
            clear f1 f2 f3 f4 f5 f6 f7 f8 R1 R2 t6
            obtain ⟨z1, z2, z3, z4⟩ := bx2 a1
            go_wp2
            refine bodyPost_ret (results_cell_tmp_row rfl _ _ w.heap.size 23 #[.int .i64 oT, .int .i64 oL] (0, 0) _ _ rfl (by first | exact a1 | exact blk_set2 a1 _ _) Tryd.underlying23 rfl (by kernel_rfl) rfl) rfl ?_
            exact ⟨rfl, by first | exact B0 | exact bl_set (bl_set B0 (Nat.le_refl _) _) (Nat.le_refl _) _⟩
          | cons c' r' =>
            have hrn : ¬ rt.toList = [] := by rw [Lib.toList_data, hrl]; simp
            have hlr1 := ba_len (l := []) hrl
            rw [List.length_cons, List.length_nil] at hlr1
            have h0r : 0 < rt.size := by omega
            rw [List.length_cons] at hll
            have HR0 : Hid ((c'.toNat : Int) = ((rt[0]'h0r).toNat : Int)) := Lib.hid (by rw [ba_get (l := []) hrl 0 rfl h0r])
            have HRX : Hid ((rt.extract 1 rt.size).data.toList = r' ∧ (rt.extract 1 rt.size).size ≤ 400) := Lib.hid ⟨by rw [ba_drop (l := [c']) (r := r') hrl 1 rfl], by rw [ByteArray.size_extract]; omega⟩
            clear hrl hlr1 hll
            obtain ⟨z1, z2, z3, z4⟩ := bx2 a1
            go_wp2_with fail
            · have hx1 : (!rt.toList.isEmpty) = true ∧ (((rt[0]'h0r).toNat : Int) == 47) = true := by assumption
              have hx := hx1.2
              clear hx1
              generalize (((rt[0]'h0r).toNat : Nat) : Int) = y0 at *
              have hc' : c'.toNat = 47 := by rw [← HR0.out] at hx; simp at hx; omega
              generalize rt.extract 1 rt.size = ry at *
              obtain ⟨hry, hrs⟩ := HRX.out
              clear HRX HR0 hx hrn z1 z2 z3 z4
              refine (ndigits_calls ry _ (by omega)).mono ?_
              rintro e w3 ⟨⟨l2, r2, v3, A3, n3, c3, hlr2, hd2, hr2, rfl, t3⟩, hB3⟩
              have hll2 := ba_len hlr2
              rw [hry] at hlr2
              have DS := Lib.hid (ds_split hlr2 hd2 hr2)
              have SZ2 := dval_sz l2 hd2 2000 (by omega)
              have HLR2 := Lib.hid hlr2
              clear hry hlr2 hll2 hr2 hd2
              replace R1 := R1.below hB3
              replace R2 := R2.below hB3
              replace a1 := blk_below a1 hB3
              replace B0 := bl_then B0 hB3
              clear hB3
              obtain ⟨f5, f6, f7, f8⟩ := bx2 R2.1
              have U1 := Lib.hid (putInt t3 R2.1 B0 (by omega))
              have U2 := Lib.hid (nd_far2 a1 (show w.heap.size ≠ g2 by omega) (.int .i64 v3) (.slice A3 n3 c3))
              have U3 := Lib.hid (nd_far2 R1.1 (show g1 ≠ g2 by omega) (.int .i64 v3) (.slice A3 n3 c3))
              have U4 := Lib.hid (R1.2.kp (((Kp.refl _ _).set (p := ⟨g2, 0, none⟩) R2.1 (by decide) (.int .i64 v3)).set (p := ⟨g2, 1, none⟩) (blk_set R2.1 0 _) (by decide) (.slice A3 n3 c3)))
              by_cases hl2 : l2 = []
              · have HN : Hid (pz (body s.data.toList) = none) := Lib.hid (by rw [PZD.out]; rw [if_neg (fun k => (DS.out.1 k.2.1).1 hl2)])
                subst hl2
                go_upto_region 13 with (fail)
                replace a1 := U2.out
                replace B0 := U1.out.2.1
                clear U1 U2 U3 U4 f5 f6 f7 f8 R1 R2 t3
                generalize (w3.setCell ⟨g2, 0, none⟩ (.int .i64 v3)).setCell ⟨g2, 1, none⟩ (.slice A3 n3 c3) = W3 at *
                obtain ⟨rfl, rfl, rfl⟩ := FNo.out HN.out
                obtain ⟨z1, z2, z3, z4⟩ := bx2 a1
                go_wp2
                refine bodyPost_ret (results_cell_tmp_row rfl _ _ w.heap.size 23 #[.int .i64 0, .int .i64 0] (0, 0) _ _ rfl (by first | exact a1 | exact blk_set2 a1 _ _) Tryd.underlying23 rfl (by kernel_rfl) rfl) rfl ?_
                exact ⟨rfl, by first | exact B0 | exact bl_set (bl_set B0 (Nat.le_refl _) _) (Nat.le_refl _) _⟩
              · have hdl : decide (0 < l2.length) = true := by cases l2 with | nil => exact absurd rfl hl2 | cons => simp
                rw [hdl]
                clear hdl
                go_upto_region 13 with (fail)
                replace a1 := U2.out
                replace B0 := U1.out.2.1
                replace R2 : NB _ g2 v3 A3 n3 c3 (dval l2 : Int) := ⟨U1.out.2.2, U1.out.1⟩
                replace R1 : NB _ g1 v1 A1 n1 c1 (dval l : Int) := ⟨U3.out, U4.out⟩
                clear U1 U2 U3 U4 f5 f6 f7 f8 t3
                generalize (w3.setCell ⟨g2, 0, none⟩ (.int .i64 v3)).setCell ⟨g2, 1, none⟩ (.slice A3 n3 c3) = W3 at *
                cases r2 with
                | cons d r2' =>
                  have HN : Hid (pz (body s.data.toList) = none) := Lib.hid (by rw [PZD.out]; rw [if_neg (fun k => absurd (DS.out.1 k.2.1).2 (by simp))])
                  obtain ⟨rfl, rfl, rfl⟩ := FNo.out HN.out
                  obtain ⟨z1, z2, z3, z4⟩ := bx2 a1
                  go_wp2
                  refine bodyPost_ret (results_cell_tmp_row rfl _ _ w.heap.size 23 #[.int .i64 0, .int .i64 0] (0, 0) _ _ rfl (by first | exact a1 | exact blk_set2 a1 _ _) Tryd.underlying23 rfl (by kernel_rfl) rfl) rfl ?_
                  exact ⟨rfl, by first | exact B0 | exact bl_set (bl_set B0 (Nat.le_refl _) _) (Nat.le_refl _) _⟩
                | nil =>
                  have HL2 : Hid (r' = l2) := Lib.hid (by rw [HLR2.out, List.append_nil])
                  obtain ⟨f5, f6, f7, f8⟩ := bx2 R2.1
                  go_wp2_with fail
                  refine (sign_calls v3 A3 n3 c3 _ _ R2.2).mono ?_
                  rintro e w4 ⟨rfl, hB4⟩
                  replace R1 := R1.below hB4
                  replace R2 := R2.below hB4
                  replace a1 := blk_below a1 hB4
                  replace B0 := bl_then B0 hB4
                  clear hB4 f5 f6 f7 f8
                  by_cases hv0 : dval l2 = 0
                  · have HN : Hid (pz (body s.data.toList) = none) := Lib.hid (by rw [PZD.out]; rw [if_neg (fun k => k.2.2 (by rw [HL2.out]; exact hv0))])
                    rw [hv0, show Int.sign ((0 : Nat) : Int) = 0 from rfl]
                    clear hv0
                    obtain ⟨rfl, rfl, rfl⟩ := FNo.out HN.out
                    obtain ⟨z1, z2, z3, z4⟩ := bx2 a1
                    go_wp2
                    refine bodyPost_ret (results_cell_tmp_row rfl _ _ w.heap.size 23 #[.int .i64 0, .int .i64 0] (0, 0) _ _ rfl (by first | exact a1 | exact blk_set2 a1 _ _) Tryd.underlying23 rfl (by kernel_rfl) rfl) rfl ?_
                    exact ⟨rfl, by first | exact B0 | exact bl_set (bl_set B0 (Nat.le_refl _) _) (Nat.le_refl _) _⟩
                  · have HQ : Hid (pz (body s.data.toList) = some (dval l, dval l2)) := Lib.hid (by rw [PZD.out]; rw [if_pos ⟨hc', DS.out.2 (by simp only [and_true]; exact hl2), by rw [HL2.out]; exact hv0⟩, HL2.out])
                    have HO : Hid (outT (Rat.divInt (-(dval l : Int)) (dval l2 : Int)) = oT ∧ outL (Rat.divInt (-(dval l : Int)) (dval l2 : Int)) = oL ∧ outE (Rat.divInt (-(dval l : Int)) (dval l2 : Int)) = oE) := Lib.hid (by
                      have h1 := FSo.out _ _ HQ.out (by rw [hsl]; exact hlong)
                      unfold psQ at h1
                      rw [NG.out] at h1
                      exact h1)
                    have hy0 : (dval l2 : Int) ≠ 0 := by omega
                    have hs1 : Int.sign (dval l2 : Int) = 1 := Int.sign_eq_one_of_pos (by omega)
                    rw [hs1]
                    have SX : Sz 2000 (-(dval l : Int)) := SZ1.neg
                    clear hs1 hv0 hl2 hc'
                    obtain ⟨f1, f2, f3, f4⟩ := bx2 R1.1
                    go_wp2_with fail
                    refine (neg_calls v1 A1 n1 c1 _ _ R1.2).mono ?_
                    rintro e w5 ⟨rfl, hB5⟩
                    replace R1 := R1.below hB5
                    replace R2 := R2.below hB5
                    replace a1 := blk_below a1 hB5
                    replace B0 := bl_then B0 hB5
                    clear hB5
                    have T5 : IntV w5 (-v1) A1 n1 c1 (-(dval l : Int)) := R1.2.neg
                    clear f1 f2 f3 f4
                    obtain ⟨f1, f2, f3, f4⟩ := bx2 R1.1
                    have U1 := Lib.hid (putInt T5 R1.1 B0 (Nat.le_of_lt g1h))
                    have U2 := Lib.hid (nd_far2 a1 (show w.heap.size ≠ g1 by omega) (.int .i64 (-v1)) (.slice A1 n1 c1))
                    have U3 := Lib.hid (nd_far2 R2.1 (show g2 ≠ g1 by omega) (.int .i64 (-v1)) (.slice A1 n1 c1))
                    have U4 := Lib.hid (R2.2.kp (((Kp.refl _ _).set (p := ⟨g1, 0, none⟩) R1.1 (by decide) (.int .i64 (-v1))).set (p := ⟨g1, 1, none⟩) (blk_set R1.1 0 _) (by decide) (.slice A1 n1 c1)))
                    go_upto_region 17 with (fail)
                    replace a1 := U2.out
                    replace B0 := U1.out.2.1
                    replace R2 : NB _ g2 v3 A3 n3 c3 (dval l2 : Int) := ⟨U3.out, U4.out⟩
                    replace R1 : NB _ g1 (-v1) A1 n1 c1 (-(dval l : Int)) := ⟨U1.out.2.2, U1.out.1⟩
                    clear U1 U2 U3 U4 f1 f2 f3 f4 T5
                    generalize (w5.setCell ⟨g1, 0, none⟩ (.int .i64 (-v1))).setCell ⟨g1, 1, none⟩ (.slice A1 n1 c1) = W5 at *
                    obtain ⟨f1, f2, f3, f4⟩ := bx2 R1.1
                    obtain ⟨f5, f6, f7, f8⟩ := bx2 R2.1
                    go_wp2_with fail
                    refine (ratio_calls (-v1) A1 n1 c1 (-(dval l : Int)) v3 A3 n3 c3 (dval l2 : Int) _ R1.2 R2.2 2000 SX (SZ2) (by omega) hy0).mono ?_
                    rintro e w6 ⟨⟨v6, A6, n6, c6, v6', A6', n6', c6', rfl, t6⟩, hB6⟩
                    replace a1 := blk_below a1 hB6
                    replace B0 := bl_then B0 hB6
                    clear hB6
                    go_wp2_with fail
                    refine (out_calls v6 A6 n6 c6 v6' A6' n6' c6' _ _ t6).mono ?_
                    rintro e w7 ⟨he, hB7⟩
                    rw [HO.out.1, HO.out.2.1, HO.out.2.2] at he
                    unfold NumR at he
                    subst he
                    replace a1 := blk_below a1 hB7
                    replace B0 := bl_then B0 hB7
                    clear hB7
                    clear f1 f2 f3 f4 f5 f6 f7 f8 R1 R2 t6
                    obtain ⟨z1, z2, z3, z4⟩ := bx2 a1
                    go_wp2
                    refine bodyPost_ret (results_cell_tmp_row rfl _ _ w.heap.size 23 #[.int .i64 oT, .int .i64 oL] (0, 0) _ _ rfl (by first | exact a1 | exact blk_set2 a1 _ _) Tryd.underlying23 rfl (by kernel_rfl) rfl) rfl ?_
                    exact ⟨rfl, by first | exact B0 | exact bl_set (bl_set B0 (Nat.le_refl _) _) (Nat.le_refl _) _⟩
            · have hx1 : (!rt.toList.isEmpty) = false ∨ (((rt[0]'h0r).toNat : Int) == 47) = false := by assumption
              have hx : (((rt[0]'h0r).toNat : Int) == 47) = false := by
                rcases hx1 with hx1 | hx1
                · simp at hx1; exact absurd hx1 (by have := hrn; simpa using this)
                · exact hx1
              have hc' : ¬ c'.toNat = 47 := by rw [← HR0.out] at hx; simp at hx; omega
              have HN : Hid (pz (body s.data.toList) = none) := Lib.hid (by rw [PZD.out]; rw [if_neg (fun k => hc' k.1)])
              obtain ⟨rfl, rfl, rfl⟩ := FNo.out HN.out
              refine bodyPost_ret (results_cell_tmp_row rfl _ _ w.heap.size 23 #[.int .i64 0, .int .i64 0] (0, 0) _ _ rfl (by first | exact a1 | exact blk_set2 a1 _ _) Tryd.underlying23 rfl (by kernel_rfl) rfl) rfl ?_
              exact ⟨rfl, by first | exact B0 | exact bl_set (bl_set B0 (Nat.le_refl _) _) (Nat.le_refl _) _⟩
      · have hx : (!s.toList.isEmpty) = false ∨ (((s[0]'h0s).toNat : Int) == 45) = false := by assumption
        generalize (((s[0]'h0s).toNat : Nat) : Int) = x0 at *
        have h45 : c.toNat ≠ 45 := by
          rcases hx with hx | hx
          · rw [Lib.toList_data, hL] at hx; simp at hx
          · rw [← HC0.out] at hx; simp at hx; omega
        obtain ⟨NG, hb⟩ := HBn.out h45
        clear hx h45 hne
        have B0 := bl_alloc (Below.refl w.heap.size w) (.cells #[.int .i64 0, .int .i64 0] 23)
        have a1 : (w.alloc (.cells #[.int .i64 0, .int .i64 0] 23)).heap[w.heap.size]? = some (.cells #[.int .i64 0, .int .i64 0] 23 (0, 0)) := blk_at _ rfl
        generalize w.alloc (.cells #[.int .i64 0, .int .i64 0] 23) = W0 at *
        replace NG := Lib.hid NG
        clear HB45 HBn HC0 hL
        refine (ndigits_calls s _ (by omega)).mono ?_
        rintro e w1 ⟨⟨l, r1, v1, A1, n1, c1, hlr, hd, hr, rfl, t1⟩, hB1⟩
        have hll := ba_len hlr
        rw [hb] at hlr
        have PZD := Lib.hid (pz_digits l r1 hd hr)
        rw [← hlr] at PZD
        clear hlr hr
        have g1h : w.heap.size < w1.heap.size := blk_lt (blk_below a1 hB1)
        replace a1 := blk_alloc (blk_below a1 hB1) (.cells #[.int .i64 v1, .slice A1 n1 c1] 38)
        replace B0 := bl_alloc (bl_then B0 hB1) (.cells #[.int .i64 v1, .slice A1 n1 c1] 38)
        clear hB1
        have R1 := NB.new w1 t1 rfl
        clear t1
        have SZ1 := dval_sz l hd 2000 (by omega)
        by_cases hl0 : l = []
        · have HN : Hid (pz (body s.data.toList) = none) := Lib.hid (by rw [PZD.out, if_pos hl0])
          subst hl0
          go_wp2_with fail
          generalize w1.alloc (.cells #[.int .i64 v1, .slice A1 n1 c1] 38) = W1 at *
          refine (of_calls 1 _ (by decide) (by decide)).mono ?_
          rintro e w2 ⟨v2, A2, n2, c2, rfl, t2, hB2⟩
          replace a1 := blk_alloc (blk_below a1 hB2) (.cells #[.int .i64 v2, .slice A2 n2 c2] 38)
          replace B0 := bl_alloc (bl_then B0 hB2) (.cells #[.int .i64 v2, .slice A2 n2 c2] 38)
          clear hB2
          go_upto_region 11 with (fail)
          generalize w2.alloc (.cells #[.int .i64 v2, .slice A2 n2 c2] 38) = W2 at *
          clear R1 t2
          obtain ⟨rfl, rfl, rfl⟩ := FNo.out HN.out
          obtain ⟨z1, z2, z3, z4⟩ := bx2 a1
          go_wp2
          refine bodyPost_ret (results_cell_tmp_row rfl _ _ w.heap.size 23 #[.int .i64 0, .int .i64 0] (0, 0) _ _ rfl (by first | exact a1 | exact blk_set2 a1 _ _) Tryd.underlying23 rfl (by kernel_rfl) rfl) rfl ?_
          exact ⟨rfl, by first | exact B0 | exact bl_set (bl_set B0 (Nat.le_refl _) _) (Nat.le_refl _) _⟩
        · have hdl : decide (0 < l.length) = true := by cases l with | nil => exact absurd rfl hl0 | cons => simp
          rw [if_neg hl0] at PZD
          rw [hdl]
          clear hdl
          generalize hg1 : w1.heap.size = g1 at *
          go_wp2_with fail
          generalize w1.alloc (.cells #[.int .i64 v1, .slice A1 n1 c1] 38) = W1 at *
          clear hg1
          refine (of_calls 1 _ (by decide) (by decide)).mono ?_
          rintro e w2 ⟨v2, A2, n2, c2, rfl, t2, hB2⟩
          have sz2 : g1 < w2.heap.size := blk_lt (R1.below hB2).1
          replace R1 := (R1.below hB2).alloc (.cells #[.int .i64 v2, .slice A2 n2 c2] 38)
          replace a1 := blk_alloc (blk_below a1 hB2) (.cells #[.int .i64 v2, .slice A2 n2 c2] 38)
          replace B0 := bl_alloc (bl_then B0 hB2) (.cells #[.int .i64 v2, .slice A2 n2 c2] 38)
          have R2 := NB.new w2 t2 rfl
          clear hB2 t2
          go_upto_region 11 with (fail)
          generalize hg2 : w2.heap.size = g2 at *
          generalize w2.alloc (.cells #[.int .i64 v2, .slice A2 n2 c2] 38) = W2 at *
          clear hg2
          have hsl : s.data.toList.length = s.size := rfl
          generalize hrt : (⟨r1.toArray⟩ : ByteArray) = rt at *
          have hrl : rt.data.toList = r1 := by rw [← hrt]
          clear hrt
          cases r1 with
          | nil =>
            have HQ : Hid (pz (body s.data.toList) = some (dval l, 1)) := Lib.hid PZD.out
            have HO : Hid (outT (Rat.divInt ((dval l : Int)) (1 : Int)) = oT ∧ outL (Rat.divInt ((dval l : Int)) (1 : Int)) = oL ∧ outE (Rat.divInt ((dval l : Int)) (1 : Int)) = oE) := Lib.hid (by
              have h1 := FSo.out _ _ HQ.out (by rw [hsl]; exact hlong)
              unfold psQ at h1
              rw [NG.out] at h1
              rw [show ((1 : Nat) : Int) = 1 from rfl] at h1
              exact h1)
            clear PZD
            have hE : rt.toList = [] := by rw [Lib.toList_data, hrl]
            have hy0 : (1 : Int) ≠ 0 := by decide
            have SX : Sz 2000 ((dval l : Int)) := SZ1
            clear hrl
            obtain ⟨f5, f6, f7, f8⟩ := bx2 R2.1
            go_wp2_with fail
            refine (sign_calls v2 A2 n2 c2 1 _ R2.2).mono ?_
            rintro e w3 ⟨rfl, hB3⟩
            replace R1 := R1.below hB3
            replace R2 := R2.below hB3
            replace a1 := blk_below a1 hB3
            replace B0 := bl_then B0 hB3
            clear hB3 f5 f6 f7 f8
            rw [show Int.sign 1 = 1 from rfl]
            obtain ⟨f1, f2, f3, f4⟩ := bx2 R1.1
            obtain ⟨f5, f6, f7, f8⟩ := bx2 R2.1
            go_wp2_with fail
            refine (ratio_calls v1 A1 n1 c1 ((dval l : Int)) v2 A2 n2 c2 1 _ R1.2 R2.2 2000 SX (Sz.small (by decide) (by decide) |>.mono (by omega)) (by omega) hy0).mono ?_
            rintro e w6 ⟨⟨v6, A6, n6, c6, v6', A6', n6', c6', rfl, t6⟩, hB6⟩
            replace a1 := blk_below a1 hB6
            replace B0 := bl_then B0 hB6
            clear hB6
            go_wp2_with fail
            refine (out_calls v6 A6 n6 c6 v6' A6' n6' c6' _ _ t6).mono ?_
            rintro e w7 ⟨he, hB7⟩
            rw [HO.out.1, HO.out.2.1, HO.out.2.2] at he
            unfold NumR at he
            subst he
            replace a1 := blk_below a1 hB7
            replace B0 := bl_then B0 hB7
            clear hB7
            clear f1 f2 f3 f4 f5 f6 f7 f8 R1 R2 t6
            obtain ⟨z1, z2, z3, z4⟩ := bx2 a1
            go_wp2
            refine bodyPost_ret (results_cell_tmp_row rfl _ _ w.heap.size 23 #[.int .i64 oT, .int .i64 oL] (0, 0) _ _ rfl (by first | exact a1 | exact blk_set2 a1 _ _) Tryd.underlying23 rfl (by kernel_rfl) rfl) rfl ?_
            exact ⟨rfl, by first | exact B0 | exact bl_set (bl_set B0 (Nat.le_refl _) _) (Nat.le_refl _) _⟩
          | cons c' r' =>
            have hrn : ¬ rt.toList = [] := by rw [Lib.toList_data, hrl]; simp
            have hlr1 := ba_len (l := []) hrl
            rw [List.length_cons, List.length_nil] at hlr1
            have h0r : 0 < rt.size := by omega
            rw [List.length_cons] at hll
            have HR0 : Hid ((c'.toNat : Int) = ((rt[0]'h0r).toNat : Int)) := Lib.hid (by rw [ba_get (l := []) hrl 0 rfl h0r])
            have HRX : Hid ((rt.extract 1 rt.size).data.toList = r' ∧ (rt.extract 1 rt.size).size ≤ 400) := Lib.hid ⟨by rw [ba_drop (l := [c']) (r := r') hrl 1 rfl], by rw [ByteArray.size_extract]; omega⟩
            clear hrl hlr1 hll
            obtain ⟨z1, z2, z3, z4⟩ := bx2 a1
            go_wp2_with fail
            · have hx1 : (!rt.toList.isEmpty) = true ∧ (((rt[0]'h0r).toNat : Int) == 47) = true := by assumption
              have hx := hx1.2
              clear hx1
              generalize (((rt[0]'h0r).toNat : Nat) : Int) = y0 at *
              have hc' : c'.toNat = 47 := by rw [← HR0.out] at hx; simp at hx; omega
              generalize rt.extract 1 rt.size = ry at *
              obtain ⟨hry, hrs⟩ := HRX.out
              clear HRX HR0 hx hrn z1 z2 z3 z4
              refine (ndigits_calls ry _ (by omega)).mono ?_
              rintro e w3 ⟨⟨l2, r2, v3, A3, n3, c3, hlr2, hd2, hr2, rfl, t3⟩, hB3⟩
              have hll2 := ba_len hlr2
              rw [hry] at hlr2
              have DS := Lib.hid (ds_split hlr2 hd2 hr2)
              have SZ2 := dval_sz l2 hd2 2000 (by omega)
              have HLR2 := Lib.hid hlr2
              clear hry hlr2 hll2 hr2 hd2
              replace R1 := R1.below hB3
              replace R2 := R2.below hB3
              replace a1 := blk_below a1 hB3
              replace B0 := bl_then B0 hB3
              clear hB3
              obtain ⟨f5, f6, f7, f8⟩ := bx2 R2.1
              have U1 := Lib.hid (putInt t3 R2.1 B0 (by omega))
              have U2 := Lib.hid (nd_far2 a1 (show w.heap.size ≠ g2 by omega) (.int .i64 v3) (.slice A3 n3 c3))
              have U3 := Lib.hid (nd_far2 R1.1 (show g1 ≠ g2 by omega) (.int .i64 v3) (.slice A3 n3 c3))
              have U4 := Lib.hid (R1.2.kp (((Kp.refl _ _).set (p := ⟨g2, 0, none⟩) R2.1 (by decide) (.int .i64 v3)).set (p := ⟨g2, 1, none⟩) (blk_set R2.1 0 _) (by decide) (.slice A3 n3 c3)))
              by_cases hl2 : l2 = []
              · have HN : Hid (pz (body s.data.toList) = none) := Lib.hid (by rw [PZD.out]; rw [if_neg (fun k => (DS.out.1 k.2.1).1 hl2)])
                subst hl2
                go_upto_region 13 with (fail)
                replace a1 := U2.out
                replace B0 := U1.out.2.1
                clear U1 U2 U3 U4 f5 f6 f7 f8 R1 R2 t3
                generalize (w3.setCell ⟨g2, 0, none⟩ (.int .i64 v3)).setCell ⟨g2, 1, none⟩ (.slice A3 n3 c3) = W3 at *
                obtain ⟨rfl, rfl, rfl⟩ := FNo.out HN.out
                obtain ⟨z1, z2, z3, z4⟩ := bx2 a1
                go_wp2
                refine bodyPost_ret (results_cell_tmp_row rfl _ _ w.heap.size 23 #[.int .i64 0, .int .i64 0] (0, 0) _ _ rfl (by first | exact a1 | exact blk_set2 a1 _ _) Tryd.underlying23 rfl (by kernel_rfl) rfl) rfl ?_
                exact ⟨rfl, by first | exact B0 | exact bl_set (bl_set B0 (Nat.le_refl _) _) (Nat.le_refl _) _⟩
              · have hdl : decide (0 < l2.length) = true := by cases l2 with | nil => exact absurd rfl hl2 | cons => simp
                rw [hdl]
                clear hdl
                go_upto_region 13 with (fail)
                replace a1 := U2.out
                replace B0 := U1.out.2.1
                replace R2 : NB _ g2 v3 A3 n3 c3 (dval l2 : Int) := ⟨U1.out.2.2, U1.out.1⟩
                replace R1 : NB _ g1 v1 A1 n1 c1 (dval l : Int) := ⟨U3.out, U4.out⟩
                clear U1 U2 U3 U4 f5 f6 f7 f8 t3
                generalize (w3.setCell ⟨g2, 0, none⟩ (.int .i64 v3)).setCell ⟨g2, 1, none⟩ (.slice A3 n3 c3) = W3 at *
                cases r2 with
                | cons d r2' =>
                  have HN : Hid (pz (body s.data.toList) = none) := Lib.hid (by rw [PZD.out]; rw [if_neg (fun k => absurd (DS.out.1 k.2.1).2 (by simp))])
                  obtain ⟨rfl, rfl, rfl⟩ := FNo.out HN.out
                  obtain ⟨z1, z2, z3, z4⟩ := bx2 a1
                  go_wp2
                  refine bodyPost_ret (results_cell_tmp_row rfl _ _ w.heap.size 23 #[.int .i64 0, .int .i64 0] (0, 0) _ _ rfl (by first | exact a1 | exact blk_set2 a1 _ _) Tryd.underlying23 rfl (by kernel_rfl) rfl) rfl ?_
                  exact ⟨rfl, by first | exact B0 | exact bl_set (bl_set B0 (Nat.le_refl _) _) (Nat.le_refl _) _⟩
                | nil =>
                  have HL2 : Hid (r' = l2) := Lib.hid (by rw [HLR2.out, List.append_nil])
                  obtain ⟨f5, f6, f7, f8⟩ := bx2 R2.1
                  go_wp2_with fail
                  refine (sign_calls v3 A3 n3 c3 _ _ R2.2).mono ?_
                  rintro e w4 ⟨rfl, hB4⟩
                  replace R1 := R1.below hB4
                  replace R2 := R2.below hB4
                  replace a1 := blk_below a1 hB4
                  replace B0 := bl_then B0 hB4
                  clear hB4 f5 f6 f7 f8
                  by_cases hv0 : dval l2 = 0
                  · have HN : Hid (pz (body s.data.toList) = none) := Lib.hid (by rw [PZD.out]; rw [if_neg (fun k => k.2.2 (by rw [HL2.out]; exact hv0))])
                    rw [hv0, show Int.sign ((0 : Nat) : Int) = 0 from rfl]
                    clear hv0
                    obtain ⟨rfl, rfl, rfl⟩ := FNo.out HN.out
                    obtain ⟨z1, z2, z3, z4⟩ := bx2 a1
                    go_wp2
                    refine bodyPost_ret (results_cell_tmp_row rfl _ _ w.heap.size 23 #[.int .i64 0, .int .i64 0] (0, 0) _ _ rfl (by first | exact a1 | exact blk_set2 a1 _ _) Tryd.underlying23 rfl (by kernel_rfl) rfl) rfl ?_
                    exact ⟨rfl, by first | exact B0 | exact bl_set (bl_set B0 (Nat.le_refl _) _) (Nat.le_refl _) _⟩
                  · have HQ : Hid (pz (body s.data.toList) = some (dval l, dval l2)) := Lib.hid (by rw [PZD.out]; rw [if_pos ⟨hc', DS.out.2 (by simp only [and_true]; exact hl2), by rw [HL2.out]; exact hv0⟩, HL2.out])
                    have HO : Hid (outT (Rat.divInt ((dval l : Int)) (dval l2 : Int)) = oT ∧ outL (Rat.divInt ((dval l : Int)) (dval l2 : Int)) = oL ∧ outE (Rat.divInt ((dval l : Int)) (dval l2 : Int)) = oE) := Lib.hid (by
                      have h1 := FSo.out _ _ HQ.out (by rw [hsl]; exact hlong)
                      unfold psQ at h1
                      rw [NG.out] at h1
                      exact h1)
                    have hy0 : (dval l2 : Int) ≠ 0 := by omega
                    have hs1 : Int.sign (dval l2 : Int) = 1 := Int.sign_eq_one_of_pos (by omega)
                    rw [hs1]
                    have SX : Sz 2000 ((dval l : Int)) := SZ1
                    clear hs1 hv0 hl2 hc'
                    obtain ⟨f1, f2, f3, f4⟩ := bx2 R1.1
                    obtain ⟨f5, f6, f7, f8⟩ := bx2 R2.1
                    go_wp2_with fail
                    refine (ratio_calls v1 A1 n1 c1 ((dval l : Int)) v3 A3 n3 c3 (dval l2 : Int) _ R1.2 R2.2 2000 SX (SZ2) (by omega) hy0).mono ?_
                    rintro e w6 ⟨⟨v6, A6, n6, c6, v6', A6', n6', c6', rfl, t6⟩, hB6⟩
                    replace a1 := blk_below a1 hB6
                    replace B0 := bl_then B0 hB6
                    clear hB6
                    go_wp2_with fail
                    refine (out_calls v6 A6 n6 c6 v6' A6' n6' c6' _ _ t6).mono ?_
                    rintro e w7 ⟨he, hB7⟩
                    rw [HO.out.1, HO.out.2.1, HO.out.2.2] at he
                    unfold NumR at he
                    subst he
                    replace a1 := blk_below a1 hB7
                    replace B0 := bl_then B0 hB7
                    clear hB7
                    clear f1 f2 f3 f4 f5 f6 f7 f8 R1 R2 t6
                    obtain ⟨z1, z2, z3, z4⟩ := bx2 a1
                    go_wp2
                    refine bodyPost_ret (results_cell_tmp_row rfl _ _ w.heap.size 23 #[.int .i64 oT, .int .i64 oL] (0, 0) _ _ rfl (by first | exact a1 | exact blk_set2 a1 _ _) Tryd.underlying23 rfl (by kernel_rfl) rfl) rfl ?_
                    exact ⟨rfl, by first | exact B0 | exact bl_set (bl_set B0 (Nat.le_refl _) _) (Nat.le_refl _) _⟩
            · have hx1 : (!rt.toList.isEmpty) = false ∨ (((rt[0]'h0r).toNat : Int) == 47) = false := by assumption
              have hx : (((rt[0]'h0r).toNat : Int) == 47) = false := by
                rcases hx1 with hx1 | hx1
                · simp at hx1; exact absurd hx1 (by have := hrn; simpa using this)
                · exact hx1
              have hc' : ¬ c'.toNat = 47 := by rw [← HR0.out] at hx; simp at hx; omega
              have HN : Hid (pz (body s.data.toList) = none) := Lib.hid (by rw [PZD.out]; rw [if_neg (fun k => hc' k.1)])
              obtain ⟨rfl, rfl, rfl⟩ := FNo.out HN.out
              refine bodyPost_ret (results_cell_tmp_row rfl _ _ w.heap.size 23 #[.int .i64 0, .int .i64 0] (0, 0) _ _ rfl (by first | exact a1 | exact blk_set2 a1 _ _) Tryd.underlying23 rfl (by kernel_rfl) rfl) rfl ?_
              exact ⟨rfl, by first | exact B0 | exact bl_set (bl_set B0 (Nat.le_refl _) _) (Nat.le_refl _) _⟩

end Go.Proofs.YtmeldkceajnobaaDoor
