/- reference: Digits. reference: Write, Print. reference: Long. reference: Parse. NumTexts: the walk. -/
import Derived.Test.YtmeldkceajnobaaDoorTxtA
import Derived.Test.YtmeldkceajnobaaDoorRef12
import Derived.Test.YtmeldkceajnobaaDoorRef8
import Derived.Test.YtmeldkceajnobaaDoorTxtB
import Derived.Test.YtmeldkceajnobaaDoorNum6
set_option linter.unusedVariables false
set_option linter.unusedSimpArgs false
namespace Go.Proofs.YtmeldkceajnobaaDoor
open Go.RowKit

theorem dec_small (n : Nat) (h : n < 10) : Lib.decDigits n = [UInt8.ofNat (48 + n)] := Lib.decDigits_one h
theorem dec_big (n : Nat) (h : ¬ n < 10) : Lib.decDigits n = Lib.decDigits (n / 10) ++ [UInt8.ofNat (48 + n % 10)] := by rw [Lib.decDigits, dif_neg h]
theorem dec_len (n : Nat) (h : n ≤ 4611686018427387904) : (Lib.decDigits n).length ≤ 21 := by
  have := Lib.itoa_length_le (n : Int) (by omega) (by omega)
  rwa [show Lib.itoa (n : Int) = Lib.decDigits n by unfold Lib.itoa; rw [if_neg (by omega), Int.toNat_natCast]] at this
theorem conv1 (W : World) (d : Int) (u : Nat) (hd : d = 48 + (u : Int)) (hu : u < 10) :
    (convert 83 9 (.slice (some ⟨W.heap.size, 0, none⟩) 1 1)).run Tryd.prog (W.alloc (.cells #[.int .u8 d] 5)) = .ok (.string ⟨#[UInt8.ofNat (48 + u)]⟩) (W.alloc (.cells #[.int .u8 d] 5)) := by
  have h := run_convert_bytes_back (P := Tryd.prog) (W.alloc (.cells #[.int .u8 d] 5)) 83 9 5 ⟨W.heap.size, 0, none⟩ 1 [UInt8.ofNat (48 + u)] Tryd.underlying83 Tryd.underlying5 Tryd.underlying9 (fun j hj => by
    have : j = 0 := by simp at hj; omega
    subst this
    have hb : (W.alloc (.cells #[.int .u8 d] 5)).heap[W.heap.size]? = some (.cells #[.int .u8 d] 5 (0, 0)) := blk_at _ rfl
    have h1 : (W.alloc (.cells #[.int .u8 d] 5)).cell? ⟨W.heap.size, 0, none⟩ = some (.int .u8 d) := by
      rw [World.cell?_alloc_at _ _ _ _ (by simp)]; rfl
    show (W.alloc (.cells #[.int .u8 d] 5)).cell? ⟨W.heap.size, 0, none⟩ = _
    rw [h1, hd]
    simp only [List.getElem_cons_zero]
    rw [(Dg_ofNat u hu).2]
    simp)
  exact h

set_option maxHeartbeats 40000000 in
set_option maxRecDepth 100000 in
theorem rdigits_pos (m : Nat) : ∀ (n : Nat) (w : World), n < m → n ≤ 4611686018427387904 →
    Calls Tryd.prog 40 #[.int .i64 n] w fun e w' => e = .returned (.string ⟨(Lib.decDigits n).toArray⟩) ∧ Below w.heap.size w w' := by
  induction m with
  | zero =>
    intro n w hn _
    omega
  | succ m ih =>
    intro n w hn hn2
    have q0 := conv1 w (48 + (n : Int) % 10) (n % 10) (by omega) (by omega)
    generalize hsb : (⟨#[UInt8.ofNat (48 + n % 10)]⟩ : ByteArray) = sb at *
    have h0 : ¬ (n : Int) < 0 := by omega
    have hn2' : (n : Int) ≤ 4611686018427387904 := by omega
    have B0 := bl_alloc (Below.refl w.heap.size w) (.cells #[.int .u8 (48 + (n : Int) % 10)] 5)
    by_cases hs : n < 10
    · have hi : (n : Int) < 10 := by omega
      have E : Hid ((⟨(Lib.decDigits n).toArray⟩ : ByteArray) = sb) := Lib.hid (by rw [dec_small n hs, ← hsb, show n % 10 = n by omega])
      clear hs ih hsb
      go_enter Tryd.func40, Tryd.ntmps40
      go_wp2
      go_ret
      exact ⟨by rw [E.out]; rfl, B0⟩
    · have hi : ¬ (n : Int) < 10 := by omega
      have hz : sb.size = 1 := by rw [← hsb]; rfl
      have E : Hid ((⟨(Lib.decDigits n).toArray⟩ : ByteArray) = (⟨(Lib.decDigits (n / 10)).toArray⟩ : ByteArray) ++ sb) := Lib.hid (by rw [dec_big n hs, ← ba_app, ← hsb])
      have HQ := Lib.hid (show (n : Int) / 10 = ((n / 10 : Nat) : Int) by omega)
      have L1 := dec_len (n / 10) (by omega)
      have x1 : ¬ 9223372036854775807 < (Lib.decDigits (n / 10)).length + 1 := by omega
      have x2 : ¬ 9223372036854775807 < (Lib.decDigits (n / 10)).length + sb.size := by omega
      have hlt : n / 10 < m := by omega
      have hle : n / 10 ≤ 4611686018427387904 := by omega
      clear L1 hsb hs hn hn2
      go_enter Tryd.func40, Tryd.ntmps40
      go_wp2_with fail
      rw [HQ.out]
      refine (ih (n / 10) _ hlt hle).mono ?_
      rintro e w1 ⟨rfl, hB1⟩
      replace B0 := bl_then B0 hB1
      clear hB1 ih
      go_wp2
      go_ret
      exact ⟨by rw [E.out]; rfl, B0⟩

set_option maxHeartbeats 40000000 in
set_option maxRecDepth 100000 in
theorem rdigits_calls (n : Int) (w : World) (h0 : -4611686018427387904 ≤ n) (h1 : n ≤ 4611686018427387904) :
    Calls Tryd.prog 40 #[.int .i64 n] w fun e w' => e = .returned (.string ⟨(Lib.itoa n).toArray⟩) ∧ Below w.heap.size w w' := by
  by_cases hn : n < 0
  · have E : Hid ((⟨(Lib.itoa n).toArray⟩ : ByteArray) = (⟨#[45]⟩ : ByteArray) ++ (⟨(Lib.decDigits n.natAbs).toArray⟩ : ByteArray)) := Lib.hid (by
      rw [itoa_min n hn]
      exact (ba_app [45] _).symm)
    have L1 := dec_len n.natAbs (by omega)
    have x1 : ¬ 9223372036854775807 < 1 + (Lib.decDigits n.natAbs).length := by omega
    have HN := Lib.hid (show -n = ((n.natAbs : Nat) : Int) by omega)
    have hle : n.natAbs ≤ 4611686018427387904 := by omega
    clear L1
    go_enter Tryd.func40, Tryd.ntmps40
    go_wp2_with fail
    rw [HN.out]
    refine (rdigits_pos _ n.natAbs _ (Nat.lt_succ_self _) hle).mono ?_
    rintro e w1 ⟨rfl, hB1⟩
    go_wp2
    go_ret
    exact ⟨by rw [E.out]; rfl, hB1⟩
  · have h := rdigits_pos _ n.toNat w (Nat.lt_succ_self _) (by omega)
    rw [show ((n.toNat : Nat) : Int) = n by omega] at h
    rw [itoa_pos n (by omega)]
    exact h
end Go.Proofs.YtmeldkceajnobaaDoor

namespace Go.Proofs.YtmeldkceajnobaaDoor
open Go.RowKit

set_option maxHeartbeats 40000000 in
set_option maxRecDepth 100000 in
theorem rwrite_calls (t l : Int) (w : World) (h0 : -4611686018427387904 ≤ t) (h1 : t ≤ 4611686018427387904) (h2 : -4611686018427387904 ≤ l) (h3 : l ≤ 4611686018427387904) :
    Calls Tryd.prog 14 #[.agg #[.int .i64 t, .int .i64 l]] w fun e w' => e = .returned (.string ⟨(prS t l).toArray⟩) ∧ Below w.heap.size w w' := by
  by_cases hl : l = 1
  · have E : Hid (prS t l = Lib.itoa t) := Lib.hid (by unfold prS; rw [if_pos hl])
    generalize prS t l = oS at *
    subst hl
    go_enter Tryd.func14, Tryd.ntmps14
    go_upto_region 1 with (fail)
    have B0 := bl_alloc (Below.refl w.heap.size w) (.cells #[.int .i64 t, .int .i64 1] 23)
    have a1 : (w.alloc (.cells #[.int .i64 t, .int .i64 1] 23)).heap[w.heap.size]? = some (.cells #[.int .i64 t, .int .i64 1] 23 (0, 0)) := blk_at _ rfl
    generalize w.alloc (.cells #[.int .i64 t, .int .i64 1] 23) = W0 at *
    obtain ⟨p1, p2, p3, p4⟩ := bx2 a1
    go_wp2_with fail
    refine (rdigits_calls t _ h0 h1).mono ?_
    rintro e w1 ⟨rfl, hB1⟩
    replace B0 := bl_then B0 hB1
    go_wp2
    go_ret
    exact ⟨by rw [E.out]; rfl, B0⟩
  · have E : Hid ((⟨(prS t l).toArray⟩ : ByteArray) = (⟨(Lib.itoa t).toArray⟩ : ByteArray) ++ (⟨#[47]⟩ : ByteArray) ++ (⟨(Lib.itoa l).toArray⟩ : ByteArray)) := Lib.hid (by
      unfold prS
      rw [if_neg hl, show Lib.itoa t ++ 47 :: Lib.itoa l = (Lib.itoa t ++ [47]) ++ Lib.itoa l by simp, ← ba_app, ← ba_app])
    generalize (⟨(prS t l).toArray⟩ : ByteArray) = oS at *
    have he : (l == 1) = false := by simpa using hl
    have L1 := Lib.itoa_length_le l (by omega) (by omega)
    have L2 := Lib.itoa_length_le t (by omega) (by omega)
    have x1 : ¬ 9223372036854775807 < (Lib.itoa t).length + 1 := by omega
    have x2 : ¬ 9223372036854775807 < (Lib.itoa t).length + 1 + (Lib.itoa l).length := by omega
    clear L1 L2
    go_enter Tryd.func14, Tryd.ntmps14
    go_upto_region 1 with (fail)
    have B0 := bl_alloc (Below.refl w.heap.size w) (.cells #[.int .i64 t, .int .i64 l] 23)
    have a1 : (w.alloc (.cells #[.int .i64 t, .int .i64 l] 23)).heap[w.heap.size]? = some (.cells #[.int .i64 t, .int .i64 l] 23 (0, 0)) := blk_at _ rfl
    generalize w.alloc (.cells #[.int .i64 t, .int .i64 l] 23) = W0 at *
    obtain ⟨p1, p2, p3, p4⟩ := bx2 a1
    go_upto_region 3 with (fail)
    go_region_held3 (fun W => W.cell? ⟨w.heap.size, 0, none⟩ = some (Value.int .i64 t) ∧ W.cell? ⟨w.heap.size, 1, none⟩ = some (Value.int .i64 l)) (first | with_reducible exact P2 | with_reducible exact P1 | exact ⟨p1, p2⟩ | go_keep) (first
      | (have _hh := HB_1; go_at_call_of 40 (Value.int .i64 l); refine (rdigits_calls l _ h2 h3).mono ?_; rintro e w2 ⟨rfl, hB2⟩; have a1_2 := blk_below a1_1 hB2; have HB_2 := bl_then HB_1 hB2; have P2 := cx2 a1_2)
      | (go_at_call_of 40 (Value.int .i64 t); refine (rdigits_calls t _ h0 h1).mono ?_; rintro e w1 ⟨rfl, hB1⟩; have a1_1 := (by first | exact blk_below a1 hB1 | exact blk_below (blk_drew a1) hB1); have HB_1 := (by first | exact bl_then B0 hB1 | exact bl_then (bl_drew B0) hB1); have P1 := cx2 a1_1)
      | fail)
    all_goals
      go_wp2
      go_ret
      exact ⟨by rw [E.out]; rfl, HB_2⟩

set_option maxHeartbeats 40000000 in
set_option maxRecDepth 100000 in
theorem rprint_calls (t l : Int) (w : World) (h0 : -9223372036854775808 ≤ t) (h1 : t ≤ 9223372036854775807) (h2 : -9223372036854775808 ≤ l) (h3 : l ≤ 9223372036854775807) :
    Calls Tryd.prog 6 #[.agg #[.int .i64 t, .int .i64 l]] w fun e w' => e = .returned (.tuple #[.string ⟨(prT t l).toArray⟩, .int .i64 (prE t l)]) ∧ Below w.heap.size w w' := by
  unfold prT prE
  by_cases hv : OkN t l
  · rw [if_pos hv, if_pos hv]
    have hb := hv
    unfold OkN at hb
    have b0 : -4611686018427387904 ≤ t ∧ t ≤ 4611686018427387904 ∧ -4611686018427387904 ≤ l ∧ l ≤ 4611686018427387904 := by omega
    clear hb
    replace hv := Lib.hid hv
    go_enter Tryd.func6, Tryd.ntmps6
    go_wp2_with fail
    have B0 := bl_alloc (Below.refl w.heap.size w) (.cells #[.int .i64 t, .int .i64 l] 23)
    have a1 : (w.alloc (.cells #[.int .i64 t, .int .i64 l] 23)).heap[w.heap.size]? = some (.cells #[.int .i64 t, .int .i64 l] 23 (0, 0)) := blk_at _ rfl
    generalize w.alloc (.cells #[.int .i64 t, .int .i64 l] 23) = W0 at *
    refine (rvalid_calls t l _ h0 h1 h2 h3).mono ?_
    rintro e w1 ⟨rfl, hB1⟩
    rw [decide_eq_true hv.out]
    replace a1 := blk_below a1 hB1
    replace B0 := bl_then B0 hB1
    clear hB1
    obtain ⟨p1, p2, p3, p4⟩ := bx2 a1
    go_wp2_with fail
    refine (rwrite_calls t l _ b0.1 b0.2.1 b0.2.2.1 b0.2.2.2).mono ?_
    rintro e w2 ⟨rfl, hB2⟩
    replace B0 := bl_then B0 hB2
    generalize hS : (⟨(prS t l).toArray⟩ : ByteArray) = oS at *
    replace hS := Lib.hid hS
    clear hB2 p1 p2 p3 p4 a1
    go_wp2
    go_ret2
    exact ⟨by rw [hS.out]; rfl, B0⟩
  · rw [if_neg hv, if_neg hv]
    have hd : decide (OkN t l) = false := decide_eq_false hv
    clear hv
    go_enter Tryd.func6, Tryd.ntmps6
    go_wp2_with fail
    have B0 := bl_alloc (Below.refl w.heap.size w) (.cells #[.int .i64 t, .int .i64 l] 23)
    have a1 : (w.alloc (.cells #[.int .i64 t, .int .i64 l] 23)).heap[w.heap.size]? = some (.cells #[.int .i64 t, .int .i64 l] 23 (0, 0)) := blk_at _ rfl
    generalize w.alloc (.cells #[.int .i64 t, .int .i64 l] 23) = W0 at *
    refine (rvalid_calls t l _ h0 h1 h2 h3).mono ?_
    rintro e w1 ⟨rfl, hB1⟩
    rw [hd]
    replace B0 := bl_then B0 hB1
    clear hB1 hd a1
    go_wp2
    go_ret2
    exact ⟨rfl, B0⟩
end Go.Proofs.YtmeldkceajnobaaDoor

namespace Go.Proofs.YtmeldkceajnobaaDoor
open Go.RowKit

/-- A box of an integer of the reference. -/
def MB (w : World) (g : Nat) (s : Int) (b : Bool) (A : Option Addr) (n c : Nat) (x : Int) : Prop := w.heap[g]? = some (.cells #[.int .i64 s, .bool b, .slice A n c] 50 (0, 0)) ∧ RV w s b A n c x
section
variable {w w' : World} {g k : Nat} {s : Int} {b : Bool} {A : Option Addr} {n c : Nat} {x : Int}
theorem MB.val (h : MB w g s b A n c x) : RV w s b A n c x := h.2
theorem MB.s3 (h : MB w g s b A n c x) : w.cell? ⟨g, 0, none⟩ = some (.int .i64 s) ∧ w.cell? ⟨g, 1, none⟩ = some (.bool b) ∧ w.cell? ⟨g, 2, none⟩ = some (.slice A n c) := cx3 h.1
theorem MB.below (h : MB w g s b A n c x) (hb : Below w.heap.size w w') : MB w' g s b A n c x := ⟨blk_below h.1 hb, h.2.below hb⟩
theorem MB.alloc (h : MB w g s b A n c x) (o : Obj) : MB (w.alloc o) g s b A n c x := ⟨blk_alloc h.1 o, h.2.kp ((Kp.refl _ _).alloc o)⟩
theorem MB.drew (h : MB w g s b A n c x) : MB w.drew g s b A n c x := ⟨h.1, h.2.kp (Kp.refl _ _).drew⟩
theorem MB.new (W : World) (h : RV W s b A n c x) (hg : g = W.heap.size) : MB (W.alloc (.cells #[.int .i64 s, .bool b, .slice A n c] 50)) g s b A n c x := ⟨blk_at _ hg, h.kp ((Kp.refl _ _).alloc _)⟩
end
/-- What Long hands back. -/
def LngR (l : List UInt8) (e : Ending) (w : World) : Prop := ∃ (s : Int) (b : Bool) (A : Option Addr) (n c : Nat) (x : Int), e = .returned (.tuple #[.agg #[.int .i64 s, .bool b, .slice A n c], .bool (decide (Ds l))]) ∧ RV w s b A n c x ∧ (Ds l → x = (dval l : Int))

set_option maxHeartbeats 40000000 in
set_option maxRecDepth 100000 in
theorem rlong_calls (s : ByteArray) (w : World) (hs : s.size ≤ 500) :
    Calls Tryd.prog 22 #[.string s] w fun e w' => LngR s.data.toList e w' ∧ Below w.heap.size w w' := by
  go_enter Tryd.func22, Tryd.ntmps22
  go_wp2_with fail
  have B0 := bl_alloc (Below.refl w.heap.size w) (.cells #[.int .i64 0, .bool false, .slice none 0 0] 50)
  have a1 : (w.alloc (.cells #[.int .i64 0, .bool false, .slice none 0 0] 50)).heap[w.heap.size]? = some (.cells #[.int .i64 0, .bool false, .slice none 0 0] 50 (0, 0)) := blk_at _ rfl
  generalize w.alloc (.cells #[.int .i64 0, .bool false, .slice none 0 0] 50) = W0 at *
  refine (rof_calls 0 _ (by decide) (by decide)).mono ?_
  rintro e w1 ⟨⟨s9, b9, A9, n9, c9, rfl, t0⟩, hB1⟩
  have hgw : w.heap.size < w1.heap.size := blk_lt (blk_below a1 hB1)
  replace a1 := blk_alloc (blk_below a1 hB1) (.cells #[.int .i64 s9, .bool b9, .slice A9 n9 c9] 50)
  replace B0 := bl_alloc (bl_then B0 hB1) (.cells #[.int .i64 s9, .bool b9, .slice A9 n9 c9] 50)
  have R5 : MB (w1.alloc (.cells #[.int .i64 s9, .bool b9, .slice A9 n9 c9] 50)) w1.heap.size s9 b9 A9 n9 c9 (dval [] : Int) := MB.new w1 t0 rfl
  clear hB1 t0
  go_upto_region 2 with (fail)
  generalize hgs : w1.heap.size = gs at *
  generalize w1.alloc (.cells #[.int .i64 s9, .bool b9, .slice A9 n9 c9] 50) = W1 at *
  clear hgs
  go_wp2_with fail
  go_loopw [5] (fun i wr => ∃ (l r : List UInt8) (s8 : Int) (b8 : Bool) (A8 : Option Addr) (n8 c8 : Nat), s.data.toList = l ++ r ∧ (∀ b ∈ l, Dg b) ∧ i = .int .i64 (l.length : Nat) ∧ MB wr gs s8 b8 A8 n8 c8 ((dval l : Int)) ∧ wr.heap[w.heap.size]? = some (.cells #[.int .i64 0, .bool false, .slice none 0 0] 50 (0, 0)) ∧ Below w.heap.size w wr) (fun i _ => s.size - (intOf i).toNat)
  case atStart => exact ⟨[], s.data.toList, s9, b9, A9, n9, c9, rfl, by simp, rfl, R5, a1, B0⟩
  case round =>
    clear R5 a1 B0
    obtain ⟨l, r, s8, b8, A8, n8, c8, hlr, hd, rfl, R5, a1, B0⟩ := hrel
    have hlen := ba_len hlr
    have HD := Lib.hid hd
    clear hd
    cases r with
    | nil =>
      rw [List.append_nil] at hlr
      have HLR := Lib.hid hlr
      have hnl : ¬ (l.length : Int) < (s.size : Int) := by rw [List.length_nil] at hlen; omega
      have HB : Hid ((!s.toList.isEmpty) = decide (Ds s.data.toList)) := Lib.hid (by
        rw [Lib.toList_data, hlr]
        cases l with
        | nil => simp [Ds]
        | cons a b => rw [decide_eq_true (show Ds (a :: b) from ⟨by simp, HD.out⟩)]; rfl)
      clear hlr
      obtain ⟨⟨y1, y2, y3⟩, y4, y5, y6⟩ := bx3 R5.1
      obtain ⟨⟨z1, z2, z3⟩, z4, z5, z6⟩ := bx3 a1
      have U1 := Lib.hid (putR R5.2 a1 B0 (Nat.le_refl _))
      go_wp2
      refine bodyPost_ret (results_cell_tmp_row rfl _ _ w.heap.size 50 #[.int .i64 s8, .bool b8, .slice A8 n8 c8] (0, 0) _ _ rfl U1.out.2.2 Tryd.underlying50 rfl (by kernel_rfl) rfl) rfl ?_
      exact ⟨⟨s8, b8, A8, n8, c8, (dval l : Int), by rw [← HB.out]; rfl, U1.out.1, fun _ => by rw [HLR.out]⟩, U1.out.2.1⟩
    | cons c r =>
      have hls : (l.length : Int) < (s.size : Int) := by rw [List.length_cons] at hlen; omega
      have q0 : ∀ W, (Instr.index 9 (.string s) (.int .i64 (l.length : Nat))).run Tryd.prog W = .ok (.int .u8 (c.toNat : Nat)) W := fun W => idx_str Tryd.underlying9 hlr W
      have HLR := Lib.hid hlr
      clear hlr
      have hc256 : (c.toNat : Int) < 256 := by have := c.toNat_lt; omega
      have hc0 : (0 : Int) ≤ (c.toNat : Int) := by omega
      by_cases hc : Dg c
      · have DV := Lib.hid (dval_snoc l c hc.1)
        have hl1 : l.length ≤ 500 := by omega
        have SL := dval_sz l HD.out 4000 (by omega)
        have SD : Sz 9000 ((c.toNat : Int) - 48) := (Sz.small (by unfold Dg at hc; omega) (by unfold Dg at hc; omega)).mono (by omega)
        have SM : Sz 9000 ((dval l : Int) * 10) := (SL.mul (Sz.small (x := 10) (by decide) (by decide))).mono (by omega)
        have HDC := Lib.hid (all_snoc HD.out hc)
        have HLR' := Lib.hid (show s.data.toList = (l ++ [c]) ++ r by rw [HLR.out]; simp)
        have h48 : (48 : Int) ≤ (c.toNat : Int) := by unfold Dg at hc; omega
        have h57 : (c.toNat : Int) ≤ 57 := by unfold Dg at hc; omega
        have hl0 : (0 : Int) ≤ (l.length : Int) := by omega
        have hl5 : (l.length : Int) < 1000 := by omega
        clear hc
        generalize hcz : (c.toNat : Int) = cz at *
        have HCZ := Lib.hid hcz
        obtain ⟨dg, hdg⟩ : ∃ d, d = cz - 48 := ⟨_, rfl⟩
        have WR : Hid (IntKind.i64.wrap (IntKind.u8.wrap (cz - 48)) = dg) := Lib.hid (by rw [IntKind.wrap_u8, IntKind.wrap_i64]; omega)
        rw [← hdg] at DV SD
        have hd0 : 0 ≤ dg := by omega
        have hd9 : dg ≤ 9 := by omega
        clear hdg
        clear hcz hlen hl1
        have R5_0 := R5
        have a1_0 := a1
        have HB_0 := B0
        obtain ⟨⟨f1, f2, f3⟩, f4, f5, f6⟩ := bx3 R5.1
        clear R5 a1 B0
        go_wp2_with fail
        go_region_with (first | (have _hh := HB_3; go_at_call 47; refine (rplus_calls s2 b2 A2 n2 c2 ((dval l : Int) * 10) s3 b3 A3 n3 c3 dg _ (by repeat (first | with_reducible exact t2_3 | with_reducible refine RV.kp ?_ ((Kp.refl _ _).alloc _) | with_reducible refine RV.kp ?_ (Kp.refl _ _).drew)) (by repeat (first | with_reducible exact t3_3 | with_reducible refine RV.kp ?_ ((Kp.refl _ _).alloc _) | with_reducible refine RV.kp ?_ (Kp.refl _ _).drew)) 9000 SM SD (by omega)).mono ?_; rintro e ww4 ⟨⟨s4, b4, A4, n4, c4, rfl, t4_4⟩, hB4⟩; have R5_4 : MB ww4 gs s8 b8 A8 n8 c8 ((dval l : Int)) := (by repeat (first | with_reducible exact R5_3 | with_reducible refine MB.below ?_ hB4 | with_reducible refine MB.alloc ?_ _ | with_reducible refine MB.drew ?_)); have a1_4 : ww4.heap[w.heap.size]? = some (.cells #[.int .i64 0, .bool false, .slice none 0 0] 50 (0, 0)) := (by repeat (first | with_reducible exact a1_3 | with_reducible refine blk_below ?_ hB4 | with_reducible refine blk_alloc ?_ _ | with_reducible refine blk_drew ?_)); have t1_4 : RV ww4 s1 b1 A1 n1 c1 10 := (by repeat (first | with_reducible exact t1_3 | with_reducible refine RV.below ?_ hB4 | with_reducible refine RV.kp ?_ ((Kp.refl _ _).alloc _) | with_reducible refine RV.kp ?_ (Kp.refl _ _).drew)); have t2_4 : RV ww4 s2 b2 A2 n2 c2 ((dval l : Int) * 10) := (by repeat (first | with_reducible exact t2_3 | with_reducible refine RV.below ?_ hB4 | with_reducible refine RV.kp ?_ ((Kp.refl _ _).alloc _) | with_reducible refine RV.kp ?_ (Kp.refl _ _).drew)); have t3_4 : RV ww4 s3 b3 A3 n3 c3 dg := (by repeat (first | with_reducible exact t3_3 | with_reducible refine RV.below ?_ hB4 | with_reducible refine RV.kp ?_ ((Kp.refl _ _).alloc _) | with_reducible refine RV.kp ?_ (Kp.refl _ _).drew)); have HB_4 : Below w.heap.size w ww4 := (by repeat (first | with_reducible exact HB_3 | with_reducible refine bl_then ?_ hB4 | with_reducible refine bl_alloc ?_ _ | with_reducible refine bl_drew ?_)); have P4 := MB.s3 (R5_4); have F4 := bx3 R5_4.1; obtain ⟨⟨f41, f42, f43⟩, f44, f45, f46⟩ := F4) | (have _hh := HB_2; go_at_call 38; rw [WR.out]; go_at_call_of 38 (Value.int .i64 dg); refine (rof_calls dg _ (by omega) (by omega)).mono ?_; rintro e ww3 ⟨⟨s3, b3, A3, n3, c3, rfl, t3_3⟩, hB3⟩; have R5_3 : MB ww3 gs s8 b8 A8 n8 c8 ((dval l : Int)) := (by repeat (first | with_reducible exact R5_2 | with_reducible refine MB.below ?_ hB3 | with_reducible refine MB.alloc ?_ _ | with_reducible refine MB.drew ?_)); have a1_3 : ww3.heap[w.heap.size]? = some (.cells #[.int .i64 0, .bool false, .slice none 0 0] 50 (0, 0)) := (by repeat (first | with_reducible exact a1_2 | with_reducible refine blk_below ?_ hB3 | with_reducible refine blk_alloc ?_ _ | with_reducible refine blk_drew ?_)); have t1_3 : RV ww3 s1 b1 A1 n1 c1 10 := (by repeat (first | with_reducible exact t1_2 | with_reducible refine RV.below ?_ hB3 | with_reducible refine RV.kp ?_ ((Kp.refl _ _).alloc _) | with_reducible refine RV.kp ?_ (Kp.refl _ _).drew)); have t2_3 : RV ww3 s2 b2 A2 n2 c2 ((dval l : Int) * 10) := (by repeat (first | with_reducible exact t2_2 | with_reducible refine RV.below ?_ hB3 | with_reducible refine RV.kp ?_ ((Kp.refl _ _).alloc _) | with_reducible refine RV.kp ?_ (Kp.refl _ _).drew)); have HB_3 : Below w.heap.size w ww3 := (by repeat (first | with_reducible exact HB_2 | with_reducible refine bl_then ?_ hB3 | with_reducible refine bl_alloc ?_ _ | with_reducible refine bl_drew ?_)); have P3 := MB.s3 (R5_3); have F3 := bx3 R5_3.1; obtain ⟨⟨f31, f32, f33⟩, f34, f35, f36⟩ := F3) | (have _hh := HB_1; go_at_call 46; refine (rtimes_calls s8 b8 A8 n8 c8 (dval l : Int) s1 b1 A1 n1 c1 10 _ (by repeat (first | with_reducible exact MB.val R5_1 | with_reducible refine RV.kp ?_ ((Kp.refl _ _).alloc _) | with_reducible refine RV.kp ?_ (Kp.refl _ _).drew)) (by repeat (first | with_reducible exact t1_1 | with_reducible refine RV.kp ?_ ((Kp.refl _ _).alloc _) | with_reducible refine RV.kp ?_ (Kp.refl _ _).drew)) 4000 SL (Sz.small (by decide) (by decide) |>.mono (by omega)) (by omega)).mono ?_; rintro e ww2 ⟨⟨s2, b2, A2, n2, c2, rfl, t2_2⟩, hB2⟩; have R5_2 : MB ww2 gs s8 b8 A8 n8 c8 ((dval l : Int)) := (by repeat (first | with_reducible exact R5_1 | with_reducible refine MB.below ?_ hB2 | with_reducible refine MB.alloc ?_ _ | with_reducible refine MB.drew ?_)); have a1_2 : ww2.heap[w.heap.size]? = some (.cells #[.int .i64 0, .bool false, .slice none 0 0] 50 (0, 0)) := (by repeat (first | with_reducible exact a1_1 | with_reducible refine blk_below ?_ hB2 | with_reducible refine blk_alloc ?_ _ | with_reducible refine blk_drew ?_)); have t1_2 : RV ww2 s1 b1 A1 n1 c1 10 := (by repeat (first | with_reducible exact t1_1 | with_reducible refine RV.below ?_ hB2 | with_reducible refine RV.kp ?_ ((Kp.refl _ _).alloc _) | with_reducible refine RV.kp ?_ (Kp.refl _ _).drew)); have HB_2 : Below w.heap.size w ww2 := (by repeat (first | with_reducible exact HB_1 | with_reducible refine bl_then ?_ hB2 | with_reducible refine bl_alloc ?_ _ | with_reducible refine bl_drew ?_)); have P2 := MB.s3 (R5_2); have F2 := bx3 R5_2.1; obtain ⟨⟨f21, f22, f23⟩, f24, f25, f26⟩ := F2) | (go_at_call_of 38 (Value.int .i64 10); refine (rof_calls 10 _ (by decide) (by decide)).mono ?_; rintro e ww1 ⟨⟨s1, b1, A1, n1, c1, rfl, t1_1⟩, hB1⟩; have R5_1 : MB ww1 gs s8 b8 A8 n8 c8 ((dval l : Int)) := (by repeat (first | with_reducible exact R5_0 | with_reducible refine MB.below ?_ hB1 | with_reducible refine MB.alloc ?_ _ | with_reducible refine MB.drew ?_)); have a1_1 : ww1.heap[w.heap.size]? = some (.cells #[.int .i64 0, .bool false, .slice none 0 0] 50 (0, 0)) := (by repeat (first | with_reducible exact a1_0 | with_reducible refine blk_below ?_ hB1 | with_reducible refine blk_alloc ?_ _ | with_reducible refine blk_drew ?_)); have HB_1 : Below w.heap.size w ww1 := (by repeat (first | with_reducible exact HB_0 | with_reducible refine bl_then ?_ hB1 | with_reducible refine bl_alloc ?_ _ | with_reducible refine bl_drew ?_)); have P1 := MB.s3 (R5_1); have F1 := bx3 R5_1.1; obtain ⟨⟨f11, f12, f13⟩, f14, f15, f16⟩ := F1))
        all_goals
          have U1 := Lib.hid (putR t4_4 R5_4.1 HB_4 (by omega))
          have U2 := Lib.hid (blk_far3 a1_4 (show w.heap.size ≠ gs by omega) (.int .i64 s4) (.bool b4) (.slice A4 n4 c4))
          go_wp2
          go_roundw
          case rel => exact ⟨l ++ [c], r, s4, b4, A4, n4, c4, HLR'.out, HDC.out, by rw [List.length_append]; go_num, ⟨U1.out.2.2, by rw [DV.out]; exact U1.out.1⟩, U2.out, U1.out.2.1⟩
          case measure => simp [intOf]; omega
      · have hcd : (c.toNat : Int) < 48 ∨ 57 < (c.toNat : Int) := by unfold Dg at hc; omega
        have HB : Hid (false = decide (Ds s.data.toList)) := Lib.hid (by
          rw [decide_eq_false]
          rintro ⟨_, k⟩
          exact hc (k c (by rw [HLR.out]; simp)))
        have HC := Lib.hid (fun (k : Ds s.data.toList) => hc (k.2 c (by rw [HLR.out]; simp)))
        clear hc
        generalize (c.toNat : Int) = cz at *
        rcases hcd with hcd | hcd
        · clear hlen
          obtain ⟨⟨y1, y2, y3⟩, y4, y5, y6⟩ := bx3 R5.1
          obtain ⟨⟨z1, z2, z3⟩, z4, z5, z6⟩ := bx3 a1
          have U1 := Lib.hid (putR R5.2 a1 B0 (Nat.le_refl _))
          go_wp2
          refine bodyPost_ret (results_cell_tmp_row rfl _ _ w.heap.size 50 #[.int .i64 s8, .bool b8, .slice A8 n8 c8] (0, 0) _ _ rfl U1.out.2.2 Tryd.underlying50 rfl (by kernel_rfl) rfl) rfl ?_
          exact ⟨⟨s8, b8, A8, n8, c8, (dval l : Int), by rw [← HB.out]; rfl, U1.out.1, fun k => absurd k HC.out⟩, U1.out.2.1⟩
        · have hcy : ¬ cz < 48 := by omega
          clear hlen
          obtain ⟨⟨y1, y2, y3⟩, y4, y5, y6⟩ := bx3 R5.1
          obtain ⟨⟨z1, z2, z3⟩, z4, z5, z6⟩ := bx3 a1
          have U1 := Lib.hid (putR R5.2 a1 B0 (Nat.le_refl _))
          go_wp2
          refine bodyPost_ret (results_cell_tmp_row rfl _ _ w.heap.size 50 #[.int .i64 s8, .bool b8, .slice A8 n8 c8] (0, 0) _ _ rfl U1.out.2.2 Tryd.underlying50 rfl (by kernel_rfl) rfl) rfl ?_
          exact ⟨⟨s8, b8, A8, n8, c8, (dval l : Int), by rw [← HB.out]; rfl, U1.out.1, fun k => absurd k HC.out⟩, U1.out.2.1⟩
end Go.Proofs.YtmeldkceajnobaaDoor

namespace Go.Proofs.YtmeldkceajnobaaDoor
open Go.RowKit

theorem ba_take {s : ByteArray} {l r : List UInt8} (h : s.data.toList = l ++ r) (i : Nat) (e : i = l.length) : s.extract 0 i = ⟨l.toArray⟩ := by
  subst e
  rw [Lib.extract_eq, h]
  simp
theorem ds_one : Ds [49] ∧ dval [49] = 1 := by
  refine ⟨⟨by simp, ?_⟩, by decide⟩
  intro b hb
  rw [List.mem_singleton] at hb
  subst hb
  decide
theorem pz_nosl (l : List UInt8) (h : ∀ b ∈ l, b.toNat ≠ 47) : pz l = if Ds l ∧ Ds [49] ∧ dval [49] ≠ 0 then some (dval l, dval [49]) else none := by
  rw [pz_one l h]
  by_cases hd : Ds l
  · rw [if_pos hd, if_pos ⟨hd, ds_one.1, by rw [ds_one.2]; decide⟩, ds_one.2]
  · rw [if_neg hd, if_neg (fun k => hd k.1)]

set_option maxHeartbeats 40000000 in
set_option maxRecDepth 100000 in
theorem rparse_calls (s : ByteArray) (w : World) (hs : s.size ≤ 400) :
    Calls Tryd.prog 8 #[.string s] w fun e w' => NumR e (psT s.data.toList) (psL s.data.toList) (psE s.data.toList) ∧ Below w.heap.size w w' := by
  have FNo : Hid (pz (body s.data.toList) = none → psT s.data.toList = 0 ∧ psL s.data.toList = 0 ∧ psE s.data.toList = 4) := Lib.hid (fun h => by unfold psT psL psE; rw [h]; simp only [and_self])
  have FLo : Hid (∀ p q, pz (body s.data.toList) = some (p, q) → 200 < s.data.toList.length → psT s.data.toList = 0 ∧ psL s.data.toList = 0 ∧ psE s.data.toList = 3) := Lib.hid (fun p q h h2 => by unfold psT psL psE; rw [h]; simp only [if_pos h2, and_self])
  have FSo : Hid (∀ p q, pz (body s.data.toList) = some (p, q) → ¬ 200 < s.data.toList.length → outT (psQ s.data.toList p q) = psT s.data.toList ∧ outL (psQ s.data.toList p q) = psL s.data.toList ∧ outE (psQ s.data.toList p q) = psE s.data.toList) := Lib.hid (fun p q h h2 => by unfold psT psL psE; rw [h]; simp only [if_neg h2, and_self])
  generalize psT s.data.toList = oT at *
  generalize psL s.data.toList = oL at *
  generalize psE s.data.toList = oE at *
  have hsl : s.data.toList.length = s.size := rfl
  cases hL : s.data.toList with
  | nil =>
    have E := ba_nil hL
    have hE : s.toList = [] := by rw [Lib.toList_data, hL]
    have BD := body_pos [] (fun c r e => by cases e)
    have hb : s.data.toList = body s.data.toList := by rw [hL]; exact BD.2.symm
    have NG : Hid (neg s.data.toList = false) := Lib.hid (by rw [hL]; exact BD.1)
    have hx1 : s.size ≤ 500 := by omega
    clear E BD hL
    go_enter Tryd.func8, Tryd.ntmps8
    go_upto_region 6 with (fail)
    have B0 := bl_alloc (Below.refl w.heap.size w) (.cells #[.int .i64 0, .int .i64 0] 23)
    have a1 : (w.alloc (.cells #[.int .i64 0, .int .i64 0] 23)).heap[w.heap.size]? = some (.cells #[.int .i64 0, .int .i64 0] 23 (0, 0)) := blk_at _ rfl
    generalize w.alloc (.cells #[.int .i64 0, .int .i64 0] 23) = W0 at *
    have HBB := Lib.hid hb
    clear hb
    go_wp2_with fail
    go_loopw [4, 6, 7] (fun sv lv i wr => ∃ (l r : List UInt8), sv = .string s ∧ lv = .string ⟨#[49]⟩ ∧ s.data.toList = l ++ r ∧ (∀ b ∈ l, b.toNat ≠ 47) ∧ i = .int .i64 (l.length : Nat) ∧ wr.heap[w.heap.size]? = some (.cells #[.int .i64 0, .int .i64 0] 23 (0, 0)) ∧ Below w.heap.size w wr) (fun _ _ i _ => s.size - (intOf i).toNat)
    case atStart => exact ⟨[], s.data.toList, rfl, rfl, rfl, by simp, rfl, a1, B0⟩
    case round =>
      clear a1 B0
      obtain ⟨l, r, rfl, rfl, hlr, hd, rfl, a1, B0⟩ := hrel
      have hlen := ba_len hlr
      have HD := Lib.hid hd
      clear hd
      cases r with
      | nil =>
        have hnl : ¬ (l.length : Int) < (s.size : Int) := by rw [List.length_nil] at hlen; omega
        rw [List.append_nil] at hlr
        have HPZ : Hid (pz (body s.data.toList) = if Ds s.data.toList ∧ Ds [49] ∧ dval [49] ≠ 0 then some (dval s.data.toList, dval [49]) else none) := Lib.hid (by
          rw [← HBB.out]
          exact pz_nosl _ (by rw [hlr]; exact HD.out))
        clear hlr
        go_wp2_with fail
        generalize hsy : (⟨#[49]⟩ : ByteArray) = sy at *
        have hyl : sy.data.toList = [49] := by rw [← hsy]
        have hy1 : sy.size ≤ 500 := by rw [← hsy]; decide
        rw [← hyl] at HPZ
        have hx1 : s.size ≤ 500 := by omega
        clear hsy hyl hlen hnl HD HBB
        refine (rlong_calls s _ hx1).mono ?_
        rintro e w1 ⟨⟨s1, b1, A1, n1, c1, x1, rfl, t1, hx⟩, hB1⟩
        have g1h : w.heap.size < w1.heap.size := blk_lt (blk_below a1 hB1)
        replace a1 := blk_alloc (blk_below a1 hB1) (.cells #[.int .i64 s1, .bool b1, .slice A1 n1 c1] 50)
        replace B0 := bl_alloc (bl_then B0 hB1) (.cells #[.int .i64 s1, .bool b1, .slice A1 n1 c1] 50)
        have R1 := MB.new w1 t1 rfl
        clear hB1 t1
        go_wp2_with fail
        generalize hg1 : w1.heap.size = g1 at *
        generalize w1.alloc (.cells #[.int .i64 s1, .bool b1, .slice A1 n1 c1] 50) = W1 at *
        clear hg1
        refine (rlong_calls sy _ hy1).mono ?_
        rintro e w2 ⟨⟨s2, b2, A2, n2, c2, x2, rfl, t2, hy⟩, hB2⟩
        have g2h : g1 < w2.heap.size := blk_lt (R1.below hB2).1
        replace R1 := (R1.below hB2).alloc (.cells #[.int .i64 s2, .bool b2, .slice A2 n2 c2] 50)
        replace a1 := blk_alloc (blk_below a1 hB2) (.cells #[.int .i64 s2, .bool b2, .slice A2 n2 c2] 50)
        replace B0 := bl_alloc (bl_then B0 hB2) (.cells #[.int .i64 s2, .bool b2, .slice A2 n2 c2] 50)
        have R2 := MB.new w2 t2 rfl
        clear hB2 t2
        go_upto_region 13 with (fail)
        generalize hg2 : w2.heap.size = g2 at *
        generalize w2.alloc (.cells #[.int .i64 s2, .bool b2, .slice A2 n2 c2] 50) = W2 at *
        clear hg2
        by_cases hd1 : Ds s.data.toList
        · have ex := hx hd1
          subst ex
          clear hx
          rw [decide_eq_true hd1]
          by_cases hd2 : Ds sy.data.toList
          · have ey := hy hd2
            subst ey
            clear hy
            rw [decide_eq_true hd2]
            obtain ⟨⟨f1, f2, f3⟩, f4, f5, f6⟩ := bx3 R2.1
            go_wp2_with fail
            refine (rsign_int_calls s2 b2 A2 n2 c2 _ _ R2.2).mono ?_
            rintro e w4 ⟨rfl, hB4⟩
            replace R1 := R1.below hB4
            replace R2 := R2.below hB4
            replace a1 := blk_below a1 hB4
            replace B0 := bl_then B0 hB4
            clear hB4 f1 f2 f3 f4 f5 f6
            by_cases hv0 : dval sy.data.toList = 0
            · have HN : Hid (pz (body s.data.toList) = none) := Lib.hid (by rw [HPZ.out, if_neg (fun k => k.2.2 hv0)])
              rw [hv0, show Int.sign ((0 : Nat) : Int) = 0 from rfl]
              clear hv0
              obtain ⟨rfl, rfl, rfl⟩ := FNo.out HN.out
              obtain ⟨z1, z2, z3, z4⟩ := bx2 a1
              go_wp2
              refine bodyPost_ret (results_cell_tmp_row rfl _ _ w.heap.size 23 #[.int .i64 0, .int .i64 0] (0, 0) _ _ rfl (by first | exact a1 | exact blk_set2 a1 _ _) Tryd.underlying23 rfl (by kernel_rfl) rfl) rfl ?_
              exact ⟨rfl, by first | exact B0 | exact bl_set (bl_set B0 (Nat.le_refl _) _) (Nat.le_refl _) _⟩
            · have HQ : Hid (pz (body s.data.toList) = some (dval s.data.toList, dval sy.data.toList)) := Lib.hid (by rw [HPZ.out, if_pos ⟨hd1, hd2, hv0⟩])
              have hy0 : (dval sy.data.toList : Int) ≠ 0 := by omega
              have hs1 : Int.sign (dval sy.data.toList : Int) = 1 := Int.sign_eq_one_of_pos (by omega)
              have SX : Sz 2000 ((dval s.data.toList : Int)) := dval_sz _ hd1.2 2000 (by have : s.data.toList.length = s.size := rfl; omega)
              have SY := dval_sz _ hd2.2 2000 (by have : sy.data.toList.length = sy.size := rfl; omega)
              rw [hs1]
              clear hs1 hv0 hd1 hd2 HPZ
              by_cases hlong : 200 < s.size
              · have hlz : (200 : Int) < (s.size : Int) := by omega
                obtain ⟨rfl, rfl, rfl⟩ := FLo.out _ _ HQ.out (by rw [hsl]; exact hlong)
                obtain ⟨z1, z2, z3, z4⟩ := bx2 a1
                go_wp2
                refine bodyPost_ret (results_cell_tmp_row rfl _ _ w.heap.size 23 #[.int .i64 0, .int .i64 0] (0, 0) _ _ rfl (by first | exact a1 | exact blk_set2 a1 _ _) Tryd.underlying23 rfl (by kernel_rfl) rfl) rfl ?_
                exact ⟨rfl, by first | exact B0 | exact bl_set (bl_set B0 (Nat.le_refl _) _) (Nat.le_refl _) _⟩
              · have hlz : ¬ (200 : Int) < (s.size : Int) := by omega
                have HO : Hid (outT (Rat.divInt ((dval s.data.toList : Int)) (dval sy.data.toList : Int)) = oT ∧ outL (Rat.divInt ((dval s.data.toList : Int)) (dval sy.data.toList : Int)) = oL ∧ outE (Rat.divInt ((dval s.data.toList : Int)) (dval sy.data.toList : Int)) = oE) := Lib.hid (by
                  have h1 := FSo.out _ _ HQ.out (by rw [hsl]; exact hlong)
                  unfold psQ at h1
                  rw [NG.out] at h1
                  exact h1)
                obtain ⟨⟨f1, f2, f3⟩, f4, f5, f6⟩ := bx3 R1.1
                obtain ⟨⟨k1, k2, k3⟩, k4, k5, k6⟩ := bx3 R2.1
                go_wp2_with fail
                refine (rmake_calls s1 b1 A1 n1 c1 ((dval s.data.toList : Int)) s2 b2 A2 n2 c2 (dval sy.data.toList : Int) _ R1.2 R2.2 2000 SX SY (by omega) (by omega) hy0).mono ?_
                rintro e w6 ⟨⟨s6, b6, A6, n6, c6, s6', b6', A6', n6', c6', rfl, t6⟩, hB6⟩
                replace a1 := blk_below a1 hB6
                replace B0 := bl_then B0 hB6
                clear hB6
                go_wp2_with fail
                refine (rnum_calls s6 b6 A6 n6 c6 s6' b6' A6' n6' c6' _ _ t6).mono ?_
                rintro e w7 ⟨he, hB7⟩
                rw [HO.out.1, HO.out.2.1, HO.out.2.2] at he
                unfold NumR at he
                subst he
                replace a1 := blk_below a1 hB7
                replace B0 := bl_then B0 hB7
                clear hB7
                clear f1 f2 f3 f4 f5 f6 k1 k2 k3 k4 k5 k6 R1 R2 t6
                obtain ⟨z1, z2, z3, z4⟩ := bx2 a1
                go_wp2
                refine bodyPost_ret (results_cell_tmp_row rfl _ _ w.heap.size 23 #[.int .i64 oT, .int .i64 oL] (0, 0) _ _ rfl (by first | exact a1 | exact blk_set2 a1 _ _) Tryd.underlying23 rfl (by kernel_rfl) rfl) rfl ?_
                exact ⟨rfl, by first | exact B0 | exact bl_set (bl_set B0 (Nat.le_refl _) _) (Nat.le_refl _) _⟩
          · have HN : Hid (pz (body s.data.toList) = none) := Lib.hid (by rw [HPZ.out, if_neg (fun k => hd2 k.2.1)])
            rw [decide_eq_false hd2]
            clear hd2
            obtain ⟨rfl, rfl, rfl⟩ := FNo.out HN.out
            obtain ⟨z1, z2, z3, z4⟩ := bx2 a1
            go_wp2
            refine bodyPost_ret (results_cell_tmp_row rfl _ _ w.heap.size 23 #[.int .i64 0, .int .i64 0] (0, 0) _ _ rfl (by first | exact a1 | exact blk_set2 a1 _ _) Tryd.underlying23 rfl (by kernel_rfl) rfl) rfl ?_
            exact ⟨rfl, by first | exact B0 | exact bl_set (bl_set B0 (Nat.le_refl _) _) (Nat.le_refl _) _⟩
        · have HN : Hid (pz (body s.data.toList) = none) := Lib.hid (by rw [HPZ.out, if_neg (fun k => hd1 k.1)])
          rw [decide_eq_false hd1]
          clear hd1
          obtain ⟨rfl, rfl, rfl⟩ := FNo.out HN.out
          obtain ⟨z1, z2, z3, z4⟩ := bx2 a1
          go_wp2
          refine bodyPost_ret (results_cell_tmp_row rfl _ _ w.heap.size 23 #[.int .i64 0, .int .i64 0] (0, 0) _ _ rfl (by first | exact a1 | exact blk_set2 a1 _ _) Tryd.underlying23 rfl (by kernel_rfl) rfl) rfl ?_
          exact ⟨rfl, by first | exact B0 | exact bl_set (bl_set B0 (Nat.le_refl _) _) (Nat.le_refl _) _⟩
      | cons c r =>
        have hls : (l.length : Int) < (s.size : Int) := by rw [List.length_cons] at hlen; omega
        have q0 : ∀ W, (Instr.index 9 (.string s) (.int .i64 (l.length : Nat))).run Tryd.prog W = .ok (.int .u8 (c.toNat : Nat)) W := fun W => idx_str Tryd.underlying9 hlr W
        have hc256 : (c.toNat : Int) < 256 := by have := c.toNat_lt; omega
        have hc0 : (0 : Int) ≤ (c.toNat : Int) := by omega
        have hl0 : (0 : Int) ≤ (l.length : Int) := by omega
        have hl5 : (l.length : Int) < 1000 := by omega
        by_cases hc : c.toNat = 47
        · have HPZ : Hid (pz (body s.data.toList) = if Ds l ∧ Ds r ∧ dval r ≠ 0 then some (dval l, dval r) else none) := Lib.hid (by
            rw [← HBB.out, hlr]
            exact pz_two l c r HD.out hc)
          have hlr1 : s.data.toList = (l ++ [c]) ++ r := by rw [hlr]; simp
          rw [List.length_cons] at hlen
          obtain ⟨sx, hsx⟩ : ∃ x : ByteArray, x = ⟨l.toArray⟩ := ⟨_, rfl⟩
          obtain ⟨sy, hsy⟩ : ∃ x : ByteArray, x = ⟨r.toArray⟩ := ⟨_, rfl⟩
          have q1 : ∀ W, (Instr.slice 9 (.string s) none (some (.int .i64 (l.length : Nat))) none).run Tryd.prog W = .ok (.string sx) W := fun W => by
            rw [run_slice_string_h W _ _ Tryd.underlying9 _ _ (by omega) (by omega), hsx, ba_take hlr _ (by omega)]
          have q2 : ∀ W, (Instr.slice 9 (.string s) (some (.int .i64 ((l.length : Nat) + 1))) none none).run Tryd.prog W = .ok (.string sy) W := fun W => by
            rw [run_slice_string_l W _ _ Tryd.underlying9 _ _ (by omega) (by omega), hsy, ba_drop hlr1 _ (by rw [List.length_append]; first | omega | (simp; done) | (simp; omega))]
          have hxl : sx.data.toList = l := by rw [hsx]
          have hyl : sy.data.toList = r := by rw [hsy]
          rw [← hxl, ← hyl] at HPZ
          have hx1 : sx.size ≤ 500 := by have : sx.data.toList.length = sx.size := rfl; rw [hxl] at this; omega
          have hy1 : sy.size ≤ 500 := by have : sy.data.toList.length = sy.size := rfl; rw [hyl] at this; omega
          have hc' : (c.toNat : Int) = 47 := by omega
          rw [hc'] at q0
          clear hc hc' hlr hlr1 hsx hsy hxl hyl hlen HD HBB hc256 hc0
          go_upto_region 10 with (fail)
          go_region
          replace a1 := blk_drew a1
          replace B0 := bl_drew B0
          clear q0 q1 q2 hls hl0 hl5
          go_wp2_with fail
          refine (rlong_calls sx _ hx1).mono ?_
          rintro e w1 ⟨⟨s1, b1, A1, n1, c1, x1, rfl, t1, hx⟩, hB1⟩
          have g1h : w.heap.size < w1.heap.size := blk_lt (blk_below a1 hB1)
          replace a1 := blk_alloc (blk_below a1 hB1) (.cells #[.int .i64 s1, .bool b1, .slice A1 n1 c1] 50)
          replace B0 := bl_alloc (bl_then B0 hB1) (.cells #[.int .i64 s1, .bool b1, .slice A1 n1 c1] 50)
          have R1 := MB.new w1 t1 rfl
          clear hB1 t1
          go_wp2_with fail
          generalize hg1 : w1.heap.size = g1 at *
          generalize w1.alloc (.cells #[.int .i64 s1, .bool b1, .slice A1 n1 c1] 50) = W1 at *
          clear hg1
          refine (rlong_calls sy _ hy1).mono ?_
          rintro e w2 ⟨⟨s2, b2, A2, n2, c2, x2, rfl, t2, hy⟩, hB2⟩
          have g2h : g1 < w2.heap.size := blk_lt (R1.below hB2).1
          replace R1 := (R1.below hB2).alloc (.cells #[.int .i64 s2, .bool b2, .slice A2 n2 c2] 50)
          replace a1 := blk_alloc (blk_below a1 hB2) (.cells #[.int .i64 s2, .bool b2, .slice A2 n2 c2] 50)
          replace B0 := bl_alloc (bl_then B0 hB2) (.cells #[.int .i64 s2, .bool b2, .slice A2 n2 c2] 50)
          have R2 := MB.new w2 t2 rfl
          clear hB2 t2
          go_upto_region 13 with (fail)
          generalize hg2 : w2.heap.size = g2 at *
          generalize w2.alloc (.cells #[.int .i64 s2, .bool b2, .slice A2 n2 c2] 50) = W2 at *
          clear hg2
          by_cases hd1 : Ds sx.data.toList
          · have ex := hx hd1
            subst ex
            clear hx
            rw [decide_eq_true hd1]
            by_cases hd2 : Ds sy.data.toList
            · have ey := hy hd2
              subst ey
              clear hy
              rw [decide_eq_true hd2]
              obtain ⟨⟨f1, f2, f3⟩, f4, f5, f6⟩ := bx3 R2.1
              go_wp2_with fail
              refine (rsign_int_calls s2 b2 A2 n2 c2 _ _ R2.2).mono ?_
              rintro e w4 ⟨rfl, hB4⟩
              replace R1 := R1.below hB4
              replace R2 := R2.below hB4
              replace a1 := blk_below a1 hB4
              replace B0 := bl_then B0 hB4
              clear hB4 f1 f2 f3 f4 f5 f6
              by_cases hv0 : dval sy.data.toList = 0
              · have HN : Hid (pz (body s.data.toList) = none) := Lib.hid (by rw [HPZ.out, if_neg (fun k => k.2.2 hv0)])
                rw [hv0, show Int.sign ((0 : Nat) : Int) = 0 from rfl]
                clear hv0
                obtain ⟨rfl, rfl, rfl⟩ := FNo.out HN.out
                obtain ⟨z1, z2, z3, z4⟩ := bx2 a1
                go_wp2
                refine bodyPost_ret (results_cell_tmp_row rfl _ _ w.heap.size 23 #[.int .i64 0, .int .i64 0] (0, 0) _ _ rfl (by first | exact a1 | exact blk_set2 a1 _ _) Tryd.underlying23 rfl (by kernel_rfl) rfl) rfl ?_
                exact ⟨rfl, by first | exact B0 | exact bl_set (bl_set B0 (Nat.le_refl _) _) (Nat.le_refl _) _⟩
              · have HQ : Hid (pz (body s.data.toList) = some (dval sx.data.toList, dval sy.data.toList)) := Lib.hid (by rw [HPZ.out, if_pos ⟨hd1, hd2, hv0⟩])
                have hy0 : (dval sy.data.toList : Int) ≠ 0 := by omega
                have hs1 : Int.sign (dval sy.data.toList : Int) = 1 := Int.sign_eq_one_of_pos (by omega)
                have SX : Sz 2000 ((dval sx.data.toList : Int)) := dval_sz _ hd1.2 2000 (by have : sx.data.toList.length = sx.size := rfl; omega)
                have SY := dval_sz _ hd2.2 2000 (by have : sy.data.toList.length = sy.size := rfl; omega)
                rw [hs1]
                clear hs1 hv0 hd1 hd2 HPZ
                by_cases hlong : 200 < s.size
                · have hlz : (200 : Int) < (s.size : Int) := by omega
                  obtain ⟨rfl, rfl, rfl⟩ := FLo.out _ _ HQ.out (by rw [hsl]; exact hlong)
                  obtain ⟨z1, z2, z3, z4⟩ := bx2 a1
                  go_wp2
                  refine bodyPost_ret (results_cell_tmp_row rfl _ _ w.heap.size 23 #[.int .i64 0, .int .i64 0] (0, 0) _ _ rfl (by first | exact a1 | exact blk_set2 a1 _ _) Tryd.underlying23 rfl (by kernel_rfl) rfl) rfl ?_
                  exact ⟨rfl, by first | exact B0 | exact bl_set (bl_set B0 (Nat.le_refl _) _) (Nat.le_refl _) _⟩
                · have hlz : ¬ (200 : Int) < (s.size : Int) := by omega
                  have HO : Hid (outT (Rat.divInt ((dval sx.data.toList : Int)) (dval sy.data.toList : Int)) = oT ∧ outL (Rat.divInt ((dval sx.data.toList : Int)) (dval sy.data.toList : Int)) = oL ∧ outE (Rat.divInt ((dval sx.data.toList : Int)) (dval sy.data.toList : Int)) = oE) := Lib.hid (by
                    have h1 := FSo.out _ _ HQ.out (by rw [hsl]; exact hlong)
                    unfold psQ at h1
                    rw [NG.out] at h1
                    exact h1)
                  obtain ⟨⟨f1, f2, f3⟩, f4, f5, f6⟩ := bx3 R1.1
                  obtain ⟨⟨k1, k2, k3⟩, k4, k5, k6⟩ := bx3 R2.1
                  go_wp2_with fail
                  refine (rmake_calls s1 b1 A1 n1 c1 ((dval sx.data.toList : Int)) s2 b2 A2 n2 c2 (dval sy.data.toList : Int) _ R1.2 R2.2 2000 SX SY (by omega) (by omega) hy0).mono ?_
                  rintro e w6 ⟨⟨s6, b6, A6, n6, c6, s6', b6', A6', n6', c6', rfl, t6⟩, hB6⟩
                  replace a1 := blk_below a1 hB6
                  replace B0 := bl_then B0 hB6
                  clear hB6
                  go_wp2_with fail
                  refine (rnum_calls s6 b6 A6 n6 c6 s6' b6' A6' n6' c6' _ _ t6).mono ?_
                  rintro e w7 ⟨he, hB7⟩
                  rw [HO.out.1, HO.out.2.1, HO.out.2.2] at he
                  unfold NumR at he
                  subst he
                  replace a1 := blk_below a1 hB7
                  replace B0 := bl_then B0 hB7
                  clear hB7
                  clear f1 f2 f3 f4 f5 f6 k1 k2 k3 k4 k5 k6 R1 R2 t6
                  obtain ⟨z1, z2, z3, z4⟩ := bx2 a1
                  go_wp2
                  refine bodyPost_ret (results_cell_tmp_row rfl _ _ w.heap.size 23 #[.int .i64 oT, .int .i64 oL] (0, 0) _ _ rfl (by first | exact a1 | exact blk_set2 a1 _ _) Tryd.underlying23 rfl (by kernel_rfl) rfl) rfl ?_
                  exact ⟨rfl, by first | exact B0 | exact bl_set (bl_set B0 (Nat.le_refl _) _) (Nat.le_refl _) _⟩
            · have HN : Hid (pz (body s.data.toList) = none) := Lib.hid (by rw [HPZ.out, if_neg (fun k => hd2 k.2.1)])
              rw [decide_eq_false hd2]
              clear hd2
              obtain ⟨rfl, rfl, rfl⟩ := FNo.out HN.out
              obtain ⟨z1, z2, z3, z4⟩ := bx2 a1
              go_wp2
              refine bodyPost_ret (results_cell_tmp_row rfl _ _ w.heap.size 23 #[.int .i64 0, .int .i64 0] (0, 0) _ _ rfl (by first | exact a1 | exact blk_set2 a1 _ _) Tryd.underlying23 rfl (by kernel_rfl) rfl) rfl ?_
              exact ⟨rfl, by first | exact B0 | exact bl_set (bl_set B0 (Nat.le_refl _) _) (Nat.le_refl _) _⟩
          · have HN : Hid (pz (body s.data.toList) = none) := Lib.hid (by rw [HPZ.out, if_neg (fun k => hd1 k.1)])
            rw [decide_eq_false hd1]
            clear hd1
            obtain ⟨rfl, rfl, rfl⟩ := FNo.out HN.out
            obtain ⟨z1, z2, z3, z4⟩ := bx2 a1
            go_wp2
            refine bodyPost_ret (results_cell_tmp_row rfl _ _ w.heap.size 23 #[.int .i64 0, .int .i64 0] (0, 0) _ _ rfl (by first | exact a1 | exact blk_set2 a1 _ _) Tryd.underlying23 rfl (by kernel_rfl) rfl) rfl ?_
            exact ⟨rfl, by first | exact B0 | exact bl_set (bl_set B0 (Nat.le_refl _) _) (Nat.le_refl _) _⟩
        · have hc' : ((c.toNat : Int) == 47) = false := by simp; omega
          have HLR' := Lib.hid (show s.data.toList = (l ++ [c]) ++ r by rw [hlr]; simp)
          have HD' : Hid (∀ b ∈ l ++ [c], b.toNat ≠ 47) := Lib.hid (fun b hb => by
            rcases List.mem_append.1 hb with hb | hb
            · exact HD.out b hb
            · rw [List.mem_singleton] at hb; rw [hb]; exact hc)
          clear hlr hc
          generalize (c.toNat : Int) = cz at *
          go_wp2
          go_roundw
          case rel => exact ⟨l ++ [c], r, rfl, rfl, HLR'.out, HD'.out, by rw [List.length_append]; go_num, a1, B0⟩
          case measure => simp [intOf]; omega
  | cons c r =>
    have hlen := ba_len (l := []) hL
    rw [List.length_cons, List.length_nil] at hlen
    have hne : ¬ s.toList = [] := by rw [Lib.toList_data, hL]; simp
    have h0s : 0 < s.size := by omega
    have HC0 : Hid ((c.toNat : Int) = ((s[0]'h0s).toNat : Int)) := Lib.hid (by rw [ba_get (l := []) hL 0 rfl h0s])
    have HB45 : Hid (c.toNat = 45 → neg s.data.toList = true ∧ (s.extract 1 s.size).data.toList = body s.data.toList ∧ (s.extract 1 s.size).size ≤ 400) := Lib.hid (fun hc => by
      have BD := body_cons c r hc
      exact ⟨by rw [hL]; exact BD.1, by rw [hL, BD.2, ba_drop (l := [c]) (r := r) hL 1 rfl], by rw [ByteArray.size_extract]; omega⟩)
    have HBn : Hid (c.toNat ≠ 45 → neg s.data.toList = false ∧ s.data.toList = body s.data.toList) := Lib.hid (fun hc => by
      have BD := body_pos (c :: r) (fun a b e => by simp at e; rw [← e.1]; exact hc)
      exact ⟨by rw [hL]; exact BD.1, by rw [hL]; exact BD.2.symm⟩)
    clear hlen
    go_enter Tryd.func8, Tryd.ntmps8
    go_upto_region 6 with (fail)
    · have hx : (!s.toList.isEmpty) = true ∧ (((s[0]'h0s).toNat : Int) == 45) = true := by assumption
      generalize (((s[0]'h0s).toNat : Nat) : Int) = x0 at *
      have hq : (!s.toList.isEmpty && x0 == 45) = true := by rw [hx.1, hx.2]; rfl
      rw [hq]
      clear hq
      have h45 : c.toNat = 45 := by have := hx.2; rw [← HC0.out] at this; simp at this; omega
      obtain ⟨NG, hb, hsz⟩ := HB45.out h45
      clear hx h45 hne
      have B0 := bl_alloc (Below.refl w.heap.size w) (.cells #[.int .i64 0, .int .i64 0] 23)
      have a1 : (w.alloc (.cells #[.int .i64 0, .int .i64 0] 23)).heap[w.heap.size]? = some (.cells #[.int .i64 0, .int .i64 0] 23 (0, 0)) := blk_at _ rfl
      generalize w.alloc (.cells #[.int .i64 0, .int .i64 0] 23) = W0 at *
      generalize hbx : s.extract 1 s.size = bx at *
      clear hbx
      replace NG := Lib.hid NG
      clear HB45 HBn HC0 hL
      have HBB := Lib.hid hb
      clear hb
      go_wp2_with fail
      go_loopw [4, 6, 7] (fun sv lv i wr => ∃ (l r : List UInt8), sv = .string bx ∧ lv = .string ⟨#[49]⟩ ∧ bx.data.toList = l ++ r ∧ (∀ b ∈ l, b.toNat ≠ 47) ∧ i = .int .i64 (l.length : Nat) ∧ wr.heap[w.heap.size]? = some (.cells #[.int .i64 0, .int .i64 0] 23 (0, 0)) ∧ Below w.heap.size w wr) (fun _ _ i _ => bx.size - (intOf i).toNat)
      case atStart => exact ⟨[], bx.data.toList, rfl, rfl, rfl, by simp, rfl, a1, B0⟩
      case round =>
        clear a1 B0
        obtain ⟨l, r, rfl, rfl, hlr, hd, rfl, a1, B0⟩ := hrel
        have hlen := ba_len hlr
        have HD := Lib.hid hd
        clear hd
        cases r with
        | nil =>
          have hnl : ¬ (l.length : Int) < (bx.size : Int) := by rw [List.length_nil] at hlen; omega
          rw [List.append_nil] at hlr
          have HPZ : Hid (pz (body s.data.toList) = if Ds bx.data.toList ∧ Ds [49] ∧ dval [49] ≠ 0 then some (dval bx.data.toList, dval [49]) else none) := Lib.hid (by
            rw [← HBB.out]
            exact pz_nosl _ (by rw [hlr]; exact HD.out))
          clear hlr
          go_wp2_with fail
          generalize hsy : (⟨#[49]⟩ : ByteArray) = sy at *
          have hyl : sy.data.toList = [49] := by rw [← hsy]
          have hy1 : sy.size ≤ 500 := by rw [← hsy]; decide
          rw [← hyl] at HPZ
          have hx1 : bx.size ≤ 500 := by omega
          clear hsy hyl hlen hnl HD HBB
          refine (rlong_calls bx _ hx1).mono ?_
          rintro e w1 ⟨⟨s1, b1, A1, n1, c1, x1, rfl, t1, hx⟩, hB1⟩
          have g1h : w.heap.size < w1.heap.size := blk_lt (blk_below a1 hB1)
          replace a1 := blk_alloc (blk_below a1 hB1) (.cells #[.int .i64 s1, .bool b1, .slice A1 n1 c1] 50)
          replace B0 := bl_alloc (bl_then B0 hB1) (.cells #[.int .i64 s1, .bool b1, .slice A1 n1 c1] 50)
          have R1 := MB.new w1 t1 rfl
          clear hB1 t1
          go_wp2_with fail
          generalize hg1 : w1.heap.size = g1 at *
          generalize w1.alloc (.cells #[.int .i64 s1, .bool b1, .slice A1 n1 c1] 50) = W1 at *
          clear hg1
          refine (rlong_calls sy _ hy1).mono ?_
          rintro e w2 ⟨⟨s2, b2, A2, n2, c2, x2, rfl, t2, hy⟩, hB2⟩
          have g2h : g1 < w2.heap.size := blk_lt (R1.below hB2).1
          replace R1 := (R1.below hB2).alloc (.cells #[.int .i64 s2, .bool b2, .slice A2 n2 c2] 50)
          replace a1 := blk_alloc (blk_below a1 hB2) (.cells #[.int .i64 s2, .bool b2, .slice A2 n2 c2] 50)
          replace B0 := bl_alloc (bl_then B0 hB2) (.cells #[.int .i64 s2, .bool b2, .slice A2 n2 c2] 50)
          have R2 := MB.new w2 t2 rfl
          clear hB2 t2
          go_upto_region 13 with (fail)
          generalize hg2 : w2.heap.size = g2 at *
          generalize w2.alloc (.cells #[.int .i64 s2, .bool b2, .slice A2 n2 c2] 50) = W2 at *
          clear hg2
          by_cases hd1 : Ds bx.data.toList
          · have ex := hx hd1
            subst ex
            clear hx
            rw [decide_eq_true hd1]
            by_cases hd2 : Ds sy.data.toList
            · have ey := hy hd2
              subst ey
              clear hy
              rw [decide_eq_true hd2]
              obtain ⟨⟨f1, f2, f3⟩, f4, f5, f6⟩ := bx3 R2.1
              go_wp2_with fail
              refine (rsign_int_calls s2 b2 A2 n2 c2 _ _ R2.2).mono ?_
              rintro e w4 ⟨rfl, hB4⟩
              replace R1 := R1.below hB4
              replace R2 := R2.below hB4
              replace a1 := blk_below a1 hB4
              replace B0 := bl_then B0 hB4
              clear hB4 f1 f2 f3 f4 f5 f6
              by_cases hv0 : dval sy.data.toList = 0
              · have HN : Hid (pz (body s.data.toList) = none) := Lib.hid (by rw [HPZ.out, if_neg (fun k => k.2.2 hv0)])
                rw [hv0, show Int.sign ((0 : Nat) : Int) = 0 from rfl]
                clear hv0
                obtain ⟨rfl, rfl, rfl⟩ := FNo.out HN.out
                obtain ⟨z1, z2, z3, z4⟩ := bx2 a1
                go_wp2
                refine bodyPost_ret (results_cell_tmp_row rfl _ _ w.heap.size 23 #[.int .i64 0, .int .i64 0] (0, 0) _ _ rfl (by first | exact a1 | exact blk_set2 a1 _ _) Tryd.underlying23 rfl (by kernel_rfl) rfl) rfl ?_
                exact ⟨rfl, by first | exact B0 | exact bl_set (bl_set B0 (Nat.le_refl _) _) (Nat.le_refl _) _⟩
              · have HQ : Hid (pz (body s.data.toList) = some (dval bx.data.toList, dval sy.data.toList)) := Lib.hid (by rw [HPZ.out, if_pos ⟨hd1, hd2, hv0⟩])
                have hy0 : (dval sy.data.toList : Int) ≠ 0 := by omega
                have hs1 : Int.sign (dval sy.data.toList : Int) = 1 := Int.sign_eq_one_of_pos (by omega)
                have SX : Sz 2000 (-(dval bx.data.toList : Int)) := (dval_sz _ hd1.2 2000 (by have : bx.data.toList.length = bx.size := rfl; omega)).neg
                have SY := dval_sz _ hd2.2 2000 (by have : sy.data.toList.length = sy.size := rfl; omega)
                rw [hs1]
                clear hs1 hv0 hd1 hd2 HPZ
                by_cases hlong : 200 < s.size
                · have hlz : (200 : Int) < (s.size : Int) := by omega
                  obtain ⟨rfl, rfl, rfl⟩ := FLo.out _ _ HQ.out (by rw [hsl]; exact hlong)
                  obtain ⟨z1, z2, z3, z4⟩ := bx2 a1
                  go_wp2
                  refine bodyPost_ret (results_cell_tmp_row rfl _ _ w.heap.size 23 #[.int .i64 0, .int .i64 0] (0, 0) _ _ rfl (by first | exact a1 | exact blk_set2 a1 _ _) Tryd.underlying23 rfl (by kernel_rfl) rfl) rfl ?_
                  exact ⟨rfl, by first | exact B0 | exact bl_set (bl_set B0 (Nat.le_refl _) _) (Nat.le_refl _) _⟩
                · have hlz : ¬ (200 : Int) < (s.size : Int) := by omega
                  have HO : Hid (outT (Rat.divInt (-(dval bx.data.toList : Int)) (dval sy.data.toList : Int)) = oT ∧ outL (Rat.divInt (-(dval bx.data.toList : Int)) (dval sy.data.toList : Int)) = oL ∧ outE (Rat.divInt (-(dval bx.data.toList : Int)) (dval sy.data.toList : Int)) = oE) := Lib.hid (by
                    have h1 := FSo.out _ _ HQ.out (by rw [hsl]; exact hlong)
                    unfold psQ at h1
                    rw [NG.out] at h1
                    exact h1)
                  obtain ⟨⟨f1, f2, f3⟩, f4, f5, f6⟩ := bx3 R1.1
                  go_wp2_with fail
                  refine (rminus_calls s1 b1 A1 n1 c1 _ _ R1.2).mono ?_
                  rintro e w5 ⟨rfl, hB5⟩
                  replace R1 := R1.below hB5
                  replace R2 := R2.below hB5
                  replace a1 := blk_below a1 hB5
                  replace B0 := bl_then B0 hB5
                  clear hB5
                  clear f1 f2 f3 f4 f5 f6
                  have T5 := R1.2.neg
                  obtain ⟨⟨f1, f2, f3⟩, f4, f5, f6⟩ := bx3 R1.1
                  have U1 := Lib.hid (putR T5 R1.1 B0 (Nat.le_of_lt g1h))
                  have U2 := Lib.hid (blk_far3 a1 (show w.heap.size ≠ g1 by omega) (.int .i64 (-s1)) (.bool (decide (0 < n1) && !b1)) (.slice A1 n1 c1))
                  have U3 := Lib.hid (blk_far3 R2.1 (show g2 ≠ g1 by omega) (.int .i64 (-s1)) (.bool (decide (0 < n1) && !b1)) (.slice A1 n1 c1))
                  have U4 := Lib.hid (R2.2.kp (kp_set3 R1.1 (.int .i64 (-s1)) (.bool (decide (0 < n1) && !b1)) (.slice A1 n1 c1)))
                  generalize hb5 : (decide (0 < n1) && !b1) = b5 at *
                  clear hb5
                  go_upto_region 19 with (fail)
                  replace a1 := U2.out
                  replace B0 := U1.out.2.1
                  replace R2 : MB _ g2 s2 b2 A2 n2 c2 (dval sy.data.toList : Int) := ⟨U3.out, U4.out⟩
                  replace R1 : MB _ g1 (-s1) b5 A1 n1 c1 (-(dval bx.data.toList : Int)) := ⟨U1.out.2.2, U1.out.1⟩
                  clear U1 U2 U3 U4 f1 f2 f3 f4 f5 f6 T5
                  generalize ((w5.setCell ⟨g1, 0, none⟩ (.int .i64 (-s1))).setCell ⟨g1, 1, none⟩ (.bool b5)).setCell ⟨g1, 2, none⟩ (.slice A1 n1 c1) = W5 at *
                  obtain ⟨⟨f1, f2, f3⟩, f4, f5, f6⟩ := bx3 R1.1
                  obtain ⟨⟨k1, k2, k3⟩, k4, k5, k6⟩ := bx3 R2.1
                  go_wp2_with fail
                  refine (rmake_calls (-s1) b5 A1 n1 c1 (-(dval bx.data.toList : Int)) s2 b2 A2 n2 c2 (dval sy.data.toList : Int) _ R1.2 R2.2 2000 SX SY (by omega) (by omega) hy0).mono ?_
                  rintro e w6 ⟨⟨s6, b6, A6, n6, c6, s6', b6', A6', n6', c6', rfl, t6⟩, hB6⟩
                  replace a1 := blk_below a1 hB6
                  replace B0 := bl_then B0 hB6
                  clear hB6
                  go_wp2_with fail
                  refine (rnum_calls s6 b6 A6 n6 c6 s6' b6' A6' n6' c6' _ _ t6).mono ?_
                  rintro e w7 ⟨he, hB7⟩
                  rw [HO.out.1, HO.out.2.1, HO.out.2.2] at he
                  unfold NumR at he
                  subst he
                  replace a1 := blk_below a1 hB7
                  replace B0 := bl_then B0 hB7
                  clear hB7
                  clear f1 f2 f3 f4 f5 f6 k1 k2 k3 k4 k5 k6 R1 R2 t6
                  obtain ⟨z1, z2, z3, z4⟩ := bx2 a1
                  go_wp2
                  refine bodyPost_ret (results_cell_tmp_row rfl _ _ w.heap.size 23 #[.int .i64 oT, .int .i64 oL] (0, 0) _ _ rfl (by first | exact a1 | exact blk_set2 a1 _ _) Tryd.underlying23 rfl (by kernel_rfl) rfl) rfl ?_
                  exact ⟨rfl, by first | exact B0 | exact bl_set (bl_set B0 (Nat.le_refl _) _) (Nat.le_refl _) _⟩
            · have HN : Hid (pz (body s.data.toList) = none) := Lib.hid (by rw [HPZ.out, if_neg (fun k => hd2 k.2.1)])
              rw [decide_eq_false hd2]
              clear hd2
              obtain ⟨rfl, rfl, rfl⟩ := FNo.out HN.out
              obtain ⟨z1, z2, z3, z4⟩ := bx2 a1
              go_wp2
              refine bodyPost_ret (results_cell_tmp_row rfl _ _ w.heap.size 23 #[.int .i64 0, .int .i64 0] (0, 0) _ _ rfl (by first | exact a1 | exact blk_set2 a1 _ _) Tryd.underlying23 rfl (by kernel_rfl) rfl) rfl ?_
              exact ⟨rfl, by first | exact B0 | exact bl_set (bl_set B0 (Nat.le_refl _) _) (Nat.le_refl _) _⟩
          · have HN : Hid (pz (body s.data.toList) = none) := Lib.hid (by rw [HPZ.out, if_neg (fun k => hd1 k.1)])
            rw [decide_eq_false hd1]
            clear hd1
            obtain ⟨rfl, rfl, rfl⟩ := FNo.out HN.out
            obtain ⟨z1, z2, z3, z4⟩ := bx2 a1
            go_wp2
            refine bodyPost_ret (results_cell_tmp_row rfl _ _ w.heap.size 23 #[.int .i64 0, .int .i64 0] (0, 0) _ _ rfl (by first | exact a1 | exact blk_set2 a1 _ _) Tryd.underlying23 rfl (by kernel_rfl) rfl) rfl ?_
            exact ⟨rfl, by first | exact B0 | exact bl_set (bl_set B0 (Nat.le_refl _) _) (Nat.le_refl _) _⟩
        | cons c r =>
          have hls : (l.length : Int) < (bx.size : Int) := by rw [List.length_cons] at hlen; omega
          have q0 : ∀ W, (Instr.index 9 (.string bx) (.int .i64 (l.length : Nat))).run Tryd.prog W = .ok (.int .u8 (c.toNat : Nat)) W := fun W => idx_str Tryd.underlying9 hlr W
          have hc256 : (c.toNat : Int) < 256 := by have := c.toNat_lt; omega
          have hc0 : (0 : Int) ≤ (c.toNat : Int) := by omega
          have hl0 : (0 : Int) ≤ (l.length : Int) := by omega
          have hl5 : (l.length : Int) < 1000 := by omega
          by_cases hc : c.toNat = 47
          · have HPZ : Hid (pz (body s.data.toList) = if Ds l ∧ Ds r ∧ dval r ≠ 0 then some (dval l, dval r) else none) := Lib.hid (by
              rw [← HBB.out, hlr]
              exact pz_two l c r HD.out hc)
            have hlr1 : bx.data.toList = (l ++ [c]) ++ r := by rw [hlr]; simp
            rw [List.length_cons] at hlen
            obtain ⟨sx, hsx⟩ : ∃ x : ByteArray, x = ⟨l.toArray⟩ := ⟨_, rfl⟩
            obtain ⟨sy, hsy⟩ : ∃ x : ByteArray, x = ⟨r.toArray⟩ := ⟨_, rfl⟩
            have q1 : ∀ W, (Instr.slice 9 (.string bx) none (some (.int .i64 (l.length : Nat))) none).run Tryd.prog W = .ok (.string sx) W := fun W => by
              rw [run_slice_string_h W _ _ Tryd.underlying9 _ _ (by omega) (by omega), hsx, ba_take hlr _ (by omega)]
            have q2 : ∀ W, (Instr.slice 9 (.string bx) (some (.int .i64 ((l.length : Nat) + 1))) none none).run Tryd.prog W = .ok (.string sy) W := fun W => by
              rw [run_slice_string_l W _ _ Tryd.underlying9 _ _ (by omega) (by omega), hsy, ba_drop hlr1 _ (by rw [List.length_append]; first | omega | (simp; done) | (simp; omega))]
            have hxl : sx.data.toList = l := by rw [hsx]
            have hyl : sy.data.toList = r := by rw [hsy]
            rw [← hxl, ← hyl] at HPZ
            have hx1 : sx.size ≤ 500 := by have : sx.data.toList.length = sx.size := rfl; rw [hxl] at this; omega
            have hy1 : sy.size ≤ 500 := by have : sy.data.toList.length = sy.size := rfl; rw [hyl] at this; omega
            have hc' : (c.toNat : Int) = 47 := by omega
            rw [hc'] at q0
            clear hc hc' hlr hlr1 hsx hsy hxl hyl hlen HD HBB hc256 hc0
            go_upto_region 10 with (fail)
            go_region
            replace a1 := blk_drew a1
            replace B0 := bl_drew B0
            clear q0 q1 q2 hls hl0 hl5
            go_wp2_with fail
            refine (rlong_calls sx _ hx1).mono ?_
            rintro e w1 ⟨⟨s1, b1, A1, n1, c1, x1, rfl, t1, hx⟩, hB1⟩
            have g1h : w.heap.size < w1.heap.size := blk_lt (blk_below a1 hB1)
            replace a1 := blk_alloc (blk_below a1 hB1) (.cells #[.int .i64 s1, .bool b1, .slice A1 n1 c1] 50)
            replace B0 := bl_alloc (bl_then B0 hB1) (.cells #[.int .i64 s1, .bool b1, .slice A1 n1 c1] 50)
            have R1 := MB.new w1 t1 rfl
            clear hB1 t1
            go_wp2_with fail
            generalize hg1 : w1.heap.size = g1 at *
            generalize w1.alloc (.cells #[.int .i64 s1, .bool b1, .slice A1 n1 c1] 50) = W1 at *
            clear hg1
            refine (rlong_calls sy _ hy1).mono ?_
            rintro e w2 ⟨⟨s2, b2, A2, n2, c2, x2, rfl, t2, hy⟩, hB2⟩
            have g2h : g1 < w2.heap.size := blk_lt (R1.below hB2).1
            replace R1 := (R1.below hB2).alloc (.cells #[.int .i64 s2, .bool b2, .slice A2 n2 c2] 50)
            replace a1 := blk_alloc (blk_below a1 hB2) (.cells #[.int .i64 s2, .bool b2, .slice A2 n2 c2] 50)
            replace B0 := bl_alloc (bl_then B0 hB2) (.cells #[.int .i64 s2, .bool b2, .slice A2 n2 c2] 50)
            have R2 := MB.new w2 t2 rfl
            clear hB2 t2
            go_upto_region 13 with (fail)
            generalize hg2 : w2.heap.size = g2 at *
            generalize w2.alloc (.cells #[.int .i64 s2, .bool b2, .slice A2 n2 c2] 50) = W2 at *
            clear hg2
            by_cases hd1 : Ds sx.data.toList
            · have ex := hx hd1
              subst ex
              clear hx
              rw [decide_eq_true hd1]
              by_cases hd2 : Ds sy.data.toList
              · have ey := hy hd2
                subst ey
                clear hy
                rw [decide_eq_true hd2]
                obtain ⟨⟨f1, f2, f3⟩, f4, f5, f6⟩ := bx3 R2.1
                go_wp2_with fail
                refine (rsign_int_calls s2 b2 A2 n2 c2 _ _ R2.2).mono ?_
                rintro e w4 ⟨rfl, hB4⟩
                replace R1 := R1.below hB4
                replace R2 := R2.below hB4
                replace a1 := blk_below a1 hB4
                replace B0 := bl_then B0 hB4
                clear hB4 f1 f2 f3 f4 f5 f6
                by_cases hv0 : dval sy.data.toList = 0
                · have HN : Hid (pz (body s.data.toList) = none) := Lib.hid (by rw [HPZ.out, if_neg (fun k => k.2.2 hv0)])
                  rw [hv0, show Int.sign ((0 : Nat) : Int) = 0 from rfl]
                  clear hv0
                  obtain ⟨rfl, rfl, rfl⟩ := FNo.out HN.out
                  obtain ⟨z1, z2, z3, z4⟩ := bx2 a1
                  go_wp2
                  refine bodyPost_ret (results_cell_tmp_row rfl _ _ w.heap.size 23 #[.int .i64 0, .int .i64 0] (0, 0) _ _ rfl (by first | exact a1 | exact blk_set2 a1 _ _) Tryd.underlying23 rfl (by kernel_rfl) rfl) rfl ?_
                  exact ⟨rfl, by first | exact B0 | exact bl_set (bl_set B0 (Nat.le_refl _) _) (Nat.le_refl _) _⟩
                · have HQ : Hid (pz (body s.data.toList) = some (dval sx.data.toList, dval sy.data.toList)) := Lib.hid (by rw [HPZ.out, if_pos ⟨hd1, hd2, hv0⟩])
                  have hy0 : (dval sy.data.toList : Int) ≠ 0 := by omega
                  have hs1 : Int.sign (dval sy.data.toList : Int) = 1 := Int.sign_eq_one_of_pos (by omega)
                  have SX : Sz 2000 (-(dval sx.data.toList : Int)) := (dval_sz _ hd1.2 2000 (by have : sx.data.toList.length = sx.size := rfl; omega)).neg
                  have SY := dval_sz _ hd2.2 2000 (by have : sy.data.toList.length = sy.size := rfl; omega)
                  rw [hs1]
                  clear hs1 hv0 hd1 hd2 HPZ
                  by_cases hlong : 200 < s.size
                  · have hlz : (200 : Int) < (s.size : Int) := by omega
                    obtain ⟨rfl, rfl, rfl⟩ := FLo.out _ _ HQ.out (by rw [hsl]; exact hlong)
                    obtain ⟨z1, z2, z3, z4⟩ := bx2 a1
                    go_wp2
                    refine bodyPost_ret (results_cell_tmp_row rfl _ _ w.heap.size 23 #[.int .i64 0, .int .i64 0] (0, 0) _ _ rfl (by first | exact a1 | exact blk_set2 a1 _ _) Tryd.underlying23 rfl (by kernel_rfl) rfl) rfl ?_
                    exact ⟨rfl, by first | exact B0 | exact bl_set (bl_set B0 (Nat.le_refl _) _) (Nat.le_refl _) _⟩
                  · have hlz : ¬ (200 : Int) < (s.size : Int) := by omega
                    have HO : Hid (outT (Rat.divInt (-(dval sx.data.toList : Int)) (dval sy.data.toList : Int)) = oT ∧ outL (Rat.divInt (-(dval sx.data.toList : Int)) (dval sy.data.toList : Int)) = oL ∧ outE (Rat.divInt (-(dval sx.data.toList : Int)) (dval sy.data.toList : Int)) = oE) := Lib.hid (by
                      have h1 := FSo.out _ _ HQ.out (by rw [hsl]; exact hlong)
                      unfold psQ at h1
                      rw [NG.out] at h1
                      exact h1)
                    obtain ⟨⟨f1, f2, f3⟩, f4, f5, f6⟩ := bx3 R1.1
                    go_wp2_with fail
                    refine (rminus_calls s1 b1 A1 n1 c1 _ _ R1.2).mono ?_
                    rintro e w5 ⟨rfl, hB5⟩
                    replace R1 := R1.below hB5
                    replace R2 := R2.below hB5
                    replace a1 := blk_below a1 hB5
                    replace B0 := bl_then B0 hB5
                    clear hB5
                    clear f1 f2 f3 f4 f5 f6
                    have T5 := R1.2.neg
                    obtain ⟨⟨f1, f2, f3⟩, f4, f5, f6⟩ := bx3 R1.1
                    have U1 := Lib.hid (putR T5 R1.1 B0 (Nat.le_of_lt g1h))
                    have U2 := Lib.hid (blk_far3 a1 (show w.heap.size ≠ g1 by omega) (.int .i64 (-s1)) (.bool (decide (0 < n1) && !b1)) (.slice A1 n1 c1))
                    have U3 := Lib.hid (blk_far3 R2.1 (show g2 ≠ g1 by omega) (.int .i64 (-s1)) (.bool (decide (0 < n1) && !b1)) (.slice A1 n1 c1))
                    have U4 := Lib.hid (R2.2.kp (kp_set3 R1.1 (.int .i64 (-s1)) (.bool (decide (0 < n1) && !b1)) (.slice A1 n1 c1)))
                    generalize hb5 : (decide (0 < n1) && !b1) = b5 at *
                    clear hb5
                    go_upto_region 19 with (fail)
                    replace a1 := U2.out
                    replace B0 := U1.out.2.1
                    replace R2 : MB _ g2 s2 b2 A2 n2 c2 (dval sy.data.toList : Int) := ⟨U3.out, U4.out⟩
                    replace R1 : MB _ g1 (-s1) b5 A1 n1 c1 (-(dval sx.data.toList : Int)) := ⟨U1.out.2.2, U1.out.1⟩
                    clear U1 U2 U3 U4 f1 f2 f3 f4 f5 f6 T5
                    generalize ((w5.setCell ⟨g1, 0, none⟩ (.int .i64 (-s1))).setCell ⟨g1, 1, none⟩ (.bool b5)).setCell ⟨g1, 2, none⟩ (.slice A1 n1 c1) = W5 at *
                    obtain ⟨⟨f1, f2, f3⟩, f4, f5, f6⟩ := bx3 R1.1
                    obtain ⟨⟨k1, k2, k3⟩, k4, k5, k6⟩ := bx3 R2.1
                    go_wp2_with fail
                    refine (rmake_calls (-s1) b5 A1 n1 c1 (-(dval sx.data.toList : Int)) s2 b2 A2 n2 c2 (dval sy.data.toList : Int) _ R1.2 R2.2 2000 SX SY (by omega) (by omega) hy0).mono ?_
                    rintro e w6 ⟨⟨s6, b6, A6, n6, c6, s6', b6', A6', n6', c6', rfl, t6⟩, hB6⟩
                    replace a1 := blk_below a1 hB6
                    replace B0 := bl_then B0 hB6
                    clear hB6
                    go_wp2_with fail
                    refine (rnum_calls s6 b6 A6 n6 c6 s6' b6' A6' n6' c6' _ _ t6).mono ?_
                    rintro e w7 ⟨he, hB7⟩
                    rw [HO.out.1, HO.out.2.1, HO.out.2.2] at he
                    unfold NumR at he
                    subst he
                    replace a1 := blk_below a1 hB7
                    replace B0 := bl_then B0 hB7
                    clear hB7
                    clear f1 f2 f3 f4 f5 f6 k1 k2 k3 k4 k5 k6 R1 R2 t6
                    obtain ⟨z1, z2, z3, z4⟩ := bx2 a1
                    go_wp2
                    refine bodyPost_ret (results_cell_tmp_row rfl _ _ w.heap.size 23 #[.int .i64 oT, .int .i64 oL] (0, 0) _ _ rfl (by first | exact a1 | exact blk_set2 a1 _ _) Tryd.underlying23 rfl (by kernel_rfl) rfl) rfl ?_
                    exact ⟨rfl, by first | exact B0 | exact bl_set (bl_set B0 (Nat.le_refl _) _) (Nat.le_refl _) _⟩
              · have HN : Hid (pz (body s.data.toList) = none) := Lib.hid (by rw [HPZ.out, if_neg (fun k => hd2 k.2.1)])
                rw [decide_eq_false hd2]
                clear hd2
                obtain ⟨rfl, rfl, rfl⟩ := FNo.out HN.out
                obtain ⟨z1, z2, z3, z4⟩ := bx2 a1
                go_wp2
                refine bodyPost_ret (results_cell_tmp_row rfl _ _ w.heap.size 23 #[.int .i64 0, .int .i64 0] (0, 0) _ _ rfl (by first | exact a1 | exact blk_set2 a1 _ _) Tryd.underlying23 rfl (by kernel_rfl) rfl) rfl ?_
                exact ⟨rfl, by first | exact B0 | exact bl_set (bl_set B0 (Nat.le_refl _) _) (Nat.le_refl _) _⟩
            · have HN : Hid (pz (body s.data.toList) = none) := Lib.hid (by rw [HPZ.out, if_neg (fun k => hd1 k.1)])
              rw [decide_eq_false hd1]
              clear hd1
              obtain ⟨rfl, rfl, rfl⟩ := FNo.out HN.out
              obtain ⟨z1, z2, z3, z4⟩ := bx2 a1
              go_wp2
              refine bodyPost_ret (results_cell_tmp_row rfl _ _ w.heap.size 23 #[.int .i64 0, .int .i64 0] (0, 0) _ _ rfl (by first | exact a1 | exact blk_set2 a1 _ _) Tryd.underlying23 rfl (by kernel_rfl) rfl) rfl ?_
              exact ⟨rfl, by first | exact B0 | exact bl_set (bl_set B0 (Nat.le_refl _) _) (Nat.le_refl _) _⟩
          · have hc' : ((c.toNat : Int) == 47) = false := by simp; omega
            have HLR' := Lib.hid (show bx.data.toList = (l ++ [c]) ++ r by rw [hlr]; simp)
            have HD' : Hid (∀ b ∈ l ++ [c], b.toNat ≠ 47) := Lib.hid (fun b hb => by
              rcases List.mem_append.1 hb with hb | hb
              · exact HD.out b hb
              · rw [List.mem_singleton] at hb; rw [hb]; exact hc)
            clear hlr hc
            generalize (c.toNat : Int) = cz at *
            go_wp2
            go_roundw
            case rel => exact ⟨l ++ [c], r, rfl, rfl, HLR'.out, HD'.out, by rw [List.length_append]; go_num, a1, B0⟩
            case measure => simp [intOf]; omega
    · have hx : (!s.toList.isEmpty) = false ∨ (((s[0]'h0s).toNat : Int) == 45) = false := by assumption
      generalize (((s[0]'h0s).toNat : Nat) : Int) = x0 at *
      have hq : (!s.toList.isEmpty && x0 == 45) = false := by
        rcases hx with hx | hx
        · rw [hx]; rfl
        · rw [hx, Bool.and_false]
      rw [hq]
      clear hq
      have h45 : c.toNat ≠ 45 := by
        rcases hx with hx | hx
        · rw [Lib.toList_data, hL] at hx; simp at hx
        · rw [← HC0.out] at hx; simp at hx; omega
      obtain ⟨NG, hb⟩ := HBn.out h45
      clear hx h45 hne
      have B0 := bl_alloc (Below.refl w.heap.size w) (.cells #[.int .i64 0, .int .i64 0] 23)
      have a1 : (w.alloc (.cells #[.int .i64 0, .int .i64 0] 23)).heap[w.heap.size]? = some (.cells #[.int .i64 0, .int .i64 0] 23 (0, 0)) := blk_at _ rfl
      generalize w.alloc (.cells #[.int .i64 0, .int .i64 0] 23) = W0 at *
      replace NG := Lib.hid NG
      clear HB45 HBn HC0 hL
      have HBB := Lib.hid hb
      clear hb
      go_wp2_with fail
      go_loopw [4, 6, 7] (fun sv lv i wr => ∃ (l r : List UInt8), sv = .string s ∧ lv = .string ⟨#[49]⟩ ∧ s.data.toList = l ++ r ∧ (∀ b ∈ l, b.toNat ≠ 47) ∧ i = .int .i64 (l.length : Nat) ∧ wr.heap[w.heap.size]? = some (.cells #[.int .i64 0, .int .i64 0] 23 (0, 0)) ∧ Below w.heap.size w wr) (fun _ _ i _ => s.size - (intOf i).toNat)
      case atStart => exact ⟨[], s.data.toList, rfl, rfl, rfl, by simp, rfl, a1, B0⟩
      case round =>
        clear a1 B0
        obtain ⟨l, r, rfl, rfl, hlr, hd, rfl, a1, B0⟩ := hrel
        have hlen := ba_len hlr
        have HD := Lib.hid hd
        clear hd
        cases r with
        | nil =>
          have hnl : ¬ (l.length : Int) < (s.size : Int) := by rw [List.length_nil] at hlen; omega
          rw [List.append_nil] at hlr
          have HPZ : Hid (pz (body s.data.toList) = if Ds s.data.toList ∧ Ds [49] ∧ dval [49] ≠ 0 then some (dval s.data.toList, dval [49]) else none) := Lib.hid (by
            rw [← HBB.out]
            exact pz_nosl _ (by rw [hlr]; exact HD.out))
          clear hlr
          go_wp2_with fail
          generalize hsy : (⟨#[49]⟩ : ByteArray) = sy at *
          have hyl : sy.data.toList = [49] := by rw [← hsy]
          have hy1 : sy.size ≤ 500 := by rw [← hsy]; decide
          rw [← hyl] at HPZ
          have hx1 : s.size ≤ 500 := by omega
          clear hsy hyl hlen hnl HD HBB
          refine (rlong_calls s _ hx1).mono ?_
          rintro e w1 ⟨⟨s1, b1, A1, n1, c1, x1, rfl, t1, hx⟩, hB1⟩
          have g1h : w.heap.size < w1.heap.size := blk_lt (blk_below a1 hB1)
          replace a1 := blk_alloc (blk_below a1 hB1) (.cells #[.int .i64 s1, .bool b1, .slice A1 n1 c1] 50)
          replace B0 := bl_alloc (bl_then B0 hB1) (.cells #[.int .i64 s1, .bool b1, .slice A1 n1 c1] 50)
          have R1 := MB.new w1 t1 rfl
          clear hB1 t1
          go_wp2_with fail
          generalize hg1 : w1.heap.size = g1 at *
          generalize w1.alloc (.cells #[.int .i64 s1, .bool b1, .slice A1 n1 c1] 50) = W1 at *
          clear hg1
          refine (rlong_calls sy _ hy1).mono ?_
          rintro e w2 ⟨⟨s2, b2, A2, n2, c2, x2, rfl, t2, hy⟩, hB2⟩
          have g2h : g1 < w2.heap.size := blk_lt (R1.below hB2).1
          replace R1 := (R1.below hB2).alloc (.cells #[.int .i64 s2, .bool b2, .slice A2 n2 c2] 50)
          replace a1 := blk_alloc (blk_below a1 hB2) (.cells #[.int .i64 s2, .bool b2, .slice A2 n2 c2] 50)
          replace B0 := bl_alloc (bl_then B0 hB2) (.cells #[.int .i64 s2, .bool b2, .slice A2 n2 c2] 50)
          have R2 := MB.new w2 t2 rfl
          clear hB2 t2
          go_upto_region 13 with (fail)
          generalize hg2 : w2.heap.size = g2 at *
          generalize w2.alloc (.cells #[.int .i64 s2, .bool b2, .slice A2 n2 c2] 50) = W2 at *
          clear hg2
          by_cases hd1 : Ds s.data.toList
          · have ex := hx hd1
            subst ex
            clear hx
            rw [decide_eq_true hd1]
            by_cases hd2 : Ds sy.data.toList
            · have ey := hy hd2
              subst ey
              clear hy
              rw [decide_eq_true hd2]
              obtain ⟨⟨f1, f2, f3⟩, f4, f5, f6⟩ := bx3 R2.1
              go_wp2_with fail
              refine (rsign_int_calls s2 b2 A2 n2 c2 _ _ R2.2).mono ?_
              rintro e w4 ⟨rfl, hB4⟩
              replace R1 := R1.below hB4
              replace R2 := R2.below hB4
              replace a1 := blk_below a1 hB4
              replace B0 := bl_then B0 hB4
              clear hB4 f1 f2 f3 f4 f5 f6
              by_cases hv0 : dval sy.data.toList = 0
              · have HN : Hid (pz (body s.data.toList) = none) := Lib.hid (by rw [HPZ.out, if_neg (fun k => k.2.2 hv0)])
                rw [hv0, show Int.sign ((0 : Nat) : Int) = 0 from rfl]
                clear hv0
                obtain ⟨rfl, rfl, rfl⟩ := FNo.out HN.out
                obtain ⟨z1, z2, z3, z4⟩ := bx2 a1
                go_wp2
                refine bodyPost_ret (results_cell_tmp_row rfl _ _ w.heap.size 23 #[.int .i64 0, .int .i64 0] (0, 0) _ _ rfl (by first | exact a1 | exact blk_set2 a1 _ _) Tryd.underlying23 rfl (by kernel_rfl) rfl) rfl ?_
                exact ⟨rfl, by first | exact B0 | exact bl_set (bl_set B0 (Nat.le_refl _) _) (Nat.le_refl _) _⟩
              · have HQ : Hid (pz (body s.data.toList) = some (dval s.data.toList, dval sy.data.toList)) := Lib.hid (by rw [HPZ.out, if_pos ⟨hd1, hd2, hv0⟩])
                have hy0 : (dval sy.data.toList : Int) ≠ 0 := by omega
                have hs1 : Int.sign (dval sy.data.toList : Int) = 1 := Int.sign_eq_one_of_pos (by omega)
                have SX : Sz 2000 ((dval s.data.toList : Int)) := dval_sz _ hd1.2 2000 (by have : s.data.toList.length = s.size := rfl; omega)
                have SY := dval_sz _ hd2.2 2000 (by have : sy.data.toList.length = sy.size := rfl; omega)
                rw [hs1]
                clear hs1 hv0 hd1 hd2 HPZ
                by_cases hlong : 200 < s.size
                · have hlz : (200 : Int) < (s.size : Int) := by omega
                  obtain ⟨rfl, rfl, rfl⟩ := FLo.out _ _ HQ.out (by rw [hsl]; exact hlong)
                  obtain ⟨z1, z2, z3, z4⟩ := bx2 a1
                  go_wp2
                  refine bodyPost_ret (results_cell_tmp_row rfl _ _ w.heap.size 23 #[.int .i64 0, .int .i64 0] (0, 0) _ _ rfl (by first | exact a1 | exact blk_set2 a1 _ _) Tryd.underlying23 rfl (by kernel_rfl) rfl) rfl ?_
                  exact ⟨rfl, by first | exact B0 | exact bl_set (bl_set B0 (Nat.le_refl _) _) (Nat.le_refl _) _⟩
                · have hlz : ¬ (200 : Int) < (s.size : Int) := by omega
                  have HO : Hid (outT (Rat.divInt ((dval s.data.toList : Int)) (dval sy.data.toList : Int)) = oT ∧ outL (Rat.divInt ((dval s.data.toList : Int)) (dval sy.data.toList : Int)) = oL ∧ outE (Rat.divInt ((dval s.data.toList : Int)) (dval sy.data.toList : Int)) = oE) := Lib.hid (by
                    have h1 := FSo.out _ _ HQ.out (by rw [hsl]; exact hlong)
                    unfold psQ at h1
                    rw [NG.out] at h1
                    exact h1)
                  obtain ⟨⟨f1, f2, f3⟩, f4, f5, f6⟩ := bx3 R1.1
                  obtain ⟨⟨k1, k2, k3⟩, k4, k5, k6⟩ := bx3 R2.1
                  go_wp2_with fail
                  refine (rmake_calls s1 b1 A1 n1 c1 ((dval s.data.toList : Int)) s2 b2 A2 n2 c2 (dval sy.data.toList : Int) _ R1.2 R2.2 2000 SX SY (by omega) (by omega) hy0).mono ?_
                  rintro e w6 ⟨⟨s6, b6, A6, n6, c6, s6', b6', A6', n6', c6', rfl, t6⟩, hB6⟩
                  replace a1 := blk_below a1 hB6
                  replace B0 := bl_then B0 hB6
                  clear hB6
                  go_wp2_with fail
                  refine (rnum_calls s6 b6 A6 n6 c6 s6' b6' A6' n6' c6' _ _ t6).mono ?_
                  rintro e w7 ⟨he, hB7⟩
                  rw [HO.out.1, HO.out.2.1, HO.out.2.2] at he
                  unfold NumR at he
                  subst he
                  replace a1 := blk_below a1 hB7
                  replace B0 := bl_then B0 hB7
                  clear hB7
                  clear f1 f2 f3 f4 f5 f6 k1 k2 k3 k4 k5 k6 R1 R2 t6
                  obtain ⟨z1, z2, z3, z4⟩ := bx2 a1
                  go_wp2
                  refine bodyPost_ret (results_cell_tmp_row rfl _ _ w.heap.size 23 #[.int .i64 oT, .int .i64 oL] (0, 0) _ _ rfl (by first | exact a1 | exact blk_set2 a1 _ _) Tryd.underlying23 rfl (by kernel_rfl) rfl) rfl ?_
                  exact ⟨rfl, by first | exact B0 | exact bl_set (bl_set B0 (Nat.le_refl _) _) (Nat.le_refl _) _⟩
            · have HN : Hid (pz (body s.data.toList) = none) := Lib.hid (by rw [HPZ.out, if_neg (fun k => hd2 k.2.1)])
              rw [decide_eq_false hd2]
              clear hd2
              obtain ⟨rfl, rfl, rfl⟩ := FNo.out HN.out
              obtain ⟨z1, z2, z3, z4⟩ := bx2 a1
              go_wp2
              refine bodyPost_ret (results_cell_tmp_row rfl _ _ w.heap.size 23 #[.int .i64 0, .int .i64 0] (0, 0) _ _ rfl (by first | exact a1 | exact blk_set2 a1 _ _) Tryd.underlying23 rfl (by kernel_rfl) rfl) rfl ?_
              exact ⟨rfl, by first | exact B0 | exact bl_set (bl_set B0 (Nat.le_refl _) _) (Nat.le_refl _) _⟩
          · have HN : Hid (pz (body s.data.toList) = none) := Lib.hid (by rw [HPZ.out, if_neg (fun k => hd1 k.1)])
            rw [decide_eq_false hd1]
            clear hd1
            obtain ⟨rfl, rfl, rfl⟩ := FNo.out HN.out
            obtain ⟨z1, z2, z3, z4⟩ := bx2 a1
            go_wp2
            refine bodyPost_ret (results_cell_tmp_row rfl _ _ w.heap.size 23 #[.int .i64 0, .int .i64 0] (0, 0) _ _ rfl (by first | exact a1 | exact blk_set2 a1 _ _) Tryd.underlying23 rfl (by kernel_rfl) rfl) rfl ?_
            exact ⟨rfl, by first | exact B0 | exact bl_set (bl_set B0 (Nat.le_refl _) _) (Nat.le_refl _) _⟩
        | cons c r =>
          have hls : (l.length : Int) < (s.size : Int) := by rw [List.length_cons] at hlen; omega
          have q0 : ∀ W, (Instr.index 9 (.string s) (.int .i64 (l.length : Nat))).run Tryd.prog W = .ok (.int .u8 (c.toNat : Nat)) W := fun W => idx_str Tryd.underlying9 hlr W
          have hc256 : (c.toNat : Int) < 256 := by have := c.toNat_lt; omega
          have hc0 : (0 : Int) ≤ (c.toNat : Int) := by omega
          have hl0 : (0 : Int) ≤ (l.length : Int) := by omega
          have hl5 : (l.length : Int) < 1000 := by omega
          by_cases hc : c.toNat = 47
          · have HPZ : Hid (pz (body s.data.toList) = if Ds l ∧ Ds r ∧ dval r ≠ 0 then some (dval l, dval r) else none) := Lib.hid (by
              rw [← HBB.out, hlr]
              exact pz_two l c r HD.out hc)
            have hlr1 : s.data.toList = (l ++ [c]) ++ r := by rw [hlr]; simp
            rw [List.length_cons] at hlen
            obtain ⟨sx, hsx⟩ : ∃ x : ByteArray, x = ⟨l.toArray⟩ := ⟨_, rfl⟩
            obtain ⟨sy, hsy⟩ : ∃ x : ByteArray, x = ⟨r.toArray⟩ := ⟨_, rfl⟩
            have q1 : ∀ W, (Instr.slice 9 (.string s) none (some (.int .i64 (l.length : Nat))) none).run Tryd.prog W = .ok (.string sx) W := fun W => by
              rw [run_slice_string_h W _ _ Tryd.underlying9 _ _ (by omega) (by omega), hsx, ba_take hlr _ (by omega)]
            have q2 : ∀ W, (Instr.slice 9 (.string s) (some (.int .i64 ((l.length : Nat) + 1))) none none).run Tryd.prog W = .ok (.string sy) W := fun W => by
              rw [run_slice_string_l W _ _ Tryd.underlying9 _ _ (by omega) (by omega), hsy, ba_drop hlr1 _ (by rw [List.length_append]; first | omega | (simp; done) | (simp; omega))]
            have hxl : sx.data.toList = l := by rw [hsx]
            have hyl : sy.data.toList = r := by rw [hsy]
            rw [← hxl, ← hyl] at HPZ
            have hx1 : sx.size ≤ 500 := by have : sx.data.toList.length = sx.size := rfl; rw [hxl] at this; omega
            have hy1 : sy.size ≤ 500 := by have : sy.data.toList.length = sy.size := rfl; rw [hyl] at this; omega
            have hc' : (c.toNat : Int) = 47 := by omega
            rw [hc'] at q0
            clear hc hc' hlr hlr1 hsx hsy hxl hyl hlen HD HBB hc256 hc0
            go_upto_region 10 with (fail)
            go_region
            replace a1 := blk_drew a1
            replace B0 := bl_drew B0
            clear q0 q1 q2 hls hl0 hl5
            go_wp2_with fail
            refine (rlong_calls sx _ hx1).mono ?_
            rintro e w1 ⟨⟨s1, b1, A1, n1, c1, x1, rfl, t1, hx⟩, hB1⟩
            have g1h : w.heap.size < w1.heap.size := blk_lt (blk_below a1 hB1)
            replace a1 := blk_alloc (blk_below a1 hB1) (.cells #[.int .i64 s1, .bool b1, .slice A1 n1 c1] 50)
            replace B0 := bl_alloc (bl_then B0 hB1) (.cells #[.int .i64 s1, .bool b1, .slice A1 n1 c1] 50)
            have R1 := MB.new w1 t1 rfl
            clear hB1 t1
            go_wp2_with fail
            generalize hg1 : w1.heap.size = g1 at *
            generalize w1.alloc (.cells #[.int .i64 s1, .bool b1, .slice A1 n1 c1] 50) = W1 at *
            clear hg1
            refine (rlong_calls sy _ hy1).mono ?_
            rintro e w2 ⟨⟨s2, b2, A2, n2, c2, x2, rfl, t2, hy⟩, hB2⟩
            have g2h : g1 < w2.heap.size := blk_lt (R1.below hB2).1
            replace R1 := (R1.below hB2).alloc (.cells #[.int .i64 s2, .bool b2, .slice A2 n2 c2] 50)
            replace a1 := blk_alloc (blk_below a1 hB2) (.cells #[.int .i64 s2, .bool b2, .slice A2 n2 c2] 50)
            replace B0 := bl_alloc (bl_then B0 hB2) (.cells #[.int .i64 s2, .bool b2, .slice A2 n2 c2] 50)
            have R2 := MB.new w2 t2 rfl
            clear hB2 t2
            go_upto_region 13 with (fail)
            generalize hg2 : w2.heap.size = g2 at *
            generalize w2.alloc (.cells #[.int .i64 s2, .bool b2, .slice A2 n2 c2] 50) = W2 at *
            clear hg2
            by_cases hd1 : Ds sx.data.toList
            · have ex := hx hd1
              subst ex
              clear hx
              rw [decide_eq_true hd1]
              by_cases hd2 : Ds sy.data.toList
              · have ey := hy hd2
                subst ey
                clear hy
                rw [decide_eq_true hd2]
                obtain ⟨⟨f1, f2, f3⟩, f4, f5, f6⟩ := bx3 R2.1
                go_wp2_with fail
                refine (rsign_int_calls s2 b2 A2 n2 c2 _ _ R2.2).mono ?_
                rintro e w4 ⟨rfl, hB4⟩
                replace R1 := R1.below hB4
                replace R2 := R2.below hB4
                replace a1 := blk_below a1 hB4
                replace B0 := bl_then B0 hB4
                clear hB4 f1 f2 f3 f4 f5 f6
                by_cases hv0 : dval sy.data.toList = 0
                · have HN : Hid (pz (body s.data.toList) = none) := Lib.hid (by rw [HPZ.out, if_neg (fun k => k.2.2 hv0)])
                  rw [hv0, show Int.sign ((0 : Nat) : Int) = 0 from rfl]
                  clear hv0
                  obtain ⟨rfl, rfl, rfl⟩ := FNo.out HN.out
                  obtain ⟨z1, z2, z3, z4⟩ := bx2 a1
                  go_wp2
                  refine bodyPost_ret (results_cell_tmp_row rfl _ _ w.heap.size 23 #[.int .i64 0, .int .i64 0] (0, 0) _ _ rfl (by first | exact a1 | exact blk_set2 a1 _ _) Tryd.underlying23 rfl (by kernel_rfl) rfl) rfl ?_
                  exact ⟨rfl, by first | exact B0 | exact bl_set (bl_set B0 (Nat.le_refl _) _) (Nat.le_refl _) _⟩
                · have HQ : Hid (pz (body s.data.toList) = some (dval sx.data.toList, dval sy.data.toList)) := Lib.hid (by rw [HPZ.out, if_pos ⟨hd1, hd2, hv0⟩])
                  have hy0 : (dval sy.data.toList : Int) ≠ 0 := by omega
                  have hs1 : Int.sign (dval sy.data.toList : Int) = 1 := Int.sign_eq_one_of_pos (by omega)
                  have SX : Sz 2000 ((dval sx.data.toList : Int)) := dval_sz _ hd1.2 2000 (by have : sx.data.toList.length = sx.size := rfl; omega)
                  have SY := dval_sz _ hd2.2 2000 (by have : sy.data.toList.length = sy.size := rfl; omega)
                  rw [hs1]
                  clear hs1 hv0 hd1 hd2 HPZ
                  by_cases hlong : 200 < s.size
                  · have hlz : (200 : Int) < (s.size : Int) := by omega
                    obtain ⟨rfl, rfl, rfl⟩ := FLo.out _ _ HQ.out (by rw [hsl]; exact hlong)
                    obtain ⟨z1, z2, z3, z4⟩ := bx2 a1
                    go_wp2
                    refine bodyPost_ret (results_cell_tmp_row rfl _ _ w.heap.size 23 #[.int .i64 0, .int .i64 0] (0, 0) _ _ rfl (by first | exact a1 | exact blk_set2 a1 _ _) Tryd.underlying23 rfl (by kernel_rfl) rfl) rfl ?_
                    exact ⟨rfl, by first | exact B0 | exact bl_set (bl_set B0 (Nat.le_refl _) _) (Nat.le_refl _) _⟩
                  · have hlz : ¬ (200 : Int) < (s.size : Int) := by omega
                    have HO : Hid (outT (Rat.divInt ((dval sx.data.toList : Int)) (dval sy.data.toList : Int)) = oT ∧ outL (Rat.divInt ((dval sx.data.toList : Int)) (dval sy.data.toList : Int)) = oL ∧ outE (Rat.divInt ((dval sx.data.toList : Int)) (dval sy.data.toList : Int)) = oE) := Lib.hid (by
                      have h1 := FSo.out _ _ HQ.out (by rw [hsl]; exact hlong)
                      unfold psQ at h1
                      rw [NG.out] at h1
                      exact h1)
                    obtain ⟨⟨f1, f2, f3⟩, f4, f5, f6⟩ := bx3 R1.1
                    obtain ⟨⟨k1, k2, k3⟩, k4, k5, k6⟩ := bx3 R2.1
                    go_wp2_with fail
                    refine (rmake_calls s1 b1 A1 n1 c1 ((dval sx.data.toList : Int)) s2 b2 A2 n2 c2 (dval sy.data.toList : Int) _ R1.2 R2.2 2000 SX SY (by omega) (by omega) hy0).mono ?_
                    rintro e w6 ⟨⟨s6, b6, A6, n6, c6, s6', b6', A6', n6', c6', rfl, t6⟩, hB6⟩
                    replace a1 := blk_below a1 hB6
                    replace B0 := bl_then B0 hB6
                    clear hB6
                    go_wp2_with fail
                    refine (rnum_calls s6 b6 A6 n6 c6 s6' b6' A6' n6' c6' _ _ t6).mono ?_
                    rintro e w7 ⟨he, hB7⟩
                    rw [HO.out.1, HO.out.2.1, HO.out.2.2] at he
                    unfold NumR at he
                    subst he
                    replace a1 := blk_below a1 hB7
                    replace B0 := bl_then B0 hB7
                    clear hB7
                    clear f1 f2 f3 f4 f5 f6 k1 k2 k3 k4 k5 k6 R1 R2 t6
                    obtain ⟨z1, z2, z3, z4⟩ := bx2 a1
                    go_wp2
                    refine bodyPost_ret (results_cell_tmp_row rfl _ _ w.heap.size 23 #[.int .i64 oT, .int .i64 oL] (0, 0) _ _ rfl (by first | exact a1 | exact blk_set2 a1 _ _) Tryd.underlying23 rfl (by kernel_rfl) rfl) rfl ?_
                    exact ⟨rfl, by first | exact B0 | exact bl_set (bl_set B0 (Nat.le_refl _) _) (Nat.le_refl _) _⟩
              · have HN : Hid (pz (body s.data.toList) = none) := Lib.hid (by rw [HPZ.out, if_neg (fun k => hd2 k.2.1)])
                rw [decide_eq_false hd2]
                clear hd2
                obtain ⟨rfl, rfl, rfl⟩ := FNo.out HN.out
                obtain ⟨z1, z2, z3, z4⟩ := bx2 a1
                go_wp2
                refine bodyPost_ret (results_cell_tmp_row rfl _ _ w.heap.size 23 #[.int .i64 0, .int .i64 0] (0, 0) _ _ rfl (by first | exact a1 | exact blk_set2 a1 _ _) Tryd.underlying23 rfl (by kernel_rfl) rfl) rfl ?_
                exact ⟨rfl, by first | exact B0 | exact bl_set (bl_set B0 (Nat.le_refl _) _) (Nat.le_refl _) _⟩
            · have HN : Hid (pz (body s.data.toList) = none) := Lib.hid (by rw [HPZ.out, if_neg (fun k => hd1 k.1)])
              rw [decide_eq_false hd1]
              clear hd1
              obtain ⟨rfl, rfl, rfl⟩ := FNo.out HN.out
              obtain ⟨z1, z2, z3, z4⟩ := bx2 a1
              go_wp2
              refine bodyPost_ret (results_cell_tmp_row rfl _ _ w.heap.size 23 #[.int .i64 0, .int .i64 0] (0, 0) _ _ rfl (by first | exact a1 | exact blk_set2 a1 _ _) Tryd.underlying23 rfl (by kernel_rfl) rfl) rfl ?_
              exact ⟨rfl, by first | exact B0 | exact bl_set (bl_set B0 (Nat.le_refl _) _) (Nat.le_refl _) _⟩
          · have hc' : ((c.toNat : Int) == 47) = false := by simp; omega
            have HLR' := Lib.hid (show s.data.toList = (l ++ [c]) ++ r by rw [hlr]; simp)
            have HD' : Hid (∀ b ∈ l ++ [c], b.toNat ≠ 47) := Lib.hid (fun b hb => by
              rcases List.mem_append.1 hb with hb | hb
              · exact HD.out b hb
              · rw [List.mem_singleton] at hb; rw [hb]; exact hc)
            clear hlr hc
            generalize (c.toNat : Int) = cz at *
            go_wp2
            go_roundw
            case rel => exact ⟨l ++ [c], r, rfl, rfl, HLR'.out, HD'.out, by rw [List.length_append]; go_num, a1, B0⟩
            case measure => simp [intOf]; omega
end Go.Proofs.YtmeldkceajnobaaDoor

namespace Go.Proofs.YtmeldkceajnobaaDoor
open Go.RowKit

set_option maxHeartbeats 40000000 in
set_option maxRecDepth 100000 in
theorem texts_walk (t l : Int) (s : ByteArray) (w : World) (I0 : Hid (-9223372036854775808 ≤ t ∧ t ≤ 9223372036854775807)) (I1 : Hid (-9223372036854775808 ≤ l ∧ l ≤ 9223372036854775807)) (T0 : P10 w) :
    Calls Tryd.prog 3 #[.agg #[.int .i64 t, .int .i64 l], .string s] w fun e w' => e = .returned (.bool true) ∧ Below w.heap.size w w' := by
  by_cases hs : s.size ≤ 400
  · have hlz : ¬ (400 : Int) < (s.size : Int) := by omega
    have HS := Lib.hid hs
    clear hs
    go_enter Tryd.func3, Tryd.ntmps3
    go_upto_region 1 with (fail)
    have B0 := bl_alloc (Below.refl w.heap.size w) (.cells #[.int .i64 t, .int .i64 l] 23)
    have a1 : (w.alloc (.cells #[.int .i64 t, .int .i64 l] 23)).heap[w.heap.size]? = some (.cells #[.int .i64 t, .int .i64 l] 23 (0, 0)) := blk_at _ rfl
    replace T0 := T0.below B0
    generalize w.alloc (.cells #[.int .i64 t, .int .i64 l] 23) = W0 at *
    obtain ⟨p1, p2, p3, p4⟩ := bx2 a1
    go_wp2_with fail
    refine (nprint_calls t l _ I0.out.1 I0.out.2 I1.out.1 I1.out.2 T0).mono ?_
    rintro e w1 ⟨rfl, hB1⟩
    replace a1 := blk_below a1 hB1
    replace B0 := bl_then B0 hB1
    clear hB1 p1 p2 p3 p4 T0
    obtain ⟨p1, p2, p3, p4⟩ := bx2 a1
    go_wp2_with fail
    refine (rprint_calls t l _ I0.out.1 I0.out.2 I1.out.1 I1.out.2).mono ?_
    rintro e w2 ⟨rfl, hB2⟩
    replace a1 := blk_below a1 hB2
    replace B0 := bl_then B0 hB2
    clear hB2 p1 p2 p3 p4
    go_wp2_with fail
    refine (nparse_calls s _ HS.out).mono ?_
    rintro e w3 ⟨he, hB3⟩
    unfold NumR at he
    subst he
    replace a1 := blk_below a1 hB3
    replace B0 := bl_then B0 hB3
    clear hB3
    generalize hT : psT s.data.toList = pT at *
    generalize hL : psL s.data.toList = pL at *
    generalize hE : psE s.data.toList = pE at *
    replace hT := Lib.hid hT
    replace hL := Lib.hid hL
    replace hE := Lib.hid hE
    have g3h := blk_lt a1
    replace a1 := blk_alloc a1 (.cells #[.int .i64 pT, .int .i64 pL] 23)
    replace B0 := bl_alloc B0 (.cells #[.int .i64 pT, .int .i64 pL] 23)
    have a3 : (w3.alloc (.cells #[.int .i64 pT, .int .i64 pL] 23)).heap[w3.heap.size]? = some (.cells #[.int .i64 pT, .int .i64 pL] 23 (0, 0)) := blk_at _ rfl
    go_wp2_with fail
    generalize hg3 : w3.heap.size = g3 at *
    generalize w3.alloc (.cells #[.int .i64 pT, .int .i64 pL] 23) = W3 at *
    clear hg3
    refine (rparse_calls s _ HS.out).mono ?_
    rintro e w4 ⟨he, hB4⟩
    rw [hT.out, hL.out, hE.out] at he
    unfold NumR at he
    subst he
    replace a1 := blk_below a1 hB4
    replace a3 := blk_below a3 hB4
    replace B0 := bl_then B0 hB4
    clear hB4
    have g4h := blk_lt a3
    replace a1 := blk_alloc a1 (.cells #[.int .i64 pT, .int .i64 pL] 23)
    replace a3 := blk_alloc a3 (.cells #[.int .i64 pT, .int .i64 pL] 23)
    replace B0 := bl_alloc B0 (.cells #[.int .i64 pT, .int .i64 pL] 23)
    have a4 : (w4.alloc (.cells #[.int .i64 pT, .int .i64 pL] 23)).heap[w4.heap.size]? = some (.cells #[.int .i64 pT, .int .i64 pL] 23 (0, 0)) := blk_at _ rfl
    go_upto_region 7 with (fail)
    generalize hg4 : w4.heap.size = g4 at *
    generalize w4.alloc (.cells #[.int .i64 pT, .int .i64 pL] 23) = W4 at *
    clear hg4
    obtain ⟨p1, p2, p3, p4⟩ := bx2 a1
    obtain ⟨q1, q2, q3, q4⟩ := bx2 a3
    obtain ⟨r1, r2, r3, r4⟩ := bx2 a4
    by_cases hv : OkN t l
    · have e1 : prT t l = prS t l := by unfold prT; rw [if_pos hv]
      have e2 : prE t l = 0 := by unfold prE; rw [if_pos hv]
      rw [e1, e2]
      have PP := Lib.hid (parse_print t l hv)
      have PL := prS_len t l hv
      generalize hoS : (⟨(prS t l).toArray⟩ : ByteArray) = oS at *
      have hol : oS.data.toList = prS t l := by rw [← hoS]
      have hos : oS.size ≤ 400 := by have : oS.data.toList.length = oS.size := rfl; rw [hol] at this; omega
      rw [← hol] at PP
      clear hoS hol PL e1 e2 hv
      go_wp2_with fail
      refine (nparse_calls oS _ hos).mono ?_
      rintro e w5 ⟨he, hB5⟩
      rw [PP.out.1, PP.out.2.1, PP.out.2.2] at he
      unfold NumR at he
      subst he
      replace a1 := blk_below a1 hB5
      replace B0 := bl_then B0 hB5
      clear hB5 p1 p2 p3 p4 q1 q2 q3 q4 r1 r2 r3 r4 a3 a4 PP hos
      have g5h := blk_lt a1
      replace a1 := blk_alloc a1 (.cells #[.int .i64 t, .int .i64 l] 23)
      replace B0 := bl_alloc B0 (.cells #[.int .i64 t, .int .i64 l] 23)
      have a5 : (w5.alloc (.cells #[.int .i64 t, .int .i64 l] 23)).heap[w5.heap.size]? = some (.cells #[.int .i64 t, .int .i64 l] 23 (0, 0)) := blk_at _ rfl
      go_upto_region 12 with (fail)
      generalize hg5 : w5.heap.size = g5 at *
      generalize w5.alloc (.cells #[.int .i64 t, .int .i64 l] 23) = W5 at *
      clear hg5
      obtain ⟨p1, p2, p3, p4⟩ := bx2 a1
      obtain ⟨r1, r2, r3, r4⟩ := bx2 a5
      go_wp2_with fail
      refine (awake_calls _).mono ?_
      rintro e w6 ⟨rfl, hB6⟩
      replace B0 := bl_then B0 hB6
      go_wp2
      go_ret
      exact ⟨rfl, B0⟩
    · have e1 : prT t l = [] := by unfold prT; rw [if_neg hv]
      have e2 : prE t l = 1 := by unfold prE; rw [if_neg hv]
      rw [e1, e2]
      clear e1 e2 hv
      go_wp2_with fail
      refine (awake_calls _).mono ?_
      rintro e w6 ⟨rfl, hB6⟩
      replace B0 := bl_then B0 hB6
      go_wp2
      go_ret
      exact ⟨rfl, B0⟩
  · have hlz : (400 : Int) < (s.size : Int) := by omega
    clear hs
    go_enter Tryd.func3, Tryd.ntmps3
    go_upto_region 1 with (fail)
    have B0 := bl_alloc (Below.refl w.heap.size w) (.cells #[.int .i64 t, .int .i64 l] 23)
    generalize w.alloc (.cells #[.int .i64 t, .int .i64 l] 23) = W0 at *
    go_wp2_with fail
    refine (awake_calls _).mono ?_
    rintro e w1 ⟨rfl, hB1⟩
    go_wp2
    go_ret
    exact ⟨rfl, bl_then B0 hB1⟩
end Go.Proofs.YtmeldkceajnobaaDoor
