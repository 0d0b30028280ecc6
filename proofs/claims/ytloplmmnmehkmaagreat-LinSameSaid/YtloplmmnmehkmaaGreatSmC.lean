/- Reference 02: SameRow. LinSame: plain law: both sides are equal. Reference 02: Same. few, of a list of forms. LinSame: the walk. -/
import Derived.Test.YtloplmmnmehkmaaGreatSmA
import Derived.Test.YtloplmmnmehkmaaGreatSmB
set_option linter.unusedVariables false
set_option linter.unusedSimpArgs false
namespace Go.Proofs.YtloplmmnmehkmaaGreat
open Go.RowKit

set_option maxHeartbeats 40000000
set_option maxRecDepth 100000
theorem r2samerow_calls (A : Option Addr) (n c : Nat) (x : JC) (zs : List Int) (z0 : Int) (A' : Option Addr) (c' : Nat) (x' : JC) (ys : List Int) (y0 : Int) (w : World) (h : RdR w A n zs) (hx : x.Is w z0) (h' : RdR w A' n ys) (hx' : x'.Is w y0) (hn : n ≤ 500) (K : Nat) (sz : ∀ j, Sz K (zs.getD j 0)) (sx : Sz K z0) (sz' : ∀ j, Sz K (ys.getD j 0)) (sx' : Sz K y0) (hK : K ≤ 1000000) :
    Calls Tryz.prog 59 #[.agg #[.slice A n c, .int .i64 x.s, .bool x.g, .slice x.A x.n x.c], .agg #[.slice A' n c', .int .i64 x'.s, .bool x'.g, .slice x'.A x'.n x'.c]] w fun e w' => e = .returned (.bool (decide (zs = ys ∧ z0 = y0))) ∧ Below w.heap.size w w' := by
  have HSZ := Lib.hid sz
  have HSX := Lib.hid sx
  have HSZ' := Lib.hid sz'
  have HSX' := Lib.hid sx'
  clear sz sx sz' sx'
  have HY : Hid ((∀ j, j < n → zs.getD j 0 = ys.getD j 0) → z0 = y0 → decide (zs = ys ∧ z0 = y0) = true) := Lib.hid fun h1 h2 => decide_eq_true ⟨by
    refine List.ext_getElem (by rw [h.1, h'.1]) fun j a b => ?_
    have := h1 j (by rw [← h.1]; exact a)
    rwa [List.getD_eq_getElem?_getD, List.getD_eq_getElem?_getD, List.getElem?_eq_getElem a, List.getElem?_eq_getElem b] at this, h2⟩
  have HN0 : Hid (z0 ≠ y0 → decide (zs = ys ∧ z0 = y0) = false) := Lib.hid fun h1 => decide_eq_false fun h2 => h1 h2.2
  have HN1 : Hid (∀ j, zs.getD j 0 ≠ ys.getD j 0 → decide (zs = ys ∧ z0 = y0) = false) := Lib.hid fun j h1 => decide_eq_false fun h2 => h1 (by rw [h2.1])
  generalize decide (zs = ys ∧ z0 = y0) = D at *
  go_enter Tryz.func59, Tryz.ntmps59
  have B0 := bl_alloc (bl_alloc (Below.refl w.heap.size w) (.cells #[.slice A n c, .int .i64 x.s, .bool x.g, .slice x.A x.n x.c] 60)) (.cells #[.slice A' n c', .int .i64 x'.s, .bool x'.g, .slice x'.A x'.n x'.c] 60)
  have a1 := blk_alloc (blk_at (W := w) (.cells #[.slice A n c, .int .i64 x.s, .bool x.g, .slice x.A x.n x.c] 60) rfl) (.cells #[.slice A' n c', .int .i64 x'.s, .bool x'.g, .slice x'.A x'.n x'.c] 60)
  have au := blk_at (W := w.alloc (.cells #[.slice A n c, .int .i64 x.s, .bool x.g, .slice x.A x.n x.c] 60)) (.cells #[.slice A' n c', .int .i64 x'.s, .bool x'.g, .slice x'.A x'.n x'.c] 60) rfl
  have hx1 := RV.kp hx (Kp.below B0)
  have hu := RV.kp hx' (Kp.below B0)
  simp only [World.size_alloc] at au
  obtain ⟨f1, f2, f3, f4, f5⟩ := q4c a1
  obtain ⟨k1, k2, k3, k4, k5⟩ := q4c au
  go_wp2_with fail
  refine (ricmp_calls x.s x.g x.A x.n x.c z0 x'.s x'.g x'.A x'.n x'.c y0 _ hx1 hu K HSX.out HSX'.out (by omega)).mono ?_
  rintro e w1 ⟨rfl, hB1⟩
  replace a1 := blk_below a1 hB1
  replace au := blk_below au hB1
  replace B0 := bl_then B0 hB1
  clear f1 f2 f3 f4 f5 k1 k2 k3 k4 k5 hx1 hu hB1
  by_cases h0 : z0 = y0
  · have e0 : (z0 - y0).sign = 0 := by rw [h0, Int.sub_self]; rfl
    rw [e0]
    have HE := Lib.hid h0
    clear h0 e0
    obtain ⟨f1, f2, f3, f4, f5⟩ := q4c a1
    go_wp2_with fail
    clear f1 f2 f3 f4 f5
    have HB := Lib.hid B0
    go_loopw [24] (fun i wr => ∃ kk : Nat, kk ≤ n ∧ i = .int .i64 kk ∧ Hid (∀ j, j < kk → zs.getD j 0 = ys.getD j 0) ∧ Below w1.heap.size w1 wr) (fun i _ => n - (intOf i).toNat)
    case atStart => exact ⟨0, Nat.zero_le _, rfl, Lib.hid fun j hj => absurd hj (by omega), Below.refl _ _⟩
    case round =>
      obtain ⟨kk, hkk, rfl, HEQ, hBr⟩ := hrel
      replace a1 := blk_below a1 hBr
      replace au := blk_below au hBr
      replace B0 := bl_then HB.out hBr
      have HBr := Lib.hid hBr
      clear hBr HB
      by_cases hlt : kk < n
      · obtain ⟨gz, rfl, lgz, hcz⟩ := h.2.2 (by omega)
        obtain ⟨z, ⟨p1, p2, p3⟩, hz0⟩ := hcz kk hlt
        obtain ⟨gb, rfl, lgb, hcb⟩ := h'.2.2 (by omega)
        obtain ⟨b, ⟨q1, q2, q3⟩, hb0⟩ := hcb kk hlt
        have hz : RV w z.s z.g z.A z.n z.c (zs.getD kk 0) := hz0
        have hb : RV w b.s b.g b.A b.n b.c (ys.getD kk 0) := hb0
        have e3z := @cell3_below w gz (kk * 3) _ _ _ lgz p1 p2 p3
        have e3b := @cell3_below w gb (kk * 3) _ _ _ lgb q1 q2 q3
        have HC := Lib.hid (HSZ.out kk)
        have HC2 := Lib.hid (HSZ'.out kk)
        have HNK := Lib.hid (HN1.out kk)
        have HNX : Hid (zs.getD kk 0 = ys.getD kk 0 → ∀ j, j < kk + 1 → zs.getD j 0 = ys.getD j 0) := Lib.hid fun e j hj => by
          rcases Nat.lt_or_ge j kk with h | h
          · exact HEQ.out j h
          · have : j = kk := by omega
            rw [this]; exact e
        have hk0 : (0 : Int) ≤ (kk : Int) := by omega
        have hkn : (kk : Int) < (n : Int) := by omega
        clear hcz hz0 hcb hb0 q1 q2 q3 p1 p2 p3 h h'
        go_upto_region 6 with (fail)
        generalize zs.getD kk 0 = cz at *
        generalize ys.getD kk 0 = cb at *
        have a1_0 := blk_drew a1
        have au_0 := blk_drew au
        have B_0 := bl_drew B0
        have PW : wr.cell? ⟨w.heap.size, 0, none⟩ = some (Value.slice (some ⟨gz, 0, none⟩) n c) ∧ wr.cell? ⟨w.heap.size + 1, 0, none⟩ = some (Value.slice (some ⟨gb, 0, none⟩) n c') ∧ (wr.cell? ⟨gz, kk * 3, none⟩ = some (Value.int .i64 z.s) ∧ wr.cell? ⟨gz, kk * 3 + 1, none⟩ = some (Value.bool z.g) ∧ wr.cell? ⟨gz, kk * 3 + 2, none⟩ = some (Value.slice z.A z.n z.c)) ∧ wr.cell? ⟨gb, kk * 3, none⟩ = some (Value.int .i64 b.s) ∧ wr.cell? ⟨gb, kk * 3 + 1, none⟩ = some (Value.bool b.g) ∧ wr.cell? ⟨gb, kk * 3 + 2, none⟩ = some (Value.slice b.A b.n b.c) := And.intro (q4c a1).1 (And.intro (q4c au).1 (And.intro (e3z B0) (e3b B0)))
        have P0 : wr.drew.cell? ⟨w.heap.size, 0, none⟩ = some (Value.slice (some ⟨gz, 0, none⟩) n c) ∧ wr.drew.cell? ⟨w.heap.size + 1, 0, none⟩ = some (Value.slice (some ⟨gb, 0, none⟩) n c') ∧ (wr.drew.cell? ⟨gz, kk * 3, none⟩ = some (Value.int .i64 z.s) ∧ wr.drew.cell? ⟨gz, kk * 3 + 1, none⟩ = some (Value.bool z.g) ∧ wr.drew.cell? ⟨gz, kk * 3 + 2, none⟩ = some (Value.slice z.A z.n z.c)) ∧ wr.drew.cell? ⟨gb, kk * 3, none⟩ = some (Value.int .i64 b.s) ∧ wr.drew.cell? ⟨gb, kk * 3 + 1, none⟩ = some (Value.bool b.g) ∧ wr.drew.cell? ⟨gb, kk * 3 + 2, none⟩ = some (Value.slice b.A b.n b.c) := And.intro (q4c a1_0).1 (And.intro (q4c au_0).1 (And.intro (e3z B_0) (e3b B_0)))
        go_region_held3 (fun W => W.cell? ⟨w.heap.size, 0, none⟩ = some (Value.slice (some ⟨gz, 0, none⟩) n c) ∧ W.cell? ⟨w.heap.size + 1, 0, none⟩ = some (Value.slice (some ⟨gb, 0, none⟩) n c') ∧ (W.cell? ⟨gz, kk * 3, none⟩ = some (Value.int .i64 z.s) ∧ W.cell? ⟨gz, kk * 3 + 1, none⟩ = some (Value.bool z.g) ∧ W.cell? ⟨gz, kk * 3 + 2, none⟩ = some (Value.slice z.A z.n z.c)) ∧ W.cell? ⟨gb, kk * 3, none⟩ = some (Value.int .i64 b.s) ∧ W.cell? ⟨gb, kk * 3 + 1, none⟩ = some (Value.bool b.g) ∧ W.cell? ⟨gb, kk * 3 + 2, none⟩ = some (Value.slice b.A b.n b.c)) (first | with_reducible exact P1 | with_reducible exact P0 | with_reducible exact PW | go_keep) (first | (go_at_call 111; refine (ricmp_calls z.s z.g z.A z.n z.c cz b.s b.g b.A b.n b.c cb _ (RV.kp hz (Kp.below B_0)) (RV.kp hb (Kp.below B_0)) K HC.out HC2.out (by omega)).mono ?_; rintro e y1 ⟨rfl, hB1⟩; have H1 : Below wr.heap.size wr y1 := bl_then (bl_drew (Below.refl _ _)) hB1; have a1_1 := blk_below a1 H1; have au_1 := blk_below au H1; have B_1 := bl_then B0 H1; have P1 : y1.cell? ⟨w.heap.size, 0, none⟩ = some (Value.slice (some ⟨gz, 0, none⟩) n c) ∧ y1.cell? ⟨w.heap.size + 1, 0, none⟩ = some (Value.slice (some ⟨gb, 0, none⟩) n c') ∧ (y1.cell? ⟨gz, kk * 3, none⟩ = some (Value.int .i64 z.s) ∧ y1.cell? ⟨gz, kk * 3 + 1, none⟩ = some (Value.bool z.g) ∧ y1.cell? ⟨gz, kk * 3 + 2, none⟩ = some (Value.slice z.A z.n z.c)) ∧ y1.cell? ⟨gb, kk * 3, none⟩ = some (Value.int .i64 b.s) ∧ y1.cell? ⟨gb, kk * 3 + 1, none⟩ = some (Value.bool b.g) ∧ y1.cell? ⟨gb, kk * 3 + 2, none⟩ = some (Value.slice b.A b.n b.c) := And.intro (q4c a1_1).1 (And.intro (q4c au_1).1 (And.intro (e3z B_1) (e3b B_1)))) | fail)
        by_cases hc : cz = cb
        · have e0 : (cz - cb).sign = 0 := by rw [hc, Int.sub_self]; rfl
          rw [e0]
          have HEN := Lib.hid (HNX.out hc)
          clear hc e0
          go_wp2
          go_roundw
          case rel => exact ⟨kk + 1, hlt, by go_num, HEN, bl_then HBr.out H1⟩
          case measure => simp [intOf]; omega
        · have e0 : ((cz - cb).sign != 0) = true := by
            have : ¬ (cz - cb).sign = 0 := fun h => hc (by have := Int.sign_eq_zero_iff_zero.1 h; omega)
            simpa using this
          have hD := HNK.out hc
          subst hD
          generalize (cz - cb).sign = sg at *
          clear hc
          go_wp2
          go_ret
          exact ⟨rfl, B_1⟩
      · have hkn : n = kk := by omega
        subst hkn
        have hD := HY.out HEQ.out HE.out
        subst hD
        go_wp2
        go_ret
        exact ⟨rfl, B0⟩
  · have e0 : ((z0 - y0).sign != 0) = true := by
      have : ¬ (z0 - y0).sign = 0 := fun h => h0 (by have := Int.sign_eq_zero_iff_zero.1 h; omega)
      simpa using this
    have hD := HN0.out h0
    subst hD
    generalize (z0 - y0).sign = sg at *
    clear h0
    go_wp2
    go_ret
    exact ⟨rfl, B0⟩
end Go.Proofs.YtloplmmnmehkmaaGreat

namespace Go.Proofs.YtloplmmnmehkmaaGreat
open Go.RowKit

/-- What the reference's Same hands back. -/
def refB (n : Int) (F G : List Fm) : Bool := if OkFs n F ∧ OkFs n G then ((soZ n.toNat F).isSome == (soZ n.toNat G).isSome) && decide ((soZ n.toNat F).getD [] = (soZ n.toNat G).getD []) else false
theorem map_inj_of {α β : Type} (f : α → β) (hf : ∀ a b, f a = f b → a = b) : ∀ l m : List α, l.map f = m.map f → l = m
  | [], [], _ => rfl
  | [], _ :: _, h => by simp at h
  | _ :: _, [], h => by simp at h
  | a :: l, b :: m, h => by
    simp only [List.map_cons, List.cons.injEq] at h
    rw [hf a b h.1, map_inj_of f hf l m h.2]
theorem rowF_inj (a b : Fm) (h : rowF a = rowF b) : a = b := by
  have h1 : a.1.map (fun x : Int => (x : Rat)) = b.1.map fun x : Int => (x : Rat) := congrArg Prod.fst h
  have h2 : (a.2 : Rat) = (b.2 : Rat) := congrArg Prod.snd h
  exact Prod.ext (map_inj_of _ (fun x y e => Rat.intCast_inj.1 e) _ _ h1) (Rat.intCast_inj.1 h2)
theorem okfs_len {n : Int} {F : List Fm} (h : OkFs n F) : ∀ f ∈ F, f.1.length = n.toNat := fun f hf => by
  have h1 := h.2.2 f hf
  have h2 := h1.2.1
  omega
theorem okfs_sz {n : Int} {F : List Fm} (h : OkFs n F) : ∀ f ∈ F, (∀ j, Sz 100 (f.1.getD j 0)) ∧ Sz 100 f.2 := fun f hf => ⟨okf_sz (h.2.2 f hf), mid_sz (h.2.2 f hf).2.2.1⟩
theorem sam_ref (n : Int) (F G : List Fm) : samB n F G = refB n F G := by
  unfold samB refB
  by_cases h : OkFs n F ∧ OkFs n G
  · rw [if_pos h, if_pos h, solved_rows (okfs_len h.1), solved_rows (okfs_len h.2)]
    cases soZ n.toNat F with
    | none => cases soZ n.toNat G with
      | none => rfl
      | some S => rfl
    | some R => cases soZ n.toNat G with
      | none => rfl
      | some S =>
        show ((true == true) && decide (R.map rowF = S.map rowF)) = ((true == true) && decide (R = S))
        congr 1
        exact decide_eq_decide.2 ⟨map_inj_of rowF rowF_inj R S, fun e => by rw [e]⟩
  · rw [if_neg h, if_neg h]
end Go.Proofs.YtloplmmnmehkmaaGreat

namespace Go.Proofs.YtloplmmnmehkmaaGreat
open Go.RowKit

set_option maxHeartbeats 40000000
set_option maxRecDepth 100000
theorem r2same_calls (n : Int) (A : Option Addr) (m c : Nat) (F : List Fm) (A' : Option Addr) (m' c' : Nat) (G : List Fm) (w : World) (h : RdF w A m F) (hi : ∀ f ∈ F, I64F f) (hm : m ≤ 500) (h' : RdF w A' m' G) (hi' : ∀ f ∈ G, I64F f) (hm' : m' ≤ 500) :
    Calls Tryz.prog 20 #[.int .i64 n, .slice A m c, .slice A' m' c'] w fun e w' => e = .returned (.tuple #[.bool (refB n F G), .int .i64 (samE n F G)]) ∧ Below w.heap.size w w' := by
  have HI := Lib.hid hi
  have HI' := Lib.hid hi'
  have NO : ¬ (OkFs n F ∧ OkFs n G) → refB n F G = false ∧ samE n F G = 1 := fun hh => ⟨if_neg hh, if_neg hh⟩
  have YES : OkFs n F → OkFs n G → refB n F G = (((soZ n.toNat F).isSome == (soZ n.toNat G).isSome) && decide ((soZ n.toNat F).getD [] = (soZ n.toNat G).getD [])) ∧ samE n F G = 0 := fun h1 h2 => ⟨if_pos ⟨h1, h2⟩, if_pos ⟨h1, h2⟩⟩
  generalize refB n F G = sB at *
  generalize samE n F G = sE at *
  clear hi hi'
  go_enter Tryz.func20, Tryz.ntmps20
  go_wp2_with fail
  refine (r2vforms_calls n A m c F _ h).mono ?_
  rintro e w1 ⟨he, hB1⟩
  by_cases hok : OkFs n F
  · rw [decide_eq_true hok] at he
    subst he
    go_wp2_with fail
    refine (r2vforms_calls n A' m' c' G _ (h'.below hB1)).mono ?_
    rintro e w2 ⟨he, hB2⟩
    have B0 := bl_then hB1 hB2
    clear hB1 hB2
    by_cases hok' : OkFs n G
    · rw [decide_eq_true hok'] at he
      subst he
      obtain ⟨n, rfl⟩ : ∃ nn : Nat, n = nn := ⟨n.toNat, by have := hok.1.1; omega⟩
      obtain ⟨hy1, rfl⟩ := YES hok hok'
      rw [Int.toNat_natCast] at hy1
      have HY := Lib.hid hy1
      have hn8 : n ≤ 8 := by have := hok.1.2; omega
      have hks := kS_le hn8
      have LF : Hid (∀ f ∈ F, f.1.length = n) := Lib.hid (okfs_len hok)
      have LG : Hid (∀ f ∈ G, f.1.length = n) := Lib.hid (okfs_len hok')
      have SF := Lib.hid (okfs_sz hok)
      have SG := Lib.hid (okfs_sz hok')
      have ZF := Lib.hid (soZ_facts LF.out SF.out)
      have ZG := Lib.hid (soZ_facts LG.out SG.out)
      clear YES NO hok hok' hy1
      go_wp2_with fail
      refine (r2all_calls A m c F _ (h.below B0) (fun f hf => ⟨HI.out f hf, by have := LF.out f hf; omega⟩) hm).mono ?_
      rintro e w3 ⟨⟨A2, c2, rfl, hr2⟩, hB3⟩
      replace B0 := bl_then B0 hB3
      clear hB3
      go_wp2_with fail
      refine (r2solved_calls n A2 m c2 F _ hr2 LF.out SF.out hn8 hm).mono ?_
      rintro e w4 ⟨⟨A3, m3, c3, he, hr3⟩, hB4⟩
      replace B0 := bl_then B0 hB4
      clear hB4 hr2
      generalize (soZ n F).isSome = d1 at *
      generalize (soZ n F).getD [] = R1 at *
      subst he
      go_wp2_with fail
      refine (r2all_calls A' m' c' G _ (h'.below B0) (fun f hf => ⟨HI'.out f hf, by have := LG.out f hf; omega⟩) hm').mono ?_
      rintro e w5 ⟨⟨A4, c4, rfl, hr4⟩, hB5⟩
      replace B0 := bl_then B0 hB5
      replace hr3 := hr3.below hB5
      clear hB5
      go_wp2_with fail
      refine (r2solved_calls n A4 m' c4 G _ hr4 LG.out SG.out hn8 hm').mono ?_
      rintro e w6 ⟨⟨A5, m5, c5, he, hr5⟩, hB6⟩
      replace B0 := bl_then B0 hB6
      replace hr3 := hr3.below hB6
      clear hB6 hr4
      generalize (soZ n G).isSome = d2 at *
      generalize (soZ n G).getD [] = R2 at *
      subst he
      have LR1 := Lib.hid hr3.1
      have LR2 := Lib.hid hr5.1
      by_cases hd : d1 = d2
      · subst hd
        have hdd : (d1 == d1) = true := by simp
        have hdd2 : decide (d1 = d1) = true := by simp
        rw [hdd, Bool.true_and] at HY
        by_cases hmm : m3 = m5
        · subst hmm
          have hm39 := hr3.2.1
          have H3 := Lib.hid hr3
          have H5 := Lib.hid hr5
          have HB := Lib.hid B0
          clear hr3 hr5 B0
          go_wp2_with fail
          go_loopw [49] (fun i wr => ∃ kk : Nat, kk ≤ m3 ∧ i = .int .i64 kk ∧ Hid (∀ j, j < kk → R1.getD j ([], 0) = R2.getD j ([], 0)) ∧ Below w6.heap.size w6 wr) (fun i _ => m3 - (intOf i).toNat)
          case atStart => exact ⟨0, Nat.zero_le _, rfl, Lib.hid fun j hj => absurd hj (by omega), Below.refl _ _⟩
          case round =>
            obtain ⟨kk, hkk, rfl, HEQ, hBr⟩ := hrel
            by_cases hlt : kk < m3
            · obtain ⟨g1, rfl, lg1, Ay, ny, cy, xy, p1, t1, t2⟩ := (H3.out.below hBr).row kk hlt
              obtain ⟨g2, rfl, lg2, Az, nz, cz, xz, p2, u1, u2⟩ := (H5.out.below hBr).row kk hlt
              have m1 : R1.getD kk ([], 0) ∈ R1 := mem_getD (by rw [LR1.out]; exact hlt)
              have m2 : R2.getD kk ([], 0) ∈ R2 := mem_getD (by rw [LR2.out]; exact hlt)
              have e1 : n = ny := by rw [← (ZF.out _ m1).1]; exact t1.1.1
              have e2 : n = nz := by rw [← (ZG.out _ m2).1]; exact u1.1.1
              subst e1 e2
              have S1 := Lib.hid (ZF.out _ m1).2
              have S2 := Lib.hid (ZG.out _ m2).2
              have HNK : Hid (R1.getD kk ([], 0) ≠ R2.getD kk ([], 0) → decide (R1 = R2) = false) := Lib.hid fun h1 => decide_eq_false fun h2 => h1 (by rw [h2])
              have HNX : Hid (R1.getD kk ([], 0) = R2.getD kk ([], 0) → ∀ j, j < kk + 1 → R1.getD j ([], 0) = R2.getD j ([], 0)) := Lib.hid fun e j hj => by
                rcases Nat.lt_or_ge j kk with h | h
                · exact HEQ.out j h
                · have : j = kk := by omega
                  rw [this]; exact e
              have HBr := Lib.hid hBr
              have hk0 : (0 : Int) ≤ (kk : Int) := by omega
              have hkn : (kk : Int) < (m3 : Int) := by omega
              clear m1 m2 hBr
              generalize R1.getD kk ([], 0) = r1 at *
              generalize R2.getD kk ([], 0) = r2 at *
              go_upto_region 10 with (fail)
              by_cases hc : r1 = r2
              · have e0 : decide (r1.1 = r2.1 ∧ r1.2 = r2.2) = true := decide_eq_true ⟨by rw [hc], by rw [hc]⟩
                have HDB := Lib.hid e0
                have HEN := Lib.hid (HNX.out hc)
                clear hc e0
                have PW : (wr.cell? ⟨g1, kk * 4, none⟩ = some (Value.slice Ay n cy) ∧ wr.cell? ⟨g1, kk * 4 + 1, none⟩ = some (Value.int .i64 xy.s) ∧ wr.cell? ⟨g1, kk * 4 + 2, none⟩ = some (Value.bool xy.g) ∧ wr.cell? ⟨g1, kk * 4 + 3, none⟩ = some (Value.slice xy.A xy.n xy.c)) ∧ wr.cell? ⟨g2, kk * 4, none⟩ = some (Value.slice Az n cz) ∧ wr.cell? ⟨g2, kk * 4 + 1, none⟩ = some (Value.int .i64 xz.s) ∧ wr.cell? ⟨g2, kk * 4 + 2, none⟩ = some (Value.bool xz.g) ∧ wr.cell? ⟨g2, kk * 4 + 3, none⟩ = some (Value.slice xz.A xz.n xz.c) := And.intro p1 p2
                have P0 : (wr.drew.cell? ⟨g1, kk * 4, none⟩ = some (Value.slice Ay n cy) ∧ wr.drew.cell? ⟨g1, kk * 4 + 1, none⟩ = some (Value.int .i64 xy.s) ∧ wr.drew.cell? ⟨g1, kk * 4 + 2, none⟩ = some (Value.bool xy.g) ∧ wr.drew.cell? ⟨g1, kk * 4 + 3, none⟩ = some (Value.slice xy.A xy.n xy.c)) ∧ wr.drew.cell? ⟨g2, kk * 4, none⟩ = some (Value.slice Az n cz) ∧ wr.drew.cell? ⟨g2, kk * 4 + 1, none⟩ = some (Value.int .i64 xz.s) ∧ wr.drew.cell? ⟨g2, kk * 4 + 2, none⟩ = some (Value.bool xz.g) ∧ wr.drew.cell? ⟨g2, kk * 4 + 3, none⟩ = some (Value.slice xz.A xz.n xz.c) := And.intro (p1.below lg1 (bl_drew (Below.refl _ _))) (p2.below lg2 (bl_drew (Below.refl _ _)))
                go_region_held3 (fun W => (W.cell? ⟨g1, kk * 4, none⟩ = some (Value.slice Ay n cy) ∧ W.cell? ⟨g1, kk * 4 + 1, none⟩ = some (Value.int .i64 xy.s) ∧ W.cell? ⟨g1, kk * 4 + 2, none⟩ = some (Value.bool xy.g) ∧ W.cell? ⟨g1, kk * 4 + 3, none⟩ = some (Value.slice xy.A xy.n xy.c)) ∧ W.cell? ⟨g2, kk * 4, none⟩ = some (Value.slice Az n cz) ∧ W.cell? ⟨g2, kk * 4 + 1, none⟩ = some (Value.int .i64 xz.s) ∧ W.cell? ⟨g2, kk * 4 + 2, none⟩ = some (Value.bool xz.g) ∧ W.cell? ⟨g2, kk * 4 + 3, none⟩ = some (Value.slice xz.A xz.n xz.c)) (first | with_reducible exact P1 | with_reducible exact P0 | with_reducible exact PW | go_keep) (first | (go_at_call 59; refine (r2samerow_calls Ay n cy xy r1.1 r1.2 Az cz xz r2.1 r2.2 _ (t1.1.below (bl_drew (Below.refl _ _))) (RV.kp t2 (Kp.below (bl_drew (Below.refl _ _)))) (u1.1.below (bl_drew (Below.refl _ _))) (RV.kp u2 (Kp.below (bl_drew (Below.refl _ _)))) (by omega) (kS n) S1.out.1 S1.out.2 S2.out.1 S2.out.2 (by omega)).mono ?_; rintro e y1 ⟨he, hB1⟩; rw [HDB.out] at he; subst he; have H1 : Below wr.heap.size wr y1 := bl_then (bl_drew (Below.refl _ _)) hB1; have P1 : (y1.cell? ⟨g1, kk * 4, none⟩ = some (Value.slice Ay n cy) ∧ y1.cell? ⟨g1, kk * 4 + 1, none⟩ = some (Value.int .i64 xy.s) ∧ y1.cell? ⟨g1, kk * 4 + 2, none⟩ = some (Value.bool xy.g) ∧ y1.cell? ⟨g1, kk * 4 + 3, none⟩ = some (Value.slice xy.A xy.n xy.c)) ∧ y1.cell? ⟨g2, kk * 4, none⟩ = some (Value.slice Az n cz) ∧ y1.cell? ⟨g2, kk * 4 + 1, none⟩ = some (Value.int .i64 xz.s) ∧ y1.cell? ⟨g2, kk * 4 + 2, none⟩ = some (Value.bool xz.g) ∧ y1.cell? ⟨g2, kk * 4 + 3, none⟩ = some (Value.slice xz.A xz.n xz.c) := And.intro (p1.below lg1 H1) (p2.below lg2 H1)) | fail)
                go_wp2
                go_roundw
                case rel => exact ⟨kk + 1, hlt, by go_num, HEN, bl_then HBr.out H1⟩
                case measure => simp [intOf]; omega
              · have e0 : decide (r1.1 = r2.1 ∧ r1.2 = r2.2) = false := decide_eq_false fun h => hc (Prod.ext h.1 h.2)
                have HDB := Lib.hid e0
                have hD := HNK.out hc
                rw [hD] at HY
                have hy := HY.out
                subst hy
                clear hc e0 HY hD
                have PW : (wr.cell? ⟨g1, kk * 4, none⟩ = some (Value.slice Ay n cy) ∧ wr.cell? ⟨g1, kk * 4 + 1, none⟩ = some (Value.int .i64 xy.s) ∧ wr.cell? ⟨g1, kk * 4 + 2, none⟩ = some (Value.bool xy.g) ∧ wr.cell? ⟨g1, kk * 4 + 3, none⟩ = some (Value.slice xy.A xy.n xy.c)) ∧ wr.cell? ⟨g2, kk * 4, none⟩ = some (Value.slice Az n cz) ∧ wr.cell? ⟨g2, kk * 4 + 1, none⟩ = some (Value.int .i64 xz.s) ∧ wr.cell? ⟨g2, kk * 4 + 2, none⟩ = some (Value.bool xz.g) ∧ wr.cell? ⟨g2, kk * 4 + 3, none⟩ = some (Value.slice xz.A xz.n xz.c) := And.intro p1 p2
                have P0 : (wr.drew.cell? ⟨g1, kk * 4, none⟩ = some (Value.slice Ay n cy) ∧ wr.drew.cell? ⟨g1, kk * 4 + 1, none⟩ = some (Value.int .i64 xy.s) ∧ wr.drew.cell? ⟨g1, kk * 4 + 2, none⟩ = some (Value.bool xy.g) ∧ wr.drew.cell? ⟨g1, kk * 4 + 3, none⟩ = some (Value.slice xy.A xy.n xy.c)) ∧ wr.drew.cell? ⟨g2, kk * 4, none⟩ = some (Value.slice Az n cz) ∧ wr.drew.cell? ⟨g2, kk * 4 + 1, none⟩ = some (Value.int .i64 xz.s) ∧ wr.drew.cell? ⟨g2, kk * 4 + 2, none⟩ = some (Value.bool xz.g) ∧ wr.drew.cell? ⟨g2, kk * 4 + 3, none⟩ = some (Value.slice xz.A xz.n xz.c) := And.intro (p1.below lg1 (bl_drew (Below.refl _ _))) (p2.below lg2 (bl_drew (Below.refl _ _)))
                go_region_held3 (fun W => (W.cell? ⟨g1, kk * 4, none⟩ = some (Value.slice Ay n cy) ∧ W.cell? ⟨g1, kk * 4 + 1, none⟩ = some (Value.int .i64 xy.s) ∧ W.cell? ⟨g1, kk * 4 + 2, none⟩ = some (Value.bool xy.g) ∧ W.cell? ⟨g1, kk * 4 + 3, none⟩ = some (Value.slice xy.A xy.n xy.c)) ∧ W.cell? ⟨g2, kk * 4, none⟩ = some (Value.slice Az n cz) ∧ W.cell? ⟨g2, kk * 4 + 1, none⟩ = some (Value.int .i64 xz.s) ∧ W.cell? ⟨g2, kk * 4 + 2, none⟩ = some (Value.bool xz.g) ∧ W.cell? ⟨g2, kk * 4 + 3, none⟩ = some (Value.slice xz.A xz.n xz.c)) (first | with_reducible exact P1 | with_reducible exact P0 | with_reducible exact PW | go_keep) (first | (go_at_call 59; refine (r2samerow_calls Ay n cy xy r1.1 r1.2 Az cz xz r2.1 r2.2 _ (t1.1.below (bl_drew (Below.refl _ _))) (RV.kp t2 (Kp.below (bl_drew (Below.refl _ _)))) (u1.1.below (bl_drew (Below.refl _ _))) (RV.kp u2 (Kp.below (bl_drew (Below.refl _ _)))) (by omega) (kS n) S1.out.1 S1.out.2 S2.out.1 S2.out.2 (by omega)).mono ?_; rintro e y1 ⟨he, hB1⟩; rw [HDB.out] at he; subst he; have H1 : Below wr.heap.size wr y1 := bl_then (bl_drew (Below.refl _ _)) hB1; have P1 : (y1.cell? ⟨g1, kk * 4, none⟩ = some (Value.slice Ay n cy) ∧ y1.cell? ⟨g1, kk * 4 + 1, none⟩ = some (Value.int .i64 xy.s) ∧ y1.cell? ⟨g1, kk * 4 + 2, none⟩ = some (Value.bool xy.g) ∧ y1.cell? ⟨g1, kk * 4 + 3, none⟩ = some (Value.slice xy.A xy.n xy.c)) ∧ y1.cell? ⟨g2, kk * 4, none⟩ = some (Value.slice Az n cz) ∧ y1.cell? ⟨g2, kk * 4 + 1, none⟩ = some (Value.int .i64 xz.s) ∧ y1.cell? ⟨g2, kk * 4 + 2, none⟩ = some (Value.bool xz.g) ∧ y1.cell? ⟨g2, kk * 4 + 3, none⟩ = some (Value.slice xz.A xz.n xz.c) := And.intro (p1.below lg1 H1) (p2.below lg2 H1)) | fail)
                go_wp2
                go_ret2
                exact ⟨rfl, bl_then HB.out (bl_then HBr.out H1)⟩
            · have hkn : m3 = kk := by omega
              subst hkn
              have hD : decide (R1 = R2) = true := decide_eq_true (by
                refine List.ext_getElem (by rw [LR1.out, LR2.out]) fun j a b => ?_
                rw [← fm_getD a, ← fm_getD b]; exact HEQ.out j (by rw [← LR1.out]; exact a))
              rw [hD] at HY
              have hy := HY.out
              subst hy
              clear HY hD
              go_wp2
              go_ret2
              exact ⟨rfl, bl_then HB.out hBr⟩
        · have hD : decide (R1 = R2) = false := decide_eq_false fun e => hmm (by rw [← LR1.out, ← LR2.out, e])
          rw [hD] at HY
          have hy := HY.out
          subst hy
          have hmI : ((m3 : Int) != (m5 : Int)) = true := by simpa using fun e => hmm (by omega)
          clear HY hD
          go_wp2
          go_ret2
          exact ⟨rfl, B0⟩
      · have hdd : (d1 == d2) = false := by simpa using hd
        have hdd2 : decide (d1 = d2) = false := decide_eq_false hd
        rw [hdd, Bool.false_and] at HY
        have hy := HY.out
        subst hy
        clear HY
        go_wp2
        go_ret2
        exact ⟨rfl, B0⟩
    · rw [decide_eq_false hok'] at he
      subst he
      obtain ⟨rfl, rfl⟩ := NO (fun hh => hok' hh.2)
      clear YES NO hok hok'
      go_wp2
      go_ret2
      exact ⟨rfl, B0⟩
  · rw [decide_eq_false hok] at he
    subst he
    obtain ⟨rfl, rfl⟩ := NO (fun hh => hok hh.1)
    clear YES NO hok
    go_wp2
    go_ret2
    exact ⟨rfl, hB1⟩
end Go.Proofs.YtloplmmnmehkmaaGreat

namespace Go.Proofs.YtloplmmnmehkmaaGreat
open Go.RowKit

def fewP (F : List Fm) : Prop := (∀ f ∈ F, f.1.length ≤ 40) ∧ F.length < 140
instance (F : List Fm) : Decidable (fewP F) := by unfold fewP; infer_instance
set_option maxHeartbeats 40000000
set_option maxRecDepth 100000
theorem lfew_calls (A : Option Addr) (m c : Nat) (F : List Fm) (w : World) (h : RdF w A m F) :
    Calls Tryz.prog 9 #[.slice A m c] w fun e w' => e = .returned (.bool (decide (fewP F))) ∧ Below w.heap.size w w' := by
  have L := Lib.hid h.1
  have hm := h.2.1
  generalize hD : decide (fewP F) = D
  have HD := Lib.hid hD
  clear hD
  go_enter Tryz.func9, Tryz.ntmps9
  go_wp2_with fail
  go_loopw [7] (fun i wr => ∃ kk : Nat, kk ≤ m ∧ i = .int .i64 kk ∧ (∀ j, j < kk → (F.getD j ([], 0)).1.length ≤ 40) ∧ Below w.heap.size w wr) (fun i _ => m - (intOf i).toNat)
  case atStart => exact ⟨0, Nat.zero_le _, rfl, fun j hj => absurd hj (by omega), Below.refl _ _⟩
  case round =>
    obtain ⟨kk, hkk, rfl, hall, B0⟩ := hrel
    have HALL := Lib.hid hall
    clear hall
    by_cases hlt : kk < m
    · obtain ⟨g, off, rfl, hg, hc⟩ := (h.below B0).2.2 (by omega)
      obtain ⟨A1, n1, c1, p1, p2, hr⟩ := hc kk hlt
      have HMEM := Lib.hid (mem_getD (d := (([], 0) : Fm)) (by rw [L.out]; exact hlt : kk < F.length))
      have hn1 : (F.getD kk ([], 0)).1.length = n1 := hr.1
      have HN1 := Lib.hid hn1
      have hn2 := hr.2.1
      clear hc h hr hn1
      generalize hff : F.getD kk ([], 0) = f at *
      have HFF := Lib.hid hff
      clear hff
      have B1 := bl_alloc B0 (.cells #[.slice A1 n1 c1, .int .i64 f.2] 44)
      by_cases h40 : n1 ≤ 40
      · have d1 : decide ((40 : Int) < (n1 : Int)) = false := decide_eq_false (by omega)
        have d2 : ¬ (40 : Int) < (n1 : Int) := by omega
        go_wp2
        go_roundw
        case rel =>
          refine ⟨kk + 1, hlt, by go_num, ?_, B1⟩
          intro j hj
          rcases Nat.lt_or_ge j kk with h1 | h1
          · exact HALL.out j h1
          · have : j = kk := by omega
            subst this
            rw [HFF.out, HN1.out]; exact h40
        case measure => simp [intOf]; omega
      · have d1 : decide ((40 : Int) < (n1 : Int)) = true := decide_eq_true (by omega)
        have d2 : (40 : Int) < (n1 : Int) := by omega
        have hd := HD.out
        rw [decide_eq_false (fun hh => h40 (by rw [← HN1.out]; exact hh.1 _ HMEM.out))] at hd
        subst hd
        go_wp2
        go_ret
        exact ⟨rfl, B1⟩
    · have hkn : m = kk := by omega
      subst hkn
      have hd := HD.out
      by_cases h140 : m < 140
      · rw [decide_eq_true ⟨all_of_getD (p := fun f : Fm => f.1.length ≤ 40) (d := (([], 0) : Fm)) fun j hj => HALL.out j (by rw [L.out] at hj; omega), by rw [L.out]; exact h140⟩] at hd
        subst hd
        have d1 : decide ((m : Int) < 140) = true := decide_eq_true (by omega)
        have d2 : (m : Int) < 140 := by omega
        go_wp2
        go_ret
        exact ⟨by first | rfl | simp [d1], B0⟩
      · rw [decide_eq_false (fun hh => h140 (by rw [← L.out]; exact hh.2))] at hd
        subst hd
        have d1 : decide ((m : Int) < 140) = false := decide_eq_false (by omega)
        go_wp2
        go_ret
        exact ⟨by first | rfl | simp [d1] | (simp; omega), B0⟩
end Go.Proofs.YtloplmmnmehkmaaGreat

namespace Go.Proofs.YtloplmmnmehkmaaGreat
open Go.RowKit

set_option maxHeartbeats 40000000
set_option maxRecDepth 100000
theorem linsame_walk (n : Int) (A : Option Addr) (m c : Nat) (F : List Fm) (A' : Option Addr) (m' c' : Nat) (G : List Fm) (w : World) (h : RdF w A m F) (hi : ∀ f ∈ F, I64F f) (h' : RdF w A' m' G) (hi' : ∀ f ∈ G, I64F f) :
    Calls Tryz.prog 4 #[.int .i64 n, .slice A m c, .slice A' m' c'] w fun e w' => e = .returned (.bool true) ∧ Below w.heap.size w w' := by
  have L := Lib.hid h.1
  have L' := Lib.hid h'.1
  have HI := Lib.hid hi
  have HI' := Lib.hid hi'
  clear hi hi'
  go_enter Tryz.func4, Tryz.ntmps4
  go_wp2_with fail
  refine (lfew_calls A m c F _ h).mono ?_
  rintro e w1 ⟨he, hB1⟩
  have B0 := hB1
  clear hB1
  by_cases hfew : fewP F
  · rw [decide_eq_true hfew] at he
    subst he
    have hm : m ≤ 500 := by have := hfew.2; have := L.out; omega
    have HLN : Hid (∀ f ∈ F, f.1.length ≤ 1000000) := Lib.hid fun f hf => by have := hfew.1 f hf; omega
    clear hfew
    go_wp2_with fail
    refine (lfew_calls A' m' c' G _ (h'.below B0)).mono ?_
    rintro e w2 ⟨he, hB2⟩
    replace B0 := bl_then B0 hB2
    clear hB2
    by_cases hfew : fewP G
    · rw [decide_eq_true hfew] at he
      subst he
      have hm' : m' ≤ 500 := by have := hfew.2; have := L'.out; omega
      have HLN' : Hid (∀ f ∈ G, f.1.length ≤ 1000000) := Lib.hid fun f hf => by have := hfew.1 f hf; omega
      clear hfew
      go_wp2_with fail
      refine (lsame_calls n A m c F A' m' c' G _ (h.below B0) HI.out HLN.out hm (h'.below B0) HI'.out HLN'.out hm').mono ?_
      rintro e w3 ⟨rfl, hB3⟩
      replace B0 := bl_then B0 hB3
      clear hB3
      rw [sam_ref]
      have H2 := fun W (hB : Below w.heap.size w W) => r2same_calls n A m c F A' m' c' G W (h.below hB) HI.out hm (h'.below hB) HI'.out hm'
      generalize refB n F G = sB at *
      generalize samE n F G = sE at *
      have H3 := Lib.hid H2
      clear H2
      have d1 : (sB == sB) = true := by simp
      have d2 : (sE == sE) = true := by simp
      have d3 : decide (sB = sB) = true := by simp
      have d4 : decide (sE = sE) = true := by simp
      go_wp2_with fail
      refine (H3.out _ B0).mono ?_
      rintro e w4 ⟨rfl, hB4⟩
      replace B0 := bl_then B0 hB4
      clear hB4
      go_wp2_with fail
      refine (lawake_calls _).mono ?_
      rintro e wz ⟨rfl, hBz⟩
      have Bz := bl_then B0 hBz
      go_wp2
      go_ret
      exact ⟨rfl, Bz⟩
    · rw [decide_eq_false hfew] at he
      subst he
      clear hfew
      go_wp2_with fail
      refine (lawake_calls _).mono ?_
      rintro e wz ⟨rfl, hBz⟩
      have Bz := bl_then B0 hBz
      go_wp2
      go_ret
      exact ⟨rfl, Bz⟩
  · rw [decide_eq_false hfew] at he
    subst he
    clear hfew
    go_wp2_with fail
    refine (lawake_calls _).mono ?_
    rintro e wz ⟨rfl, hBz⟩
    have Bz := bl_then B0 hBz
    go_wp2
    go_ret
    exact ⟨rfl, Bz⟩
end Go.Proofs.YtloplmmnmehkmaaGreat
