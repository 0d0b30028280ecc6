/- LinOwn: the walk. -/
import Derived.Test.YtjmbpeniibdnoaaOwC
set_option linter.unusedVariables false
set_option linter.unusedSimpArgs false
namespace Go.Proofs.Ytjmbpeniibdnoaa
open Go.RowKit

theorem cb_bd (n : Int) (F : List Fm) (M : List (Int × Int)) : (cbF n F M).1.1.length ≤ 8 := by
  unfold cbF
  split
  · rename_i h
    split
    · split
      · have := h.1.1.2
        show ((scl (cbQ n.toNat F M)).take n.toNat).length ≤ 8
        rw [List.length_take]; omega
      · exact Nat.zero_le _
    · exact Nat.zero_le _
  · exact Nat.zero_le _
theorem ech_bd (n : Int) (F : List Fm) : (echF n F).1.length ≤ 8 ∧ ∀ f ∈ (echF n F).1, f.1.length ≤ 8 := by
  unfold echF
  by_cases h : OkFs n F
  · rw [if_pos h]
    obtain ⟨k, rfl⟩ : ∃ k : Nat, n = k := ⟨n.toNat, by have := h.1.1; omega⟩
    have hk := h.1.2
    rw [Int.toNat_natCast]
    cases hR : rowsF k (F.map rowF) with
    | none => exact ⟨Nat.zero_le _, fun f hf => absurd hf (by simp)⟩
    | some R =>
      obtain ⟨h1, h2⟩ := okf_R h hR
      show (fsF R).length ≤ 8 ∧ ∀ f ∈ fsF R, f.1.length ≤ 8
      unfold fsF
      split
      · refine ⟨by rw [List.length_map]; omega, fun f hf => ?_⟩
        obtain ⟨q, hq, rfl⟩ := List.mem_map.1 hf
        have := (h2 q hq).1
        show (q.1.map Rat.num).length ≤ 8
        rw [List.length_map]; omega
      · exact ⟨Nat.zero_le _, fun f hf => absurd hf (by simp)⟩
  · rw [if_neg h]; exact ⟨Nat.zero_le _, fun f hf => absurd hf (by simp)⟩
theorem sol_bd (n : Int) (F : List Fm) : (solF n F).1.length ≤ 8 := by
  unfold solF
  by_cases h : OkFs n F
  · rw [if_pos h]
    have hk := h.1.2
    have hl : ∀ (R : List Rw) (x : List Rat), (R.foldl (fun x q => x.set (ldF q.1) (-(q.2 / q.1.getD (ldF q.1) 0))) x).length = x.length := fun R => by
      induction R with
      | nil => exact fun _ => rfl
      | cons r R ih => intro x; rw [List.foldl_cons, ih, List.length_set]
    cases hR : rowsF n.toNat (F.map rowF) with
    | none => exact Nat.zero_le _
    | some R =>
      show (osF (solX n.toNat R)).length ≤ 8
      unfold osF
      split
      · rw [List.length_map]
        unfold solX
        rw [hl, List.length_replicate]; omega
      · exact Nat.zero_le _
  · rw [if_neg h]; exact Nat.zero_le _
set_option maxHeartbeats 40000000
set_option maxRecDepth 100000
theorem linown_walk (n : Int) (A : Option Addr) (m c : Nat) (F : List Fm) (A' : Option Addr) (m' c' : Nat) (G : List Fm) (A2 : Option Addr) (m2 c2 : Nat) (M : List (Int × Int)) (A3 : Option Addr) (m3 c3 : Nat) (X : List (Int × Int)) (w : World) (h : RdF w A m F) (hi : ∀ f ∈ F, I64F f) (h' : RdF w A' m' G) (hi' : ∀ f ∈ G, I64F f) (h2 : RdN w A2 m2 M) (hi2 : I64s M) (h3 : RdN w A3 m3 X) (hi3 : I64s X) :
    Calls Try.prog 3 #[.int .i64 n, .slice A m c, .slice A' m' c', .slice A2 m2 c2, .slice A3 m3 c3] w fun e w' => e = .returned (.bool true) ∧ Below w.heap.size w w' := by
  have L := Lib.hid h.1
  have L' := Lib.hid h'.1
  have HI := Lib.hid hi
  have HI' := Lib.hid hi'
  have HI2 := Lib.hid hi2
  have HI3 := Lib.hid hi3
  clear hi hi' hi2 hi3
  go_enter Try.func3, Try.ntmps3
  go_wp2_with fail
  refine (lfew_calls A m c F _ h).mono ?_
  rintro e w1 ⟨he, B0⟩
  by_cases hfew : fewP F
  · rw [decide_eq_true hfew] at he
    subst he
    have hm : m ≤ 500 := by have := hfew.2; have := L.out; omega
    have HLN : Hid (∀ f ∈ F, f.1.length ≤ 1000000) := Lib.hid fun f hf => by have := hfew.1 f hf; omega
    clear hfew
    go_wp2_with fail
    refine (lfew_calls A' m' c' G _ (h'.below B0)).mono ?_
    rintro e w2 ⟨he, hB⟩
    replace B0 := bl_then B0 hB
    clear hB
    by_cases hfew : fewP G
    · rw [decide_eq_true hfew] at he
      subst he
      have hm' : m' ≤ 500 := by have := hfew.2; have := L'.out; omega
      have HLN' : Hid (∀ f ∈ G, f.1.length ≤ 1000000) := Lib.hid fun f hf => by have := hfew.1 f hf; omega
      clear hfew
      by_cases h140 : m2 ≤ 140
      · have d1 : ¬ (140 : Int) < (m2 : Int) := by omega
        have d2 : decide ((140 : Int) < (m2 : Int)) = false := decide_eq_false d1
        by_cases h40 : m3 ≤ 40
        · have d3 : ¬ (40 : Int) < (m3 : Int) := by omega
          have d4 : decide ((40 : Int) < (m3 : Int)) = false := decide_eq_false d3
          go_wp2_with fail
          refine (copies_calls A m c F _ (h.below B0) hm HLN.out).mono ?_
          rintro e w3 ⟨⟨Aa, ca, rfl, ta⟩, hB⟩
          have Ta := ta.1
          replace B0 := bl_then B0 hB
          clear hB ta
          go_wp2_with fail
          refine (copies_calls A' m' c' G _ (h'.below B0) hm' HLN'.out).mono ?_
          rintro e w4 ⟨⟨Ab, cb, rfl, tb⟩, hB⟩
          have Tb := tb.1
          replace Ta := Ta.below hB
          replace B0 := bl_then B0 hB
          clear hB tb
          go_wp2_with fail
          refine (copynums_calls A2 m2 c2 M _ (h2.below B0) (by omega)).mono ?_
          rintro e w5 ⟨⟨Ac, cc, rfl, tc⟩, hB⟩
          have Tc := tc.1
          replace Ta := Ta.below hB
          replace Tb := Tb.below hB
          replace B0 := bl_then B0 hB
          clear hB tc
          go_wp2_with fail
          refine (copynums_calls A3 m3 c3 X _ (h3.below B0) (by omega)).mono ?_
          rintro e W1 ⟨⟨Ad, cd, rfl, td⟩, hB⟩
          have Td := td.1
          replace Ta := Ta.below hB
          replace Tb := Tb.below hB
          replace Tc := Tc.below hB
          replace B0 := bl_then B0 hB
          clear hB td d1 d2 d3 d4
          have C1 := Lib.hid fun W (hB : Below W1.heap.size W1 W) => lcomb_calls n A m c F A2 m2 c2 M W (h.below (B0.trans (hB.mono B0.size))) HI.out HLN.out hm (h2.below (B0.trans (hB.mono B0.size))) HI2.out
          have C2 := Lib.hid fun W (hB : Below W1.heap.size W1 W) => lech_calls n A m c F W (h.below (B0.trans (hB.mono B0.size))) HI.out HLN.out hm
          have C3 := Lib.hid fun W (hB : Below W1.heap.size W1 W) => lsol_calls n A m c F W (h.below (B0.trans (hB.mono B0.size))) HI.out HLN.out hm
          have C4 := Lib.hid fun W (hB : Below W1.heap.size W1 W) => lrank_calls n A m c F W (h.below (B0.trans (hB.mono B0.size))) HI.out HLN.out hm
          have C5 := Lib.hid fun W (hB : Below W1.heap.size W1 W) => lsame_calls n A m c F A' m' c' G W (h.below (B0.trans (hB.mono B0.size))) HI.out HLN.out hm (h'.below (B0.trans (hB.mono B0.size))) HI'.out HLN'.out hm'
          have D1 := Lib.hid (cb_bd n F M)
          have D2 := Lib.hid (ech_bd n F)
          have D3 := Lib.hid (sol_bd n F)
          generalize cbF n F M = E1 at *
          generalize echF n F = E2 at *
          generalize solF n F = E3 at *
          obtain ⟨p, k1, e1⟩ := E1
          obtain ⟨q, k2, e2⟩ := E2
          obtain ⟨y, k3, e3⟩ := E3
          dsimp only at C1 C2 C3 D1 D2 D3
          have R0 := Below.refl W1.heap.size W1
          go_wp2_with fail
          go_loopw [68] (fun i wr => ∃ kk : Nat, kk ≤ m ∧ i = .int .i64 kk ∧ Below W1.heap.size W1 wr) (fun i _ => m - (intOf i).toNat)
          case atStart => exact ⟨0, Nat.zero_le _, rfl, R0⟩
          case round =>
            clear R0
            obtain ⟨kk, hkk, rfl, R0⟩ := hrel
            by_cases hlt : kk < m
            · obtain ⟨g, off, rfl, hg, hc⟩ := (h.below (B0.trans (R0.mono B0.size))).2.2 (by omega)
              obtain ⟨A1, n1, c1, p1, p2, hr⟩ := hc kk hlt
              have HMEM := mem_getD (d := (([], 0) : Fm)) (show kk < F.length by rw [L.out]; exact hlt)
              have HF1 := Lib.hid (HI.out _ HMEM)
              clear hc HMEM
              generalize F.getD kk ([], 0) = f1 at *
              have a16 := blk_at (W := wr) (.cells #[.slice A1 n1 c1, .int .i64 f1.2] 30) rfl
              have BX : Below wr.heap.size wr (wr.alloc (.cells #[.slice A1 n1 c1, .int .i64 f1.2] 30)) := bl_alloc (Below.refl _ _) _
              have V0 := R0.trans (BX.mono R0.size)
              replace hr := hr.below BX
              clear BX
              obtain ⟨f1', f2', f3', f4'⟩ := bx2 a16
              go_wp2_with fail
              generalize hg16 : wr.heap.size = g16 at *
              have hW2 : g16 + 1 = (wr.alloc (.cells #[.slice A1 n1 c1, .int .i64 f1.2] 30)).heap.size := by simp [hg16]
              generalize wr.alloc (.cells #[.slice A1 n1 c1, .int .i64 f1.2] 30) = W2 at *
              have hV0 := V0.size
              refine (lprim_calls n A1 n1 c1 f1 _ hr HF1.out).mono ?_
              rintro e w2 ⟨⟨v, rfl, Ag, ng, cg, rfl, tg, ug⟩, hB⟩
              generalize prmF n f1 = pf at *
              have sg := SpF.of tg ug
              have hng := tg.2.1
              have a17 := blk_at (W := w2) (.cells #[.slice Ag ng cg, .int .i64 pf.2] 30) rfl
              have BX : Below w2.heap.size w2 (w2.alloc (.cells #[.slice Ag ng cg, .int .i64 pf.2] 30)) := bl_alloc (Below.refl _ _) _
              have hs1 := hB.size
              replace sg := sg.sp (Spl.ofBelow BX hs1)
              have hs2 := BX.size
              have V1 : Below W2.heap.size W2 (w2.alloc (.cells #[.slice Ag ng cg, .int .i64 pf.2] 30)) := bl_then hB BX
              clear hB BX tg ug f1' f2' f3' f4'
              obtain ⟨q1, q2, q3, q4⟩ := bx2 a17
              go_wp2_with fail
              generalize w2.alloc (.cells #[.slice Ag ng cg, .int .i64 pf.2] 30) = W3 at *
              refine (spoil_calls Ag ng cg pf.2 W2.heap.size w2.heap.size W3 sg (by omega) hs2 hng).mono ?_
              rintro e w4 ⟨rfl, S1⟩
              have V2 : Below W2.heap.size W2 w4 := V1.trans S1.bel
              have a16' := (V2.block g16 (by omega)).trans a16
              clear S1 V1 sg q1 q2 q3 q4 a17
              have V3 := V0.trans (V2.mono hV0)
              obtain ⟨q1, q2, q3, q4⟩ := bx2 a16'
              go_wp2_with fail
              refine (lvalue_calls n A1 n1 c1 f1 A3 m3 c3 X _ (hr.below V2) (h3.below (B0.trans (V3.mono B0.size))) HF1.out HI3.out).mono ?_
              rintro e w5 ⟨he, hB⟩
              unfold NumR at he
              subst he
              have V4 := bl_then V3 hB
              clear q1 q2 q3 q4 V3 hB
              go_wp2
              go_roundw
              case rel => exact ⟨kk + 1, hlt, by go_num, V4⟩
              case measure => simp [intOf]; omega
            · have hkm : m = kk := by omega
              subst hkm
              go_wp2_with fail
              refine (C1.out _ R0).mono ?_
              rintro e w6 ⟨⟨v, rfl, Ap, np, cp, rfl, tp, up⟩, hB⟩
              have sp := (SpF.of tp up).lo R0.size
              have hnp : np ≤ 1000000 := by rw [← tp.1]; have := D1.out; omega
              have hs6 := hB.size
              have hR0 := R0.size
              have a19 := blk_at (W := w6) (.cells #[.slice Ap np cp, .int .i64 p.2] 30) rfl
              have BX : Below w6.heap.size w6 (w6.alloc (.cells #[.slice Ap np cp, .int .i64 p.2] 30)) := bl_alloc (Below.refl _ _) _
              replace sp := sp.sp (Spl.ofBelow BX (by omega))
              have R1 := bl_then (bl_then R0 hB) BX
              replace tp := tp.below BX
              have hg19 : w6.heap.size < (w6.alloc (.cells #[.slice Ap np cp, .int .i64 p.2] 30)).heap.size := by simp
              have hgl : W1.heap.size ≤ w6.heap.size := by omega
              clear hB BX up hs6 hR0 R0
              go_wp2_with fail
              generalize w6.heap.size = g19 at *
              generalize w6.alloc (.cells #[.slice Ap np cp, .int .i64 p.2] 30) = W2 at *
              have hW2 := R1.size
              refine (C2.out _ R1).mono ?_
              rintro e w7 ⟨⟨Aq, mq, cq, rfl, tq⟩, hB⟩
              have hmq : mq ≤ 500 := by have h1 := tq.1.1; have h2 := D2.out.1; omega
              have sq := (SpFs.of tq).lo hW2
              have tqr := tq.1
              have hB7 := hB
              have hs7 := hB.size
              replace R1 := bl_then R1 hB
              clear tq hB
              go_wp2_with fail
              refine (C3.out _ R1).mono ?_
              rintro e w8 ⟨⟨Ay, my, cy, rfl, ty⟩, hB⟩
              have hmy : my ≤ 500 := by have h1 := ty.1.1; have h2 := D3.out; omega
              replace ty := ty.mono (Nat.le_trans hW2 hs7)
              have hs8 := hB.size
              replace sq := (sq.bl hB (Nat.le_trans hW2 hs7)).hi hs8
              replace tqr := tqr.below hB
              have hB8 := bl_then hB7 hB
              replace R1 := bl_then R1 hB
              clear hB7 hB
              go_wp2_with fail
              refine (C4.out _ R1).mono ?_
              rintro e w9 ⟨rfl, hB⟩
              have hs9 := hB.size
              have hR9 := R1.size
              replace sq := (sq.bl hB hR9).hi hs9
              replace ty := ty.below hB
              replace tqr := tqr.below hB
              have hB9 := bl_then hB8 hB
              replace R1 := bl_then R1 hB
              clear hB8 hB
              go_wp2_with fail
              refine (C5.out _ R1).mono ?_
              rintro e Wq ⟨rfl, hB⟩
              have hsq := hB.size
              have hRq0 := R1.size
              replace sq := (sq.bl hB hRq0).hi hsq
              replace ty := ty.below hB
              replace tqr := tqr.below hB
              have hBq := bl_then hB9 hB
              replace R1 := bl_then R1 hB
              have hsz := hBq.size
              replace sp := (sp.sp (Spl.ofBelow hBq hW2)).hi (show g19 ≤ Wq.heap.size by omega)
              replace tp := tp.below hBq
              replace a19 := blk_below a19 hBq
              have hg19q : g19 < Wq.heap.size := by omega
              have hRq := R1.size
              have sn := SpN.of ty
              have tyr := ty.1
              clear hBq hB9 hB hW2 hs7 hs8 hs9 hR9 hsq hRq0 hg19 ty hsz
              obtain ⟨q1, q2, q3, q4⟩ := bx2 a19
              go_wp2_with fail
              refine (rcopy_calls Ap np cp p _ tp.toC hnp).mono ?_
              rintro e w10 ⟨⟨v, rfl, Ar, nr, cr, rfl, tr, ur⟩, hB⟩
              have V1 := hB
              clear q1 q2 q3 q4 hB
              go_wp2_with fail
              refine (copies_calls Aq mq cq q _ (tqr.below V1) hmq (fun f hf => by have := D2.out.2 f hf; omega)).mono ?_
              rintro e w11 ⟨⟨As, cs, rfl, ts⟩, hB⟩
              replace ts := ts.mono V1.size
              replace tr := tr.below hB
              replace ur := ur.below hB
              have V2 := bl_then V1 hB
              clear V1 hB
              go_wp2_with fail
              refine (copynums_calls Ay my cy y _ (tyr.below V2) hmy).mono ?_
              rintro e w12 ⟨⟨Az, cz, rfl, tz⟩, hB⟩
              replace tz := tz.mono V2.size
              replace tr := tr.below hB
              replace ur := ur.below hB
              replace ts := ts.below hB
              have V3 := bl_then V2 hB
              have hs12 := V3.size
              clear V2 hB tyr tqr
              have a28 := blk_at (W := w12) (.cells #[.slice Ar nr cr, .int .i64 p.2] 30) rfl
              have BX : Below w12.heap.size w12 (w12.alloc (.cells #[.slice Ar nr cr, .int .i64 p.2] 30)) := bl_alloc (Below.refl _ _) _
              have hg28 : w12.heap.size < (w12.alloc (.cells #[.slice Ar nr cr, .int .i64 p.2] 30)).heap.size := by simp
              have TR : FmB Wq.heap.size (.agg #[.slice Ar nr cr, .int .i64 p.2]) (w12.alloc (.cells #[.slice Ar nr cr, .int .i64 p.2] 30)) p := ⟨Ar, nr, cr, rfl, tr.below BX, ur.below BX⟩
              replace ts := ts.below BX
              replace tz := tz.below BX
              replace V3 := bl_then V3 BX
              clear BX tr ur
              replace a19 := blk_below a19 V3
              replace sp := sp.sp (Spl.ofBelow V3 hRq)
              replace sq := sq.bl V3 hRq
              replace sn := sn.kp (Kp.below V3)
              replace R1 := bl_then R1 V3
              obtain ⟨q1, q2, q3, q4⟩ := bx2 a19
              go_wp2_with fail
              generalize w12.heap.size = g28 at *
              generalize w12.alloc (.cells #[.slice Ar nr cr, .int .i64 p.2] 30) = W10 at *
              have hW10 := V3.size
              clear V3
              generalize Wq.heap.size = hi at *
              refine (spoil_calls Ap np cp p.2 W1.heap.size hi W10 sp (by omega) (by omega) (by omega)).mono ?_
              rintro e w13 ⟨rfl, S1⟩
              clear q1 q2 q3 q4
              go_wp2_with fail
              go_loopw [133] (fun i wr => ∃ kk : Nat, kk ≤ mq ∧ i = .int .i64 kk ∧ Spl W1.heap.size hi W10 wr) (fun i _ => mq - (intOf i).toNat)
              case atStart => exact ⟨0, Nat.zero_le _, rfl, S1⟩
              case round =>
                clear S1
                obtain ⟨kk, hkk, rfl, S1⟩ := hrel
                by_cases hlt : kk < mq
                · obtain ⟨g, cs', rfl, hg, hc⟩ := (sq.sp S1) (by omega)
                  obtain ⟨A5, n5, c5, a5, z1, z2, z3, z4⟩ := hc kk hlt
                  have x1 := (blk_cell hg (kk * 2)).1
                  have x2 := (blk_cell hg (kk * 2 + 1)).1
                  rw [z1] at x1
                  rw [z2] at x2
                  have hsr := S1.fr.1
                  have BX : Below wr.heap.size wr (wr.alloc (.cells #[.slice A5 n5 c5, .int .i64 a5] 30)) := bl_alloc (Below.refl _ _) _
                  have SX : Spl W1.heap.size hi wr (wr.alloc (.cells #[.slice A5 n5 c5, .int .i64 a5] 30)) := Spl.ofBelow BX (by omega)
                  have hsx := BX.size
                  clear hc hg z1 z2 BX
                  go_wp2_with fail
                  refine (spoil_calls A5 n5 c5 a5 W1.heap.size hi _ (z4.sp SX) (by omega) (by omega) z3).mono ?_
                  rintro e w14 ⟨rfl, S2⟩
                  have S3 := (S1.trans SX).trans S2
                  clear S1 S2 SX z4 x1 x2
                  go_wp2
                  go_roundw
                  case rel => exact ⟨kk + 1, hlt, by go_num, S3⟩
                  case measure => simp [intOf]; omega
                · have hkq : mq = kk := by omega
                  subst hkq
                  go_wp2_with fail
                  refine (spoilnums_calls Ay my cy W1.heap.size hi _ (sn.kp (S1.typ _ (by decide))) (by omega)).mono ?_
                  rintro e w15 ⟨rfl, B15, F15, T15⟩
                  have R2 := R1.trans (S1.bel.trans B15)
                  have FF := S1.fr.trans F15
                  have TR2 := TR.fr FF
                  have ts2 := ts.fr FF (by omega)
                  have tz2 := tz.fr FF (by omega)
                  have a28' := (FF.2 g28 (by omega) hg28).trans a28
                  have a19' := (T15 30 (by decide)).blk _ _ _ ((S1.typ 30 (by decide)).blk _ _ _ a19)
                  clear S1 B15 F15 T15 FF TR ts tz a28 a19 R1 sp sq sn
                  obtain ⟨_, _, _, er, tr, _⟩ := TR2
                  cases er
                  have ts := ts2
                  have tz := tz2
                  clear ts2 tz2
                  go_wp2_with fail
                  refine (lsforms_calls A m c Aa ca F _ (h.below (B0.trans (R2.mono B0.size))) (Ta.below R2)).mono ?_
                  rintro e w16 ⟨rfl, hB⟩
                  replace R2 := bl_then R2 hB
                  replace tr := tr.below hB
                  replace ts := ts.below hB
                  replace tz := tz.below hB
                  replace a28' := blk_below a28' hB
                  replace a19' := blk_below a19' hB
                  clear hB
                  go_wp2_with fail
                  refine (lsforms_calls A' m' c' Ab cb G _ (h'.below (B0.trans (R2.mono B0.size))) (Tb.below R2)).mono ?_
                  rintro e w17 ⟨rfl, hB⟩
                  replace R2 := bl_then R2 hB
                  replace tr := tr.below hB
                  replace ts := ts.below hB
                  replace tz := tz.below hB
                  replace a28' := blk_below a28' hB
                  replace a19' := blk_below a19' hB
                  clear hB
                  go_wp2_with fail
                  refine (lnsame_calls A2 m2 c2 Ac cc M _ (h2.below (B0.trans (R2.mono B0.size))) (Tc.below R2)).mono ?_
                  rintro e w18 ⟨rfl, hB⟩
                  replace R2 := bl_then R2 hB
                  replace tr := tr.below hB
                  replace ts := ts.below hB
                  replace tz := tz.below hB
                  replace a28' := blk_below a28' hB
                  replace a19' := blk_below a19' hB
                  clear hB
                  go_wp2_with fail
                  refine (lnsame_calls A3 m3 c3 Ad cd X _ (h3.below (B0.trans (R2.mono B0.size))) (Td.below R2)).mono ?_
                  rintro e w19 ⟨rfl, hB⟩
                  replace R2 := bl_then R2 hB
                  replace tr := tr.below hB
                  replace ts := ts.below hB
                  replace tz := tz.below hB
                  replace a28' := blk_below a28' hB
                  replace a19' := blk_below a19' hB
                  clear hB
                  go_wp2_with fail
                  refine (C1.out _ R2).mono ?_
                  rintro e w20 ⟨⟨v, rfl, Ap2, np2, cp2, rfl, tp2, _⟩, hB⟩
                  replace R2 := bl_then R2 hB
                  replace tr := tr.below hB
                  replace ts := ts.below hB
                  replace tz := tz.below hB
                  replace a28' := blk_below a28' hB
                  replace a19' := blk_below a19' hB
                  clear hB
                  obtain ⟨q1, q2, q3, q4⟩ := bx2 a19'
                  have kpt : ∀ t, 30 ≠ t → Kp t w20 ((w20.setCell ⟨g19, 0, none⟩ (.slice Ap2 np2 cp2)).setCell ⟨g19, 1, none⟩ (.int .i64 p.2)) := fun t ht => (((Kp.refl t w20).set (p := ⟨g19, 0, none⟩) a19' ht (.slice Ap2 np2 cp2)).set (p := ⟨g19, 1, none⟩) (blk_set a19' 0 _) ht (.int .i64 p.2))
                  have U1 := (R2.setCell (p := ⟨g19, 0, none⟩) hgl (.slice Ap2 np2 cp2)).setCell (p := ⟨g19, 1, none⟩) hgl (.int .i64 p.2)
                  have U2 := blk_set2 a19' (.slice Ap2 np2 cp2) (.int .i64 p.2)
                  have U3 := blk_far (i := 1) (v := .int .i64 p.2) (blk_far (i := 0) (v := .slice Ap2 np2 cp2) a28' (show g28 ≠ g19 by omega)) (show g28 ≠ g19 by omega)
                  have U4 := tp2.kp (kpt 3 (by decide))
                  have U5 := tr.kp (kpt 3 (by decide))
                  have FS : Fr hi w20 ((w20.setCell ⟨g19, 0, none⟩ (.slice Ap2 np2 cp2)).setCell ⟨g19, 1, none⟩ (.int .i64 p.2)) := (Fr.set hg19q _).trans (Fr.set hg19q _)
                  have U6 := (ts.fr FS (by omega)).1
                  have U7 := (tz.fr FS (by omega)).1
                  have HX := Lib.hid (And.intro U2 (And.intro U3 (And.intro U4 (And.intro U5 (And.intro U6 U7)))))
                  clear kpt R2 FS U2 U3 U4 U5 U6 U7 tp2 tr ts tz a28' a19'
                  go_wp2_with fail
                  clear q1 q2 q3 q4
                  obtain ⟨U2, U3, tp2, tr, ts, tz⟩ := HX.out
                  clear HX
                  generalize (w20.setCell ⟨g19, 0, none⟩ (.slice Ap2 np2 cp2)).setCell ⟨g19, 1, none⟩ (.int .i64 p.2) = W20 at *
                  refine (C2.out _ U1).mono ?_
                  rintro e w21 ⟨⟨Aq2, mq2, cq2, rfl, tq2, _⟩, hB⟩
                  replace U1 := bl_then U1 hB
                  replace tp2 := tp2.below hB
                  replace tr := tr.below hB
                  replace ts := ts.below hB
                  replace tz := tz.below hB
                  replace U2 := blk_below U2 hB
                  replace U3 := blk_below U3 hB
                  clear hB
                  go_wp2_with fail
                  refine (C3.out _ U1).mono ?_
                  rintro e w22 ⟨⟨Ay2, my2, cy2, rfl, ty2, _⟩, hB⟩
                  replace U1 := bl_then U1 hB
                  replace tp2 := tp2.below hB
                  replace tr := tr.below hB
                  replace ts := ts.below hB
                  replace tz := tz.below hB
                  replace tq2 := tq2.below hB
                  replace U2 := blk_below U2 hB
                  replace U3 := blk_below U3 hB
                  clear hB
                  have en1 : np2 = nr := by rw [← tp2.1, ← tr.1]
                  have en2 : mq2 = mq := by rw [← tq2.1, ← ts.1]
                  have en3 : my2 = my := by rw [← ty2.1, ← tz.1]
                  subst en1 en2 en3
                  have d1 : (e1 == e1) = true := by simp
                  have d2 : (e2 == e2) = true := by simp
                  have d3 : (e3 == e3) = true := by simp
                  have d4 : decide (e1 = e1) = true := by simp
                  have d5 : decide (e2 = e2) = true := by simp
                  have d6 : decide (e3 = e3) = true := by simp
                  obtain ⟨q1, q2, q3, q4⟩ := bx2 U2
                  obtain ⟨r1, r2, r3, r4⟩ := bx2 U3
                  go_wp2_with fail
                  refine (lsform_calls Ap2 np2 cp2 Ar cr p _ tp2.toC tr.toC).mono ?_
                  rintro e w23 ⟨rfl, hB⟩
                  replace U1 := bl_then U1 hB
                  replace ts := ts.below hB
                  replace tz := tz.below hB
                  replace tq2 := tq2.below hB
                  replace ty2 := ty2.below hB
                  clear hB q1 q2 q3 q4 r1 r2 r3 r4 U2 U3 tp2 tr
                  go_wp2_with fail
                  refine (lsforms_calls Aq2 mq2 cq2 As cs q _ tq2 ts).mono ?_
                  rintro e w24 ⟨rfl, hB⟩
                  replace U1 := bl_then U1 hB
                  replace tz := tz.below hB
                  replace ty2 := ty2.below hB
                  clear hB tq2 ts
                  go_wp2_with fail
                  refine (lnsame_calls Ay2 my2 cy2 Az cz y _ ty2 tz).mono ?_
                  rintro e w25 ⟨rfl, hB⟩
                  replace U1 := bl_then U1 hB
                  clear hB ty2 tz
                  have BF := B0.trans (U1.mono B0.size)
                  go_wp2_with fail
                  refine (lawake_calls _).mono ?_
                  rintro e wz ⟨rfl, hBz⟩
                  have Bz := bl_then BF hBz
                  go_wp2
                  go_ret
                  exact ⟨rfl, Bz⟩
        · have d3 : (40 : Int) < (m3 : Int) := by omega
          have d4 : decide ((40 : Int) < (m3 : Int)) = true := decide_eq_true d3
          go_wp2_with fail
          refine (lawake_calls _).mono ?_
          rintro e wz ⟨rfl, hBz⟩
          have Bz := bl_then B0 hBz
          go_wp2
          go_ret
          exact ⟨rfl, Bz⟩
      · have d1 : (140 : Int) < (m2 : Int) := by omega
        have d2 : decide ((140 : Int) < (m2 : Int)) = true := decide_eq_true d1
        go_wp2_with fail
        refine (lawake_calls _).mono ?_
        rintro e wz ⟨rfl, hBz⟩
        have Bz := bl_then B0 hBz
        go_wp2
        go_ret
        exact ⟨rfl, Bz⟩
    · rw [decide_eq_false hfew] at he
      subst he
      clear hfew
      go_wp2_with fail
      refine (lawake_calls _).mono ?_
      rintro e wz ⟨rfl, hBz⟩
      have Bz := bl_then B0 hBz
      go_wp2
      go_ret
      exact ⟨rfl, Bz⟩
  · rw [decide_eq_false hfew] at he
    subst he
    clear hfew
    go_wp2_with fail
    refine (lawake_calls _).mono ?_
    rintro e wz ⟨rfl, hBz⟩
    have Bz := bl_then B0 hBz
    go_wp2
    go_ret
    exact ⟨rfl, Bz⟩
end Go.Proofs.Ytjmbpeniibdnoaa
