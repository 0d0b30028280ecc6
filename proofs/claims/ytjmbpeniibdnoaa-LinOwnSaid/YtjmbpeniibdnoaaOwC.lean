/- Reference 02: Copy, Copies, CopyNums, Spoil, SpoilNums. -/
import Derived.Test.YtjmbpeniibdnoaaOwM
set_option linter.unusedVariables false
set_option linter.unusedSimpArgs false
namespace Go.Proofs.Ytjmbpeniibdnoaa
open Go.RowKit

section
variable {α β : Type} {K : Kind α β}
/-- An empty slice of the call's own. -/
theorem Kind.Own.empty (h : K.Ok) (w : World) (base : Nat) (hb : base ≤ w.heap.size) : K.Own (w.alloc (.cells #[] K.E)) base (.slice (some ⟨w.heap.size, 0, none⟩) 0 0) 0 [] :=
  ⟨[], ⟨by simp [gcl], .inr ⟨w.heap.size, 0, #[], rfl, hb, blk_at _ rfl, Nat.le_refl _, by simp only [maxLen]; omega, by simp, by simp [gcl]⟩⟩, rfl, rfl, fun j hj => absurd hj (by omega)⟩
/-- append(out, l...), l whatever. -/
theorem appz (h : K.Ok) (ST : TypeId) (z : Value) (bytes : Nat) (hinfo : (Try.prog.info? K.E).map (fun i => (i.zero, i.size, i.bytes)) = some (some z, K.sz, bytes)) (hund : Try.prog.underlying ST = some (.slice K.E)) (hz : z.cells.size = K.sz) (hby : bytes ≤ 1000)
    {W : World} {base n m c : Nat} {v : Value} {R R2 : List β} {A : Option Addr} (ho : K.Own W base v n R) (l2 : List α) (hl2 : l2.length = m) (hR2 : R2.length = m) (hA : 0 < m → ∃ a, A = some a)
    (hnews : ∀ a, A = some a → ∀ j u, (gcl K.cl l2)[j]? = some u → W.cell? (a.add j) = some u) (his : ∀ j, j < m → K.Is W (l2.getD j K.d) (R2.getD j K.e)) (hn : n + m ≤ 1000000) (hb : base ≤ W.heap.size) :
    ∃ v' W', (Builtin.append_ #[ST, ST] ST #[v, .slice A m c]).run Try.prog W = .ok v' W' ∧ K.Own W' base v' (n + m) (R ++ R2) ∧ W.grownBy W' v.ownBlock := by
  cases A with
  | some a => exact appg h ST z bytes hinfo hund hz hby ho l2 hl2 hR2 (hnews a rfl) his hn hb
  | none =>
    have h0 : m = 0 := by
      rcases Nat.eq_zero_or_pos m with h0 | h0
      · exact h0
      · obtain ⟨a, e⟩ := hA h0
        cases e
    subst h0
    have e2 : R2 = [] := List.eq_nil_of_length_eq_zero hR2
    subst e2
    obtain ⟨i0, hi, hz0, hz1, hz2⟩ := info_parts hinfo
    have hs : Src Try.prog i0.size ST (.slice none 0 c) 0 [] W := ⟨.inl ⟨K.E, hund⟩, fun w' => rfl, rfl, rfl, by simp, fun u hu => by cases hu⟩
    have hv : ∃ b cp, v = .slice b n cp ∧ n ≤ cp := by
      obtain ⟨l, h1, _⟩ := ho
      rcases h1.2 with ⟨e1, e2⟩ | ⟨g, cap, cur, e1, hbg, hg, hc, _⟩
      · exact ⟨none, 0, by rw [e1, e2], by omega⟩
      · exact ⟨_, cap, e1, hc⟩
    obtain ⟨b, cp, e, hle⟩ := hv
    refine ⟨v, W, ?_, by rw [List.append_nil]; exact ho, ⟨rfl, rfl, rfl, Nat.le_refl _, fun _ _ _ => rfl⟩⟩
    rw [e]
    exact run_append_nothing W ST ST ST K.E i0 hund hi b n cp hle _ hs
end
theorem blk_grown {W W' : World} {v : Value} {g bs : Nat} {o : Obj} (hgr : W.grownBy W' v.ownBlock) (h : W.heap[g]? = some o) (hne : ∀ b, v.ownBlock = some b → bs ≤ b) (hg : g < bs) : W'.heap[g]? = some o :=
  (hgr.block g (blk_lt h) (fun e => by have := hne g e.symm; omega)).trans h
/-- Ints. -/
def KI1 : Kind Int Int := ⟨fun y => [.int .i64 y], 1, 3, fun w y x => y = x, 0, 0⟩
theorem KI1.ok : KI1.Ok := ⟨fun _ => rfl, by decide, fun y u hu => by simp [KI1] at hu; subst hu; rfl, fun W W' y r h k => h, fun W W' y r h k => h⟩
theorem info_int1 : (Try.prog.info? KI1.E).map (fun i => (i.zero, i.size, i.bytes)) = some (some (.int .i64 0), KI1.sz, 8) := by kernel_rfl
theorem addp (g o j : Nat) : (⟨g, o, none⟩ : Addr).add j = ⟨g, o + j, none⟩ := by
  unfold Addr.add
  split
  · rename_i h; rw [h]; rfl
  · rfl
theorem ki_news {W : World} {A : Option Addr} {n : Nat} {ds : List Int} (h : RdC W A n ds) (a : Addr) (ha : A = some a) (j : Nat) (u : Value) (hu : (gcl KI1.cl ds)[j]? = some u) : W.cell? (a.add j) = some u := by
  have hlt : j < ds.length * 1 := by
    have := (List.getElem?_eq_some_iff.1 hu).1
    rw [gcl_len KI1.ok] at this
    exact this
  have hl := h.1
  obtain ⟨g, off, e, hg, hc⟩ := h.2.2 (by omega)
  rw [ha] at e
  cases e
  have e1 := gcl_at KI1.ok ds j 0 (by omega) (by decide)
  rw [show j * KI1.sz + 0 = j by show j * 1 + 0 = j; omega, hu] at e1
  rw [addp, hc j (by omega), e1]
  rfl
theorem kn_news {W : World} {A : Option Addr} {n : Nat} {X : List (Int × Int)} (h : RdN W A n X) (a : Addr) (ha : A = some a) (j : Nat) (u : Value) (hu : (gcl KN.cl X)[j]? = some u) : W.cell? (a.add j) = some u := by
  have hlt : j < X.length * 2 := by
    have := (List.getElem?_eq_some_iff.1 hu).1
    rw [gcl_len KN.ok] at this
    exact this
  have hl := h.1
  obtain ⟨g, off, e, hg, hc⟩ := h.2.2 (by omega)
  rw [ha] at e
  cases e
  have hm : j % 2 < 2 := Nat.mod_lt _ (by omega)
  have e1 := gcl_at KN.ok X (j / 2) (j % 2) (by omega) hm
  rw [show j / 2 * KN.sz + j % 2 = j by show j / 2 * 2 + j % 2 = j; omega, hu] at e1
  have h2 := hc (j / 2) (by omega)
  rw [addp]
  rcases (show j % 2 = 0 ∨ j % 2 = 1 by omega) with h0 | h0
  · rw [h0] at e1
    rw [show off + j = off + j / 2 * 2 by omega, h2.1, e1]; rfl
  · rw [h0] at e1
    rw [show off + j = off + j / 2 * 2 + 1 by omega, h2.2, e1]; rfl
theorem KI1.rdI {w : World} {base n : Nat} {v : Value} {X : List Int} (h : KI1.Own w base v n X) (hn : n ≤ 1000000) : ∃ A c, v = .slice A n c ∧ RdI w 3 .i64 A n X ∧ Wi w base A n := by
  obtain ⟨A, c, rfl, h1, _, hb, h3⟩ := h.rd KI1.ok
  refine ⟨A, c, rfl, ⟨h1, by omega, fun hp => ?_⟩, fun hp => ?_⟩
  · obtain ⟨g, cs, rfl, hg, hc⟩ := h3 hp
    refine ⟨g, 0, cs, _, rfl, hg, fun j hj => ?_⟩
    obtain ⟨y, hy, hi⟩ := hc j hj
    have k0 := hy 0 (by decide)
    have hi' : y = X.getD j 0 := hi
    subst hi'
    rw [Nat.zero_add]
    rw [show j * KI1.sz + 0 = j by show j * 1 + 0 = j; omega, (blk_cell hg _).1] at k0
    exact k0
  · obtain ⟨g, cs, rfl, hg, hc⟩ := h3 hp
    exact ⟨g, cs, rfl, (hb g 0 none rfl).1, hg⟩
set_option maxHeartbeats 40000000
set_option maxRecDepth 100000
theorem copynums_calls (A : Option Addr) (m c : Nat) (X : List (Int × Int)) (w : World) (h : RdN w A m X) (hm : m ≤ 500) :
    Calls Try.prog 7 #[.slice A m c] w fun e w' => (∃ A' c', e = .returned (.slice A' m c') ∧ NuB w.heap.size w' A' m c' X) ∧ Below w.heap.size w w' := by
  have B1 : Below w.heap.size w (w.alloc (.cells #[] 36)) := bl_alloc (Below.refl _ _) _
  obtain ⟨v', W', hrun, O2, hgr⟩ := appz (c := c) KN.ok 23 _ 16 info_num Try.underlying23 rfl (by omega) (Kind.Own.empty KN.ok w w.heap.size (Nat.le_refl _)) X h.1 h.1 (fun hp => (h.2.2 hp).elim fun g hg => hg.elim fun o ho => ⟨_, ho.1⟩) (fun a ha j u hu => kn_news (h.below B1) a ha j u hu) (fun j _ => rfl) (by omega) B1.size
  have V2 : Hid (Below w.heap.size w W') := Lib.hid (below_of_grown B1 hgr B1.size (fun b hb => by have := (Kind.Own.empty KN.ok w w.heap.size (Nat.le_refl _)).ge b hb; omega))
  rw [Nat.zero_add, List.nil_append] at O2
  obtain ⟨A', c', rfl, hr⟩ := KN.rdN O2 (by omega)
  have HR := Lib.hid hrun
  have HO := Lib.hid (And.intro hr O2)
  clear hrun O2 hgr hr B1
  go_enter Try.func7, Try.ntmps7
  go_wp2_with (at_builtin; refine wpList_ap rfl (.tmp 3) (.tmp 4) 23 (by rfl) _ _ (by rfl) (by rfl) _ (by rfl) _ _ HR.out ?_)
  go_ret
  exact ⟨⟨A', c', rfl, HO.out⟩, V2.out⟩
theorem rcopy_calls (A : Option Addr) (n c : Nat) (f : Fm) (w : World) (h : RdC w A n f.1) (hn : n ≤ 1000000) :
    Calls Try.prog 16 #[.agg #[.slice A n c, .int .i64 f.2]] w fun e w' => (∃ v, e = .returned v ∧ FmB w.heap.size v w' f) ∧ Below w.heap.size w w' := by
  have L := Lib.hid h.1
  go_enter Try.func16, Try.ntmps16
  have a1 := blk_alloc (blk_at (W := w) (.cells #[.slice A n c, .int .i64 f.2] 30) rfl) (.cells #[.slice none 0 0, .int .i64 0] 30)
  have a2 := blk_at (W := w.alloc (.cells #[.slice A n c, .int .i64 f.2] 30)) (.cells #[.slice none 0 0, .int .i64 0] 30) rfl
  simp only [World.size_alloc] at a2
  have B0 := bl_alloc (bl_alloc (Below.refl w.heap.size w) (.cells #[.slice A n c, .int .i64 f.2] 30)) (.cells #[.slice none 0 0, .int .i64 0] 30)
  replace h := h.below B0
  go_upto_region 1 with (fail)
  generalize (w.alloc (.cells #[.slice A n c, .int .i64 f.2] 30)).alloc (.cells #[.slice none 0 0, .int .i64 0] 30) = W1 at *
  have VD : Below W1.heap.size W1 W1.drew := bl_drew (Below.refl _ _)
  replace a1 := blk_drew a1
  replace a2 := blk_drew a2
  replace B0 := bl_drew B0
  replace h := h.below VD
  have hS0 : W1.drew.cell? ⟨w.heap.size, 0, none⟩ = some (Value.slice A n c) ∧ W1.drew.cell? ⟨w.heap.size, 1, none⟩ = some (Value.int .i64 f.2) := qx2 a1
  refine wp_region_U (n := 7) (fun W => W.cell? ⟨w.heap.size, 0, none⟩ = some (Value.slice A n c) ∧ W.cell? ⟨w.heap.size, 1, none⟩ = some (Value.int .i64 f.2)) (by kernel_rfl) ?_
  generalize W1.drew = W2 at *
  clear VD
  refine wpU_take (n := 7) (i := 1) (v := ?_) (by decide) (by kernel_rfl) rfl (by kernel_rfl) (by kernel_rfl) (by kernel_rfl) (fun _ _ _ h => h) (by kernel_rfl) (Or.inl ⟨by rfl, ?_⟩) hS0 ?_
  rotate_left
  · intro w' hSw
    (try dsimp only at hSw)
    go_simp
    (try with_reducible rfl)
  try simp only [Act.put, List.setIfInBounds_toArray, List.set_cons_zero, List.set_cons_succ]
  refine wpU_take (n := 7) (i := 2) (v := ?_) (by decide) (by kernel_rfl) rfl (by kernel_rfl) (by kernel_rfl) (by kernel_rfl) (fun _ _ _ h => h) (by kernel_rfl) (Or.inl ⟨by rfl, ?_⟩) hS0 ?_
  rotate_left
  · intro w' hSw
    (try dsimp only at hSw)
    go_simp
    (try with_reducible rfl)
  try simp only [Act.put, List.setIfInBounds_toArray, List.set_cons_zero, List.set_cons_succ]
  refine wpU_take (n := 7) (i := 4) (v := ?_) (by decide) (by kernel_rfl) rfl (by kernel_rfl) (by kernel_rfl) (by kernel_rfl) (fun _ _ _ h => h) (by kernel_rfl) (Or.inl ⟨by rfl, ?_⟩) hS0 ?_
  rotate_left
  · intro w' hSw
    (try dsimp only at hSw)
    go_simp
    (try with_reducible rfl)
  try simp only [Act.put, List.setIfInBounds_toArray, List.set_cons_zero, List.set_cons_succ]
  refine wpU_take (n := 7) (i := 5) (v := ?_) (by decide) (by kernel_rfl) rfl (by kernel_rfl) (by kernel_rfl) (by kernel_rfl) (fun _ _ _ h => h) (by kernel_rfl) (Or.inl ⟨by rfl, ?_⟩) hS0 ?_
  rotate_left
  · intro w' hSw
    (try dsimp only at hSw)
    go_simp
    (try with_reducible rfl)
  try simp only [Act.put, List.setIfInBounds_toArray, List.set_cons_zero, List.set_cons_succ]
  refine wpU_one (n := 7) (i := 0) (by kernel_rfl) rfl (fun K9 hK9 => ?_)
  go_simp
  have B1 : Below W2.heap.size W2 (W2.alloc (.cells #[] 3)) := bl_alloc (Below.refl _ _) _
  have b1 := blk_below a1 B1
  have b2 := blk_below a2 B1
  have O1 := Kind.Own.empty KI1.ok W2 w.heap.size B0.size
  have BB := bl_then B0 B1
  have hh := h.below B1
  have hlw : w.heap.size + 1 < W2.heap.size := blk_lt a2
  obtain ⟨v', W', hrun, O2, hgr⟩ := appz (c := c) KI1.ok 28 _ 8 info_int1 Try.underlying28 rfl (by omega) O1 f.1 L.out L.out (fun hp => (hh.2.2 hp).elim fun g hg => hg.elim fun o ho => ⟨_, ho.1⟩) (fun a ha j u hu => ki_news hh a ha j u hu) (fun j _ => rfl) (by omega) BB.size
  have V2 := below_of_grown BB hgr BB.size (fun b hb => by have := O1.ge b hb; omega)
  have hob : ∀ b, Value.ownBlock (.slice (some ⟨W2.heap.size, 0, none⟩) 0 0) = some b → w.heap.size + 2 ≤ b := fun b hb => by cases hb; show w.heap.size + 2 ≤ W2.heap.size; omega
  have c1 := blk_grown hgr b1 hob (by omega)
  have c2 := blk_grown hgr b2 hob (by omega)
  rw [Nat.zero_add, List.nil_append] at O2
  obtain ⟨A', c', rfl, hr, hw⟩ := KI1.rdI O2 hn
  have HR := Lib.hid hrun
  have hS1 : (W2.alloc (.cells #[] 3)).cell? ⟨w.heap.size, 0, none⟩ = some (Value.slice A n c) ∧ (W2.alloc (.cells #[] 3)).cell? ⟨w.heap.size, 1, none⟩ = some (Value.int .i64 f.2) := qx2 b1
  have hS2 : W'.cell? ⟨w.heap.size, 0, none⟩ = some (Value.slice A n c) ∧ W'.cell? ⟨w.heap.size, 1, none⟩ = some (Value.int .i64 f.2) := qx2 c1
  refine hK9.out _ _ (fun _ _ => hS1) (fun _ => ?_)
  clear hK9 K9
  try simp only [Act.put, List.setIfInBounds_toArray, List.set_cons_zero, List.set_cons_succ]
  refine wpU_one (n := 7) (i := 3) (by kernel_rfl) rfl (fun K9 hK9 => ?_)
  refine oper_ap rfl (.tmp 3) (.tmp 5) 28 (by rfl) _ _ (by rfl) (by rfl) _ (by rfl) _ _ HR.out ?_
  refine hK9.out _ _ (fun _ _ => hS2) (fun _ => ?_)
  clear hK9 K9
  try simp only [Act.put, List.setIfInBounds_toArray, List.set_cons_zero, List.set_cons_succ]
  refine wpU_take (n := 7) (i := 6) (v := ?_) (by decide) (by kernel_rfl) rfl (by kernel_rfl) (by kernel_rfl) (by kernel_rfl) (fun _ _ _ h => h) (by kernel_rfl) (Or.inl ⟨by rfl, ?_⟩) hS2 ?_
  rotate_left
  · intro w' hSw
    (try dsimp only at hSw)
    go_simp
    (try with_reducible rfl)
  try simp only [Act.put, List.setIfInBounds_toArray, List.set_cons_zero, List.set_cons_succ]
  obtain ⟨l1, l2, l3, l4⟩ := bx2 c2
  have V1 := blk_set2 c2 (.slice A' n c') (.int .i64 f.2)
  have k0 : Kp 3 W' _ := (((Kp.refl 3 W').set (p := ⟨w.heap.size + 1, 0, none⟩) c2 (by decide) (.slice A' n c')).set (p := ⟨w.heap.size + 1, 1, none⟩) (blk_set c2 0 _) (by decide) (.int .i64 f.2))
  have HE := Lib.hid (And.intro (hr.kp k0) (And.intro (hw.kp k0) (bl_set (bl_set V2 (p := ⟨w.heap.size + 1, 0, none⟩) (by simp) (.slice A' n c')) (p := ⟨w.heap.size + 1, 1, none⟩) (by simp) (.int .i64 f.2))))
  refine wpU_one (n := 7) (i := 7) (by kernel_rfl) rfl (fun K9 hK9 => ?_)
  go_simp
  refine hK9.out _ _ (fun _ h => absurd rfl h) (fun _ => ?_)
  clear hK9 K9
  try simp only [Act.put, List.setIfInBounds_toArray, List.set_cons_zero, List.set_cons_succ]
  refine wpU_done (by kernel_rfl) ?_ _
  go_wp2
  refine bodyPost_ret (results_cell_row rfl _ _ (w.heap.size + 1) 30 #[.slice A' n c', .int .i64 f.2] (0, 0) _ rfl V1 Try.underlying30 rfl (by kernel_rfl)) rfl ?_
  exact ⟨⟨_, rfl, A', n, c', rfl, HE.out.1, HE.out.2.1⟩, HE.out.2.2⟩
theorem copies_calls (A : Option Addr) (m c : Nat) (F : List Fm) (w : World) (h : RdF w A m F) (hm : m ≤ 500) (hF : ∀ f ∈ F, f.1.length ≤ 1000000) :
    Calls Try.prog 6 #[.slice A m c] w fun e w' => (∃ A' c', e = .returned (.slice A' m c') ∧ FoB w.heap.size w' A' m c' F) ∧ Below w.heap.size w w' := by
  have L := Lib.hid h.1
  have HF := Lib.hid hF
  clear hF
  go_enter Try.func6, Try.ntmps6
  have O0 := Kind.Own.nil (K := KFb w.heap.size) w w.heap.size
  have B0 := Below.refl w.heap.size w
  go_wp2_with fail
  go_loopw [3, 8] (fun v i wr => ∃ kk : Nat, kk ≤ m ∧ i = .int .i64 kk ∧ (KFb w.heap.size).Own wr w.heap.size v kk (F.take kk) ∧ Below w.heap.size w wr) (fun _ i _ => m - (intOf i).toNat)
  case atStart => exact ⟨0, Nat.zero_le _, rfl, O0, B0⟩
  case round =>
    clear O0 B0
    obtain ⟨kk, hkk, rfl, OW, B0⟩ := hrel
    by_cases hlt : kk < m
    · obtain ⟨g, off, rfl, hg, hc⟩ := (h.below B0).2.2 (by omega)
      obtain ⟨A1, n1, c1', p1, p2, hr⟩ := hc kk hlt
      have HL := Lib.hid (HF.out _ (mem_getD (d := (([], 0) : Fm)) (by rw [L.out]; exact hlt : kk < F.length)))
      have E := Lib.hid (show F.take kk ++ [F.getD kk ([], 0)] = F.take (kk + 1) by
        have := map_take_succ id F ([], 0) kk (by rw [L.out]; exact hlt)
        simpa using this.symm)
      clear hc h
      generalize F.getD kk ([], 0) = f1 at *
      have BX : Below wr.heap.size wr (wr.alloc (.cells #[.slice A1 n1 c1', .int .i64 f1.2] 30)) := bl_alloc (Below.refl _ _) _
      replace OW := OW.below (KFb.ok _) BX
      replace B0 := bl_then B0 BX
      replace hr := hr.below BX
      have hn1 : n1 ≤ 1000000 := by rw [← hr.1]; exact HL.out
      clear BX
      go_wp2_with fail
      refine (rcopy_calls A1 n1 c1' f1 _ hr hn1).mono ?_
      rintro e w1 ⟨⟨v2, rfl, A2, n2, c2', rfl, t2, u2⟩, hB1⟩
      replace u2 := u2.mono B0.size
      replace OW := OW.below (KFb.ok _) hB1
      replace B0 := bl_then B0 hB1
      clear hB1 p1 p2 hr hg
      replace OW := OW.below (KFb.ok _) (bl_alloc (Below.refl _ _) (.cells #[.slice A2 n2 c2', .int .i64 f1.2] 30))
      have B1 := bl_alloc B0 (.cells #[.slice A2 n2 c2', .int .i64 f1.2] 30)
      replace u2 := u2.below (bl_alloc (Below.refl _ _) (.cells #[.slice A2 n2 c2', .int .i64 f1.2] 30))
      replace t2 := t2.below (bl_alloc (Below.refl _ _) (.cells #[.slice A2 n2 c2', .int .i64 f1.2] 30))
      obtain ⟨v', W', hrun, O2, hgr⟩ := appg1 (c := 1) (g := w1.heap.size) (KFb.ok _) 22 _ 32 info_form Try.underlying22 rfl (by omega) OW ⟨A2, n2, c2', f1.2⟩ f1 _ (blk_at _ rfl) rfl ⟨t2, u2, rfl⟩ (by omega) B1.size
      rw [E.out] at O2
      have HR := Lib.hid hrun
      have HO := Lib.hid O2
      have hOB := OW.ge
      have V2 : Hid (Below w.heap.size w W') := Lib.hid (below_of_grown B1 hgr B1.size hOB)
      clear hrun O2 hgr hOB OW t2 u2 B1
      go_wp2_with (at_builtin; refine wpList_ap rfl (.tmp 12) (.tmp 15) 22 (by rfl) _ _ (by rfl) (by rfl) _ (by rfl) _ _ HR.out ?_)
      go_roundw
      case rel => exact ⟨kk + 1, hlt, by go_num, HO.out, V2.out⟩
      case measure => simp [intOf]; omega
    · have hkn : kk = m := by omega
      subst hkn
      rw [List.take_of_length_le (by rw [L.out]; exact Nat.le_refl _)] at OW
      obtain ⟨A', c', rfl, hrd⟩ := KFb.rdF OW (by omega)
      have HOW := Lib.hid OW
      have HRD := Lib.hid hrd
      clear OW hrd
      go_wp2
      go_ret
      exact ⟨⟨A', c', rfl, HRD.out, HOW.out⟩, B0⟩
theorem spoil_calls (A : Option Addr) (n c : Nat) (a : Int) (b hi : Nat) (w : World) (h : SpF w b hi A n) (hb : b ≤ w.heap.size) (hhi : hi ≤ w.heap.size) (hn : n ≤ 9223372036854775807) :
    Calls Try.prog 9 #[.agg #[.slice A n c, .int .i64 a]] w fun e w' => e = .returned (.tuple #[]) ∧ Spl b hi w w' := by
  go_enter Try.func9, Try.ntmps9
  have a1 := blk_at (W := w) (.cells #[.slice A n c, .int .i64 a] 30) rfl
  have P0 : Spl b hi w (w.alloc (.cells #[.slice A n c, .int .i64 a] 30)) := Spl.ofBelow (bl_alloc (Below.refl _ _) _) hb
  have hs := P0.fr.1
  obtain ⟨q1, q2, q3, q4⟩ := bx2 a1
  go_wp2_with fail
  clear q1 q2 q3 q4
  generalize w.alloc (.cells #[.slice A n c, .int .i64 a] 30) = W1 at *
  go_loopw [6] (fun i wr => ∃ kk : Nat, kk ≤ n ∧ i = .int .i64 kk ∧ wr.heap[w.heap.size]? = some (.cells #[.slice A n c, .int .i64 a] 30 (0, 0)) ∧ Spl b hi w wr) (fun i _ => n - (intOf i).toNat)
  case atStart => exact ⟨0, Nat.zero_le _, rfl, a1, P0⟩
  case round =>
    clear a1 P0
    obtain ⟨kk, hkk, rfl, a1, P0⟩ := hrel
    by_cases hlt : kk < n
    · obtain ⟨g, rfl, h1, h2, cs, hg, hz⟩ := (h.sp P0) (by omega)
      obtain ⟨z, hz1⟩ := hz kk hlt
      have z1 := (blk_cell hg kk).1
      have z2 := (blk_cell hg kk).2
      rw [hz1] at z1
      obtain ⟨q1, q2, q3, q4⟩ := bx2 a1
      have hk0 : (0 : Int) ≤ (kk : Int) := by omega
      have hkn : (kk : Int) < (n : Int) := by omega
      clear hz hz1
      have P1 := fun x => P0.trans (Spl.set (i := kk) hg h1 h2 x)
      have a2 := fun x => blk_far (i := kk) (v := .int .i64 x) a1 (show w.heap.size ≠ g by omega)
      go_wp2
      go_roundw
      case rel => exact ⟨kk + 1, hlt, by go_num, a2 _, P1 _⟩
      case measure => simp [intOf]; omega
    · go_wp2
      go_end0
      exact ⟨rfl, P0⟩
/-- Numbers that SpoilNums may change. -/
def SpN (w : World) (b hi : Nat) (A : Option Addr) (n : Nat) : Prop := 0 < n → ∃ g cs, A = some ⟨g, 0, none⟩ ∧ b ≤ g ∧ g < hi ∧ w.heap[g]? = some (.cells cs 36 (0, 0)) ∧ ∀ j, j < n → ∃ x y, cs[j * 2]? = some (.int .i64 x) ∧ cs[j * 2 + 1]? = some (.int .i64 y)
theorem SpN.of {w : World} {b n c : Nat} {A : Option Addr} {X : List (Int × Int)} (h : NuB b w A n c X) : SpN w b w.heap.size A n := fun hp => by
  obtain ⟨A', c', e, h1, h2, hb, h3⟩ := h.2.rd KN.ok
  cases e
  obtain ⟨g, cs, e, hg, hc⟩ := h3 hp
  refine ⟨g, cs, e, (hb g 0 none e).1, blk_lt hg, hg, fun j hj => ?_⟩
  obtain ⟨y, hy, hi⟩ := hc j hj
  have k0 := hy 0 (by decide)
  have k1 := hy 1 (by decide)
  rw [Nat.add_zero, (blk_cell hg _).1] at k0
  rw [(blk_cell hg _).1] at k1
  exact ⟨y.1, y.2, k0, k1⟩
theorem SpN.kp {w w' : World} {b hi n : Nat} {A : Option Addr} (h : SpN w b hi A n) (k : Kp 36 w w') : SpN w' b hi A n := fun hp => by
  obtain ⟨g, cs, e, h1, h2, hg, hc⟩ := h hp
  exact ⟨g, cs, e, h1, h2, k.blk _ _ _ hg, hc⟩
theorem SpN.hi {w : World} {b hi hi' n : Nat} {A : Option Addr} (h : SpN w b hi A n) (hh : hi ≤ hi') : SpN w b hi' A n := fun hp => by
  obtain ⟨g, cs, e, h1, h2, hg, hc⟩ := h hp
  exact ⟨g, cs, e, h1, by omega, hg, hc⟩
theorem spoilnums_calls (A : Option Addr) (n c : Nat) (b hi : Nat) (w : World) (h0 : SpN w b hi A n) (hn : n ≤ 9223372036854775807) :
    Calls Try.prog 17 #[.slice A n c] w fun e w' => e = .returned (.tuple #[]) ∧ Below b w w' ∧ Fr hi w w' ∧ ∀ t, 36 ≠ t → Kp t w w' := by
  go_enter Try.func17, Try.ntmps17
  go_wp2_with fail
  go_loopw [5] (fun i wr => ∃ kk : Nat, kk ≤ n ∧ i = .int .i64 kk ∧ SpN wr b hi A n ∧ Below b w wr ∧ Fr hi w wr ∧ ∀ t, 36 ≠ t → Kp t w wr) (fun i _ => n - (intOf i).toNat)
  case atStart => exact ⟨0, Nat.zero_le _, rfl, h0, Below.refl _ _, Fr.refl _ _, fun _ _ => Kp.refl _ _⟩
  case round =>
    clear h0
    obtain ⟨kk, hkk, rfl, h0, B0, F0, T0⟩ := hrel
    by_cases hlt : kk < n
    · obtain ⟨g, cs, rfl, h1, h2, hg, hz⟩ := h0 (by omega)
      obtain ⟨x, y, hx, hy⟩ := hz kk hlt
      have z1 := (blk_cell hg (kk * 2)).1
      have z2 := (blk_cell hg (kk * 2)).2
      have z3 := (blk_cell hg (kk * 2 + 1)).1
      have z4 := (blk_cell hg (kk * 2 + 1)).2
      rw [hx] at z1
      rw [hy] at z3
      have hk0 : (0 : Int) ≤ (kk : Int) := by omega
      have hkn : (kk : Int) < (n : Int) := by omega
      have HH := Lib.hid fun u v : Int => (show (0 < n → ∃ g' cs, (some (⟨g, 0, none⟩ : Addr)) = some ⟨g', 0, none⟩ ∧ b ≤ g' ∧ g' < hi ∧ ((wr.setCell ⟨g, kk * 2, none⟩ (.int .i64 u)).setCell ⟨g, kk * 2 + 1, none⟩ (.int .i64 v)).heap[g']? = some (.cells cs 36 (0, 0)) ∧ ∀ j, j < n → ∃ x y, cs[j * 2]? = some (.int .i64 x) ∧ cs[j * 2 + 1]? = some (.int .i64 y)) from fun _ => ⟨g, _, rfl, h1, h2, blk_set (blk_set hg _ _) _ _, fun j hj => by
        obtain ⟨x', y', hx', hy'⟩ := hz j hj
        have l1 := (Array.getElem?_eq_some_iff.1 hx').1
        have l2 := (Array.getElem?_eq_some_iff.1 hy').1
        by_cases e : kk = j
        · subst e
          exact ⟨u, v, by rw [Array.getElem?_setIfInBounds_ne (by omega), Array.getElem?_setIfInBounds_self_of_lt l1], by rw [Array.getElem?_setIfInBounds_self_of_lt (by simpa using l2)]⟩
        · exact ⟨x', y', by rw [Array.getElem?_setIfInBounds_ne (by omega), Array.getElem?_setIfInBounds_ne (by omega)]; exact hx', by rw [Array.getElem?_setIfInBounds_ne (by omega), Array.getElem?_setIfInBounds_ne (by omega)]; exact hy'⟩⟩)
      have HB := Lib.hid fun u v : Int => (B0.setCell (p := ⟨g, kk * 2, none⟩) h1 (.int .i64 u)).setCell (p := ⟨g, kk * 2 + 1, none⟩) h1 (.int .i64 v)
      have HFr := Lib.hid fun u v : Int => (F0.trans (Fr.set (i := kk * 2) h2 (.int .i64 u))).trans (Fr.set (i := kk * 2 + 1) h2 (.int .i64 v))
      have HT := Lib.hid fun (u v : Int) (t : TypeId) (ht : 36 ≠ t) => ((T0 t ht).set (p := ⟨g, kk * 2, none⟩) hg ht (.int .i64 u)).set (p := ⟨g, kk * 2 + 1, none⟩) (blk_set hg _ _) ht (.int .i64 v)
      clear hz hx hy h0 T0
      go_wp2
      go_roundw
      case rel => exact ⟨kk + 1, hlt, by go_num, HH.out _ _, HB.out _ _, HFr.out _ _, HT.out _ _⟩
      case measure => simp [intOf]; omega
    · go_wp2
      go_end0
      exact ⟨rfl, B0, F0, T0⟩
end Go.Proofs.Ytjmbpeniibdnoaa
