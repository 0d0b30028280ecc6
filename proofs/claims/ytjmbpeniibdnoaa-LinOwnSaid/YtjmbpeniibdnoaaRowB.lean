/- exact: Row.Primitive. lin: the array of the rows held, in memory. The sizes of the rows held: plain law. lin: Rows. -/
import Derived.Test.YtjmbpeniibdnoaaScl
import Derived.Test.YtjmbpeniibdnoaaLinBd
import Derived.Test.YtjmbpeniibdnoaaMemA
set_option linter.unusedVariables false
set_option linter.unusedSimpArgs false
namespace Go.Proofs.Ytjmbpeniibdnoaa
open Go.RowKit

theorem oper_ap {P : Program} {w : World} {o : Oper} {a : Act} {K' : Act → World → Prop} {Q : Exit → Act → World → Prop} {y : Nat → Option Bool} (hg : o.guard = none) (s x : Operand) (t : TypeId) (ho : o.op = Op.call { callee := Callee.builtin Builtin.append, args := #[s, x], argTypes := #[t, t] })
    (S X : Value) (hs : a.eval s = S) (hx : a.eval x = X) (ty : TypeId) (hty : o.type = ty) (v : Value) (w' : World) (hrun : (Builtin.append_ #[t, t] ty #[S, X]).run P w = .ok v w') (h : K' (a.put o.dst v) w') :
    if Region.wanted o y = true then Oper.wp P o a w K' Q else K' (a.put o.dst undef) w := by
  subst hty
  rw [if_pos (by simp [Region.wanted, hg])]
  unfold Oper.wp
  simp [execOp, ho, resolve, invoke, builtin, hs, hx, hrun, Result.andThen]
  exact h
theorem RatV.int {w : World} {v : Int} {A : Option Addr} {n c : Nat} {z : Int} (h : IntV w v A n c z) : RatV w v A n c 0 none 0 0 (z : Rat) :=
  ⟨by rw [Rat.num_intCast]; exact h, 0, IntV.small _ (by omega) (by omega), .inr ⟨rfl, Rat.den_intCast z⟩⟩
theorem OwnJ.cap {w : World} {base g n cap : Nat} {X : List Int} (h : OwnJ w base g n cap X) : n ≤ cap := by
  obtain ⟨l, h1, _⟩ := h
  rcases h1.2 with ⟨h0, _⟩ | ⟨g', cap', cur, hv, hb, hg, hc, r⟩
  · cases h0
  · cases hv; exact hc
theorem Kind.Own.kpg {α β : Type} {K : Kind α β} {W W' : World} {base n : Nat} {v : Value} {R : List β} (ho : K.Own W base v n R) (hg : W.grownBy W' v.ownBlock) (t : TypeId) (ht : K.E ≠ t) : Kp t W W' := by
  obtain ⟨l, h1, _⟩ := ho
  exact kp_grown h1 hg ht
theorem Kind.Own.kpq {W W' : World} {base n : Nat} {v : Value} {R : List Rat} (ho : KQ.Own W base v n R) (k : Kp 63 W W') (k' : Kp 118 W W') : KQ.Own W' base v n R := by
  obtain ⟨l, h1, h2, h3, h4⟩ := ho
  refine ⟨l, ⟨h1.1, ?_⟩, h2, h3, fun j hj => RC.Is.kp (h4 j hj) k'⟩
  rcases h1.2 with h0 | ⟨g', cap', cur, hv, hb, hg, r⟩
  · exact .inl h0
  · exact .inr ⟨g', cap', cur, hv, hb, k.blk _ _ _ hg, r⟩
theorem keep8s {W : World} {ga gs i : Nat} {o : Obj} {x1 x2 x3 x4 x5 x6 x7 x8 : Value} (h : W.cell? ⟨ga, 0, none⟩ = some x1 ∧ W.cell? ⟨ga, 1, none⟩ = some x2 ∧ W.cell? ⟨ga, 2, none⟩ = some x3 ∧ W.cell? ⟨ga, 3, none⟩ = some x4 ∧ W.cell? ⟨ga, 4, none⟩ = some x5 ∧ W.cell? ⟨ga, 5, none⟩ = some x6 ∧ W.cell? ⟨gs, i, none⟩ = some x7 ∧ W.cell? ⟨gs, i + 1, none⟩ = some x8) (h1 : ga < W.heap.size) (h2 : gs < W.heap.size) :
    (W.alloc o).cell? ⟨ga, 0, none⟩ = some x1 ∧ (W.alloc o).cell? ⟨ga, 1, none⟩ = some x2 ∧ (W.alloc o).cell? ⟨ga, 2, none⟩ = some x3 ∧ (W.alloc o).cell? ⟨ga, 3, none⟩ = some x4 ∧ (W.alloc o).cell? ⟨ga, 4, none⟩ = some x5 ∧ (W.alloc o).cell? ⟨ga, 5, none⟩ = some x6 ∧ (W.alloc o).cell? ⟨gs, i, none⟩ = some x7 ∧ (W.alloc o).cell? ⟨gs, i + 1, none⟩ = some x8 := by
  have k := (cells_below (bl_alloc (Below.refl W.heap.size W) o)).1
  exact ⟨(k _ _ h1).trans h.1, (k _ _ h1).trans h.2.1, (k _ _ h1).trans h.2.2.1, (k _ _ h1).trans h.2.2.2.1, (k _ _ h1).trans h.2.2.2.2.1, (k _ _ h1).trans h.2.2.2.2.2.1, (k _ _ h2).trans h.2.2.2.2.2.2.1, (k _ _ h2).trans h.2.2.2.2.2.2.2⟩
set_option maxHeartbeats 40000000
set_option maxRecDepth 100000
theorem prim_calls (A : Option Addr) (n c : Nat) (x : RC) (b : Bool) (r : Rw) (w : World) (h : RwV w A n x r) (hn : n ≤ 1000) (k : Nat) (sk : SzW k r) (hk : k * (n + 1 + 2) + 66 ≤ 10000000000) :
    Calls Try.prog 24 #[.agg #[.slice A n c, .int .i64 x.v, .slice x.A x.n x.c, .int .i64 x.v', .slice x.A' x.n' x.c', .bool b]] w fun e w' => RowR e w' b (prm r) ∧ Below w.heap.size w w' := by
  have hq := h.1
  have hx := h.2
  have LN := Lib.hid hq.1
  clear h
  have SK : Hid (∀ j, SzR k ((r.1 ++ [r.2]).getD j 0)) := Lib.hid fun j => by
    rcases Nat.lt_or_ge j n with h1 | h1
    · rw [List.getD_eq_getElem?_getD, List.getElem?_append_left (by rw [LN.out]; exact h1), ← List.getD_eq_getElem?_getD]
      exact sk.1 j
    · rcases Nat.lt_or_ge n j with h2 | h2
      · rw [List.getD_eq_getElem?_getD, List.getElem?_eq_none (by rw [List.length_append, LN.out]; exact h2)]
        exact ⟨(sk.1 0).1.le (by simp), by have := (sk.1 0).2; unfold Sz at *; have h3 := (r.1.getD 0 0).den_pos; show 1 < _; omega⟩
      · have : j = n := by omega
        subst this
        rw [getD_app_one r.1 r.2 0 j LN.out]
        exact sk.2
  have HPR : Hid (prm r = (((scl (r.1 ++ [r.2])).take n).map (fun z : Int => (z : Rat)), (((scl (r.1 ++ [r.2])).getD n 0 : Int) : Rat))) := Lib.hid (by unfold prm; rw [LN.out])
  have HSC : Hid ((scl (r.1 ++ [r.2])).length = n + 1) := Lib.hid (by rw [scl_len, List.length_append, LN.out]; rfl)
  clear sk
  obtain ⟨l, hl⟩ : ∃ l, l = scl (r.1 ++ [r.2]) := ⟨_, rfl⟩
  have HSL : Hid (scl (r.1 ++ [r.2]) = l) := Lib.hid hl.symm
  clear hl
  rw [HSL.out] at HPR HSC
  go_enter Try.func24, Try.ntmps24
  go_upto_region 1 with (fail)
  have B0 := bl_alloc (bl_alloc (Below.refl w.heap.size w) (.cells #[.slice A n c, .int .i64 x.v, .slice x.A x.n x.c, .int .i64 x.v', .slice x.A' x.n' x.c', .bool b] 65)) (.cells #[.slice none 0 0, .int .i64 0, .slice none 0 0, .int .i64 0, .slice none 0 0, .bool false] 65)
  have a1 : ((w.alloc (.cells #[.slice A n c, .int .i64 x.v, .slice x.A x.n x.c, .int .i64 x.v', .slice x.A' x.n' x.c', .bool b] 65)).alloc (.cells #[.slice none 0 0, .int .i64 0, .slice none 0 0, .int .i64 0, .slice none 0 0, .bool false] 65)).heap[w.heap.size]? = some (.cells #[.slice A n c, .int .i64 x.v, .slice x.A x.n x.c, .int .i64 x.v', .slice x.A' x.n' x.c', .bool b] 65 (0, 0)) := blk_alloc (blk_at _ rfl) _
  have a2 : ((w.alloc (.cells #[.slice A n c, .int .i64 x.v, .slice x.A x.n x.c, .int .i64 x.v', .slice x.A' x.n' x.c', .bool b] 65)).alloc (.cells #[.slice none 0 0, .int .i64 0, .slice none 0 0, .int .i64 0, .slice none 0 0, .bool false] 65)).heap[w.heap.size + 1]? = some (.cells #[.slice none 0 0, .int .i64 0, .slice none 0 0, .int .i64 0, .slice none 0 0, .bool false] 65 (0, 0)) := blk_at _ (by simp)
  replace hq := hq.below B0
  replace hx := hx.below B0
  generalize (w.alloc (.cells #[.slice A n c, .int .i64 x.v, .slice x.A x.n x.c, .int .i64 x.v', .slice x.A' x.n' x.c', .bool b] 65)).alloc (.cells #[.slice none 0 0, .int .i64 0, .slice none 0 0, .int .i64 0, .slice none 0 0, .bool false] 65) = W1 at *
  go_cut [3] (fun p wc => ∃ (gs cap base : Nat), p = .slice (some ⟨gs, 0, none⟩) (n + 1) cap ∧ OwnJ wc base gs (n + 1) cap l ∧ Below W1.heap.size W1 wc)
  case first =>
    have hS0 : (fun W => W.cell? ⟨w.heap.size, 0, none⟩ = some (Value.slice A n c) ∧ W.cell? ⟨w.heap.size, 1, none⟩ = some (Value.int .i64 x.v) ∧ W.cell? ⟨w.heap.size, 2, none⟩ = some (Value.slice x.A x.n x.c) ∧ W.cell? ⟨w.heap.size, 3, none⟩ = some (Value.int .i64 x.v') ∧ W.cell? ⟨w.heap.size, 4, none⟩ = some (Value.slice x.A' x.n' x.c') ∧ W.cell? ⟨w.heap.size, 5, none⟩ = some (Value.bool b)) W1.drew := qx6 (t := 65) (blk_drew a1)
    have hSd : ∀ y, Below W1.heap.size W1 y → (fun W => W.cell? ⟨w.heap.size, 0, none⟩ = some (Value.slice A n c) ∧ W.cell? ⟨w.heap.size, 1, none⟩ = some (Value.int .i64 x.v) ∧ W.cell? ⟨w.heap.size, 2, none⟩ = some (Value.slice x.A x.n x.c) ∧ W.cell? ⟨w.heap.size, 3, none⟩ = some (Value.int .i64 x.v') ∧ W.cell? ⟨w.heap.size, 4, none⟩ = some (Value.slice x.A' x.n' x.c') ∧ W.cell? ⟨w.heap.size, 5, none⟩ = some (Value.bool b)) y := fun y hy => qx6 (t := 65) (blk_below a1 hy)
    refine wp_region_U (n := 8) (fun W => W.cell? ⟨w.heap.size, 0, none⟩ = some (Value.slice A n c) ∧ W.cell? ⟨w.heap.size, 1, none⟩ = some (Value.int .i64 x.v) ∧ W.cell? ⟨w.heap.size, 2, none⟩ = some (Value.slice x.A x.n x.c) ∧ W.cell? ⟨w.heap.size, 3, none⟩ = some (Value.int .i64 x.v') ∧ W.cell? ⟨w.heap.size, 4, none⟩ = some (Value.slice x.A' x.n' x.c') ∧ W.cell? ⟨w.heap.size, 5, none⟩ = some (Value.bool b)) (by kernel_rfl) ?_
    refine wpU_take (n := 8) (i := 0) (v := ?_) (by decide) (by kernel_rfl) rfl (by kernel_rfl) (by kernel_rfl) (by kernel_rfl) (fun _ _ _ h => h) (by kernel_rfl) (Or.inl ⟨by rfl, ?_⟩) hS0 ?_
    rotate_left
    · intro w' hSw
      (try dsimp only at hSw)
      go_simp
      (try with_reducible rfl)
    try simp only [Act.put, List.setIfInBounds_toArray, List.set_cons_zero, List.set_cons_succ]
    refine wpU_take (n := 8) (i := 1) (v := ?_) (by decide) (by kernel_rfl) rfl (by kernel_rfl) (by kernel_rfl) (by kernel_rfl) (fun _ _ _ h => h) (by kernel_rfl) (Or.inl ⟨by rfl, ?_⟩) hS0 ?_
    rotate_left
    · intro w' hSw
      (try dsimp only at hSw)
      go_simp
      (try with_reducible rfl)
    try simp only [Act.put, List.setIfInBounds_toArray, List.set_cons_zero, List.set_cons_succ]
    refine wpU_take (n := 8) (i := 3) (v := ?_) (by decide) (by kernel_rfl) rfl (by kernel_rfl) (by kernel_rfl) (by kernel_rfl) (fun _ _ _ h => h) (by kernel_rfl) (Or.inl ⟨by rfl, ?_⟩) hS0 ?_
    rotate_left
    · intro w' hSw
      (try dsimp only at hSw)
      go_simp
      (try with_reducible rfl)
    try simp only [Act.put, List.setIfInBounds_toArray, List.set_cons_zero, List.set_cons_succ]
    refine wpU_take (n := 8) (i := 4) (v := ?_) (by decide) (by kernel_rfl) rfl (by kernel_rfl) (by kernel_rfl) (by kernel_rfl) (fun _ _ _ h => h) (by kernel_rfl) (Or.inl ⟨by rfl, ?_⟩) hS0 ?_
    rotate_left
    · intro w' hSw
      (try dsimp only at hSw)
      go_simp
      (try with_reducible rfl)
    try simp only [Act.put, List.setIfInBounds_toArray, List.set_cons_zero, List.set_cons_succ]
    refine wpU_two (n := 8) (i := 2) (k := 5) (by kernel_rfl) rfl rfl (fun K9 hK9 => ?_) (fun K9 hK9 => ?_)
    · go_simp
      refine (clone_calls A n c r.1 _ (hq.below (bl_drew (Below.refl _ _)))).mono ?_
      rintro e y1 ⟨⟨v1, rfl, O1⟩, hB1⟩
      have V1 : Below W1.heap.size W1 y1 := bl_then (bl_drew (Below.refl _ _)) hB1
      refine hK9.out _ _ (fun _ _ => hSd _ V1) (fun _ => ?_)
      clear hK9 K9
      try simp only [Act.put, List.setIfInBounds_toArray, List.set_cons_zero, List.set_cons_succ]
      refine wpU_one (n := 8) (i := 5) (by kernel_rfl) rfl (fun K9 hK9 => ?_)
      go_simp
      refine hK9.out _ _ (fun _ _ => hSd _ (bl_alloc V1 _)) (fun _ => ?_)
      clear hK9 K9
      try simp only [Act.put, List.setIfInBounds_toArray, List.set_cons_zero, List.set_cons_succ]
      replace O1 := Kind.Own.below KQ.ok O1 (bl_alloc (Below.refl _ _) (.cells #[.int .i64 x.v, .slice x.A x.n x.c, .int .i64 x.v', .slice x.A' x.n' x.c'] 63))
      have HB3 := bl_alloc V1 (.cells #[.int .i64 x.v, .slice x.A x.n x.c, .int .i64 x.v', .slice x.A' x.n' x.c'] 63)
      have HBs := HB3.size
      have hxx : KQ.Is _ x r.2 := RC.Is.below hx HB3
      obtain ⟨v', W', hrun, O2, hgr⟩ := appg1 (c := 1) (g := y1.heap.size) KQ.ok 58 _ 64 info_rat Try.underlying58 rfl (by omega) O1 x r.2 _ (blk_at _ rfl) rfl hxx (by omega) HBs
      have V2 : Below W1.heap.size W1 W' := below_of_grown HB3 hgr HB3.size (fun b hb => by have := O1.ge b hb; (try simp at this); omega)
      have HR := Lib.hid hrun
      clear hrun
      refine wpU_one (n := 8) (i := 6) (by kernel_rfl) rfl (fun K9 hK9 => ?_)
      refine oper_ap rfl (.tmp 9) (.tmp 12) 58 (by rfl) _ _ (by rfl) (by rfl) _ (by rfl) _ _ HR.out ?_
      refine hK9.out _ _ (fun _ _ => hSd _ V2) (fun _ => ?_)
      clear hK9 K9
      try simp only [Act.put, List.setIfInBounds_toArray, List.set_cons_zero, List.set_cons_succ]
      obtain ⟨A2, c2, rfl, hrd⟩ := KQ.rdQ O2 (by omega)
      refine wpU_one (n := 8) (i := 7) (by kernel_rfl) rfl (fun K9 hK9 => ?_)
      go_simp
      refine (scaled_calls A2 (n + 1) c2 (r.1 ++ [r.2]) _ hrd k SK.out hk).mono ?_
      rintro e y4 ⟨⟨gs, cap, rfl, OJ⟩, hB4⟩
      have V4 := bl_then V2 hB4
      refine hK9.out _ _ (fun _ _ => hSd _ V4) (fun _ => ?_)
      clear hK9 K9
      try simp only [Act.put, List.setIfInBounds_toArray, List.set_cons_zero, List.set_cons_succ]
      refine wpU_one (n := 8) (i := 8) (by kernel_rfl) rfl (fun K9 hK9 => ?_)
      go_simp
      refine hK9.out _ _ (fun _ _ => hSd _ V4) (fun _ => ?_)
      clear hK9 K9
      try simp only [Act.put, List.setIfInBounds_toArray, List.set_cons_zero, List.set_cons_succ]
      refine wpU_done (by kernel_rfl) ?_ _
      rw [HSL.out] at OJ
      go_wp2
      go_meet
      case rel => exact ⟨gs, cap, _, rfl, OJ, V4⟩
    · go_simp
      refine hK9.out _ _ (fun _ _ => hSd _ (bl_alloc (bl_drew (Below.refl _ _)) (.cells #[.int .i64 x.v, .slice x.A x.n x.c, .int .i64 x.v', .slice x.A' x.n' x.c'] 63))) (fun _ => ?_)
      clear hK9 K9
      try simp only [Act.put, List.setIfInBounds_toArray, List.set_cons_zero, List.set_cons_succ]
      refine wpU_one (n := 8) (i := 2) (by kernel_rfl) rfl (fun K9 hK9 => ?_)
      go_simp
      refine (clone_calls A n c r.1 _ (hq.below (bl_alloc (bl_drew (Below.refl _ _)) (.cells #[.int .i64 x.v, .slice x.A x.n x.c, .int .i64 x.v', .slice x.A' x.n' x.c'] 63)))).mono ?_
      rintro e y1 ⟨⟨v1, rfl, O1⟩, hB1⟩
      have V1 : Below W1.heap.size W1 y1 := bl_then (bl_alloc (bl_drew (Below.refl _ _)) (.cells #[.int .i64 x.v, .slice x.A x.n x.c, .int .i64 x.v', .slice x.A' x.n' x.c'] 63)) hB1
      have EA : y1.heap[W1.heap.size]? = some (.cells  #[.int .i64 x.v, .slice x.A x.n x.c, .int .i64 x.v', .slice x.A' x.n' x.c'] 63 (0, 0)) := blk_below (blk_at (W := W1.drew) _ rfl) hB1
      refine hK9.out _ _ (fun _ _ => hSd _ V1) (fun _ => ?_)
      clear hK9 K9
      try simp only [Act.put, List.setIfInBounds_toArray, List.set_cons_zero, List.set_cons_succ]
      have HB3 := V1
      have HBs := hB1.size
      have hxx : KQ.Is _ x r.2 := RC.Is.below hx HB3
      obtain ⟨v', W', hrun, O2, hgr⟩ := appg1 (c := 1) (g := W1.heap.size) KQ.ok 58 _ 64 info_rat Try.underlying58 rfl (by omega) O1 x r.2 _ EA rfl hxx (by omega) HBs
      have V2 : Below W1.heap.size W1 W' := below_of_grown HB3 hgr HB3.size (fun b hb => by have := O1.ge b hb; (try simp at this); omega)
      have HR := Lib.hid hrun
      clear hrun
      refine wpU_one (n := 8) (i := 6) (by kernel_rfl) rfl (fun K9 hK9 => ?_)
      refine oper_ap rfl (.tmp 9) (.tmp 12) 58 (by rfl) _ _ (by rfl) (by rfl) _ (by rfl) _ _ HR.out ?_
      refine hK9.out _ _ (fun _ _ => hSd _ V2) (fun _ => ?_)
      clear hK9 K9
      try simp only [Act.put, List.setIfInBounds_toArray, List.set_cons_zero, List.set_cons_succ]
      obtain ⟨A2, c2, rfl, hrd⟩ := KQ.rdQ O2 (by omega)
      refine wpU_one (n := 8) (i := 7) (by kernel_rfl) rfl (fun K9 hK9 => ?_)
      go_simp
      refine (scaled_calls A2 (n + 1) c2 (r.1 ++ [r.2]) _ hrd k SK.out hk).mono ?_
      rintro e y4 ⟨⟨gs, cap, rfl, OJ⟩, hB4⟩
      have V4 := bl_then V2 hB4
      refine hK9.out _ _ (fun _ _ => hSd _ V4) (fun _ => ?_)
      clear hK9 K9
      try simp only [Act.put, List.setIfInBounds_toArray, List.set_cons_zero, List.set_cons_succ]
      refine wpU_one (n := 8) (i := 8) (by kernel_rfl) rfl (fun K9 hK9 => ?_)
      go_simp
      refine hK9.out _ _ (fun _ _ => hSd _ V4) (fun _ => ?_)
      clear hK9 K9
      try simp only [Act.put, List.setIfInBounds_toArray, List.set_cons_zero, List.set_cons_succ]
      refine wpU_done (by kernel_rfl) ?_ _
      rw [HSL.out] at OJ
      go_wp2
      go_meet
      case rel => exact ⟨gs, cap, _, rfl, OJ, V4⟩
  case rest =>
    obtain ⟨gs, cap, base, rfl, OJ, HB1⟩ := hcut
    replace a1 := blk_below a1 HB1
    replace a2 := blk_below a2 HB1
    replace B0 := bl_then B0 HB1
    clear HB1 hx hq
    obtain ⟨oa, s1, s2, hoa⟩ := OJ.at n (by omega)
    obtain ⟨⟨p1, p2, p3, p4, p5, p6⟩, p7⟩ := q6 a1
    have hn1 : ((n + 1 : Nat) : Int) - 1 = (n : Int) := by omega
    have hn0 : (0 : Int) ≤ (n : Int) := by omega
    have hwn : IntKind.i64.wrap (n : Int) = (n : Int) := by rw [IntKind.wrap_i64]; omega
    have hn2 : (n : Int) < (n : Int) + 1 := by omega
    go_upto_region 2 with (fail)
    go_region_held3 (fun W => W.cell? ⟨w.heap.size, 0, none⟩ = some (Value.slice A n c) ∧ W.cell? ⟨w.heap.size, 1, none⟩ = some (Value.int .i64 x.v) ∧ W.cell? ⟨w.heap.size, 2, none⟩ = some (Value.slice x.A x.n x.c) ∧ W.cell? ⟨w.heap.size, 3, none⟩ = some (Value.int .i64 x.v') ∧ W.cell? ⟨w.heap.size, 4, none⟩ = some (Value.slice x.A' x.n' x.c') ∧ W.cell? ⟨w.heap.size, 5, none⟩ = some (Value.bool b) ∧ W.cell? ⟨gs, n * 2, none⟩ = some (Value.int .i64 oa.v) ∧ W.cell? ⟨gs, n * 2 + 1, none⟩ = some (Value.slice oa.A oa.n oa.c)) (first | exact ⟨p1, p2, p3, p4, p5, p6, s1, s2⟩ | exact keep8s (by assumption) (blk_lt a1) OJ.ge.2 | go_keep) (fail)
    have l4 := blk_lt a2
    have lgs := OJ.ge.2
    have hcap := OJ.cap
    have a4 : ((wc.alloc (.cells #[.slice none 0 0, .int .i64 oa.v, .slice oa.A oa.n oa.c, .int .i64 0, .slice none 0 0, .bool b] 65)).drew).heap[wc.heap.size]? = some (.cells #[.slice none 0 0, .int .i64 oa.v, .slice oa.A oa.n oa.c, .int .i64 0, .slice none 0 0, .bool b] 65 (0, 0)) := blk_drew (blk_at _ rfl)
    replace a2 := blk_drew (blk_alloc a2 (.cells #[.slice none 0 0, .int .i64 oa.v, .slice oa.A oa.n oa.c, .int .i64 0, .slice none 0 0, .bool b] 65))
    replace OJ := OwnJ.dr (OwnJ.al OJ (.cells #[.slice none 0 0, .int .i64 oa.v, .slice oa.A oa.n oa.c, .int .i64 0, .slice none 0 0, .bool b] 65))
    replace hoa : IntV ((wc.alloc (.cells #[.slice none 0 0, .int .i64 oa.v, .slice oa.A oa.n oa.c, .int .i64 0, .slice none 0 0, .bool b] 65)).drew) oa.v oa.A oa.n oa.c (l.getD n 0) := IntV.dr (IntV.al hoa (.cells #[.slice none 0 0, .int .i64 oa.v, .slice oa.A oa.n oa.c, .int .i64 0, .slice none 0 0, .bool b] 65))
    replace B0 := bl_drew (bl_alloc B0 (.cells #[.slice none 0 0, .int .i64 oa.v, .slice oa.A oa.n oa.c, .int .i64 0, .slice none 0 0, .bool b] 65))
    clear p1 p2 p3 p4 p5 p6 p7 s1 s2 a1
    go_wp2_with fail
    clear hwn hn1
    generalize (wc.alloc (.cells #[.slice none 0 0, .int .i64 oa.v, .slice oa.A oa.n oa.c, .int .i64 0, .slice none 0 0, .bool b] 65)).drew = W3 at *
    generalize wc.heap.size = g4 at *
    have O0 := Kind.Own.nil (K := KQ) W3 w.heap.size
    go_loopw [31] (fun i wr => ∃ (kk : Nat) (v : Value), kk ≤ n ∧ i = .int .i64 kk ∧ KQ.Own wr w.heap.size v kk ((l.take kk).map fun z : Int => (z : Rat)) ∧ wr.heap[g4]? = some (.cells #[v, .int .i64 oa.v, .slice oa.A oa.n oa.c, .int .i64 0, .slice none 0 0, .bool b] 65 (0, 0)) ∧ IntV wr oa.v oa.A oa.n oa.c (l.getD n 0) ∧ OwnJ wr base gs (n + 1) cap l ∧ wr.heap[w.heap.size + 1]? = some (.cells #[.slice none 0 0, .int .i64 0, .slice none 0 0, .int .i64 0, .slice none 0 0, .bool false] 65 (0, 0)) ∧ Below w.heap.size w wr) (fun i _ => n - (intOf i).toNat)
    case atStart => exact ⟨0, _, Nat.zero_le _, rfl, O0, a4, hoa, OJ, a2, B0⟩
    case round =>
      clear O0 a4 hoa OJ a2 B0
      obtain ⟨kk, v, hkk, rfl, OW, a4, hoa, OJ, a2, B0⟩ := hrel
      by_cases hlt : kk < n
      · obtain ⟨y, s1, s2, hy⟩ := OJ.at kk (by omega)
        have E := Lib.hid (map_take_succ (fun z : Int => (z : Rat)) l 0 kk (by rw [HSC.out]; omega))
        have hy' : IntV wr y.v y.A y.n y.c (l.getD kk 0) := hy
        generalize l.getD kk 0 = z1 at *
        obtain ⟨Av, cv, rfl, _⟩ := KQ.rdQ OW (by omega)
        have f1 := (q6 (blk_alloc a4 (.cells #[.int .i64 y.v, .slice y.A y.n y.c] 61))).1.1
        have k1 := OW.below KQ.ok (bl_alloc (bl_alloc (Below.refl _ _) (.cells #[.int .i64 y.v, .slice y.A y.n y.c] 61)) (.cells #[.int .i64 y.v, .slice y.A y.n y.c, .int .i64 0, .slice none 0 0] 63))
        have B1 := bl_alloc (bl_alloc B0 (.cells #[.int .i64 y.v, .slice y.A y.n y.c] 61)) (.cells #[.int .i64 y.v, .slice y.A y.n y.c, .int .i64 0, .slice none 0 0] 63)
        have a4' := blk_alloc (blk_alloc a4 (.cells #[.int .i64 y.v, .slice y.A y.n y.c] 61)) (.cells #[.int .i64 y.v, .slice y.A y.n y.c, .int .i64 0, .slice none 0 0] 63)
        have a2' := blk_alloc (blk_alloc a2 (.cells #[.int .i64 y.v, .slice y.A y.n y.c] 61)) (.cells #[.int .i64 y.v, .slice y.A y.n y.c, .int .i64 0, .slice none 0 0] 63)
        have hoa' := IntV.al (IntV.al hoa (.cells #[.int .i64 y.v, .slice y.A y.n y.c] 61)) (.cells #[.int .i64 y.v, .slice y.A y.n y.c, .int .i64 0, .slice none 0 0] 63)
        have OJ' := OwnJ.al (OwnJ.al OJ (.cells #[.int .i64 y.v, .slice y.A y.n y.c] 61)) (.cells #[.int .i64 y.v, .slice y.A y.n y.c, .int .i64 0, .slice none 0 0] 63)
        have hyr : KQ.Is ((wr.alloc (.cells #[.int .i64 y.v, .slice y.A y.n y.c] 61)).alloc (.cells #[.int .i64 y.v, .slice y.A y.n y.c, .int .i64 0, .slice none 0 0] 63)) ⟨y.v, y.A, y.n, y.c, 0, none, 0, 0⟩ (z1 : Rat) := RatV.int (IntV.al (IntV.al hy' (.cells #[.int .i64 y.v, .slice y.A y.n y.c] 61)) (.cells #[.int .i64 y.v, .slice y.A y.n y.c, .int .i64 0, .slice none 0 0] 63))
        obtain ⟨v', W', hrun, O2, hgr⟩ := appg1 (c := 1) (g := wr.heap.size + 1) KQ.ok 58 _ 64 info_rat Try.underlying58 rfl (by omega) k1 ⟨y.v, y.A, y.n, y.c, 0, none, 0, 0⟩ (z1 : Rat) _ (blk_at _ (by simp)) rfl hyr (by omega) B1.size
        rw [← E.out] at O2
        obtain ⟨A9, c9, rfl, _⟩ := KQ.rdQ O2 (by omega)
        have V2 : Below w.heap.size w W' := below_of_grown B1 hgr B1.size k1.ge
        have b4 := (k1.kpg hgr 65 (by decide)).blk _ _ _ a4'
        have b2 := (k1.kpg hgr 65 (by decide)).blk _ _ _ a2'
        have bo := hoa'.kp (k1.kpg hgr 118 (by decide))
        have bJ : OwnJ W' base gs (n + 1) cap l := by
          obtain ⟨bs, hbs⟩ := OJ'.blk
          exact OJ'.far (by rw [hbs]; exact (k1.kpg hgr 61 (by decide)).blk _ _ _ hbs) (k1.kpg hgr 118 (by decide))
        have HR := Lib.hid hrun
        clear hrun hgr k1 a4' a2' hoa' OJ' hyr B1 hy hy' a4 a2 hoa OJ OW
        have g1 := q6 b4
        obtain ⟨⟨g1, g2, g3, g4', g5, g6⟩, g7, _⟩ := g1
        have kpr : ∀ t, 65 ≠ t → Kp t W' (W'.setCell ⟨g4, 0, none⟩ (.slice A9 (kk + 1) c9)) := fun t ht => (Kp.refl _ _).set (p := ⟨g4, 0, none⟩) b4 ht _
        have c4 : (W'.setCell ⟨g4, 0, none⟩ (.slice A9 (kk + 1) c9)).heap[g4]? = some (.cells #[.slice A9 (kk + 1) c9, .int .i64 oa.v, .slice oa.A oa.n oa.c, .int .i64 0, .slice none 0 0, .bool b] 65 (0, 0)) := blk_set b4 0 _
        have c2 := blk_far (i := 0) (v := .slice A9 (kk + 1) c9) b2 (show w.heap.size + 1 ≠ g4 by omega)
        have co := bo.kp (kpr 118 (by decide))
        have cJ : OwnJ (W'.setCell ⟨g4, 0, none⟩ (.slice A9 (kk + 1) c9)) base gs (n + 1) cap l := bJ.far (heap_setCell_other _ _ _ _ (show gs ≠ g4 by omega)) (kpr 118 (by decide))
        have cO := O2.kpq (kpr 63 (by decide)) (kpr 118 (by decide))
        have cB := bl_set V2 (p := ⟨g4, 0, none⟩) (show w.heap.size ≤ g4 by omega) (.slice A9 (kk + 1) c9)
        clear b4 b2 bo bJ O2 V2 kpr
        have HC := Lib.hid (And.intro cO (And.intro c4 (And.intro co (And.intro cJ (And.intro c2 cB)))))
        clear cO c4 co cJ c2 cB
        go_wp2_with (at_builtin; refine wpList_ap rfl (.tmp 36) (.tmp 39) 58 (by rfl) _ _ (by rfl) (by rfl) _ (by rfl) _ _ HR.out ?_)
        go_roundw
        case rel => exact ⟨kk + 1, _, hlt, by go_num, HC.out.1, HC.out.2.1, HC.out.2.2.1, HC.out.2.2.2.1, HC.out.2.2.2.2.1, HC.out.2.2.2.2.2⟩
        case measure => simp [intOf]; omega
      · have hkn : n = kk := by omega
        subst hkn
        obtain ⟨⟨f1, f2, f3, f4, f5, f6⟩, f7⟩ := q6 a4
        obtain ⟨⟨m1, m2, m3, m4, m5, m6⟩, m7⟩ := q6 a2
        obtain ⟨A9, c9, rfl, _⟩ := KQ.rdQ OW (by omega)
        have U1 := q6_set a2 (.slice A9 n c9) (.int .i64 oa.v) (.slice oa.A oa.n oa.c) (.int .i64 0) (.slice none 0 0) (.bool b)
        have kpr : ∀ t, 65 ≠ t → Kp t wr _ := fun t ht => q6_kp a2 ht (.slice A9 n c9) (.int .i64 oa.v) (.slice oa.A oa.n oa.c) (.int .i64 0) (.slice none 0 0) (.bool b)
        have U2 := OW.kpq (kpr 63 (by decide)) (kpr 118 (by decide))
        have U3 := hoa.kp (kpr 118 (by decide))
        have U4 := q6_bl B0 (show w.heap.size ≤ w.heap.size + 1 by omega) (.slice A9 n c9) (.int .i64 oa.v) (.slice oa.A oa.n oa.c) (.int .i64 0) (.slice none 0 0) (.bool b)
        obtain ⟨A8, c8, e8, U5⟩ := KQ.rdQ U2 (by omega)
        cases e8
        clear kpr
        go_wp2
        refine bodyPost_ret (results_cell_row rfl _ _ (w.heap.size + 1) 65 #[.slice A9 n c9, .int .i64 oa.v, .slice oa.A oa.n oa.c, .int .i64 0, .slice none 0 0, .bool b] (0, 0) _ rfl U1 Try.underlying65 rfl (by kernel_rfl)) rfl ?_
        refine ⟨⟨A9, n, c9, ⟨oa.v, oa.A, oa.n, oa.c, 0, none, 0, 0⟩, rfl, ?_⟩, U4⟩
        rw [HPR.out]
        exact ⟨U5, RatV.int U3⟩
end Go.Proofs.Ytjmbpeniibdnoaa

namespace Go.Proofs.Ytjmbpeniibdnoaa
open Go.RowKit

/-- A box of a row. -/
def RwB (w : World) (g n : Nat) (r : Rw) : Prop := ∃ (A : Option Addr) (c : Nat) (x : RC) (b : Bool), w.heap[g]? = some (.cells #[.slice A n c, .int .i64 x.v, .slice x.A x.n x.c, .int .i64 x.v', .slice x.A' x.n' x.c', .bool b] 65 (0, 0)) ∧ RwV w A n x r
theorem RwV.kp {W W' : World} {A : Option Addr} {n : Nat} {x : RC} {r : Rw} (h : RwV W A n x r) (k : ∀ t, 65 ≠ t → Kp t W W') : RwV W' A n x r :=
  ⟨h.1.heap (k _ (by decide)) (k _ (by decide)), RatV.kp h.2 (k _ (by decide))⟩
section
variable {w w' : World} {g g' n : Nat} {r q : Rw}
theorem RwB.below (h : RwB w g n r) (hb : Below w.heap.size w w') : RwB w' g n r := by
  obtain ⟨A, c, x, b, h1, h2⟩ := h
  exact ⟨A, c, x, b, blk_below h1 hb, h2.below hb⟩
theorem RwB.al (h : RwB w g n r) (o : Obj) : RwB (w.alloc o) g n r := h.below (bl_alloc (Below.refl _ _) o)
theorem RwB.dr (h : RwB w g n r) : RwB w.drew g n r := h.below (bl_drew (Below.refl _ _))
theorem RwB.lt (h : RwB w g n r) : g < w.heap.size := by obtain ⟨A, c, x, b, h1, h2⟩ := h; exact blk_lt h1
theorem RwB.kp (h : RwB w g n r) (e : w'.heap[g]? = w.heap[g]?) (k : ∀ t, 65 ≠ t → Kp t w w') : RwB w' g n r := by
  obtain ⟨A, c, x, b, h1, h2⟩ := h
  exact ⟨A, c, x, b, e.trans h1, h2.kp k⟩
theorem RwB.blk (h : RwB w g n r) : ∃ a1 a2 a3 a4 a5 a6, w.heap[g]? = some (.cells #[a1, a2, a3, a4, a5, a6] 65 (0, 0)) := by
  obtain ⟨A, c, x, b, h1, h2⟩ := h
  exact ⟨_, _, _, _, _, _, h1⟩
/-- A store into a box: the box itself; another box. -/
theorem RwB.set (h : RwB w g n q) {A : Option Addr} {c : Nat} {x : RC} {b : Bool} (hr : RwV w A n x r) :
    RwB ((((((w.setCell ⟨g, 0, none⟩ (.slice A n c)).setCell ⟨g, 1, none⟩ (.int .i64 x.v)).setCell ⟨g, 2, none⟩ (.slice x.A x.n x.c)).setCell ⟨g, 3, none⟩ (.int .i64 x.v')).setCell ⟨g, 4, none⟩ (.slice x.A' x.n' x.c')).setCell ⟨g, 5, none⟩ (.bool b)) g n r := by
  obtain ⟨a1, a2, a3, a4, a5, a6, h1⟩ := h.blk
  exact ⟨A, c, x, b, q6_set h1 _ _ _ _ _ _, hr.kp fun t ht => q6_kp h1 ht _ _ _ _ _ _⟩
theorem RwB.far (h : RwB w g n r) (h' : RwB w g' n q) (hg : g ≠ g') (x1 x2 x3 x4 x5 x6 : Value) :
    RwB ((((((w.setCell ⟨g', 0, none⟩ x1).setCell ⟨g', 1, none⟩ x2).setCell ⟨g', 2, none⟩ x3).setCell ⟨g', 3, none⟩ x4).setCell ⟨g', 4, none⟩ x5).setCell ⟨g', 5, none⟩ x6) g n r := by
  obtain ⟨a1, a2, a3, a4, a5, a6, h1⟩ := h'.blk
  obtain ⟨A, c, x, b, h2, h3⟩ := h
  exact ⟨A, c, x, b, q6_far h2 hg _ _ _ _ _ _, h3.kp fun t ht => q6_kp h1 ht _ _ _ _ _ _⟩
end
/-- One entry of the array. -/
def Cell1 (w : World) (n : Nat) (s : SL) : Option Rw → Prop
  | none => s = ⟨none, 0, 0⟩
  | some r => ∃ g, s = ⟨some ⟨g, 0, none⟩, 1, 1⟩ ∧ RwB w g n r
theorem Cell1.is {w : World} {n : Nat} {s : SL} {o : Option Rw} (h : Cell1 w n s o) : s.Is w o := by
  cases o with
  | none =>
    have h' : s = ⟨none, 0, 0⟩ := h
    subst h'
    exact ⟨RdW.nil _ _, Nat.zero_le _, fun _ => rfl⟩
  | some r =>
    obtain ⟨g, rfl, A, c, x, b, h1, h2⟩ := h
    refine ⟨⟨rfl, (show 1 ≤ 1000000 by omega), fun _ => ⟨g, 0, rfl, blk_lt h1, fun j hj => ?_⟩⟩, Nat.le_refl _, fun h => by cases h⟩
    have : j = 0 := by have : j < 1 := hj; omega
    subst this
    exact ⟨A, n, c, x, b, (q6 h1).1, h2⟩
theorem Cell1.below {w w' : World} {n : Nat} {s : SL} {o : Option Rw} (h : Cell1 w n s o) (hb : Below w.heap.size w w') : Cell1 w' n s o := by
  cases o with
  | none => exact h
  | some r => obtain ⟨g, e, h1⟩ := h; exact ⟨g, e, h1.below hb⟩
/-- The array: each row in a block of its own, not the block z. -/
def BYs (w : World) (g6 n z lo : Nat) (s : Nat → SL) (B : Nat → Option Rw) : Prop :=
  w.heap[g6]? = some (.cells #[slv (s 0), slv (s 1), slv (s 2), slv (s 3), slv (s 4), slv (s 5), slv (s 6), slv (s 7)] BY (0, 0)) ∧ (∀ k, k < 8 → Cell1 w n (s k) (B k)) ∧
  ∀ j, j < 8 → ∀ a, (s j).A = some a → lo ≤ a.block ∧ a.block ≠ z ∧ ∀ k, k < 8 → ∀ a', (s k).A = some a' → j ≠ k → a.block ≠ a'.block
section
variable {w w' : World} {g6 n z z' lo : Nat} {s : Nat → SL} {B : Nat → Option Rw}
theorem BYs.below (h : BYs w g6 n z lo s B) (hb : Below w.heap.size w w') : BYs w' g6 n z lo s B := ⟨blk_below h.1 hb, fun k hk => (h.2.1 k hk).below hb, h.2.2⟩
theorem BYs.al (h : BYs w g6 n z lo s B) (o : Obj) : BYs (w.alloc o) g6 n z lo s B := h.below (bl_alloc (Below.refl _ _) o)
theorem BYs.dr (h : BYs w g6 n z lo s B) : BYs w.drew g6 n z lo s B := h.below (bl_drew (Below.refl _ _))
theorem BYs.fresh (h : BYs w g6 n z lo s B) (hz : w.heap.size ≤ z') : BYs w g6 n z' lo s B := by
  refine ⟨h.1, h.2.1, fun j hj a ha => ⟨(h.2.2 j hj a ha).1, ?_, (h.2.2 j hj a ha).2.2⟩⟩
  have h1 := h.2.1 j hj
  cases e : B j with
  | none => rw [e] at h1; have h1' : s j = ⟨none, 0, 0⟩ := h1; rw [h1'] at ha; cases ha
  | some r =>
    rw [e] at h1
    obtain ⟨g, e1, h2⟩ := h1
    rw [e1] at ha
    cases ha
    have := h2.lt
    show g ≠ z'
    omega
theorem BYs.stk (h : BYs w g6 n z lo s B) (e6 : w'.heap[g6]? = w.heap[g6]?) (hrb : ∀ g r, g ≠ z → RwB w g n r → RwB w' g n r) : BYs w' g6 n z lo s B := by
  refine ⟨e6.trans h.1, fun k hk => ?_, h.2.2⟩
  have h1 := h.2.1 k hk
  cases e : B k with
  | none => rw [e] at h1; exact h1
  | some r =>
    rw [e] at h1
    obtain ⟨g, e1, h2⟩ := h1
    exact ⟨g, e1, hrb g r (h.2.2 k hk ⟨g, 0, none⟩ (by rw [e1])).2.1 h2⟩
theorem BYs.stik (h : BYs w g6 n z lo s B) {i g : Nat} (hi : i < 8) {r : Rw} (he : s i = ⟨some ⟨g, 0, none⟩, 1, 1⟩) (e6 : w'.heap[g6]? = w.heap[g6]?) (hrb : ∀ g' r, g' ≠ g → RwB w g' n r → RwB w' g' n r) (hr : RwB w' g n r) : BYs w' g6 n z lo s (fun k => if k = i then some r else B k) := by
  refine ⟨e6.trans h.1, fun k hk => ?_, h.2.2⟩
  show Cell1 w' n (s k) (if k = i then some r else B k)
  by_cases hki : k = i
  · subst hki
    rw [if_pos rfl]
    exact ⟨g, he, hr⟩
  · rw [if_neg hki]
    have h1 := h.2.1 k hk
    cases e : B k with
    | none => rw [e] at h1; exact h1
    | some p =>
      rw [e] at h1
      obtain ⟨g', e1, h2⟩ := h1
      exact ⟨g', e1, hrb g' p ((h.2.2 k hk ⟨g', 0, none⟩ (by rw [e1])).2.2 i hi ⟨g, 0, none⟩ (by rw [he]) hki) h2⟩
theorem q6_hfar {w : World} {k z : Nat} (hk : k ≠ z) (x1 x2 x3 x4 x5 x6 : Value) : ((((((w.setCell ⟨z, 0, none⟩ x1).setCell ⟨z, 1, none⟩ x2).setCell ⟨z, 2, none⟩ x3).setCell ⟨z, 3, none⟩ x4).setCell ⟨z, 4, none⟩ x5).setCell ⟨z, 5, none⟩ x6).heap[k]? = w.heap[k]? := by
  rw [heap_setCell_other _ _ _ _ hk, heap_setCell_other _ _ _ _ hk, heap_setCell_other _ _ _ _ hk, heap_setCell_other _ _ _ _ hk, heap_setCell_other _ _ _ _ hk, heap_setCell_other _ _ _ _ hk]
/-- A store into the box z. -/
theorem BYs.st (h : BYs w g6 n z lo s B) {q : Rw} (hz : RwB w z n q) (h6 : g6 ≠ z) (x1 x2 x3 x4 x5 x6 : Value) :
    BYs ((((((w.setCell ⟨z, 0, none⟩ x1).setCell ⟨z, 1, none⟩ x2).setCell ⟨z, 2, none⟩ x3).setCell ⟨z, 3, none⟩ x4).setCell ⟨z, 4, none⟩ x5).setCell ⟨z, 5, none⟩ x6) g6 n z lo s B :=
  h.stk (q6_hfar h6 x1 x2 x3 x4 x5 x6) (fun g r hg hr => hr.far hz hg x1 x2 x3 x4 x5 x6)
/-- A store into the row held at i. -/
theorem BYs.sti (h : BYs w g6 n z lo s B) {i g : Nat} (hi : i < 8) {q r : Rw} (hB : B i = some q) (he : s i = ⟨some ⟨g, 0, none⟩, 1, 1⟩) (h6 : g6 ≠ g) {A : Option Addr} {c : Nat} {x : RC} {b : Bool} (hr : RwV w A n x r) :
    BYs ((((((w.setCell ⟨g, 0, none⟩ (.slice A n c)).setCell ⟨g, 1, none⟩ (.int .i64 x.v)).setCell ⟨g, 2, none⟩ (.slice x.A x.n x.c)).setCell ⟨g, 3, none⟩ (.int .i64 x.v')).setCell ⟨g, 4, none⟩ (.slice x.A' x.n' x.c')).setCell ⟨g, 5, none⟩ (.bool b)) g6 n z lo s (fun k => if k = i then some r else B k) := by
  have hgi : RwB w g n q := by
    have h1 := h.2.1 i hi
    rw [hB] at h1
    obtain ⟨g', e1, h2⟩ := h1
    rw [he] at e1
    cases e1
    exact h2
  exact h.stik hi he (q6_hfar h6 _ _ _ _ _ _) (fun g' p hg hp => hp.far hgi hg _ _ _ _ _ _) (hgi.set hr)
theorem by8_set (s : Nat → SL) (k : Nat) (hk : k < 8) (t : SL) : (#[slv (s 0), slv (s 1), slv (s 2), slv (s 3), slv (s 4), slv (s 5), slv (s 6), slv (s 7)] : Array Value).setIfInBounds k (slv t) =
    #[slv ((fun j => if j = k then t else s j) 0), slv ((fun j => if j = k then t else s j) 1), slv ((fun j => if j = k then t else s j) 2), slv ((fun j => if j = k then t else s j) 3), slv ((fun j => if j = k then t else s j) 4), slv ((fun j => if j = k then t else s j) 5), slv ((fun j => if j = k then t else s j) 6), slv ((fun j => if j = k then t else s j) 7)] := by
  match k, hk with
  | 0, _ => rfl
  | 1, _ => rfl
  | 2, _ => rfl
  | 3, _ => rfl
  | 4, _ => rfl
  | 5, _ => rfl
  | 6, _ => rfl
  | 7, _ => rfl
/-- by[k] = []Row{r}. -/
theorem BYs.put (h : BYs w g6 n z lo s B) {k g : Nat} (hk : k < 8) {r : Rw} (hr : RwB w g n r) (hlo : lo ≤ g) (hz : g ≠ z) (h6 : g ≠ g6) (hn : ∀ j, j < 8 → ∀ a, (s j).A = some a → a.block ≠ g) :
    BYs (w.setCell ⟨g6, k, none⟩ (.slice (some ⟨g, 0, none⟩) 1 1)) g6 n z lo (fun j => if j = k then ⟨some ⟨g, 0, none⟩, 1, 1⟩ else s j) (fun j => if j = k then some r else B j) := by
  have kp : ∀ t, BY ≠ t → Kp t w (w.setCell ⟨g6, k, none⟩ (.slice (some ⟨g, 0, none⟩) 1 1)) := fun t ht => (Kp.refl _ _).set (p := ⟨g6, k, none⟩) h.1 ht _
  have krb : ∀ g' q, RwB w g' n q → RwB (w.setCell ⟨g6, k, none⟩ (.slice (some ⟨g, 0, none⟩) 1 1)) g' n q := by
    intro g' q hq
    obtain ⟨A, c, x, b, h1, h2⟩ := hq
    exact ⟨A, c, x, b, (kp _ (by decide)).blk _ _ _ h1, h2.1.heap (kp _ (by decide)) (kp _ (by decide)), RatV.kp h2.2 (kp _ (by decide))⟩
  refine ⟨?_, fun j hj => ?_, fun j hj a ha => ?_⟩
  · have := blk_set h.1 k (.slice (some ⟨g, 0, none⟩) 1 1)
    rw [show (Value.slice (some ⟨g, 0, none⟩) 1 1) = slv ⟨some ⟨g, 0, none⟩, 1, 1⟩ from rfl, by8_set s k hk] at this
    exact this
  · by_cases e : j = k
    · subst e
      simp only [if_true]
      exact ⟨g, rfl, krb g r hr⟩
    · simp only [if_neg e]
      have h1 := h.2.1 j hj
      cases eb : B j with
      | none => rw [eb] at h1; exact h1
      | some p => rw [eb] at h1; obtain ⟨g', e1, h2⟩ := h1; exact ⟨g', e1, krb _ _ h2⟩
  · by_cases e : j = k
    · subst e
      simp only [if_true] at ha
      cases ha
      refine ⟨hlo, hz, fun k' hk' a' ha' hne => ?_⟩
      simp only [if_neg (Ne.symm hne)] at ha'
      exact (hn k' hk' a' ha').symm
    · simp only [if_neg e] at ha
      obtain ⟨h1, h2, h3⟩ := h.2.2 j hj a ha
      refine ⟨h1, h2, fun k' hk' a' ha' hne => ?_⟩
      by_cases e2 : k' = k
      · subst e2
        simp only [if_true] at ha'
        cases ha'
        exact hn j hj a ha
      · simp only [if_neg e2] at ha'
        exact h3 k' hk' a' ha' hne
end
theorem by8x {w : World} {g : Nat} {s : Nat → SL} (h : w.heap[g]? = some (.cells #[slv (s 0), slv (s 1), slv (s 2), slv (s 3), slv (s 4), slv (s 5), slv (s 6), slv (s 7)] BY (0, 0))) :
    w.cell? ⟨g, 0, none⟩ = some (.slice (s 0).A (s 0).m (s 0).c) ∧ w.cell? ⟨g, 1, none⟩ = some (.slice (s 1).A (s 1).m (s 1).c) ∧ w.cell? ⟨g, 2, none⟩ = some (.slice (s 2).A (s 2).m (s 2).c) ∧ w.cell? ⟨g, 3, none⟩ = some (.slice (s 3).A (s 3).m (s 3).c) ∧ w.cell? ⟨g, 4, none⟩ = some (.slice (s 4).A (s 4).m (s 4).c) ∧ w.cell? ⟨g, 5, none⟩ = some (.slice (s 5).A (s 5).m (s 5).c) ∧ w.cell? ⟨g, 6, none⟩ = some (.slice (s 6).A (s 6).m (s 6).c) ∧ w.cell? ⟨g, 7, none⟩ = some (.slice (s 7).A (s 7).m (s 7).c) :=
  ⟨by8 h 0 (by omega), by8 h 1 (by omega), by8 h 2 (by omega), by8 h 3 (by omega), by8 h 4 (by omega), by8 h 5 (by omega), by8 h 6 (by omega), by8 h 7 (by omega)⟩
theorem qj8 {A B C D E F G H X : Prop} (h : A ∧ B ∧ C ∧ D ∧ E ∧ F ∧ G ∧ H) (x : X) : A ∧ B ∧ C ∧ D ∧ E ∧ F ∧ G ∧ H ∧ X := ⟨h.1, h.2.1, h.2.2.1, h.2.2.2.1, h.2.2.2.2.1, h.2.2.2.2.2.1, h.2.2.2.2.2.2.1, h.2.2.2.2.2.2.2, x⟩
end Go.Proofs.Ytjmbpeniibdnoaa

namespace Go.Proofs.Ytjmbpeniibdnoaa

/-- A primitive vector that is a multiple of an integer vector is no longer. -/
theorem prim_le {y z : Nat → Int} (hp : ∀ g : Int, (∀ k, g ∣ y k) → g ∣ 1) {d e : Int} (hd : d ≠ 0) (h : ∀ i, d * y i = e * z i) (i : Nat) : (y i).natAbs ≤ (z i).natAbs := by
  have hg : (Int.gcd d e : Int) ≠ 0 := by
    have : 0 < Int.gcd d e := Int.gcd_pos_of_ne_zero_left _ hd
    omega
  obtain ⟨d', hd'⟩ := Int.gcd_dvd_left (a := d) (b := e)
  obtain ⟨e', he'⟩ := Int.gcd_dvd_right (a := d) (b := e)
  have hc : Int.gcd e' d' = 1 := by
    have h1 : Int.gcd (d / (Int.gcd d e : Int)) (e / (Int.gcd d e : Int)) = 1 := Int.gcd_ediv_gcd_ediv_gcd (Int.gcd_pos_of_ne_zero_left _ hd)
    have h2 : d / (Int.gcd d e : Int) = d' := Int.ediv_eq_of_eq_mul_right hg hd'
    have h3 : e / (Int.gcd d e : Int) = e' := Int.ediv_eq_of_eq_mul_right hg he'
    rw [h2, h3] at h1
    rw [Int.gcd_comm]
    exact h1
  have hi : ∀ i, d' * y i = e' * z i := by
    intro i
    have h1 := h i
    generalize (Int.gcd d e : Int) = g at *
    subst hd' he'
    rw [Int.mul_assoc, Int.mul_assoc] at h1
    exact Int.eq_of_mul_eq_mul_left hg h1
  have he1 : e' ∣ 1 := hp e' fun k => cop_dvd hc ⟨z k, by rw [hi k]⟩
  have he2 : e'.natAbs = 1 := by
    have := Int.natAbs_dvd_natAbs.2 he1
    exact Nat.dvd_one.1 (by simpa using this)
  have hdz : d' ≠ 0 := by rintro rfl; rw [Int.mul_zero] at hd'; exact hd hd'
  have h2 : d'.natAbs * (y i).natAbs = (z i).natAbs := by
    have := congrArg Int.natAbs (hi i)
    rw [Int.natAbs_mul, Int.natAbs_mul, he2, Nat.one_mul] at this
    exact this
  have h3 : 1 ≤ d'.natAbs := by omega
  calc (y i).natAbs = 1 * (y i).natAbs := (Nat.one_mul _).symm
    _ ≤ d'.natAbs * (y i).natAbs := Nat.mul_le_mul_right _ h3
    _ = (z i).natAbs := h2
theorem SzR.intc {k : Nat} {z : Int} (h : Sz k z) (hk : 0 < k) : SzR k (z : Rat) := by
  refine ⟨by rw [Rat.num_intCast]; exact h, ?_⟩
  rw [Rat.den_intCast]
  show 1 < 2 ^ k
  exact Nat.one_lt_two_pow (by omega)
/-- A row whose entries are small integers. -/
theorem szw_of {k n : Nat} {q : Rw} (hk : 0 < k) (hq : q.1.length = n) {y : Nat → Int} (hy : ∀ i, rv q i = (y i : Rat)) (hs : ∀ i, Sz k (y i)) : SzW k q := by
  refine ⟨fun j => ?_, ?_⟩
  · rcases Nat.lt_or_ge j n with h | h
    · rw [← rv_lt q j (by omega), hy]; exact SzR.intc (hs j) hk
    · rw [List.getD_eq_getElem?_getD, List.getElem?_eq_none (by omega)]
      have := SzR.intc (z := 0) (k := k) (by unfold Sz; exact Nat.pow_pos (by omega)) hk
      simpa using this
  · have := hy q.1.length
    rw [rv_add] at this
    rw [this]; exact SzR.intc (hs _) hk
theorem eB8 : eB 8 = 17850 := rfl
/-- The rows held are small. -/
theorem held_sz {n : Nat} (hn : n ≤ 8) (C : List (Nat → Int)) (hC : ∀ c ∈ C, Sbd 60 c) {B : Nat → Option Rw} (h : Inv n B (C.map iv)) {k : Nat} {q : Rw} (e : B k = some q) (J : Nat) (hJ : eB 8 < J) : SzW J q := by
  obtain ⟨hs1, hs2⟩ := shp_list h (List.range n) List.nodup_range
  obtain ⟨q1, q2, q3, q4, y, hy, hyp⟩ := h.row k q e
  have hkm : k ∈ (List.range n).filter fun k => (B k).isSome := List.mem_filter.2 ⟨List.mem_range.2 q1, by rw [e]; rfl⟩
  obtain ⟨a, ha⟩ := hs1.pivot hkm
  obtain ⟨q', e', rfl⟩ := hs2 a k ha
  rw [e] at e'
  cases e'
  have hlen : ((List.range n).filter fun k => (B k).isSome).length ≤ 8 := by
    have := List.length_filter_le (fun k => (B k).isSome) (List.range n)
    rw [List.length_range] at this
    omega
  obtain ⟨d, z, hd, hz, _, hm⟩ := small_rows hs1 hlen C hC h.span ha
  refine szw_of (by omega : 0 < J) q2 hy fun i => ?_
  have h1 : ∀ i, d * y i = y k * z i := by
    intro i
    have := hm i
    rw [hy i, hy k] at this
    have h2 : ((d * y i : Int) : Rat) = ((y k * z i : Int) : Rat) := by
      rw [Rat.intCast_mul, Rat.intCast_mul, ← this]; grind
    exact Rat.intCast_inj.1 h2
  have h3 := prim_le hyp hd h1 i
  unfold Sz
  exact Nat.lt_of_le_of_lt (Nat.le_trans h3 (hz i)) (Nat.pow_lt_pow_right (by omega) hJ)
/-- The vector of a form. -/
def fz (f : Fm) : Nat → Int := fun k => (f.1 ++ [f.2]).getD k 0
theorem rv_rowF (f : Fm) : rv (rowF f) = iv (fz f) := by
  funext k
  unfold rv rowF iv fz
  show ((f.1.map fun x => ((x : Int) : Rat)) ++ [(f.2 : Rat)]).getD k 0 = _
  rw [show (f.1.map fun x => ((x : Int) : Rat)) ++ [(f.2 : Rat)] = (f.1 ++ [f.2]).map fun x => ((x : Int) : Rat) by simp]
  rw [List.getD_eq_getElem?_getD, List.getElem?_map, List.getD_eq_getElem?_getD]
  cases (f.1 ++ [f.2])[k]? <;> simp
theorem fz_sb {n : Int} {f : Fm} (h : OkF n f) : Sbd 60 (fz f) := by
  intro k
  unfold fz
  rw [List.getD_eq_getElem?_getD]
  cases e : (f.1 ++ [f.2])[k]? with
  | none => simp
  | some x =>
    have hx : mid x := by
      have := List.mem_of_getElem? e
      rcases List.mem_append.1 this with h1 | h1
      · exact h.2.2.2 x h1
      · rw [List.mem_singleton] at h1; rw [h1]; exact h.2.2.1
    simp only [Option.getD_some]
    unfold mid at hx
    omega
theorem rowF_sz {n : Int} {f : Fm} (h : OkF n f) : SzW 61 (rowF f) := by
  refine szw_of (n := f.1.length) (y := fz f) (by omega) (by simp [rowF]) (fun i => by rw [rv_rowF]; rfl) fun i => ?_
  have := fz_sb h i
  unfold Sz
  exact Nat.lt_of_le_of_lt this (by decide)
/-- The rows held while lin.Rows runs over valid forms. -/
theorem run_sz {n : Nat} (hn : n ≤ 8) (F : List Fm) (hF : ∀ f ∈ F, OkF n f) {B : Nat → Option Rw} (hB : runF n (fun _ => none) (F.map rowF) = some B) (J : Nat) (hJ : eB 8 < J) : Inv n B ((F.map rowF).map rv) ∧ ∀ k q, B k = some q → SzW J q := by
  have h := run_spec (F.map rowF) (Inv.start n) (fun r hr => by
    obtain ⟨f, hf, rfl⟩ := List.mem_map.1 hr
    have := (hF f hf).2.1
    simp [rowF]; omega)
  rw [hB] at h
  simp only [List.nil_append] at h
  refine ⟨h, fun k q e => ?_⟩
  have e2 : (F.map rowF).map rv = (F.map fz).map iv := by
    rw [List.map_map, List.map_map]
    exact List.map_congr_left fun f _ => rv_rowF f
  rw [e2] at h
  exact held_sz hn (F.map fz) (fun c hc => by obtain ⟨f, hf, rfl⟩ := List.mem_map.1 hc; exact fz_sb (hF f hf)) h e J hJ
end Go.Proofs.Ytjmbpeniibdnoaa

namespace Go.Proofs.Ytjmbpeniibdnoaa
open Go.RowKit

theorem runF_app (n : Nat) (l l2 : List Rw) : ∀ B, runF n B (l ++ l2) = (runF n B l).bind fun B' => runF n B' l2 := by
  induction l with
  | nil => intro B; rfl
  | cons r l ih =>
    intro B
    show (match stepF n B r with | none => none | some B' => runF n B' (l ++ l2)) = (match stepF n B r with | none => none | some B' => runF n B' l).bind _
    cases stepF n B r with
    | none => rfl
    | some B' => exact ih B'
theorem runF_one (n : Nat) (B : Nat → Option Rw) (r : Rw) : runF n B [r] = stepF n B r := by
  show (match stepF n B r with | none => none | some B' => some B') = _
  cases stepF n B r <;> rfl
theorem pk_le {k n : Nat} (hk : k ≤ 100000000) (hn : n ≤ 8) : k * (n + 1 + 2) + 66 ≤ 10000000000 := by
  have := Nat.mul_le_mul hk (show n + 1 + 2 ≤ 11 by omega)
  omega
theorem rat_neg_iff (q : Rat) : q.num < 0 ↔ q < 0 := by
  rw [← Int.not_le, Rat.num_nonneg, Rat.not_le]
theorem SzW.unneg {J : Nat} {p : Rw} (h : SzW J (tms p (-1))) : SzW J p := by
  refine ⟨fun j => ?_, ?_⟩
  · rcases Nat.lt_or_ge j p.1.length with hj | hj
    · have h1 := (h.1 j).neg
      rw [show (tms p (-1)).1.getD j 0 = p.1.getD j 0 * (-1) from getD_map (· * (-1 : Rat)) p.1 j 0 0 hj] at h1
      rwa [show -(p.1.getD j 0 * (-1)) = p.1.getD j 0 by grind] at h1
    · have h1 := h.1 j
      rw [List.getD_eq_getElem?_getD, List.getElem?_eq_none (by rw [tms_len]; exact hj)] at h1
      rw [List.getD_eq_getElem?_getD, List.getElem?_eq_none hj]
      exact h1
  · have h1 := h.2.neg
    rwa [show -((tms p (-1)).2) = p.2 by show -(p.2 * (-1)) = p.2; grind] at h1
theorem BYs.ne6 {w : World} {g6 n z lo : Nat} {s : Nat → SL} {B : Nat → Option Rw} (h : BYs w g6 n z lo s B) {j g : Nat} {r : Rw} (hr : RwB w g n r) : g6 ≠ g := by
  rintro rfl
  obtain ⟨a1, a2, a3, a4, a5, a6, h1⟩ := hr.blk
  have h2 := h.1
  rw [h1] at h2
  injection h2 with h2
  injection h2 with _ e _
  exact absurd e (by decide)
theorem BYs.z6 {w : World} {g6 n z lo : Nat} {s : Nat → SL} {B : Nat → Option Rw} (h : BYs w g6 n z lo s B) : BYs w g6 n g6 lo s B := by
  refine ⟨h.1, h.2.1, fun j hj a ha => ⟨(h.2.2 j hj a ha).1, ?_, (h.2.2 j hj a ha).2.2⟩⟩
  have h1 := h.2.1 j hj
  cases e : B j with
  | none => rw [e] at h1; have h1' : s j = ⟨none, 0, 0⟩ := h1; rw [h1'] at ha; cases ha
  | some r =>
    rw [e] at h1
    obtain ⟨g, e1, h2⟩ := h1
    rw [e1] at ha
    cases ha
    exact (h.ne6 (j := j) h2).symm
theorem BYs.some_at {w : World} {g6 n z lo : Nat} {s : Nat → SL} {B : Nat → Option Rw} (h : BYs w g6 n z lo s B) {i : Nat} (hi : i < 8) {q : Rw} (hB : B i = some q) : ∃ g, s i = ⟨some ⟨g, 0, none⟩, 1, 1⟩ ∧ RwB w g n q ∧ lo ≤ g ∧ g ≠ z ∧ g6 ≠ g := by
  have h1 := h.2.1 i hi
  rw [hB] at h1
  obtain ⟨g, e1, h2⟩ := h1
  have h3 := h.2.2 i hi ⟨g, 0, none⟩ (by rw [e1])
  exact ⟨g, e1, h2, h3.1, h3.2.1, h.ne6 (j := i) h2⟩
theorem BYs.none_at {w : World} {g6 n z lo : Nat} {s : Nat → SL} {B : Nat → Option Rw} (h : BYs w g6 n z lo s B) {i : Nat} (hi : i < 8) (hB : B i = none) : s i = ⟨none, 0, 0⟩ := by
  have h1 := h.2.1 i hi
  rw [hB] at h1
  exact h1
theorem BYs.ltA {w : World} {g6 n z lo : Nat} {s : Nat → SL} {B : Nat → Option Rw} (h : BYs w g6 n z lo s B) {j : Nat} (hj : j < 8) {a : Addr} (ha : (s j).A = some a) : a.block < w.heap.size := by
  have h1 := h.2.1 j hj
  cases e : B j with
  | none => rw [e] at h1; have h1' : s j = ⟨none, 0, 0⟩ := h1; rw [h1'] at ha; cases ha
  | some r =>
    rw [e] at h1
    obtain ⟨g, e1, h2⟩ := h1
    rw [e1] at ha
    cases ha
    exact h2.lt
/-- The rows behind round i of the inner loop. -/
def midB (B : Nat → Option Rw) (nw : Rw) (i : Nat) : Nat → Option Rw := fun j => if j < i then (B j).map fun q => prm (redF [nw] q) else B j
theorem midB_none {B : Nat → Option Rw} {nw : Rw} {i : Nat} (h : B i = none) : midB B nw (i + 1) = midB B nw i := by
  funext j
  unfold midB
  by_cases h1 : j < i
  · rw [if_pos h1, if_pos (by omega)]
  · rw [if_neg h1]
    by_cases h2 : j = i
    · subst h2; rw [if_pos (by omega), h]; rfl
    · rw [if_neg (by omega)]
theorem midB_some {B : Nat → Option Rw} {nw q : Rw} {i : Nat} (h : B i = some q) : (fun k => if k = i then some (prm (redF [nw] q)) else midB B nw i k) = midB B nw (i + 1) := by
  funext j
  unfold midB
  by_cases h2 : j = i
  · subst h2; rw [if_pos rfl, if_pos (by omega), h]; rfl
  · rw [if_neg h2]
    by_cases h1 : j < i
    · rw [if_pos h1, if_pos (by omega)]
    · rw [if_neg h1, if_neg (by omega)]
theorem midB_at {B : Nat → Option Rw} {nw : Rw} {i : Nat} : midB B nw i i = B i := by unfold midB; rw [if_neg (by omega)]
theorem midB_put {n : Nat} {B : Nat → Option Rw} {r : Rw} (h : ∀ k q, B k = some q → k < n) : (fun j => if j = ldF r.1 then some (newF n r) else midB B (newF n r) n j) = putF n B r := by
  funext j
  unfold putF midB
  by_cases h1 : j = ldF r.1
  · rw [if_pos h1, if_pos h1]
  · rw [if_neg h1, if_neg h1]
    by_cases h2 : j < n
    · rw [if_pos h2]
    · rw [if_neg h2]
      cases e : B j with
      | none => rfl
      | some q => exact absurd (h j q e) h2
set_option maxHeartbeats 100000000
set_option maxRecDepth 100000
theorem lrows_calls (n : Nat) (hn : n ≤ 8) (A : Option Addr) (m c : Nat) (L : List Rw) (w : World) (h : RdW w A m L) (hm : m ≤ 500) (hlen : ∀ r ∈ L, r.1.length = n) (J K : Nat) (hL : ∀ r ∈ L, SzW K r)
    (hrun : ∀ kk, kk ≤ m → ∀ B, runF n (fun _ => none) (L.take kk) = some B → Inv n B ((L.take kk).map rv) ∧ ∀ k q, B k = some q → SzW J q) (hk : kR K J 8 ≤ 100000000) (hj : kR J J 1 ≤ 100000000) (hj2 : J ≤ 100000000) (hj1 : 2 ≤ J) :
    Calls Try.prog 39 #[.int .i64 n, .slice A m c] w fun e w' => (∃ A' m' c', e = .returned (.tuple #[.slice A' m' c', .bool (rowsF n L).isSome]) ∧ RdW w' A' m' ((rowsF n L).getD [])) ∧ Below w.heap.size w w' := by
  have LM := Lib.hid h.1
  have HK8 := Lib.hid hk
  have HK1 := Lib.hid hj
  have HJ8 := Lib.hid hj2
  have HJ9 : Hid (J ≤ 1000000000) := Lib.hid (by omega)
  have HJ1 := Lib.hid hj1
  have HLEN := Lib.hid hlen
  have HL := Lib.hid hL
  have HRUN := Lib.hid hrun
  have NO : ∀ kk, kk ≤ L.length → runF n (fun _ => none) (L.take kk) = none → (rowsF n L).isSome = false ∧ (rowsF n L).getD [] = [] := by
    intro kk hkk e
    have : runF n (fun _ => none) L = none := by
      conv => lhs; rw [← List.take_append_drop kk L]
      rw [runF_app, e]; rfl
    unfold rowsF
    rw [this]; exact ⟨rfl, rfl⟩
  have YES : ∀ B, runF n (fun _ => none) L = some B → (rowsF n L).isSome = true ∧ (rowsF n L).getD [] = flatF n B := by
    intro B e
    unfold rowsF
    rw [e]; exact ⟨rfl, rfl⟩
  generalize (rowsF n L).isSome = D at *
  generalize (rowsF n L).getD [] = R at *
  have HNO := Lib.hid NO
  have HYES := Lib.hid YES
  have HM1 : Hid (SzR J ((-1 : Int) : Rat)) := Lib.hid (SzR.intc (by unfold Sz; exact Nat.one_lt_two_pow (by omega)) (by omega))
  clear hk hj hlen hL hrun NO YES hj1 hj2
  go_enter Try.func39, Try.ntmps39
  have hBY0 : BYs (w.alloc (.cells #[.slice none 0 0, .slice none 0 0, .slice none 0 0, .slice none 0 0, .slice none 0 0, .slice none 0 0, .slice none 0 0, .slice none 0 0] BY)) w.heap.size n w.heap.size w.heap.size (fun _ => ⟨none, 0, 0⟩) (fun _ => none) := ⟨blk_at _ rfl, fun k hk => rfl, fun j hj a ha => by cases ha⟩
  have B0 := bl_alloc (Below.refl w.heap.size w) (.cells #[.slice none 0 0, .slice none 0 0, .slice none 0 0, .slice none 0 0, .slice none 0 0, .slice none 0 0, .slice none 0 0, .slice none 0 0] BY)
  go_wp2_with fail
  go_loopw [13] (fun i wr => ∃ (kk : Nat) (B : Nat → Option Rw) (s : Nat → SL), kk ≤ m ∧ i = .int .i64 kk ∧ runF n (fun _ => none) (L.take kk) = some B ∧ BYs wr w.heap.size n w.heap.size w.heap.size s B ∧ Below w.heap.size w wr) (fun i _ => m - (intOf i).toNat)
  case atStart => exact ⟨0, _, _, Nat.zero_le _, rfl, rfl, hBY0, B0⟩
  case round =>
    clear hBY0 B0
    obtain ⟨kk, B, s, hkk, rfl, hrunk, HBY, B0⟩ := hrel
    obtain ⟨hinv, hBJ⟩ := HRUN.out kk hkk B hrunk
    by_cases hlt : kk < m
    · obtain ⟨g, off, rfl, hg, hc⟩ := (h.below B0).2.2 (by omega)
      obtain ⟨A1, n1, c1, x1, b1, ⟨p1, p2, p3, p4, p5, p6⟩, t1⟩ := hc kk hlt
      have hmem : L.getD kk ([], 0) ∈ L := mem_getD (by rw [LM.out]; exact hlt)
      have hr1 := HLEN.out _ hmem
      have hn1 : n = n1 := by rw [← t1.1.1]; exact hr1.symm
      subst hn1
      have HRK := Lib.hid (HL.out _ hmem)
      have HTK := Lib.hid (take_snoc L ([], 0) kk (by rw [LM.out]; exact hlt))
      clear hc h hmem
      generalize L.getD kk ([], 0) = r1 at *
      have HFL := Lib.hid hinv.flat
      have HFJ : Hid (∀ q ∈ flatF n B, SzW J q) := Lib.hid fun q hq => by obtain ⟨k, _, e⟩ := mem_flat.1 hq; exact hBJ k q e
      have HMF : Hid (∀ mf, (flatF n B).length = mf → mf ≤ 8 ∧ kR K J mf ≤ 1000000000) := Lib.hid fun mf e => by
        have h1 : (flatF n B).length ≤ n := flatU_len B n
        exact ⟨by omega, Nat.le_trans (kR_mono K J (show mf ≤ 8 by omega)) (Nat.le_trans HK8.out (by omega))⟩
      obtain ⟨rr, hrr⟩ : ∃ rr, redF (flatF n B) r1 = rr := ⟨_, rfl⟩
      have hrrl : rr.1.length = n := by rw [← hrr]; exact red_len (fun q hq => (HFL.out q hq).1) hr1
      have HRL : Hid ((redF (flatF n B) r1).1.length = n) := Lib.hid (by rw [hrr]; exact hrrl)
      have HRR := Lib.hid hrr
      have HSR : Hid (SzW (kR K J 8) rr) := Lib.hid (by
        have h2 := redF_sz HFL.out HFJ.out hr1 HRK.out (flatF n B).length (Nat.le_refl _)
        rw [List.take_of_length_le (Nat.le_refl _), hrr] at h2
        have h3 := kR_mono K J (HMF.out _ rfl).1
        exact ⟨fun j => (h2.1 j).mono h3, h2.2.mono h3⟩)
      have HST : Hid (stepF n B r1 = if ldF rr.1 < n then some (putF n B rr) else if rr.2 = 0 then some B else none) := Lib.hid (by unfold stepF; rw [hrr])
      have HNX0 : Hid (runF n (fun _ => none) (L.take (kk + 1)) = stepF n B r1) := Lib.hid (by rw [HTK.out, runF_app, hrunk]; exact runF_one n B r1)
      have HKN : Hid (∀ k q, B k = some q → k < n ∧ q.1.length = n ∧ SzW J q) := Lib.hid fun k q e => ⟨(hinv.row k q e).1, (hinv.row k q e).2.1, hBJ k q e⟩
      clear hrr hinv hBJ hrunk hr1
      go_upto_region 5 with (fail)
      have a8 : (wr.alloc (.cells #[.slice A1 n c1, .int .i64 x1.v, .slice x1.A x1.n x1.c, .int .i64 x1.v', .slice x1.A' x1.n' x1.c', .bool b1] 65)).heap[wr.heap.size]? = some (.cells #[.slice A1 n c1, .int .i64 x1.v, .slice x1.A x1.n x1.c, .int .i64 x1.v', .slice x1.A' x1.n' x1.c', .bool b1] 65 (0, 0)) := blk_at _ rfl
      replace t1 := t1.below (bl_alloc (Below.refl _ _) (.cells #[.slice A1 n c1, .int .i64 x1.v, .slice x1.A x1.n x1.c, .int .i64 x1.v', .slice x1.A' x1.n' x1.c', .bool b1] 65))
      replace HBY := (HBY.fresh (Nat.le_refl wr.heap.size)).al (.cells #[.slice A1 n c1, .int .i64 x1.v, .slice x1.A x1.n x1.c, .int .i64 x1.v', .slice x1.A' x1.n' x1.c', .bool b1] 65)
      have lg8 := B0.size
      have h68 : w.heap.size ≠ wr.heap.size := by have := blk_lt HBY.1; intro e; rw [e] at this; have h7 := HBY.ne6 (j := 0) ⟨_, _, _, _, a8, t1⟩; exact h7 e
      replace B0 := bl_alloc B0 (.cells #[.slice A1 n c1, .int .i64 x1.v, .slice x1.A x1.n x1.c, .int .i64 x1.v', .slice x1.A' x1.n' x1.c', .bool b1] 65)
      clear p1 p2 p3 p4 p5 p6 hg
      generalize wr.heap.size = g8 at *
      generalize wr.alloc (.cells #[.slice A1 n c1, .int .i64 x1.v, .slice x1.A x1.n x1.c, .int .i64 x1.v', .slice x1.A' x1.n' x1.c', .bool b1] 65) = W4 at *
      go_cut [] (fun wc => RwB wc g8 n rr ∧ BYs wc w.heap.size n g8 w.heap.size s B ∧ Below w.heap.size w wc)
      case first =>
        have aby_0 := blk_drew HBY.1
        have a8_0 := blk_drew a8
        have hS0 : W4.drew.cell? ⟨w.heap.size, 0, none⟩ = some (Value.slice (s 0).A (s 0).m (s 0).c) ∧ W4.drew.cell? ⟨w.heap.size, 1, none⟩ = some (Value.slice (s 1).A (s 1).m (s 1).c) ∧ W4.drew.cell? ⟨w.heap.size, 2, none⟩ = some (Value.slice (s 2).A (s 2).m (s 2).c) ∧ W4.drew.cell? ⟨w.heap.size, 3, none⟩ = some (Value.slice (s 3).A (s 3).m (s 3).c) ∧ W4.drew.cell? ⟨w.heap.size, 4, none⟩ = some (Value.slice (s 4).A (s 4).m (s 4).c) ∧ W4.drew.cell? ⟨w.heap.size, 5, none⟩ = some (Value.slice (s 5).A (s 5).m (s 5).c) ∧ W4.drew.cell? ⟨w.heap.size, 6, none⟩ = some (Value.slice (s 6).A (s 6).m (s 6).c) ∧ W4.drew.cell? ⟨w.heap.size, 7, none⟩ = some (Value.slice (s 7).A (s 7).m (s 7).c) ∧ W4.drew.cell? ⟨g8, 0, none⟩ = some (Value.slice A1 n c1) ∧ W4.drew.cell? ⟨g8, 1, none⟩ = some (Value.int .i64 x1.v) ∧ W4.drew.cell? ⟨g8, 2, none⟩ = some (Value.slice x1.A x1.n x1.c) ∧ W4.drew.cell? ⟨g8, 3, none⟩ = some (Value.int .i64 x1.v') ∧ W4.drew.cell? ⟨g8, 4, none⟩ = some (Value.slice x1.A' x1.n' x1.c') ∧ W4.drew.cell? ⟨g8, 5, none⟩ = some (Value.bool b1) := qj8 (by8x aby_0) (qx6 (t := 65) a8_0)
        refine wp_region_T (n := 5) (fun W => W.cell? ⟨w.heap.size, 0, none⟩ = some (Value.slice (s 0).A (s 0).m (s 0).c) ∧ W.cell? ⟨w.heap.size, 1, none⟩ = some (Value.slice (s 1).A (s 1).m (s 1).c) ∧ W.cell? ⟨w.heap.size, 2, none⟩ = some (Value.slice (s 2).A (s 2).m (s 2).c) ∧ W.cell? ⟨w.heap.size, 3, none⟩ = some (Value.slice (s 3).A (s 3).m (s 3).c) ∧ W.cell? ⟨w.heap.size, 4, none⟩ = some (Value.slice (s 4).A (s 4).m (s 4).c) ∧ W.cell? ⟨w.heap.size, 5, none⟩ = some (Value.slice (s 5).A (s 5).m (s 5).c) ∧ W.cell? ⟨w.heap.size, 6, none⟩ = some (Value.slice (s 6).A (s 6).m (s 6).c) ∧ W.cell? ⟨w.heap.size, 7, none⟩ = some (Value.slice (s 7).A (s 7).m (s 7).c) ∧ W.cell? ⟨g8, 0, none⟩ = some (Value.slice A1 n c1) ∧ W.cell? ⟨g8, 1, none⟩ = some (Value.int .i64 x1.v) ∧ W.cell? ⟨g8, 2, none⟩ = some (Value.slice x1.A x1.n x1.c) ∧ W.cell? ⟨g8, 3, none⟩ = some (Value.int .i64 x1.v') ∧ W.cell? ⟨g8, 4, none⟩ = some (Value.slice x1.A' x1.n' x1.c') ∧ W.cell? ⟨g8, 5, none⟩ = some (Value.bool b1)) (by kernel_rfl) ?_
        refine wpT_take (n := 5) (i := 0) (v := ?_) (by decide) (by kernel_rfl) rfl (by kernel_rfl) (by kernel_rfl) (by kernel_rfl) (fun _ _ _ h => h) (Or.inl ⟨by rfl, ?_⟩) hS0 ?_
        rotate_left
        · intro w' hSw
          (try dsimp only at hSw)
          go_simp
          (try with_reducible rfl)
        try simp only [Act.put, List.setIfInBounds_toArray, List.set_cons_zero, List.set_cons_succ]
        refine wpT_take (n := 5) (i := 1) (v := ?_) (by decide) (by kernel_rfl) rfl (by kernel_rfl) (by kernel_rfl) (by kernel_rfl) (fun _ _ _ h => h) (Or.inl ⟨by rfl, ?_⟩) hS0 ?_
        rotate_left
        · intro w' hSw
          (try dsimp only at hSw)
          go_simp
          (try with_reducible rfl)
        try simp only [Act.put, List.setIfInBounds_toArray, List.set_cons_zero, List.set_cons_succ]
        refine wpT_take (n := 5) (i := 3) (v := ?_) (by decide) (by kernel_rfl) rfl (by kernel_rfl) (by kernel_rfl) (by kernel_rfl) (fun _ _ _ h => h) (Or.inl ⟨by rfl, ?_⟩) hS0 ?_
        rotate_left
        · intro w' hSw
          (try dsimp only at hSw)
          go_simp
          (try with_reducible rfl)
        try simp only [Act.put, List.setIfInBounds_toArray, List.set_cons_zero, List.set_cons_succ]
        refine wpT_one (n := 5) (i := 2) (by kernel_rfl) rfl (fun K9 hK9 => ?_)
        go_simp
        refine (flat_calls n hn B s _ (fun k hk => (HBY.dr.2.1 k hk).is)).mono ?_
        rintro e y1 ⟨⟨Af, mf, cf, rfl, hrd⟩, hB1⟩
        have H1 : Below W4.heap.size W4 y1 := bl_then (bl_drew (Below.refl _ _)) hB1
        have aby_1 := blk_below HBY.1 H1
        have a8_1 := blk_below a8 H1
        have hS1 : y1.cell? ⟨w.heap.size, 0, none⟩ = some (Value.slice (s 0).A (s 0).m (s 0).c) ∧ y1.cell? ⟨w.heap.size, 1, none⟩ = some (Value.slice (s 1).A (s 1).m (s 1).c) ∧ y1.cell? ⟨w.heap.size, 2, none⟩ = some (Value.slice (s 2).A (s 2).m (s 2).c) ∧ y1.cell? ⟨w.heap.size, 3, none⟩ = some (Value.slice (s 3).A (s 3).m (s 3).c) ∧ y1.cell? ⟨w.heap.size, 4, none⟩ = some (Value.slice (s 4).A (s 4).m (s 4).c) ∧ y1.cell? ⟨w.heap.size, 5, none⟩ = some (Value.slice (s 5).A (s 5).m (s 5).c) ∧ y1.cell? ⟨w.heap.size, 6, none⟩ = some (Value.slice (s 6).A (s 6).m (s 6).c) ∧ y1.cell? ⟨w.heap.size, 7, none⟩ = some (Value.slice (s 7).A (s 7).m (s 7).c) ∧ y1.cell? ⟨g8, 0, none⟩ = some (Value.slice A1 n c1) ∧ y1.cell? ⟨g8, 1, none⟩ = some (Value.int .i64 x1.v) ∧ y1.cell? ⟨g8, 2, none⟩ = some (Value.slice x1.A x1.n x1.c) ∧ y1.cell? ⟨g8, 3, none⟩ = some (Value.int .i64 x1.v') ∧ y1.cell? ⟨g8, 4, none⟩ = some (Value.slice x1.A' x1.n' x1.c') ∧ y1.cell? ⟨g8, 5, none⟩ = some (Value.bool b1) := qj8 (by8x aby_1) (qx6 (t := 65) a8_1)
        refine hK9.out _ _ (fun _ => hS1) (fun _ => ?_)
        clear hK9 K9
        try simp only [Act.put, List.setIfInBounds_toArray, List.set_cons_zero, List.set_cons_succ]
        refine wpT_one (n := 5) (i := 4) (by kernel_rfl) rfl (fun K9 hK9 => ?_)
        go_simp
        refine (reduce_calls Af mf cf (flatF n B) A1 n c1 x1 b1 r1 _ hrd (t1.below H1) HFL.out K J HFJ.out HRK.out (HMF.out mf hrd.1).2 HJ9.out).mono ?_
        rintro e y2 ⟨⟨A8, n8, c8, x8, rfl, t8⟩, hB2⟩
        have H2 := bl_then H1 hB2
        have aby_2 := blk_below HBY.1 H2
        have a8_2 := blk_below a8 H2
        have hS2 : y2.cell? ⟨w.heap.size, 0, none⟩ = some (Value.slice (s 0).A (s 0).m (s 0).c) ∧ y2.cell? ⟨w.heap.size, 1, none⟩ = some (Value.slice (s 1).A (s 1).m (s 1).c) ∧ y2.cell? ⟨w.heap.size, 2, none⟩ = some (Value.slice (s 2).A (s 2).m (s 2).c) ∧ y2.cell? ⟨w.heap.size, 3, none⟩ = some (Value.slice (s 3).A (s 3).m (s 3).c) ∧ y2.cell? ⟨w.heap.size, 4, none⟩ = some (Value.slice (s 4).A (s 4).m (s 4).c) ∧ y2.cell? ⟨w.heap.size, 5, none⟩ = some (Value.slice (s 5).A (s 5).m (s 5).c) ∧ y2.cell? ⟨w.heap.size, 6, none⟩ = some (Value.slice (s 6).A (s 6).m (s 6).c) ∧ y2.cell? ⟨w.heap.size, 7, none⟩ = some (Value.slice (s 7).A (s 7).m (s 7).c) ∧ y2.cell? ⟨g8, 0, none⟩ = some (Value.slice A1 n c1) ∧ y2.cell? ⟨g8, 1, none⟩ = some (Value.int .i64 x1.v) ∧ y2.cell? ⟨g8, 2, none⟩ = some (Value.slice x1.A x1.n x1.c) ∧ y2.cell? ⟨g8, 3, none⟩ = some (Value.int .i64 x1.v') ∧ y2.cell? ⟨g8, 4, none⟩ = some (Value.slice x1.A' x1.n' x1.c') ∧ y2.cell? ⟨g8, 5, none⟩ = some (Value.bool b1) := qj8 (by8x aby_2) (qx6 (t := 65) a8_2)
        have FF := q6 a8_2
        obtain ⟨⟨k1, k2, k3, k4, k5, k6⟩, k7⟩ := FF
        refine hK9.out _ _ (fun _ => hS2) (fun _ => ?_)
        clear hK9 K9
        try simp only [Act.put, List.setIfInBounds_toArray, List.set_cons_zero, List.set_cons_succ]
        refine wpT_one (n := 5) (i := 5) (by kernel_rfl) rfl (fun K9 hK9 => ?_)
        go_simp
        refine hK9.out _ _ (fun h => absurd rfl h) (fun _ => ?_)
        clear hK9 K9
        try simp only [Act.put, List.setIfInBounds_toArray, List.set_cons_zero, List.set_cons_succ]
        refine wpT_done (by kernel_rfl) ?_ _
        have hn8 : n = n8 := by rw [← t8.1.1]; exact HRL.out.symm
        subst hn8
        rw [HRR.out] at t8
        have RB2 : RwB y2 g8 n r1 := ⟨_, _, _, _, a8_2, t1.below H2⟩
        have V1 := RB2.set (b := b1) (c := c8) t8
        have V2 := (HBY.below H2).st RB2 h68 (.slice A8 n c8) (.int .i64 x8.v) (.slice x8.A x8.n x8.c) (.int .i64 x8.v') (.slice x8.A' x8.n' x8.c') (.bool b1)
        have V3 := q6_bl (bl_then B0 H2) lg8 (.slice A8 n c8) (.int .i64 x8.v) (.slice x8.A x8.n x8.c) (.int .i64 x8.v') (.slice x8.A' x8.n' x8.c') (.bool b1)
        go_wp2
        go_meet
        case rel => exact ⟨V1, V2, V3⟩
      case rest =>
        obtain ⟨V1, V2, V3⟩ := hcut
        clear a8 t1 HBY B0
        obtain ⟨A2, c2, x2, b2, a8, t2⟩ := V1
        have HBY := V2
        have B0 := V3
        clear V2 V3
        obtain ⟨⟨f1, f2, f3, f4, f5, f6⟩, f7⟩ := q6 a8
        go_wp2_with fail
        refine (lead_calls A2 n c2 x2 b2 rr _ t2).mono ?_
        rintro e w6 ⟨rfl, hB6⟩
        replace a8 := blk_below a8 hB6
        replace t2 := t2.below hB6
        replace HBY := HBY.below hB6
        replace B0 := bl_then B0 hB6
        clear f1 f2 f3 f4 f5 f6 f7 hB6
        by_cases hk : ldF rr.1 < n
        · rw [if_pos hk] at HST
          have hRUN2 := HRUN.out (kk + 1) hlt (putF n B rr) (by rw [HNX0.out, HST.out])
          have hnwp : putF n B rr (ldF rr.1) = some (newF n rr) := by unfold putF; rw [if_pos rfl]
          have HNJ : Hid (∀ q ∈ [newF n rr], SzW J q) := Lib.hid fun q hq => by rw [List.mem_singleton] at hq; rw [hq]; exact hRUN2.2 _ _ hnwp
          have hnl := (hRUN2.1.row _ _ hnwp).2.1
          have HNW : Hid (∀ q ∈ [newF n rr], q.1.length = n ∧ ldF q.1 < n) := Lib.hid fun q hq => by
            rw [List.mem_singleton] at hq
            rw [hq]
            exact ⟨hnl, by rw [hRUN2.1.ld hnwp]; exact hk⟩
          have HPB := Lib.hid (midB_put (n := n) (B := B) (r := rr) (fun k q e => (HKN.out k q e).1))
          have HPL : Hid ((prm rr).1.length = n) := Lib.hid (by rw [prm_len]; exact hrrl)
          have HNP : Hid (if (prm rr).1.getD (ldF rr.1) 0 < 0 then newF n rr = tms (prm rr) (-1) else newF n rr = prm rr) := Lib.hid (by
            unfold newF
            by_cases hc : (prm rr).1.getD (ldF rr.1) 0 < 0
            · rw [if_pos hc, if_pos hc]
            · rw [if_neg hc, if_neg hc])
          have HPJ : Hid (SzW J (prm rr)) := Lib.hid (by
            have h1 := HNJ.out _ (List.mem_singleton.2 rfl)
            have h2 := HNP.out
            by_cases hc : (prm rr).1.getD (ldF rr.1) 0 < 0
            · rw [if_pos hc] at h2; rw [h2] at h1; exact h1.unneg
            · rw [if_neg hc] at h2; rw [h2] at h1; exact h1)
          have HPU : Hid (runF n (fun _ => none) (L.take (kk + 1)) = some (putF n B rr)) := Lib.hid (by rw [HNX0.out, HST.out])
          clear hRUN2 hnwp HST HNX0
          generalize hld : ldF rr.1 = ld at *
          clear hld
          obtain ⟨nw, hnw⟩ : ∃ nw, newF n rr = nw := ⟨_, rfl⟩
          rw [hnw] at HNJ HNW HPB HNP hnl
          obtain ⟨pp, hpp⟩ : ∃ pp, prm rr = pp := ⟨_, rfl⟩
          rw [hpp] at HPL HNP HPJ
          have HPP := Lib.hid hpp
          clear hnw hpp
          have hk' : (ld : Int) < (n : Int) := by omega
          have hk0 : (0 : Int) ≤ (ld : Int) := by omega
          obtain ⟨⟨f1, f2, f3, f4, f5, f6⟩, f7⟩ := q6 a8
          go_wp2_with fail
          refine (prim_calls A2 n c2 x2 b2 rr _ t2 (by omega) (kR K J 8) HSR.out (pk_le HK8.out hn)).mono ?_
          rintro e w8 ⟨⟨A3, n3, c3, x3, rfl, t3⟩, hB8⟩
          rw [HPP.out] at t3
          have hn3 : n = n3 := by rw [← t3.1.1]; exact HPL.out.symm
          subst hn3
          have RB8 : RwB w8 g8 n rr := ⟨_, _, _, _, blk_below a8 hB8, t2.below hB8⟩
          have a9 := blk_below a8 hB8
          have V1 := RB8.set (b := b2) (c := c3) t3
          have V2 := (HBY.below hB8).st RB8 h68 (.slice A3 n c3) (.int .i64 x3.v) (.slice x3.A x3.n x3.c) (.int .i64 x3.v') (.slice x3.A' x3.n' x3.c') (.bool b2)
          have V3 := q6_bl (bl_then B0 hB8) lg8 (.slice A3 n c3) (.int .i64 x3.v) (.slice x3.A x3.n x3.c) (.int .i64 x3.v') (.slice x3.A' x3.n' x3.c') (.bool b2)
          clear f1 f2 f3 f4 f5 f6 f7 HBY B0 a8 t2 RB8 hB8
          obtain ⟨⟨f1, f2, f3, f4, f5, f6⟩, f7⟩ := q6 a9
          clear t3 a9
          go_upto_region 9 with (fail)
          clear f1 f2 f3 f4 f5 f6 f7
          generalize (((((w8.setCell ⟨g8, 0, none⟩ (.slice A3 n c3)).setCell ⟨g8, 1, none⟩ (.int .i64 x3.v)).setCell ⟨g8, 2, none⟩ (.slice x3.A x3.n x3.c)).setCell ⟨g8, 3, none⟩ (.int .i64 x3.v')).setCell ⟨g8, 4, none⟩ (.slice x3.A' x3.n' x3.c')).setCell ⟨g8, 5, none⟩ (.bool b2) = W9 at *
          obtain ⟨Aq, cq, xq, bq, a8, t3⟩ := V1
          have HBY := V2
          have B0 := V3
          clear V2 V3
          obtain ⟨gp, op, rfl, hgp, hcp⟩ := t3.1.2.2.1 (by omega)
          obtain ⟨y, ⟨d1, d2, d3, d4⟩, hy⟩ := hcp ld hk
          clear hcp hgp
          have f1 := (q6 a8).1.1
          have hnp := HNP.out
          clear HNP
          replace hy : RatV W9 y.v y.A y.n y.c y.v' y.A' y.n' y.c' (pp.1.getD ld 0) := hy
          generalize pp.1.getD ld 0 = qv at *
          have HNP := Lib.hid hnp
          clear hnp
          go_wp2_with fail
          refine (rsign_calls y.v y.A y.n y.c y.v' y.A' y.n' y.c' qv _ hy).mono ?_
          rintro e W10 ⟨rfl, hB6⟩
          replace a8 := blk_below a8 hB6
          replace t3 := t3.below hB6
          replace HBY := HBY.below hB6
          replace B0 := bl_then B0 hB6
          clear f1 d1 d2 d3 d4 hy hB6
          go_upto_if 35 with (fail)
          go_cut [] (fun wc => RwB wc g8 n nw ∧ BYs wc w.heap.size n g8 w.heap.size s B ∧ Below w.heap.size w wc)
          case first =>
            by_cases hc : qv < 0
            · have hs : decide (qv.num < 0) = true := decide_eq_true ((rat_neg_iff _).2 hc)
              rw [if_pos hc] at HNP
              have HNEG := HNP
              rw [hs]
              clear HNP hc hs
              go_upto_region 10 with (fail)
              have hS0 : W10.drew.cell? ⟨g8, 0, none⟩ = some (Value.slice (some ⟨gp, op, none⟩) n cq) ∧ W10.drew.cell? ⟨g8, 1, none⟩ = some (Value.int .i64 xq.v) ∧ W10.drew.cell? ⟨g8, 2, none⟩ = some (Value.slice xq.A xq.n xq.c) ∧ W10.drew.cell? ⟨g8, 3, none⟩ = some (Value.int .i64 xq.v') ∧ W10.drew.cell? ⟨g8, 4, none⟩ = some (Value.slice xq.A' xq.n' xq.c') ∧ W10.drew.cell? ⟨g8, 5, none⟩ = some (Value.bool bq) := qx6 (t := 65) (blk_drew a8)
              refine wp_region_T (n := 3) (fun W => W.cell? ⟨g8, 0, none⟩ = some (Value.slice (some ⟨gp, op, none⟩) n cq) ∧ W.cell? ⟨g8, 1, none⟩ = some (Value.int .i64 xq.v) ∧ W.cell? ⟨g8, 2, none⟩ = some (Value.slice xq.A xq.n xq.c) ∧ W.cell? ⟨g8, 3, none⟩ = some (Value.int .i64 xq.v') ∧ W.cell? ⟨g8, 4, none⟩ = some (Value.slice xq.A' xq.n' xq.c') ∧ W.cell? ⟨g8, 5, none⟩ = some (Value.bool bq)) (by kernel_rfl) ?_
              refine wpT_take (n := 3) (i := 0) (v := ?_) (by decide) (by kernel_rfl) rfl (by kernel_rfl) (by kernel_rfl) (by kernel_rfl) (fun _ _ _ h => h) (Or.inl ⟨by rfl, ?_⟩) hS0 ?_
              rotate_left
              · intro w' hSw
                (try dsimp only at hSw)
                go_simp
                (try with_reducible rfl)
              try simp only [Act.put, List.setIfInBounds_toArray, List.set_cons_zero, List.set_cons_succ]
              refine wpT_one (n := 3) (i := 1) (by kernel_rfl) rfl (fun K9 hK9 => ?_)
              go_simp
              refine (wholei_calls (-1) _ (by decide) (by decide)).mono ?_
              rintro e y1 ⟨⟨v9, A9, n9, c9, v9', A9', n9', c9', rfl, t9⟩, hB1⟩
              have H1 : Below W10.heap.size W10 y1 := bl_then (bl_drew (Below.refl _ _)) hB1
              have a8_1 := blk_below a8 H1
              have hS1 : y1.cell? ⟨g8, 0, none⟩ = some (Value.slice (some ⟨gp, op, none⟩) n cq) ∧ y1.cell? ⟨g8, 1, none⟩ = some (Value.int .i64 xq.v) ∧ y1.cell? ⟨g8, 2, none⟩ = some (Value.slice xq.A xq.n xq.c) ∧ y1.cell? ⟨g8, 3, none⟩ = some (Value.int .i64 xq.v') ∧ y1.cell? ⟨g8, 4, none⟩ = some (Value.slice xq.A' xq.n' xq.c') ∧ y1.cell? ⟨g8, 5, none⟩ = some (Value.bool bq) := qx6 (t := 65) a8_1
              refine hK9.out _ _ (fun _ => hS1) (fun _ => ?_)
              clear hK9 K9
              try simp only [Act.put, List.setIfInBounds_toArray, List.set_cons_zero, List.set_cons_succ]
              refine wpT_one (n := 3) (i := 2) (by kernel_rfl) rfl (fun K9 hK9 => ?_)
              go_simp
              refine (rowtimes_calls (some ⟨gp, op, none⟩) n cq xq bq pp ⟨v9, A9, n9, c9, v9', A9', n9', c9'⟩ _ _ (t3.below H1) t9 J HPJ.out HM1.out (Nat.le_trans HJ9.out (by omega))).mono ?_
              rintro e y2 ⟨⟨A8, n8, c8, x8, rfl, t8⟩, hB2⟩
              have H2 := bl_then H1 hB2
              have a8_2 := blk_below a8 H2
              have hS2 : y2.cell? ⟨g8, 0, none⟩ = some (Value.slice (some ⟨gp, op, none⟩) n cq) ∧ y2.cell? ⟨g8, 1, none⟩ = some (Value.int .i64 xq.v) ∧ y2.cell? ⟨g8, 2, none⟩ = some (Value.slice xq.A xq.n xq.c) ∧ y2.cell? ⟨g8, 3, none⟩ = some (Value.int .i64 xq.v') ∧ y2.cell? ⟨g8, 4, none⟩ = some (Value.slice xq.A' xq.n' xq.c') ∧ y2.cell? ⟨g8, 5, none⟩ = some (Value.bool bq) := qx6 (t := 65) a8_2
              have FF := q6 a8_2
              obtain ⟨⟨k1, k2, k3, k4, k5, k6⟩, k7⟩ := FF
              refine hK9.out _ _ (fun _ => hS2) (fun _ => ?_)
              clear hK9 K9
              try simp only [Act.put, List.setIfInBounds_toArray, List.set_cons_zero, List.set_cons_succ]
              refine wpT_one (n := 3) (i := 3) (by kernel_rfl) rfl (fun K9 hK9 => ?_)
              go_simp
              refine hK9.out _ _ (fun h => absurd rfl h) (fun _ => ?_)
              clear hK9 K9
              try simp only [Act.put, List.setIfInBounds_toArray, List.set_cons_zero, List.set_cons_succ]
              refine wpT_done (by kernel_rfl) ?_ _
              have hn8 : n = n8 := by rw [← t8.1.1, tms_len]; exact HPL.out.symm
              subst hn8
              have RB2 : RwB y2 g8 n pp := ⟨_, _, _, _, a8_2, t3.below H2⟩
              have V1 := RB2.set (b := bq) (c := c8) t8
              have V2 := (HBY.below H2).st RB2 h68 (.slice A8 n c8) (.int .i64 x8.v) (.slice x8.A x8.n x8.c) (.int .i64 x8.v') (.slice x8.A' x8.n' x8.c') (.bool bq)
              have V3 := q6_bl (bl_then B0 H2) lg8 (.slice A8 n c8) (.int .i64 x8.v) (.slice x8.A x8.n x8.c) (.int .i64 x8.v') (.slice x8.A' x8.n' x8.c') (.bool bq)
              go_wp2
              go_meet
              case rel => exact ⟨by rw [HNEG.out]; exact V1, V2, V3⟩
            · have hs : decide (qv.num < 0) = false := decide_eq_false fun h => hc ((rat_neg_iff _).1 h)
              rw [if_neg hc] at HNP
              rw [hs]
              have RBq : RwB W10 g8 n nw := by rw [HNP.out]; exact ⟨_, _, _, _, a8, t3⟩
              go_wp2
              go_meet
              case rel => exact ⟨RBq, HBY, B0⟩
          case rest =>
            obtain ⟨V1, V2, V3⟩ := hcut
            clear a8 t3 HBY B0 HNP HPJ HPL HPP
            go_wp2_with fail
            have V2' : BYs wc w.heap.size n g8 w.heap.size s (midB B nw 0) := by
              have : midB B nw 0 = B := by funext j; unfold midB; rw [if_neg (by omega)]
              rw [this]; exact V2
            go_loopw [40] (fun i wr => ∃ ii : Nat, ii ≤ n ∧ i = .int .i64 ii ∧ RwB wr g8 n nw ∧ BYs wr w.heap.size n g8 w.heap.size s (midB B nw ii) ∧ Below w.heap.size w wr) (fun i _ => n - (intOf i).toNat)
            case atStart => exact ⟨0, Nat.zero_le _, rfl, V1, V2', V3⟩
            case round =>
              clear V1 V2 V2' V3
              obtain ⟨ii, hii, rfl, RB4, HBY, B0⟩ := hrel
              obtain ⟨A4, c4, x4, b4, a8, t4⟩ := RB4
              by_cases hilt : ii < n
              · have hi0 : (0 : Int) ≤ (ii : Int) := by omega
                have hi8 : (ii : Int) < 8 := by omega
                have hin : (ii : Int) < (n : Int) := by omega
                have f1 := by8 HBY.1 ii (by omega)
                cases hBi : B ii with
                | none =>
                  have he := HBY.none_at (by omega : ii < 8) (by rw [midB_at]; exact hBi)
                  rw [he] at f1
                  have HMN := Lib.hid (midB_none (nw := nw) hBi)
                  clear hBi he
                  go_wp2
                  go_roundw
                  case rel => exact ⟨ii + 1, hilt, by go_num, ⟨_, _, _, _, a8, t4⟩, by rw [HMN.out]; exact HBY, B0⟩
                  case measure => simp [intOf]; omega
                | some q =>
                  have HBI := Lib.hid (show midB B nw ii ii = some q by rw [midB_at]; exact hBi)
                  have HNX := Lib.hid (midB_some (nw := nw) hBi)
                  have hqq := HKN.out ii q hBi
                  have HQJ := Lib.hid hqq.2.2
                  have HRQL : Hid ((redF [nw] q).1.length = n) := Lib.hid (red_len (fun q' hq' => (HNW.out q' hq').1) hqq.2.1)
                  have HSQ : Hid (SzW (kR J J 1) (redF [nw] q)) := Lib.hid (by
                    have h2 := redF_sz HNW.out HNJ.out hqq.2.1 HQJ.out 1 (Nat.le_refl _)
                    exact h2)
                  obtain ⟨gk, he, ⟨A5, c5, x5, b5, ak, t5⟩, lgk, hk8, h6k⟩ := HBY.some_at (by omega : ii < 8) HBI.out
                  rw [he] at f1
                  clear hBi hqq
                  go_upto_region 15 with (fail)
                  clear f1
                  have a8_0 := blk_drew a8
                  have ak_0 := blk_drew ak
                  have e8_0 : wr.drew.cell? ⟨w.heap.size, ii, none⟩ = some (Value.slice (some ⟨gk, 0, none⟩) 1 1) := by have := by8 HBY.dr.1 ii (by omega); rw [he] at this; exact this
                  have hS0 : wr.drew.cell? ⟨w.heap.size, ii, none⟩ = some (Value.slice (some ⟨gk, 0, none⟩) 1 1) ∧ wr.drew.cell? ⟨g8, 0, none⟩ = some (Value.slice A4 n c4) ∧ wr.drew.cell? ⟨g8, 1, none⟩ = some (Value.int .i64 x4.v) ∧ wr.drew.cell? ⟨g8, 2, none⟩ = some (Value.slice x4.A x4.n x4.c) ∧ wr.drew.cell? ⟨g8, 3, none⟩ = some (Value.int .i64 x4.v') ∧ wr.drew.cell? ⟨g8, 4, none⟩ = some (Value.slice x4.A' x4.n' x4.c') ∧ wr.drew.cell? ⟨g8, 5, none⟩ = some (Value.bool b4) ∧ wr.drew.cell? ⟨gk, 0, none⟩ = some (Value.slice A5 n c5) ∧ wr.drew.cell? ⟨gk, 1, none⟩ = some (Value.int .i64 x5.v) ∧ wr.drew.cell? ⟨gk, 2, none⟩ = some (Value.slice x5.A x5.n x5.c) ∧ wr.drew.cell? ⟨gk, 3, none⟩ = some (Value.int .i64 x5.v') ∧ wr.drew.cell? ⟨gk, 4, none⟩ = some (Value.slice x5.A' x5.n' x5.c') ∧ wr.drew.cell? ⟨gk, 5, none⟩ = some (Value.bool b5) := And.intro (e8_0) (qj6 (qx6 (t := 65) a8_0) (qx6 (t := 65) ak_0))
                  refine wp_region_T (n := 13) (fun W => W.cell? ⟨w.heap.size, ii, none⟩ = some (Value.slice (some ⟨gk, 0, none⟩) 1 1) ∧ W.cell? ⟨g8, 0, none⟩ = some (Value.slice A4 n c4) ∧ W.cell? ⟨g8, 1, none⟩ = some (Value.int .i64 x4.v) ∧ W.cell? ⟨g8, 2, none⟩ = some (Value.slice x4.A x4.n x4.c) ∧ W.cell? ⟨g8, 3, none⟩ = some (Value.int .i64 x4.v') ∧ W.cell? ⟨g8, 4, none⟩ = some (Value.slice x4.A' x4.n' x4.c') ∧ W.cell? ⟨g8, 5, none⟩ = some (Value.bool b4) ∧ W.cell? ⟨gk, 0, none⟩ = some (Value.slice A5 n c5) ∧ W.cell? ⟨gk, 1, none⟩ = some (Value.int .i64 x5.v) ∧ W.cell? ⟨gk, 2, none⟩ = some (Value.slice x5.A x5.n x5.c) ∧ W.cell? ⟨gk, 3, none⟩ = some (Value.int .i64 x5.v') ∧ W.cell? ⟨gk, 4, none⟩ = some (Value.slice x5.A' x5.n' x5.c') ∧ W.cell? ⟨gk, 5, none⟩ = some (Value.bool b5)) (by kernel_rfl) ?_
                  refine wpT_take (n := 13) (i := 0) (v := ?_) (by decide) (by kernel_rfl) rfl (by kernel_rfl) (by kernel_rfl) (by kernel_rfl) (fun _ _ _ h => h) (Or.inl ⟨by rfl, ?_⟩) hS0 ?_
                  rotate_left
                  · intro w' hSw
                    (try dsimp only at hSw)
                    go_simp
                    (try with_reducible rfl)
                  try simp only [Act.put, List.setIfInBounds_toArray, List.set_cons_zero, List.set_cons_succ]
                  refine wpT_take (n := 13) (i := 1) (v := ?_) (by decide) (by kernel_rfl) rfl (by kernel_rfl) (by kernel_rfl) (by kernel_rfl) (fun _ _ _ h => h) (Or.inl ⟨by rfl, ?_⟩) hS0 ?_
                  rotate_left
                  · intro w' hSw
                    (try dsimp only at hSw)
                    go_simp
                    (try with_reducible rfl)
                  try simp only [Act.put, List.setIfInBounds_toArray, List.set_cons_zero, List.set_cons_succ]
                  refine wpT_take (n := 13) (i := 2) (v := ?_) (by decide) (by kernel_rfl) rfl (by kernel_rfl) (by kernel_rfl) (by kernel_rfl) (fun _ _ _ h => h) (Or.inl ⟨by rfl, ?_⟩) hS0 ?_
                  rotate_left
                  · intro w' hSw
                    (try dsimp only at hSw)
                    go_simp
                    (try with_reducible rfl)
                  try simp only [Act.put, List.setIfInBounds_toArray, List.set_cons_zero, List.set_cons_succ]
                  refine wpT_take (n := 13) (i := 3) (v := ?_) (by decide) (by kernel_rfl) rfl (by kernel_rfl) (by kernel_rfl) (by kernel_rfl) (fun _ _ _ h => h) (Or.inl ⟨by rfl, ?_⟩) hS0 ?_
                  rotate_left
                  · intro w' hSw
                    (try dsimp only at hSw)
                    go_simp
                    (try with_reducible rfl)
                  try simp only [Act.put, List.setIfInBounds_toArray, List.set_cons_zero, List.set_cons_succ]
                  refine wpT_take (n := 13) (i := 5) (v := ?_) (by decide) (by kernel_rfl) rfl (by kernel_rfl) (by kernel_rfl) (by kernel_rfl) (fun _ _ _ h => h) (Or.inl ⟨by rfl, ?_⟩) hS0 ?_
                  rotate_left
                  · intro w' hSw
                    (try dsimp only at hSw)
                    go_simp
                    (try with_reducible rfl)
                  try simp only [Act.put, List.setIfInBounds_toArray, List.set_cons_zero, List.set_cons_succ]
                  refine wpT_take (n := 13) (i := 6) (v := ?_) (by decide) (by kernel_rfl) rfl (by kernel_rfl) (by kernel_rfl) (by kernel_rfl) (fun _ _ _ h => h) (Or.inl ⟨by rfl, ?_⟩) hS0 ?_
                  rotate_left
                  · intro w' hSw
                    (try dsimp only at hSw)
                    go_simp
                    (try with_reducible rfl)
                  try simp only [Act.put, List.setIfInBounds_toArray, List.set_cons_zero, List.set_cons_succ]
                  refine wpT_take (n := 13) (i := 7) (v := ?_) (by decide) (by kernel_rfl) rfl (by kernel_rfl) (by kernel_rfl) (by kernel_rfl) (fun _ _ _ h => h) (Or.inl ⟨by rfl, ?_⟩) hS0 ?_
                  rotate_left
                  · intro w' hSw
                    (try dsimp only at hSw)
                    go_simp
                    (try with_reducible rfl)
                  try simp only [Act.put, List.setIfInBounds_toArray, List.set_cons_zero, List.set_cons_succ]
                  refine wpT_take (n := 13) (i := 8) (v := ?_) (by decide) (by kernel_rfl) rfl (by kernel_rfl) (by kernel_rfl) (by kernel_rfl) (fun _ _ _ h => h) (Or.inl ⟨by rfl, ?_⟩) hS0 ?_
                  rotate_left
                  · intro w' hSw
                    (try dsimp only at hSw)
                    go_simp
                    (try with_reducible rfl)
                  try simp only [Act.put, List.setIfInBounds_toArray, List.set_cons_zero, List.set_cons_succ]
                  refine wpT_take (n := 13) (i := 9) (v := ?_) (by decide) (by kernel_rfl) rfl (by kernel_rfl) (by kernel_rfl) (by kernel_rfl) (fun _ _ _ h => h) (Or.inl ⟨by rfl, ?_⟩) hS0 ?_
                  rotate_left
                  · intro w' hSw
                    (try dsimp only at hSw)
                    go_simp
                    (try with_reducible rfl)
                  try simp only [Act.put, List.setIfInBounds_toArray, List.set_cons_zero, List.set_cons_succ]
                  refine wpT_one (n := 13) (i := 4) (by kernel_rfl) rfl (fun K9 hK9 => ?_)
                  go_simp
                  have H1 : Below wr.heap.size wr (wr.drew.alloc (.cells #[.slice A4 n c4, .int .i64 x4.v, .slice x4.A x4.n x4.c, .int .i64 x4.v', .slice x4.A' x4.n' x4.c', .bool b4] 65)) := bl_alloc (bl_drew (Below.refl _ _)) _
                  have a8_1 := blk_below a8 H1
                  have ak_1 := blk_below ak H1
                  have e8_1 : (wr.drew.alloc (.cells #[.slice A4 n c4, .int .i64 x4.v, .slice x4.A x4.n x4.c, .int .i64 x4.v', .slice x4.A' x4.n' x4.c', .bool b4] 65)).cell? ⟨w.heap.size, ii, none⟩ = some (Value.slice (some ⟨gk, 0, none⟩) 1 1) := by have := by8 (HBY.below H1).1 ii (by omega); rw [he] at this; exact this
                  have hS1 : (wr.drew.alloc (.cells #[.slice A4 n c4, .int .i64 x4.v, .slice x4.A x4.n x4.c, .int .i64 x4.v', .slice x4.A' x4.n' x4.c', .bool b4] 65)).cell? ⟨w.heap.size, ii, none⟩ = some (Value.slice (some ⟨gk, 0, none⟩) 1 1) ∧ (wr.drew.alloc (.cells #[.slice A4 n c4, .int .i64 x4.v, .slice x4.A x4.n x4.c, .int .i64 x4.v', .slice x4.A' x4.n' x4.c', .bool b4] 65)).cell? ⟨g8, 0, none⟩ = some (Value.slice A4 n c4) ∧ (wr.drew.alloc (.cells #[.slice A4 n c4, .int .i64 x4.v, .slice x4.A x4.n x4.c, .int .i64 x4.v', .slice x4.A' x4.n' x4.c', .bool b4] 65)).cell? ⟨g8, 1, none⟩ = some (Value.int .i64 x4.v) ∧ (wr.drew.alloc (.cells #[.slice A4 n c4, .int .i64 x4.v, .slice x4.A x4.n x4.c, .int .i64 x4.v', .slice x4.A' x4.n' x4.c', .bool b4] 65)).cell? ⟨g8, 2, none⟩ = some (Value.slice x4.A x4.n x4.c) ∧ (wr.drew.alloc (.cells #[.slice A4 n c4, .int .i64 x4.v, .slice x4.A x4.n x4.c, .int .i64 x4.v', .slice x4.A' x4.n' x4.c', .bool b4] 65)).cell? ⟨g8, 3, none⟩ = some (Value.int .i64 x4.v') ∧ (wr.drew.alloc (.cells #[.slice A4 n c4, .int .i64 x4.v, .slice x4.A x4.n x4.c, .int .i64 x4.v', .slice x4.A' x4.n' x4.c', .bool b4] 65)).cell? ⟨g8, 4, none⟩ = some (Value.slice x4.A' x4.n' x4.c') ∧ (wr.drew.alloc (.cells #[.slice A4 n c4, .int .i64 x4.v, .slice x4.A x4.n x4.c, .int .i64 x4.v', .slice x4.A' x4.n' x4.c', .bool b4] 65)).cell? ⟨g8, 5, none⟩ = some (Value.bool b4) ∧ (wr.drew.alloc (.cells #[.slice A4 n c4, .int .i64 x4.v, .slice x4.A x4.n x4.c, .int .i64 x4.v', .slice x4.A' x4.n' x4.c', .bool b4] 65)).cell? ⟨gk, 0, none⟩ = some (Value.slice A5 n c5) ∧ (wr.drew.alloc (.cells #[.slice A4 n c4, .int .i64 x4.v, .slice x4.A x4.n x4.c, .int .i64 x4.v', .slice x4.A' x4.n' x4.c', .bool b4] 65)).cell? ⟨gk, 1, none⟩ = some (Value.int .i64 x5.v) ∧ (wr.drew.alloc (.cells #[.slice A4 n c4, .int .i64 x4.v, .slice x4.A x4.n x4.c, .int .i64 x4.v', .slice x4.A' x4.n' x4.c', .bool b4] 65)).cell? ⟨gk, 2, none⟩ = some (Value.slice x5.A x5.n x5.c) ∧ (wr.drew.alloc (.cells #[.slice A4 n c4, .int .i64 x4.v, .slice x4.A x4.n x4.c, .int .i64 x4.v', .slice x4.A' x4.n' x4.c', .bool b4] 65)).cell? ⟨gk, 3, none⟩ = some (Value.int .i64 x5.v') ∧ (wr.drew.alloc (.cells #[.slice A4 n c4, .int .i64 x4.v, .slice x4.A x4.n x4.c, .int .i64 x4.v', .slice x4.A' x4.n' x4.c', .bool b4] 65)).cell? ⟨gk, 4, none⟩ = some (Value.slice x5.A' x5.n' x5.c') ∧ (wr.drew.alloc (.cells #[.slice A4 n c4, .int .i64 x4.v, .slice x4.A x4.n x4.c, .int .i64 x4.v', .slice x4.A' x4.n' x4.c', .bool b4] 65)).cell? ⟨gk, 5, none⟩ = some (Value.bool b5) := And.intro (e8_1) (qj6 (qx6 (t := 65) a8_1) (qx6 (t := 65) ak_1))
                  have hone : RdW (wr.drew.alloc (.cells #[.slice A4 n c4, .int .i64 x4.v, .slice x4.A x4.n x4.c, .int .i64 x4.v', .slice x4.A' x4.n' x4.c', .bool b4] 65)) (some ⟨wr.heap.size, 0, none⟩) 1 [nw] := RdW.one (W := wr.drew) (t4.below (bl_drew (Below.refl _ _)))
                  refine hK9.out _ _ (fun _ => hS1) (fun _ => ?_)
                  clear hK9 K9
                  try simp only [Act.put, List.setIfInBounds_toArray, List.set_cons_zero, List.set_cons_succ]
                  refine wpT_one (n := 13) (i := 10) (by kernel_rfl) rfl (fun K9 hK9 => ?_)
                  go_simp
                  refine (reduce_calls (some ⟨wr.heap.size, 0, none⟩) 1 1 [nw] A5 n c5 x5 b5 q _ hone (t5.below H1) HNW.out J J HNJ.out HQJ.out (Nat.le_trans HK1.out (by omega)) HJ9.out).mono ?_
                  rintro e y2 ⟨⟨A6, n6, c6, x6, rfl, t6⟩, hB2⟩
                  have hn6 : n = n6 := by rw [← t6.1.1]; exact HRQL.out.symm
                  subst hn6
                  have H2 := bl_then H1 hB2
                  have a8_2 := blk_below a8 H2
                  have ak_2 := blk_below ak H2
                  have e8_2 : y2.cell? ⟨w.heap.size, ii, none⟩ = some (Value.slice (some ⟨gk, 0, none⟩) 1 1) := by have := by8 (HBY.below H2).1 ii (by omega); rw [he] at this; exact this
                  have hS2 : y2.cell? ⟨w.heap.size, ii, none⟩ = some (Value.slice (some ⟨gk, 0, none⟩) 1 1) ∧ y2.cell? ⟨g8, 0, none⟩ = some (Value.slice A4 n c4) ∧ y2.cell? ⟨g8, 1, none⟩ = some (Value.int .i64 x4.v) ∧ y2.cell? ⟨g8, 2, none⟩ = some (Value.slice x4.A x4.n x4.c) ∧ y2.cell? ⟨g8, 3, none⟩ = some (Value.int .i64 x4.v') ∧ y2.cell? ⟨g8, 4, none⟩ = some (Value.slice x4.A' x4.n' x4.c') ∧ y2.cell? ⟨g8, 5, none⟩ = some (Value.bool b4) ∧ y2.cell? ⟨gk, 0, none⟩ = some (Value.slice A5 n c5) ∧ y2.cell? ⟨gk, 1, none⟩ = some (Value.int .i64 x5.v) ∧ y2.cell? ⟨gk, 2, none⟩ = some (Value.slice x5.A x5.n x5.c) ∧ y2.cell? ⟨gk, 3, none⟩ = some (Value.int .i64 x5.v') ∧ y2.cell? ⟨gk, 4, none⟩ = some (Value.slice x5.A' x5.n' x5.c') ∧ y2.cell? ⟨gk, 5, none⟩ = some (Value.bool b5) := And.intro (e8_2) (qj6 (qx6 (t := 65) a8_2) (qx6 (t := 65) ak_2))
                  refine hK9.out _ _ (fun _ => hS2) (fun _ => ?_)
                  clear hK9 K9
                  try simp only [Act.put, List.setIfInBounds_toArray, List.set_cons_zero, List.set_cons_succ]
                  refine wpT_one (n := 13) (i := 11) (by kernel_rfl) rfl (fun K9 hK9 => ?_)
                  go_simp
                  refine (prim_calls A6 n c6 x6 b5 (redF [nw] q) _ t6 (by omega) (kR J J 1) HSQ.out (pk_le HK1.out hn)).mono ?_
                  rintro e y3 ⟨⟨A7, n7, c7, x7, rfl, t7⟩, hB3⟩
                  have hn7 : n = n7 := by rw [← t7.1.1, prm_len]; exact HRQL.out.symm
                  subst hn7
                  have H3 := bl_then H2 hB3
                  have a8_3 := blk_below a8 H3
                  have ak_3 := blk_below ak H3
                  have e8_3 : y3.cell? ⟨w.heap.size, ii, none⟩ = some (Value.slice (some ⟨gk, 0, none⟩) 1 1) := by have := by8 (HBY.below H3).1 ii (by omega); rw [he] at this; exact this
                  have hS3 : y3.cell? ⟨w.heap.size, ii, none⟩ = some (Value.slice (some ⟨gk, 0, none⟩) 1 1) ∧ y3.cell? ⟨g8, 0, none⟩ = some (Value.slice A4 n c4) ∧ y3.cell? ⟨g8, 1, none⟩ = some (Value.int .i64 x4.v) ∧ y3.cell? ⟨g8, 2, none⟩ = some (Value.slice x4.A x4.n x4.c) ∧ y3.cell? ⟨g8, 3, none⟩ = some (Value.int .i64 x4.v') ∧ y3.cell? ⟨g8, 4, none⟩ = some (Value.slice x4.A' x4.n' x4.c') ∧ y3.cell? ⟨g8, 5, none⟩ = some (Value.bool b4) ∧ y3.cell? ⟨gk, 0, none⟩ = some (Value.slice A5 n c5) ∧ y3.cell? ⟨gk, 1, none⟩ = some (Value.int .i64 x5.v) ∧ y3.cell? ⟨gk, 2, none⟩ = some (Value.slice x5.A x5.n x5.c) ∧ y3.cell? ⟨gk, 3, none⟩ = some (Value.int .i64 x5.v') ∧ y3.cell? ⟨gk, 4, none⟩ = some (Value.slice x5.A' x5.n' x5.c') ∧ y3.cell? ⟨gk, 5, none⟩ = some (Value.bool b5) := And.intro (e8_3) (qj6 (qx6 (t := 65) a8_3) (qx6 (t := 65) ak_3))
                  have FF := q6 ak_3
                  obtain ⟨⟨k1, k2, k3, k4, k5, k6⟩, k7⟩ := FF
                  refine hK9.out _ _ (fun _ => hS3) (fun _ => ?_)
                  clear hK9 K9
                  try simp only [Act.put, List.setIfInBounds_toArray, List.set_cons_zero, List.set_cons_succ]
                  refine wpT_take (n := 13) (i := 12) (v := ?_) (by decide) (by kernel_rfl) rfl (by kernel_rfl) (by kernel_rfl) (by kernel_rfl) (fun _ _ _ h => h) (Or.inl ⟨by rfl, ?_⟩) hS3 ?_
                  rotate_left
                  · intro w' hSw
                    (try dsimp only at hSw)
                    go_simp
                    (try with_reducible rfl)
                  try simp only [Act.put, List.setIfInBounds_toArray, List.set_cons_zero, List.set_cons_succ]
                  refine wpT_one (n := 13) (i := 13) (by kernel_rfl) rfl (fun K9 hK9 => ?_)
                  go_simp
                  refine hK9.out _ _ (fun h => absurd rfl h) (fun _ => ?_)
                  clear hK9 K9
                  try simp only [Act.put, List.setIfInBounds_toArray, List.set_cons_zero, List.set_cons_succ]
                  refine wpT_done (by kernel_rfl) ?_ _
                  have RB8 : RwB y3 g8 n nw := ⟨_, _, _, _, a8_3, t4.below H3⟩
                  have RBk : RwB y3 gk n q := ⟨_, _, _, _, ak_3, t5.below H3⟩
                  have V1 := RB8.far RBk (Ne.symm hk8) (.slice A7 n c7) (.int .i64 x7.v) (.slice x7.A x7.n x7.c) (.int .i64 x7.v') (.slice x7.A' x7.n' x7.c') (.bool b5)
                  have V2 := (HBY.below H3).sti (by omega : ii < 8) (r := prm (redF [nw] q)) (b := b5) (c := c7) HBI.out he h6k t7
                  have V3 := q6_bl (bl_then B0 H3) lgk (.slice A7 n c7) (.int .i64 x7.v) (.slice x7.A x7.n x7.c) (.int .i64 x7.v') (.slice x7.A' x7.n' x7.c') (.bool b5)
                  rw [HNX.out] at V2
                  go_wp2
                  go_roundw
                  case rel => exact ⟨ii + 1, hilt, by go_num, V1, V2, V3⟩
                  case measure => simp [intOf]; omega
              · have hkn : n = ii := by omega
                subst hkn
                have f8 := by8 (blk_alloc HBY.1 (.cells #[.slice A4 n c4, .int .i64 x4.v, .slice x4.A x4.n x4.c, .int .i64 x4.v', .slice x4.A' x4.n' x4.c', .bool b4] 65)) ld (by omega)
                have f9 := (blk_cell (blk_alloc HBY.1 (.cells #[.slice A4 n c4, .int .i64 x4.v, .slice x4.A x4.n x4.c, .int .i64 x4.v', .slice x4.A' x4.n' x4.c', .bool b4] 65)) ld).2
                have hk8 : (ld : Int) < 8 := by omega
                obtain ⟨⟨f1, f2, f3, f4, f5, f6⟩, f7⟩ := q6 a8
                have RBn : RwB (wr.alloc (.cells #[.slice A4 n c4, .int .i64 x4.v, .slice x4.A x4.n x4.c, .int .i64 x4.v', .slice x4.A' x4.n' x4.c', .bool b4] 65)) wr.heap.size n nw := ⟨A4, c4, x4, b4, blk_at _ rfl, t4.below (bl_alloc (Below.refl _ _) _)⟩
                have hsz := B0.size
                have ha8 := blk_lt a8
                have ha6 := blk_lt HBY.1
                have U1 := Lib.hid ((HBY.al (.cells #[.slice A4 n c4, .int .i64 x4.v, .slice x4.A x4.n x4.c, .int .i64 x4.v', .slice x4.A' x4.n' x4.c', .bool b4] 65)).put (by omega : ld < 8) RBn hsz (by omega) (by omega) (fun j hj a ha => Nat.ne_of_lt (HBY.ltA hj ha)))
                rw [HPB.out, World.setCell_alloc_past _ _ _ _ ha6] at U1
                have U2 := Lib.hid (bl_set (p := ⟨w.heap.size, ld, none⟩) (bl_alloc B0 (.cells #[.slice A4 n c4, .int .i64 x4.v, .slice x4.A x4.n x4.c, .int .i64 x4.v', .slice x4.A' x4.n' x4.c', .bool b4] 65)) (Nat.le_refl _) (.slice (some ⟨wr.heap.size, 0, none⟩) 1 1))
                rw [World.setCell_alloc_past _ _ _ _ ha6] at U2
                clear HBY a8 t4 RBn
                go_wp2
                go_roundw
                case rel => exact ⟨kk + 1, _, _, hlt, by go_num, HPU.out, U1.out.z6, U2.out⟩
                case measure => simp [intOf]; omega
        · rw [if_neg hk] at HST
          clear HSR HKN
          generalize hld : ldF rr.1 = ld at *
          clear hld
          have hk' : decide ((ld : Int) < (n : Int)) = false := decide_eq_false (by omega)
          have hs := (num_sign_zero rr.2)
          obtain ⟨⟨f1, f2, f3, f4, f5, f6⟩, f7⟩ := q6 a8
          go_wp2_with fail
          refine (rsign_calls x2.v x2.A x2.n x2.c x2.v' x2.A' x2.n' x2.c' rr.2 _ t2.2).mono ?_
          rintro e w7 ⟨rfl, hB7⟩
          replace HBY := HBY.below hB7
          replace B0 := bl_then B0 hB7
          clear f1 f2 f3 f4 f5 f6 f7 hB7 a8 t2
          by_cases h0 : rr.2 = 0
          · rw [if_pos h0] at HST
            have hs2 := hs.2 h0
            rw [hs2]
            have HPU : Hid (runF n (fun _ => none) (L.take (kk + 1)) = some B) := Lib.hid (by rw [HNX0.out, HST.out])
            clear hs hs2 h0 HST HNX0
            go_wp2
            go_roundw
            case rel => exact ⟨kk + 1, _, _, hlt, by go_num, HPU.out, HBY.z6, B0⟩
            case measure => simp [intOf]; omega
          · rw [if_neg h0] at HST
            have hs2 : (rr.2.num.sign != 0) = true := by
              have : ¬ rr.2.num.sign = 0 := fun h => h0 (hs.1 h)
              simpa using this
            obtain ⟨rfl, rfl⟩ := HNO.out (kk + 1) (by rw [LM.out]; exact hlt) (by rw [HNX0.out, HST.out])
            clear hs h0 HST HNX0
            go_wp2
            go_ret2
            exact ⟨⟨none, 0, 0, rfl, RdW.nil _ _⟩, B0⟩
    · have hkn : m = kk := by omega
      subst hkn
      rw [List.take_of_length_le (by rw [LM.out]; exact Nat.le_refl _)] at hrunk
      obtain ⟨rfl, rfl⟩ := HYES.out B hrunk
      obtain ⟨f1, f2, f3, f4, f5, f6, f7, f8⟩ := by8x HBY.1
      clear hinv hBJ hrunk
      go_wp2_with fail
      refine (flat_calls n hn B s _ (fun k hk => (HBY.2.1 k hk).is)).mono ?_
      rintro e w7 ⟨⟨Af, mf, cf, rfl, hrd⟩, hB7⟩
      have B7 := bl_then B0 hB7
      clear f1 f2 f3 f4 f5 f6 f7 f8 hB7
      go_wp2
      go_ret2
      exact ⟨⟨Af, mf, cf, rfl, hrd⟩, B7⟩
end Go.Proofs.Ytjmbpeniibdnoaa
