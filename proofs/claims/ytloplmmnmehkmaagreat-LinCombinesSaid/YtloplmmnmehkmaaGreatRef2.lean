/- reference: integers: list, made, Of, Sign, Minus, Abs, Small. -/
import Derived.Test.YtloplmmnmehkmaaGreatRef1
set_option linter.unusedVariables false
set_option linter.unusedSimpArgs false
namespace Go.Proofs.YtloplmmnmehkmaaGreat
open Go.RowKit

/-- An integer of the reference: small, or digits. -/
def RV (w : World) (s : Int) (g : Bool) (A : Option Addr) (n c : Nat) (x : Int) : Prop :=
  (A = none ∧ n = 0 ∧ c = 0 ∧ g = false ∧ s = x ∧ -2305843009213693952 < x ∧ x < 2305843009213693952) ∨
  (0 < n ∧ n ≤ c ∧ s = 0 ∧ ∃ ds, RdI w 3 .i64 A n ds ∧ Dig 1073741824 ds ∧ Trimmed ds ∧ 2305843009213693952 ≤ val 1073741824 ds ∧ x = if g then - val 1073741824 ds else val 1073741824 ds)
theorem RV.kp {w w' : World} {s : Int} {g : Bool} {A : Option Addr} {n c : Nat} {x : Int} (h : RV w s g A n c x) (e : Kp 3 w w') : RV w' s g A n c x := by
  rcases h with h | ⟨h1, h2, h3, ds, h4, h5⟩
  · exact .inl h
  · exact .inr ⟨h1, h2, h3, ds, h4.kp e, h5⟩
theorem RV.below {w w' : World} {s : Int} {g : Bool} {A : Option Addr} {n c : Nat} {x : Int} (h : RV w s g A n c x) (e : Below w.heap.size w w') : RV w' s g A n c x := h.kp (Kp.below e)
theorem RV.small (w : World) {x : Int} (h0 : -2305843009213693952 < x) (h1 : x < 2305843009213693952) : RV w x false none 0 0 x := .inl ⟨rfl, rfl, rfl, rfl, rfl, h0, h1⟩
theorem RV.bound {w : World} {s : Int} {g : Bool} {A : Option Addr} {n c : Nat} {x : Int} (h : RV w s g A n c x) : -2305843009213693952 < s ∧ s < 2305843009213693952 := by
  rcases h with ⟨_, _, _, _, rfl, _, _⟩ | ⟨_, _, hs, ds, _⟩
  · exact ⟨by assumption, by assumption⟩
  · omega
theorem RV.neg {w : World} {s : Int} {g : Bool} {A : Option Addr} {n c : Nat} {x : Int} (h : RV w s g A n c x) : RV w (-s) (decide (0 < n) && !g) A n c (-x) := by
  rcases h with ⟨rfl, rfl, rfl, rfl, rfl, _, _⟩ | ⟨h1, h2, hs, ds, h3, h4, h5, h6, rfl⟩
  · exact .inl ⟨rfl, rfl, rfl, rfl, rfl, by omega, by omega⟩
  · refine .inr ⟨h1, h2, by omega, ds, h3, h4, h5, h6, ?_⟩
    cases g <;> simp [h1]
/-- A result that is an integer of the reference. -/
def RIntR (e : Ending) (w : World) (x : Int) : Prop := ∃ (s : Int) (g : Bool) (A : Option Addr) (n c : Nat), e = .returned (.agg #[.int .i64 s, .bool g, .slice A n c]) ∧ RV w s g A n c x

/-- The digits of m, k of them taken. -/
structure RDg (X : Int) (k : Nat) (ds : List Int) (m : Int) : Prop where
  m0 : 0 ≤ m
  len : ds.length = k
  dig : Dig 1073741824 ds
  lim : k = 0 ∧ m < 2305843009213693952 ∨ k = 1 ∧ m < 2147483648 ∨ k = 2 ∧ m < 2 ∨ k = 3 ∧ m = 0
  last : 0 < m ∨ Trimmed ds
  eq : val 1073741824 ds + 1073741824 ^ k * m = X
theorem RDg.start (X : Int) (h0 : 0 ≤ X) (h1 : X < 2305843009213693952) : RDg X 0 [] X := ⟨h0, rfl, Dig.nil, .inl ⟨rfl, h1⟩, .inr (.inl rfl), by simp [val]⟩
theorem getD_snoc (l : List Int) (x : Int) : (l ++ [x]).getD l.length 0 = x := by simp [List.getD_eq_getElem?_getD]
theorem RDg.step {X : Int} {k : Nat} {ds : List Int} {m : Int} (h : RDg X k ds m) (hm : 0 < m) : RDg X (k + 1) (ds ++ [m % 1073741824]) (m / 1073741824) := by
  have hl := h.lim
  refine ⟨by omega, by simp [h.len], h.dig.append (Dig.one (by omega) (by omega)), by omega, ?_, ?_⟩
  · by_cases hz : 0 < m / 1073741824
    · exact .inl hz
    · refine .inr (.inr ?_)
      rw [List.length_append, List.length_singleton, Nat.add_sub_cancel, getD_snoc]
      omega
  · rw [val_append, h.len, Int.pow_succ]
    have e := h.eq
    have em := Int.emod_add_mul_ediv m 1073741824
    generalize m / 1073741824 = q at *
    generalize m % 1073741824 = r at *
    generalize (1073741824 : Int) ^ k = p at *
    simp only [val]
    grind

set_option maxHeartbeats 800000 in
set_option maxRecDepth 100000 in
theorem rlist_calls (s : Int) (g : Bool) (A : Option Addr) (n c : Nat) (x : Int) (w : World) (h : RV w s g A n c x) :
    Calls Tryz.prog 126 #[.agg #[.int .i64 s, .bool g, .slice A n c]] w fun e w' => ∃ (A' : Option Addr) (n' c' : Nat), e = .returned (.slice A' n' c') ∧ n' ≤ c' ∧ ∃ ds, RdI w' 3 .i64 A' n' ds ∧ Dig 1073741824 ds ∧ Trimmed ds ∧ val 1073741824 ds = (x.natAbs : Int) ∧ Below w.heap.size w w' := by
  rcases h with ⟨rfl, rfl, rfl, rfl, rfl, h0, h1⟩ | ⟨hn, hc, rfl, ds, hr, kd, ht, hb, hx⟩
  · have I := info_int
    have HI := Lib.hid I
    clear I
    generalize hX : (s.natAbs : Int) = X at *
    rcases Int.lt_or_le s 0 with hs | hs
    · have hmax : max s (-s) = X := by omega
      have HX0 := Lib.hid (show -s = X by omega)
      have hX2 : -s = X := by omega
      have hst := RDg.start X (by omega) (by omega)
      have HXX := Lib.hid (show 0 ≤ X ∧ X < 2305843009213693952 by omega)
      clear hX
      have B0 := bl_alloc (Below.refl w.heap.size w) (.cells #[.int .i64 s, .bool false, .slice none 0 0] 49)
      go_enter Tryz.func126, Tryz.ntmps126
      go_wp2_with fail
      go_loopw [3, 4] (fun v i wr => ∃ (k : Nat) (ds : List Int) (m : Int), i = .int .i64 m ∧ RDg X k ds m ∧ wr.ownsRow w.heap.size 3 1 v ds.length (ints .i64 ds) ∧ Below w.heap.size w wr) (fun _ i _ => (intOf i).toNat)
      case atStart => exact ⟨0, [], _, by first | rfl | exact congrArg (Value.int .i64) HX0.out, hst, ⟨rfl, .inl ⟨rfl, rfl⟩⟩, B0⟩
      case round =>
        clear hst B0
        obtain ⟨k, ds, m, rfl, hp, ho, hB⟩ := hrel
        have m0 := hp.m0
        have hlim := hp.lim
        have hl := Lib.hid hp.len
        by_cases hm : 0 < m
        · have hs2 := hp.step hm
          have hm1 : m < 2305843009213693952 := by omega
          have hk3 : k ≤ 3 := by omega
          clear hlim
          go_wp2_with (at_builtin; refine append_num w.heap.size rfl _ _ 42 3 .i64 8 rfl Tryz.underlying42 HI.out (by omega) u3 ds _ rfl rfl ho hB hB.size (by have := hl.out; omega) ?_; intro v1 w2 ho2 hB2)
          go_roundw
          case rel => exact ⟨k + 1, _, _, rfl, hs2, ho2, hB2⟩
          case measure => simp [intOf]; omega
        · have hm0 : m = 0 := by omega
          subst hm0
          have ht : Trimmed ds := by rcases hp.last with h | h; exact absurd h (by omega); exact h
          have he := Lib.hid (show val 1073741824 ds = X by have := hp.eq; omega)
          have hdg := hp.dig
          obtain ⟨A, c, rfl, hc, hr, hn⟩ := RdI.own ho
          clear hn hlim hp
          go_wp2
          go_ret
          exact ⟨_, _, _, rfl, hc, ds, hr, hdg, ht, he.out, hB⟩
    · have hmax : max s (-s) = s := by omega
      have HX0 := Lib.hid (show s = X by omega)
      have hst := RDg.start X (by omega) (by omega)
      have HXX := Lib.hid (show 0 ≤ X ∧ X < 2305843009213693952 by omega)
      clear hX
      have B0 := bl_alloc (Below.refl w.heap.size w) (.cells #[.int .i64 s, .bool false, .slice none 0 0] 49)
      go_enter Tryz.func126, Tryz.ntmps126
      go_wp2_with fail
      go_loopw [3, 4] (fun v i wr => ∃ (k : Nat) (ds : List Int) (m : Int), i = .int .i64 m ∧ RDg X k ds m ∧ wr.ownsRow w.heap.size 3 1 v ds.length (ints .i64 ds) ∧ Below w.heap.size w wr) (fun _ i _ => (intOf i).toNat)
      case atStart => exact ⟨0, [], _, by first | rfl | exact congrArg (Value.int .i64) HX0.out, hst, ⟨rfl, .inl ⟨rfl, rfl⟩⟩, B0⟩
      case round =>
        clear hst B0
        obtain ⟨k, ds, m, rfl, hp, ho, hB⟩ := hrel
        have m0 := hp.m0
        have hlim := hp.lim
        have hl := Lib.hid hp.len
        by_cases hm : 0 < m
        · have hs2 := hp.step hm
          have hm1 : m < 2305843009213693952 := by omega
          have hk3 : k ≤ 3 := by omega
          clear hlim
          go_wp2_with (at_builtin; refine append_num w.heap.size rfl _ _ 42 3 .i64 8 rfl Tryz.underlying42 HI.out (by omega) u3 ds _ rfl rfl ho hB hB.size (by have := hl.out; omega) ?_; intro v1 w2 ho2 hB2)
          go_roundw
          case rel => exact ⟨k + 1, _, _, rfl, hs2, ho2, hB2⟩
          case measure => simp [intOf]; omega
        · have hm0 : m = 0 := by omega
          subst hm0
          have ht : Trimmed ds := by rcases hp.last with h | h; exact absurd h (by omega); exact h
          have he := Lib.hid (show val 1073741824 ds = X by have := hp.eq; omega)
          have hdg := hp.dig
          obtain ⟨A, c, rfl, hc, hr, hn⟩ := RdI.own ho
          clear hn hlim hp
          go_wp2
          go_ret
          exact ⟨_, _, _, rfl, hc, ds, hr, hdg, ht, he.out, hB⟩
  · have hx' : val 1073741824 ds = (x.natAbs : Int) := by cases g <;> simp at hx <;> omega
    have HX := Lib.hid hx'
    have hr' := hr.kp ((Kp.refl _ w).alloc (.cells #[.int .i64 0, .bool g, .slice A n c] 49))
    clear hx hx' hb hr
    go_enter Tryz.func126, Tryz.ntmps126
    go_wp2
    go_ret
    exact ⟨_, _, _, rfl, hc, ds, hr', kd, ht, HX.out, bl_alloc (Below.refl _ _) _⟩

set_option maxHeartbeats 800000 in
set_option maxRecDepth 100000 in
theorem rsign_int_calls (s : Int) (g : Bool) (A : Option Addr) (n c : Nat) (x : Int) (w : World) (h : RV w s g A n c x) :
    Calls Tryz.prog 80 #[.agg #[.int .i64 s, .bool g, .slice A n c]] w fun e w' => e = .returned (.int .i64 x.sign) ∧ Below w.heap.size w w' := by
  rcases h with ⟨rfl, rfl, rfl, rfl, rfl, h0, h1⟩ | ⟨hn, hc, rfl, ds, hr, kd, ht, hb, hx⟩
  · rcases Int.lt_trichotomy s 0 with hv | hv | hv
    · rw [Int.sign_eq_neg_one_of_neg hv]
      go_enter Tryz.func80, Tryz.ntmps80
      go_wp2
      go_ret
      exact ⟨rfl, (Below.refl _ _).alloc (Nat.le_refl _) _⟩
    · subst hv
      go_enter Tryz.func80, Tryz.ntmps80
      go_wp2
      go_ret
      exact ⟨rfl, (Below.refl _ _).alloc (Nat.le_refl _) _⟩
    · rw [Int.sign_eq_one_of_pos hv]
      go_enter Tryz.func80, Tryz.ntmps80
      go_wp2
      go_ret
      exact ⟨rfl, (Below.refl _ _).alloc (Nat.le_refl _) _⟩
  · have hx2 : x.sign = if g then -1 else 1 := by
      cases g <;> simp at hx ⊢ <;> subst hx
      · omega
      · omega
    have HX := Lib.hid hx2
    clear hx2 hx hb hr ht kd
    rw [HX.out]
    cases g
    all_goals
      go_enter Tryz.func80, Tryz.ntmps80
      go_wp2
      go_ret
      exact ⟨rfl, (Below.refl _ _).alloc (Nat.le_refl _) _⟩

set_option maxHeartbeats 800000 in
set_option maxRecDepth 100000 in
theorem rminus_calls (s : Int) (g : Bool) (A : Option Addr) (n c : Nat) (x : Int) (w : World) (h : RV w s g A n c x) :
    Calls Tryz.prog 106 #[.agg #[.int .i64 s, .bool g, .slice A n c]] w fun e w' => e = .returned (.agg #[.int .i64 (-s), .bool (decide (0 < n) && !g), .slice A n c]) ∧ Below w.heap.size w w' := by
  have hb := h.bound
  obtain ⟨hb0, hb1⟩ := hb
  clear h
  by_cases hn : 0 < n
  · rw [show decide (0 < n) = true by simpa using hn]
    cases g
    · skip
      go_enter Tryz.func106, Tryz.ntmps106
      go_wp2
      refine bodyPost_ret (results_cell_row rfl _ _ (w.heap.size + 1) 49 #[.int .i64 (-s), .bool true, .slice A n c] (0, 0) _ rfl (blk_at _ (by simp)) Tryz.underlying49 rfl (by kernel_rfl)) rfl ?_
      exact ⟨rfl, bl_alloc (bl_alloc (Below.refl _ _) _) _⟩
    · skip
      go_enter Tryz.func106, Tryz.ntmps106
      go_wp2
      refine bodyPost_ret (results_cell_row rfl _ _ (w.heap.size + 1) 49 #[.int .i64 (-s), .bool false, .slice A n c] (0, 0) _ rfl (blk_at _ (by simp)) Tryz.underlying49 rfl (by kernel_rfl)) rfl ?_
      exact ⟨rfl, bl_alloc (bl_alloc (Below.refl _ _) _) _⟩
  · have hn0 : n = 0 := by omega
    subst hn0
    clear hn
    cases g
    · skip
      go_enter Tryz.func106, Tryz.ntmps106
      go_wp2
      refine bodyPost_ret (results_cell_row rfl _ _ (w.heap.size + 1) 49 #[.int .i64 (-s), .bool false, .slice A 0 c] (0, 0) _ rfl (blk_at _ (by simp)) Tryz.underlying49 rfl (by kernel_rfl)) rfl ?_
      exact ⟨rfl, bl_alloc (bl_alloc (Below.refl _ _) _) _⟩
    · skip
      go_enter Tryz.func106, Tryz.ntmps106
      go_wp2
      refine bodyPost_ret (results_cell_row rfl _ _ (w.heap.size + 1) 49 #[.int .i64 (-s), .bool false, .slice A 0 c] (0, 0) _ rfl (blk_at _ (by simp)) Tryz.underlying49 rfl (by kernel_rfl)) rfl ?_
      exact ⟨rfl, bl_alloc (bl_alloc (Below.refl _ _) _) _⟩

theorem bx3 {w : World} {g : Nat} {t : TypeId} {a b c : Value} (h : w.heap[g]? = some (.cells #[a, b, c] t (0, 0))) : (w.cell? ⟨g, 0, none⟩ = some a ∧ w.cell? ⟨g, 1, none⟩ = some b ∧ w.cell? ⟨g, 2, none⟩ = some c) ∧ w.frozen? ⟨g, 0, none⟩ = false ∧ w.frozen? ⟨g, 1, none⟩ = false ∧ w.frozen? ⟨g, 2, none⟩ = false :=
  ⟨⟨(blk_cell h 0).1, (blk_cell h 1).1, (blk_cell h 2).1⟩, (blk_cell h 0).2, (blk_cell h 1).2, (blk_cell h 2).2⟩
theorem blk_set3 {w : World} {g : Nat} {t : TypeId} {a b c : Value} (h : w.heap[g]? = some (.cells #[a, b, c] t (0, 0))) (x y z : Value) : (((w.setCell ⟨g, 0, none⟩ x).setCell ⟨g, 1, none⟩ y).setCell ⟨g, 2, none⟩ z).heap[g]? = some (.cells #[x, y, z] t (0, 0)) :=
  blk_set (blk_set (blk_set h 0 x) 1 y) 2 z
/-- Three cells stored into a box of an integer of the reference. -/
theorem kp_set3 {W : World} {g : Nat} {a b d : Value} (hb : W.heap[g]? = some (.cells #[a, b, d] 49 (0, 0))) (x y z : Value) : Kp 3 W (((W.setCell ⟨g, 0, none⟩ x).setCell ⟨g, 1, none⟩ y).setCell ⟨g, 2, none⟩ z) :=
  (((Kp.refl _ _).set (p := ⟨g, 0, none⟩) hb (by decide) x).set (p := ⟨g, 1, none⟩) (blk_set hb 0 x) (by decide) y).set (p := ⟨g, 2, none⟩) (blk_set (blk_set hb 0 x) 1 y) (by decide) z
theorem put3 {w W : World} {A : Option Addr} {n : Nat} {ds : List Int} {g : Nat} {a b d : Value} (h : RdI W 3 .i64 A n ds) (hb : W.heap[g]? = some (.cells #[a, b, d] 49 (0, 0))) (hB : Below w.heap.size w W) (hg : w.heap.size ≤ g) (x y z : Value) :
    let W' := ((W.setCell ⟨g, 0, none⟩ x).setCell ⟨g, 1, none⟩ y).setCell ⟨g, 2, none⟩ z
    RdI W' 3 .i64 A n ds ∧ Below w.heap.size w W' ∧ W'.heap[g]? = some (.cells #[x, y, z] 49 (0, 0)) :=
  ⟨h.kp (kp_set3 hb x y z), bl_set (bl_set (bl_set hB hg _) hg _) hg _, blk_set3 hb _ _ _⟩
theorem val_drop_le {B : Int} (hB : 0 < B) {l : List Int} (h : Dig B l) (k : Nat) : val B (l.drop k) ≤ val B l := by
  induction k generalizing l with
  | zero => simp
  | succ k ih =>
    cases l with
    | nil => simp
    | cons x xs =>
      have h1 := h x (by simp)
      have h2 := ih h.tail
      have h3 := val_nonneg hB h.tail
      simp only [List.drop_succ_cons, val]
      have : 1 * val B xs ≤ B * val B xs := Int.mul_le_mul_of_nonneg_right (by omega) h3
      omega
theorem rbig_iff {es : List Int} (kd : Dig 1073741824 es) (ht : Trimmed es) : 2305843009213693952 ≤ val 1073741824 es ↔ 4 ≤ es.length ∨ es.length = 3 ∧ 2 ≤ es.getD 2 0 := by
  have hlt := val_lt (by omega) kd
  rcases Nat.lt_trichotomy es.length 3 with h | h | h
  · have := pow_mono (B := 1073741824) (by omega) (show es.length ≤ 2 by omega)
    constructor
    · intro hb; exfalso; omega
    · intro hb; omega
  · have hs := val_split 1073741824 es 2 (by omega)
    have e : es.drop (2 + 1) = [] := by rw [List.drop_eq_nil_iff]; omega
    rw [e] at hs
    simp only [val, Int.mul_zero, Int.add_zero] at hs
    have h1 := val_take_lt (by omega) kd 2 (by omega)
    have h2 := val_take_ge (B := 1073741824) (by omega) kd 2
    constructor
    · intro hb; exact .inr ⟨h, by omega⟩
    · intro hb; omega
  · have h1 := Trimmed.le (by omega) kd ht (by intro e; rw [e] at h; simp at h)
    have := pow_mono (B := 1073741824) (by omega) (show 3 ≤ es.length - 1 by omega)
    constructor
    · intro _; exact .inl (by omega)
    · intro _; omega

set_option maxHeartbeats 800000 in
set_option maxRecDepth 100000 in
theorem rmade_calls (g : Bool) (A : Option Addr) (n c : Nat) (ds : List Int) (w : World) (h1 : RdI w 3 .i64 A n ds) (k1 : Dig 1073741824 ds) (hc : n ≤ c) :
    Calls Tryz.prog 127 #[.bool g, .slice A n c] w fun e w' => RIntR e w' (if g then - val 1073741824 ds else val 1073741824 ds) ∧ Below w.heap.size w w' := by
  generalize hV : val 1073741824 ds = V at *
  have HV := Lib.hid hV
  clear hV
  generalize hXX : (if g then -V else V) = X at *
  have HXX := Lib.hid hXX
  clear hXX
  have hl := Lib.hid h1.1
  have hn := h1.2.1
  have h1' := h1.kp ((Kp.refl _ w).alloc (.cells #[.int .i64 0, .bool false, .slice none 0 0] 49))
  generalize hW : w.alloc (.cells #[.int .i64 0, .bool false, .slice none 0 0] 49) = W at *
  have hbR : W.heap[w.heap.size]? = some (.cells #[.int .i64 0, .bool false, .slice none 0 0] 49 (0, 0)) := by rw [← hW]; exact blk_at _ rfl
  have HB : Below w.heap.size w W := by rw [← hW]; exact bl_alloc (Below.refl _ _) _
  go_enter Tryz.func127, Tryz.ntmps127
  go_upto_block 0 with (fail)
  clear hW
  go_cut [1] (fun v wc => wc = W ∧ ∃ m : Nat, v = .slice A m c ∧ m ≤ n ∧ Hid (Trimmed (ds.take m) ∧ val 1073741824 (ds.take m) = V))
  case first =>
    go_wp2_with fail
    go_loop [1] (fun v => ∃ m : Nat, m ≤ n ∧ v = .slice A m c ∧ Left ds m) (fun v => match v with | .slice _ m _ => m | _ => 0)
    case atStart => exact ⟨n, Nat.le_refl _, rfl, by have := Left.start ds; rw [hl.out] at this; exact this⟩
    case round =>
      obtain ⟨m, hm, rfl, hL⟩ := hrel
      by_cases h0 : m = 0
      · subst h0
        have HE := Lib.hid ((hL.eq 1073741824).trans HV.out)
        go_wp2
        go_meet
        case rel => exact ⟨rfl, 0, rfl, by omega, ⟨.inl rfl, HE.out⟩⟩
      · obtain ⟨m, rfl⟩ : ∃ k, m = k + 1 := ⟨m - 1, by omega⟩
        obtain ⟨g', off, rfl, lg, cg⟩ := h1'.at_ (by omega)
        have cg1 := cg m (by omega)
        clear cg h0
        by_cases hz : ds.getD m 0 = 0
        · rw [hz] at cg1
          have hL2 := hL.step hz
          clear hz
          go_wp2
          exact ⟨⟨m, by omega, rfl, hL2⟩, by simp⟩
        · have hL2 := Lib.hid (And.intro (hL.rstop k1 hz) ((hL.eq 1073741824).trans HV.out))
          generalize ds.getD m 0 = x at *
          have hz1 : (x == 0) = false := by simpa using hz
          go_wp2
          go_meet
          case rel => exact ⟨rfl, m + 1, rfl, hm, hL2⟩
  case rest =>
    obtain ⟨rfl, m, rfl, hm, hid⟩ := hcut
    have hr := h1'.take hm
    have kd := k1.take m
    have hid2 := hid.out
    clear HV
    generalize ds.take m = es at *
    obtain ⟨ht, hv⟩ := hid2
    clear hid h1' h1 hl k1 hn
    have HV := Lib.hid hv
    have HL := Lib.hid hr.1
    have HT := Lib.hid ht
    have hcm : m ≤ c := by omega
    have hiff := rbig_iff kd ht
    rw [hr.1] at hiff
    have HI := Lib.hid hiff
    have v0 : 0 ≤ V := by rw [← hv]; exact val_nonneg (by omega) kd
    clear hv hiff
    by_cases hbig : 2305843009213693952 ≤ val 1073741824 es
    · have hcase := HI.out.1 hbig
      have hx : X = (if g then - val 1073741824 es else val 1073741824 es) := by rw [HV.out]; exact HXX.out.symm
      have hm0 : 0 < m := by omega
      have hE : ∀ w' : World, RdI w' 3 .i64 A m es → RV w' 0 g A m c X := fun w' h => .inr ⟨hm0, hcm, rfl, es, h, kd, ht, hbig, hx⟩
      have HE := Lib.hid hE
      clear hx hE hbig
      obtain ⟨⟨p1, p2, p3⟩, p4, p5, p6⟩ := bx3 hbR
      have hP := Lib.hid (put3 hr hbR HB (Nat.le_refl _) (.int .i64 0) (.bool g) (.slice A m c))
      rcases hcase with h4 | ⟨rfl, h3⟩
      · go_wp2
        refine bodyPost_ret (results_cell_row rfl _ _ w.heap.size 49 #[.int .i64 0, .bool g, .slice A m c] (0, 0) _ rfl hP.out.2.2 Tryz.underlying49 rfl (by kernel_rfl)) rfl ?_
        exact ⟨⟨_, _, _, _, _, rfl, HE.out _ hP.out.1⟩, hP.out.2.1⟩
      · obtain ⟨ga, oa, rfl, la, ca⟩ := hr.at_ (by omega)
        have ca1 := ca 2 (by omega)
        clear ca
        generalize es.getD 2 0 = x2 at *
        go_wp2
        refine bodyPost_ret (results_cell_row rfl _ _ w.heap.size 49 #[.int .i64 0, .bool g, .slice (some ⟨ga, oa, none⟩) 3 c] (0, 0) _ rfl hP.out.2.2 Tryz.underlying49 rfl (by kernel_rfl)) rfl ?_
        exact ⟨⟨_, _, _, _, _, rfl, HE.out _ hP.out.1⟩, hP.out.2.1⟩
    · have hcase : m ≤ 2 ∨ m = 3 ∧ es.getD 2 0 < 2 := by
        rcases Nat.lt_or_ge m 3 with h | h
        · exact .inl (by omega)
        · have h1 : ¬ (4 ≤ m ∨ m = 3 ∧ 2 ≤ es.getD 2 0) := fun h => hbig (HI.out.2 h)
          have h2 : m = 3 := by omega
          refine .inr ⟨h2, ?_⟩
          rcases Int.lt_or_le (es.getD 2 0) 2 with h3 | h3
          · exact h3
          · exact absurd (.inr ⟨h2, h3⟩) h1
      have vlt : V < 2305843009213693952 := by rw [← HV.out]; omega
      clear hbig
      rcases hcase with h4 | ⟨rfl, h3⟩
      · go_wp2_with fail
        go_loopw [5, 6] (fun u i wr => ∃ k : Nat, k ≤ m ∧ i = .int .i64 ((k : Int) - 1) ∧ u = .int .i64 (val 1073741824 (es.drop k)) ∧ wr = wc) (fun _ i _ => (intOf i + 1).toNat)
        case atStart => exact ⟨m, Nat.le_refl _, rfl, by rw [List.drop_of_length_le (by rw [HL.out]; exact Nat.le_refl _)]; rfl, rfl⟩
        case round =>
          obtain ⟨k, hk, rfl, rfl, rfl⟩ := hrel
          have u0 := val_nonneg (by omega) (kd.drop k)
          by_cases h0 : k = 0
          · subst h0
            rw [List.drop_zero, HV.out]
            rw [List.drop_zero] at u0
            clear u0
            obtain ⟨⟨p1, p2, p3⟩, p4, p5, p6⟩ := bx3 hbR
            cases g
            · have eX : V = X := HXX.out
              rw [eX]
              rw [eX] at v0 vlt
              clear eX
              have hP := Lib.hid (put3 hr hbR HB (Nat.le_refl _) (.int .i64 X) (.bool false) (.slice none 0 0))
              go_wp2
              refine bodyPost_ret (results_cell_row rfl _ _ w.heap.size 49 #[.int .i64 X, .bool false, .slice none 0 0] (0, 0) _ rfl hP.out.2.2 Tryz.underlying49 rfl (by kernel_rfl)) rfl ?_
              exact ⟨⟨_, _, _, _, _, rfl, by first | exact RV.small _ (by omega) (by omega) | (have eX := HXX.out; rw [← eX]; exact RV.small _ (by omega) (by omega))⟩, hP.out.2.1⟩
            · have eX : -V = X := HXX.out
              have hP := Lib.hid (put3 hr hbR HB (Nat.le_refl _) (.int .i64 X) (.bool false) (.slice none 0 0))
              go_wp2
              refine bodyPost_ret (results_cell_row rfl _ _ w.heap.size 49 #[.int .i64 X, .bool false, .slice none 0 0] (0, 0) _ rfl hP.out.2.2 Tryz.underlying49 rfl (by kernel_rfl)) rfl ?_
              exact ⟨⟨_, _, _, _, _, rfl, by first | exact RV.small _ (by omega) (by omega) | (have eX := HXX.out; rw [← eX]; exact RV.small _ (by omega) (by omega))⟩, hP.out.2.1⟩
          · obtain ⟨k, rfl⟩ : ∃ j, k = j + 1 := ⟨k - 1, by omega⟩
            have e1 : ((k + 1 : Nat) : Int) - 1 = (k : Int) := by omega
            rw [e1]
            clear e1 h0
            obtain ⟨ga, oa, rfl, la, ca⟩ := hr.at_ (by omega)
            have ca1 := ca k (by omega)
            clear ca
            have hd := drop_getD es k (by rw [HL.out]; omega)
            have hdv : val 1073741824 (es.drop k) = val 1073741824 (es.drop (k + 1)) * 1073741824 + es.getD k 0 := by rw [hd]; simp only [val]; omega
            have hle := val_drop_le (B := 1073741824) (by omega) kd k
            rw [HV.out] at hle
            have da := kd.at k (by omega)
            have HD := Lib.hid hdv.symm
            rw [hdv] at hle
            clear hdv hd
            generalize val 1073741824 (es.drop (k + 1)) = u at *
            generalize es.getD k 0 = x at *
            go_wp2
            go_roundw
            case rel => exact ⟨k, by omega, rfl, by rw [HD.out]; simp⟩
            case measure => simp [intOf]
      · obtain ⟨ga, oa, rfl, la, ca⟩ := hr.at_ (by omega)
        have ca1 := ca 2 (by omega)
        clear ca
        generalize ex2 : es.getD 2 0 = x2 at *
        clear ex2
        go_wp2_with fail
        clear ca1
        go_loopw [5, 6] (fun u i wr => ∃ k : Nat, k ≤ 3 ∧ i = .int .i64 ((k : Int) - 1) ∧ u = .int .i64 (val 1073741824 (es.drop k)) ∧ wr = wc) (fun _ i _ => (intOf i + 1).toNat)
        case atStart => exact ⟨3, Nat.le_refl _, rfl, by rw [List.drop_of_length_le (by rw [HL.out]; exact Nat.le_refl _)]; rfl, rfl⟩
        case round =>
          obtain ⟨k, hk, rfl, rfl, rfl⟩ := hrel
          have u0 := val_nonneg (by omega) (kd.drop k)
          by_cases h0 : k = 0
          · subst h0
            rw [List.drop_zero, HV.out]
            rw [List.drop_zero] at u0
            clear u0
            obtain ⟨⟨p1, p2, p3⟩, p4, p5, p6⟩ := bx3 hbR
            cases g
            · have eX : V = X := HXX.out
              rw [eX]
              rw [eX] at v0 vlt
              clear eX
              have hP := Lib.hid (put3 hr hbR HB (Nat.le_refl _) (.int .i64 X) (.bool false) (.slice none 0 0))
              go_wp2
              refine bodyPost_ret (results_cell_row rfl _ _ w.heap.size 49 #[.int .i64 X, .bool false, .slice none 0 0] (0, 0) _ rfl hP.out.2.2 Tryz.underlying49 rfl (by kernel_rfl)) rfl ?_
              exact ⟨⟨_, _, _, _, _, rfl, by first | exact RV.small _ (by omega) (by omega) | (have eX := HXX.out; rw [← eX]; exact RV.small _ (by omega) (by omega))⟩, hP.out.2.1⟩
            · have eX : -V = X := HXX.out
              have hP := Lib.hid (put3 hr hbR HB (Nat.le_refl _) (.int .i64 X) (.bool false) (.slice none 0 0))
              go_wp2
              refine bodyPost_ret (results_cell_row rfl _ _ w.heap.size 49 #[.int .i64 X, .bool false, .slice none 0 0] (0, 0) _ rfl hP.out.2.2 Tryz.underlying49 rfl (by kernel_rfl)) rfl ?_
              exact ⟨⟨_, _, _, _, _, rfl, by first | exact RV.small _ (by omega) (by omega) | (have eX := HXX.out; rw [← eX]; exact RV.small _ (by omega) (by omega))⟩, hP.out.2.1⟩
          · obtain ⟨k, rfl⟩ : ∃ j, k = j + 1 := ⟨k - 1, by omega⟩
            have e1 : ((k + 1 : Nat) : Int) - 1 = (k : Int) := by omega
            rw [e1]
            clear e1 h0
            obtain ⟨ga', oa', ea, la, ca⟩ := hr.at_ (by omega)
            obtain ⟨rfl, rfl⟩ : ga = ga' ∧ oa = oa' := by simpa using ea
            have ca1 := ca k (by omega)
            clear ca
            have hd := drop_getD es k (by rw [HL.out]; omega)
            have hdv : val 1073741824 (es.drop k) = val 1073741824 (es.drop (k + 1)) * 1073741824 + es.getD k 0 := by rw [hd]; simp only [val]; omega
            have hle := val_drop_le (B := 1073741824) (by omega) kd k
            rw [HV.out] at hle
            have da := kd.at k (by omega)
            have HD := Lib.hid hdv.symm
            rw [hdv] at hle
            clear hdv hd
            generalize val 1073741824 (es.drop (k + 1)) = u at *
            generalize es.getD k 0 = x at *
            go_wp2
            go_roundw
            case rel => exact ⟨k, by omega, rfl, by rw [HD.out]; simp⟩
            case measure => simp [intOf]

end Go.Proofs.YtloplmmnmehkmaaGreat
