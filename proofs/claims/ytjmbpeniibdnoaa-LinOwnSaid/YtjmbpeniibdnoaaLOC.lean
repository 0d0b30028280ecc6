/- For every integer, two slices of forms and two slices of numbers LinOwn returns true, and each argument reads afterwards as it read before. No conditions. -/
import Derived.Test.YtjmbpeniibdnoaaRows
import Derived.Test.YtjmbpeniibdnoaaLOw
import Derived.WalkKit
import Derived.ProofKit
import Derived.OpenShut
import Derived.ChangeOld
import Derived.Below
import Derived.Carry
import Derived.ChangeSlices
import Derived.Lib.SmallJoins
import Derived.Deep.SlicePairs
namespace Go.Proofs.Ytjmbpeniibdnoaa.LinOwnDone
open Go.Proofs.Ytjmbpeniibdnoaa Go.ChangeShapes Go.WideShapes Go.ChangeAt Go.RowKit Go.Deep Go.Joins
set_option linter.unusedVariables false

theorem own : ownKnob Try.prog.godebug = none := by kernel_rfl
theorem laidOut : laidOutB Try.prog = true := by kernel_rfl
theorem cellsN : Try.prog.cellsOf 36 = 2 := by kernel_rfl
theorem cellsF : Try.prog.cellsOf 30 = 2 := by kernel_rfl
theorem cellsI : Try.prog.cellsOf 3 = 1 := by kernel_rfl
theorem bd_i64 {a : Int} (h : (Lit.int .i64 a).wf = true) : -9223372036854775808 ≤ a ∧ a ≤ 9223372036854775807 := by
  have h1 := bounds_i64 h
  omega
/-- The number in a value. -/
def numOf : Value → Int
  | .int _ z => z
  | _ => 0
theorem reads {H : Type} {enc : TypeId × Value → H} {W : World} {fuel : Nat} {A : Option Addr} {n c : Nat} {y : DataW H × List MemPlace} {base : Nat}
    (hf : DataW.trod enc Try.prog W base (fun _ => true) true fuel 23 [.slice A n c] = some y) : ∃ xs, RdN W A n xs ∧ I64s xs := by
  rcases open_slice_pairs Try.underlying23 Try.underlying36 cellsN rfl rfl cellsI cellsI hf with ⟨hcs, _⟩ | ⟨x, l, c2, m, k, V0, V1, D0, D1, P0, P1, hcs, hb, hl, hm, hmm, hx, hcell⟩
  · simp only [List.cons.injEq, Value.slice.injEq, and_true] at hcs
    obtain ⟨rfl, rfl, rfl⟩ := hcs
    exact ⟨[], ⟨rfl, by omega, fun h => absurd h (by omega)⟩, fun x hx => by simp at hx⟩
  · simp only [List.cons.injEq, Value.slice.injEq, and_true] at hcs
    obtain ⟨rfl, rfl, rfl⟩ := hcs
    simp only [if_true] at hmm
    subst hmm
    have key : ∀ i, i < n → ∃ a b : Int, V0 i = .int .i64 a ∧ V1 i = .int .i64 b ∧ (Lit.int .i64 a).wf = true ∧ (Lit.int .i64 b).wf = true ∧ W.cell? (x.add (i * 2)) = some (.int .i64 a) ∧ W.cell? (x.add (i * 2 + 1)) = some (.int .i64 b) := by
      intro i hi
      obtain ⟨h1, h2, h3, h4⟩ := hcell i (by omega)
      obtain ⟨a, e0, _, wa⟩ := DataW.trod_int Try.underlying3 h3
      obtain ⟨b, e1, _, wb⟩ := DataW.trod_int Try.underlying3 h4
      simp only [List.cons.injEq, and_true] at e0 e1
      exact ⟨a, b, e0, e1, wa, wb, by rw [← e0]; exact h1, by rw [← e1]; exact h2⟩
    let xs := (List.range n).map fun i => (numOf (V0 i), numOf (V1 i))
    have hxl : xs.length = n := by simp [xs]
    have hat : ∀ i, i < n → xs.getD i (0, 0) = (numOf (V0 i), numOf (V1 i)) := by
      intro i hi
      simp [xs, List.getD_eq_getElem?_getD, hi]
    refine ⟨xs, ⟨hxl, by simp only [maxLen] at hm; omega, fun hn => ?_⟩, ?_⟩
    · obtain ⟨a, b, _, _, _, _, hc, _⟩ := key 0 hn
      obtain ⟨g, off, sp⟩ := x
      have hsp : sp = none := by simpa [Addr.add] using World.cell?_spot hc
      subst hsp
      have hadd : ∀ j, ((⟨g, off, none⟩ : Addr).add j) = ⟨g, off + j, none⟩ := fun j => by simp [Addr.add]
      have hg : g < W.heap.size := by
        rcases Nat.lt_or_ge g W.heap.size with h | h
        · exact h
        · rw [hadd] at hc
          simp [World.cell?, Array.getElem?_eq_none h] at hc
      refine ⟨g, off, rfl, hg, fun j hj => ?_⟩
      obtain ⟨a, b, e0, e1, _, _, c0, c1⟩ := key j hj
      rw [hat j hj, e0, e1]
      rw [hadd] at c0 c1
      exact ⟨c0, by rw [Nat.add_assoc]; exact c1⟩
    · intro z hz
      obtain ⟨i, hi, rfl⟩ := List.mem_map.1 hz
      obtain ⟨a, b, e0, e1, wa, wb, _, _⟩ := key i (by simpa using hi)
      rw [e0, e1]
      exact ⟨bd_i64 wa, bd_i64 wb⟩
theorem readsI {H : Type} {enc : TypeId × Value → H} {W : World} {fuel : Nat} {v : Value} {y : DataW H × List MemPlace} {base : Nat}
    (hf : DataW.trod enc Try.prog W base (fun _ => true) true fuel 28 [v] = some y) : ∃ A n c zs, v = .slice A n c ∧ RdC W A n zs ∧ ∀ z ∈ zs, -9223372036854775808 ≤ z ∧ z ≤ 9223372036854775807 := by
  rcases open_ints Try.underlying28 Try.underlying3 cellsI hf with ⟨hcs, _⟩ | ⟨x, l, cap, zs, hcs, hb, hl, hm, hzl, hy, hcell, hwf⟩
  · simp only [List.cons.injEq, and_true] at hcs
    exact ⟨none, 0, 0, [], hcs, RdC.nil _ _, fun z hz => by cases hz⟩
  · simp only [List.cons.injEq, and_true] at hcs
    simp only [if_true] at hzl
    refine ⟨some x, l, cap, zs.take l, hcs, ⟨by rw [List.length_take]; omega, by simp only [maxLen] at hm; omega, fun hn => ?_⟩, fun z hz => bd_i64 (hwf z (List.mem_of_mem_take hz))⟩
    have hc := hcell 0 (by omega)
    obtain ⟨g, off, sp⟩ := x
    have hsp : sp = none := by simpa [Addr.add] using World.cell?_spot hc
    subst hsp
    have hadd : ∀ j, ((⟨g, off, none⟩ : Addr).add j) = ⟨g, off + j, none⟩ := fun j => by simp [Addr.add]
    have hg : g < W.heap.size := by
      rcases Nat.lt_or_ge g W.heap.size with h | h
      · exact h
      · rw [hadd] at hc
        simp [World.cell?, Array.getElem?_eq_none h] at hc
    refine ⟨g, off, rfl, hg, fun j hj => ?_⟩
    have h1 := hcell j (by omega)
    rw [hadd] at h1
    rw [h1, show (zs.take l).getD j 0 = zs.getD j 0 by simp [List.getD_eq_getElem?_getD, hj]]

theorem cellsS : Try.prog.cellsOf 28 = 1 := by kernel_rfl
theorem readsF {H : Type} {enc : TypeId × Value → H} {W : World} {fuel : Nat} {A : Option Addr} {n c : Nat} {y : DataW H × List MemPlace} {base : Nat}
    (hf : DataW.trod enc Try.prog W base (fun _ => true) true fuel 22 [.slice A n c] = some y) : ∃ F, RdF W A n F ∧ ∀ f ∈ F, I64F f := by
  rcases open_slice_pairs Try.underlying22 Try.underlying30 cellsF rfl rfl cellsS cellsI hf with ⟨hcs, _⟩ | ⟨x, l, c2, m, k, V0, V1, D0, D1, P0, P1, hcs, hb, hl, hm, hmm, hx, hcell⟩
  · simp only [List.cons.injEq, Value.slice.injEq, and_true] at hcs
    obtain ⟨rfl, rfl, rfl⟩ := hcs
    exact ⟨[], ⟨rfl, by omega, fun h => absurd h (by omega)⟩, fun x hx => by simp at hx⟩
  · simp only [List.cons.injEq, Value.slice.injEq, and_true] at hcs
    obtain ⟨rfl, rfl, rfl⟩ := hcs
    simp only [if_true] at hmm
    subst hmm
    have key : ∀ i, i < n → ∃ f : Fm, (∃ A' n' c', W.cell? (x.add (i * 2)) = some (.slice A' n' c') ∧ W.cell? (x.add (i * 2 + 1)) = some (.int .i64 f.2) ∧ RdC W A' n' f.1) ∧ I64F f := by
      intro i hi
      obtain ⟨h1, h2, h3, h4⟩ := hcell i (by omega)
      obtain ⟨A', n', c', zs, e0, hr, hb⟩ := readsI h3
      obtain ⟨b, e1, _, wb⟩ := DataW.trod_int Try.underlying3 h4
      simp only [List.cons.injEq, and_true] at e1
      exact ⟨(zs, b), ⟨A', n', c', by rw [← e0]; exact h1, by rw [← e1]; exact h2, hr⟩, hb, bd_i64 wb⟩
    obtain ⟨F, hF1, hF2⟩ := list_of (([], 0) : Fm) _ n key
    refine ⟨F, ⟨hF1, by simp only [maxLen] at hm; omega, fun hn => ?_⟩, fun f hf => ?_⟩
    · obtain ⟨⟨A', n', c', hc, _⟩, _⟩ := hF2 0 hn
      obtain ⟨g, off, sp⟩ := x
      have hsp : sp = none := by simpa [Addr.add] using World.cell?_spot hc
      subst hsp
      have hadd : ∀ j, ((⟨g, off, none⟩ : Addr).add j) = ⟨g, off + j, none⟩ := fun j => by simp [Addr.add]
      have hg : g < W.heap.size := by
        rcases Nat.lt_or_ge g W.heap.size with h | h
        · exact h
        · rw [hadd] at hc
          simp [World.cell?, Array.getElem?_eq_none h] at hc
      refine ⟨g, off, rfl, hg, fun j hj => ?_⟩
      obtain ⟨⟨A', n', c', c0, c1, hr⟩, _⟩ := hF2 j hj
      rw [hadd] at c0 c1
      exact ⟨A', n', c', c0, by rw [Nat.add_assoc]; exact c1, hr⟩
    · obtain ⟨j, hj, rfl⟩ := List.getElem_of_mem hf
      have := (hF2 j (by omega)).2
      rw [List.getD_eq_getElem?_getD, List.getElem?_eq_getElem hj] at this
      exact this

set_option maxRecDepth 100000 in
theorem lifted (os : Os) (started : os.Started) (H : Type) (enc : TypeId × Value → H) :
    ReturnsInHanded {} Try.checked os 3 .any (Rows.linOwnSpec.pre6 enc Try.prog Try.f3 Rows.linOwnRow.domain false) (Rows.linOwnSpec.post enc Try.prog Try.f3 false true false false) := by
  refine returnsInHanded_of_change (C := Try.checked) own started (by kernel_rfl) Try.func3
    (ChangeSpec.witness6 (enc := enc) (C := Try.checked) false ⟨#[], #[.int .i64 0, .slice none 0 0, .slice none 0 0, .slice none 0 0, .slice none 0 0], []⟩ 8 (by kernel_rfl) (by kernel_rfl) (by kernel_rfl) (by kernel_rfl)) ?_
  intro W base args ds gs before hval0 hW hcnd _
  have hval : ∀ (j : Nat) t v, Try.f3.params[j]? = some t → args[j]? = some v → Value.okWide Try.prog W .any base t v := hval0
  have hW' := hW
  obtain ⟨p, q, hA0, hV, rfl, hfz, hnd⟩ := hW
  have hA : DataW.TrodAll enc Try.prog W 0 (fun _ => true) true Try.f3.params.toList args.toList ds p := hA0
  rw [Try.params3] at hA hval
  obtain ⟨v0, vs0, d0, ds0, p0, q0, hargs, rfl, rfl, h0, r0⟩ := trodAll_cons hA
  obtain ⟨v1, vs1, d1, ds1, p1, q1, rfl, rfl, rfl, h1, r1⟩ := trodAll_cons r0
  obtain ⟨v2, vs2, d2, ds2, p2, q2, rfl, rfl, rfl, h2, r2⟩ := trodAll_cons r1
  obtain ⟨v3, vs3, d3, ds3, p3, q3, rfl, rfl, rfl, h3, r3⟩ := trodAll_cons r2
  obtain ⟨v4, vs4, d4, ds4, p4, q4, rfl, rfl, rfl, h4, r4⟩ := trodAll_cons r3
  obtain ⟨rfl, rfl, rfl⟩ := trodAll_nil r4
  obtain rfl : args = #[v0, v1, v2, v3, v4] := by cases args; simp_all
  obtain ⟨rfl, rfl⟩ := trodVars_none hV
  obtain ⟨a1, n1, c1, rfl⟩ := okWide_slice Try.underlying22 (hval 1 22 v1 rfl rfl)
  obtain ⟨a2, n2, c2, rfl⟩ := okWide_slice Try.underlying22 (hval 2 22 v2 rfl rfl)
  obtain ⟨a3, n3, c3, rfl⟩ := okWide_slice Try.underlying23 (hval 3 23 v3 rfl rfl)
  obtain ⟨a4, n4, c4, rfl⟩ := okWide_slice Try.underlying23 (hval 4 23 v4 rfl rfl)
  have k0 := h0
  have k1 := h1
  have k2 := h2
  have k3 := h3
  have k4 := h4
  have lt0 : ∀ x ∈ p0, x.block < W.heap.size := by obtain ⟨m, hm⟩ := k0; exact DataW.trod_lt m _ _ _ hm
  have lt1 : ∀ x ∈ p1, x.block < W.heap.size := by obtain ⟨m, hm⟩ := k1; exact DataW.trod_lt m _ _ _ hm
  have lt2 : ∀ x ∈ p2, x.block < W.heap.size := by obtain ⟨m, hm⟩ := k2; exact DataW.trod_lt m _ _ _ hm
  have lt3 : ∀ x ∈ p3, x.block < W.heap.size := by obtain ⟨m, hm⟩ := k3; exact DataW.trod_lt m _ _ _ hm
  have lt4 : ∀ x ∈ p4, x.block < W.heap.size := by obtain ⟨m, hm⟩ := k4; exact DataW.trod_lt m _ _ _ hm
  obtain ⟨ys, y0, y1⟩ : ∃ xs, RdN W a3 n3 xs ∧ I64s xs := by obtain ⟨fuel, hf⟩ := h3; exact reads (by simpa [Value.cells] using hf)
  obtain ⟨zs, z0, z1⟩ : ∃ xs, RdN W a4 n4 xs ∧ I64s xs := by obtain ⟨fuel, hf⟩ := h4; exact reads (by simpa [Value.cells] using hf)
  obtain ⟨a0, e0, _, _, wa0⟩ := open_int Try.underlying3 (hval 0 3 v0 rfl rfl) h0
  obtain ⟨F, rd1, bd1⟩ : ∃ F, RdF W a1 n1 F ∧ ∀ f ∈ F, I64F f := by obtain ⟨fuel, hf⟩ := h1; exact readsF (by simpa [Value.cells] using hf)
  obtain ⟨G, rd2, bd2⟩ : ∃ F, RdF W a2 n2 F ∧ ∀ f ∈ F, I64F f := by obtain ⟨fuel, hf⟩ := h2; exact readsF (by simpa [Value.cells] using hf)
  subst e0
  clear hA0 hval0
  refine (linown_walk a0 a1 n1 c1 F a2 n2 c2 G a3 n3 c3 ys a4 n4 c4 zs W rd1 bd1 rd2 bd2 y0 y1 z0 z1).mono fun e W' ⟨he, bel⟩ => ?_
  subst he
  exact ⟨_, rfl, _, _, _, [], _, [], hW', trodAll_mk1 (shut_bool Try.underlying4 _), (trodAll_cons_mk (Below.trod laidOut (by kernel_rfl) (of_decide_eq_true (by kernel_rfl)) k0 bel lt0) (trodAll_cons_mk (Below.trod laidOut (by kernel_rfl) (of_decide_eq_true (by kernel_rfl)) k1 bel lt1) (trodAll_cons_mk (Below.trod laidOut (by kernel_rfl) (of_decide_eq_true (by kernel_rfl)) k2 bel lt2) (trodAll_cons_mk (Below.trod laidOut (by kernel_rfl) (of_decide_eq_true (by kernel_rfl)) k3 bel lt3) (trodAll_cons_mk (Below.trod laidOut (by kernel_rfl) (of_decide_eq_true (by kernel_rfl)) k4 bel lt4) trodAll_mk0))))), rfl, bel.frame _, fun h => by cases h⟩

theorem proved : Rows.LinOwnSaid :=
  OpenClaim.holds_of_wide 3 Try.f3 rfl rfl rfl rfl rfl rfl rfl ⟨rfl, rfl, rfl, rfl, rfl⟩ rfl rfl rfl rfl rfl (by kernel_rfl) Try.func3 (by kernel_rfl)
    (of_decide_eq_true (by kernel_rfl)) (by unfold Func.isWrapper; first | (rw [if_pos (by decide +kernel)]; kernel_rfl) | (rw [if_neg (by decide +kernel)]; exact ⟨rfl, rfl⟩))
    (fun os started H enc _ => lifted os started H enc)
end Go.Proofs.Ytjmbpeniibdnoaa.LinOwnDone
namespace Go.Proofs.Ytjmbpeniibdnoaa
theorem linOwn_holds : Rows.LinOwnSaid := LinOwnDone.proved
#print axioms linOwn_holds
end Go.Proofs.Ytjmbpeniibdnoaa
