/- For every two slices of numbers NumDot returns true, and each argument reads afterwards as it read before. No conditions. -/
import Derived.Test.YtijdnlkojflnkaaRows
import Derived.Test.YtijdnlkojflnkaaDot3
import Derived.WalkKit
import Derived.ProofKit
import Derived.OpenShut
import Derived.ChangeOld
import Derived.Below
import Derived.Deep.SlicePairs
namespace Go.Proofs.Ytijdnlkojflnkaa.NumDotDone
open Go.Proofs.Ytijdnlkojflnkaa Go.ChangeShapes Go.WideShapes Go.ChangeAt Go.RowKit Go.Deep
set_option linter.unusedVariables false

theorem own : ownKnob Try.prog.godebug = none := by kernel_rfl
theorem laidOut : laidOutB Try.prog = true := by kernel_rfl
theorem cellsN : Try.prog.cellsOf 23 = 2 := by kernel_rfl
theorem cellsI : Try.prog.cellsOf 3 = 1 := by kernel_rfl
theorem bd_i64 {a : Int} (h : (Lit.int .i64 a).wf = true) : -9223372036854775808 ≤ a ∧ a ≤ 9223372036854775807 := by
  have h1 := bounds_i64 h
  omega
/-- The number in a value. -/
def numOf : Value → Int
  | .int _ z => z
  | _ => 0
theorem reads {H : Type} {enc : TypeId × Value → H} {W : World} {fuel : Nat} {A : Option Addr} {n c : Nat} {y : DataW H × List MemPlace} {base : Nat}
    (hf : DataW.trod enc Try.prog W base (fun _ => true) true fuel 43 [.slice A n c] = some y) : ∃ xs, RdN W A n xs ∧ I64s xs := by
  rcases open_slice_pairs Try.underlying43 Try.underlying23 cellsN rfl rfl cellsI cellsI hf with ⟨hcs, _⟩ | ⟨x, l, c2, m, k, V0, V1, D0, D1, P0, P1, hcs, hb, hl, hm, hmm, hx, hcell⟩
  · simp only [List.cons.injEq, Value.slice.injEq, and_true] at hcs
    obtain ⟨rfl, rfl, rfl⟩ := hcs
    exact ⟨[], ⟨rfl, by omega, fun h => absurd h (by omega)⟩, fun x hx => by simp at hx⟩
  · simp only [List.cons.injEq, Value.slice.injEq, and_true] at hcs
    obtain ⟨rfl, rfl, rfl⟩ := hcs
    simp only [if_true] at hmm
    subst hmm
    have key : ∀ i, i < n → ∃ a b : Int, V0 i = .int .i64 a ∧ V1 i = .int .i64 b ∧ (Lit.int .i64 a).wf = true ∧ (Lit.int .i64 b).wf = true ∧ W.cell? (x.add (i * 2)) = some (.int .i64 a) ∧ W.cell? (x.add (i * 2 + 1)) = some (.int .i64 b) := by
      intro i hi
      obtain ⟨h1, h2, h3, h4⟩ := hcell i (by omega)
      obtain ⟨a, e0, _, wa⟩ := DataW.trod_int Try.underlying3 h3
      obtain ⟨b, e1, _, wb⟩ := DataW.trod_int Try.underlying3 h4
      simp only [List.cons.injEq, and_true] at e0 e1
      exact ⟨a, b, e0, e1, wa, wb, by rw [← e0]; exact h1, by rw [← e1]; exact h2⟩
    let xs := (List.range n).map fun i => (numOf (V0 i), numOf (V1 i))
    have hxl : xs.length = n := by simp [xs]
    have hat : ∀ i, i < n → xs.getD i (0, 0) = (numOf (V0 i), numOf (V1 i)) := by
      intro i hi
      simp [xs, List.getD_eq_getElem?_getD, hi]
    refine ⟨xs, ⟨hxl, by simp only [maxLen] at hm; omega, fun hn => ?_⟩, ?_⟩
    · obtain ⟨a, b, _, _, _, _, hc, _⟩ := key 0 hn
      obtain ⟨g, off, sp⟩ := x
      have hsp : sp = none := by simpa [Addr.add] using World.cell?_spot hc
      subst hsp
      have hadd : ∀ j, ((⟨g, off, none⟩ : Addr).add j) = ⟨g, off + j, none⟩ := fun j => by simp [Addr.add]
      have hg : g < W.heap.size := by
        rcases Nat.lt_or_ge g W.heap.size with h | h
        · exact h
        · rw [hadd] at hc
          simp [World.cell?, Array.getElem?_eq_none h] at hc
      refine ⟨g, off, rfl, hg, fun j hj => ?_⟩
      obtain ⟨a, b, e0, e1, _, _, c0, c1⟩ := key j hj
      rw [hat j hj, e0, e1]
      rw [hadd] at c0 c1
      exact ⟨c0, by rw [Nat.add_assoc]; exact c1⟩
    · intro z hz
      obtain ⟨i, hi, rfl⟩ := List.mem_map.1 hz
      obtain ⟨a, b, e0, e1, wa, wb, _, _⟩ := key i (by simpa using hi)
      rw [e0, e1]
      exact ⟨bd_i64 wa, bd_i64 wb⟩

set_option maxRecDepth 100000 in
theorem lifted (os : Os) (started : os.Started) (H : Type) (enc : TypeId × Value → H) :
    ReturnsInHanded {} Try.checked os 8 .any (Rows.numDotSpec.pre6 enc Try.prog Try.f8 Rows.numDotRow.domain false) (Rows.numDotSpec.post enc Try.prog Try.f8 false true false false) := by
  refine returnsInHanded_of_change (C := Try.checked) own started (by kernel_rfl) Try.func8
    (ChangeSpec.witness6 (enc := enc) (C := Try.checked) false ⟨#[], #[.slice none 0 0, .slice none 0 0], []⟩ 8 (by kernel_rfl) (by kernel_rfl) (by kernel_rfl) (by kernel_rfl)) ?_
  intro W base args ds gs before hval0 hW hcnd _
  have hval : ∀ (j : Nat) t v, Try.f8.params[j]? = some t → args[j]? = some v → Value.okWide Try.prog W .any base t v := hval0
  have hW' := hW
  obtain ⟨p, q, hA0, hV, rfl, hfz, hnd⟩ := hW
  have hA : DataW.TrodAll enc Try.prog W 0 (fun _ => true) true Try.f8.params.toList args.toList ds p := hA0
  rw [Try.params8] at hA hval
  obtain ⟨v0, vs0, d0, ds0, p0, q0, hargs, rfl, rfl, h0, r0⟩ := trodAll_cons hA
  obtain ⟨v1, vs1, d1, ds1, p1, q1, rfl, rfl, rfl, h1, r1⟩ := trodAll_cons r0
  obtain ⟨rfl, rfl, rfl⟩ := trodAll_nil r1
  obtain rfl : args = #[v0, v1] := by cases args; simp_all
  obtain ⟨rfl, rfl⟩ := trodVars_none hV
  obtain ⟨a0, n0, c0, rfl⟩ := okWide_slice Try.underlying43 (hval 0 43 v0 rfl rfl)
  obtain ⟨a1, n1, c1, rfl⟩ := okWide_slice Try.underlying43 (hval 1 43 v1 rfl rfl)
  have k0 := h0
  have k1 := h1
  have lt0 : ∀ x ∈ p0, x.block < W.heap.size := by obtain ⟨m, hm⟩ := k0; exact DataW.trod_lt m _ _ _ hm
  have lt1 : ∀ x ∈ p1, x.block < W.heap.size := by obtain ⟨m, hm⟩ := k1; exact DataW.trod_lt m _ _ _ hm
  obtain ⟨xs, x0, x1⟩ : ∃ xs, RdN W a0 n0 xs ∧ I64s xs := by obtain ⟨fuel, hf⟩ := h0; exact reads (by simpa [Value.cells] using hf)
  obtain ⟨ys, y0, y1⟩ : ∃ xs, RdN W a1 n1 xs ∧ I64s xs := by obtain ⟨fuel, hf⟩ := h1; exact reads (by simpa [Value.cells] using hf)
  clear hA0 hval0
  refine (dot_walk a0 n0 c0 xs a1 n1 c1 ys W x0 y0 x1 y1).mono fun e W' ⟨he, bel⟩ => ?_
  subst he
  exact ⟨_, rfl, _, _, _, [], _, [], hW', trodAll_mk1 (shut_bool Try.underlying4 _), (trodAll_cons_mk (Below.trod laidOut (by kernel_rfl) (of_decide_eq_true (by kernel_rfl)) k0 bel lt0) (trodAll_cons_mk (Below.trod laidOut (by kernel_rfl) (of_decide_eq_true (by kernel_rfl)) k1 bel lt1) trodAll_mk0)), rfl, bel.frame _, fun h => by cases h⟩

theorem proved : Rows.NumDotSaid :=
  OpenClaim.holds_of_wide 8 Try.f8 rfl rfl rfl rfl rfl rfl rfl ⟨rfl, rfl, rfl, rfl, rfl⟩ rfl rfl rfl rfl rfl (by kernel_rfl) Try.func8 (by kernel_rfl)
    (of_decide_eq_true (by kernel_rfl)) (by unfold Func.isWrapper; first | (rw [if_pos (by decide +kernel)]; kernel_rfl) | (rw [if_neg (by decide +kernel)]; exact ⟨rfl, rfl⟩))
    (fun os started H enc _ => lifted os started H enc)
end Go.Proofs.Ytijdnlkojflnkaa.NumDotDone
namespace Go.Proofs.Ytijdnlkojflnkaa
theorem numDot_holds : Rows.NumDotSaid := NumDotDone.proved
#print axioms numDot_holds
end Go.Proofs.Ytijdnlkojflnkaa
