/-
  No cell of these rows narrows 'for every input' (looked for: loops, veiled, ifaces, maps, wideKeys, modest, calm, conditions, laid).
  DERIVED. THE GIVEN ROWS OF THIS SEAT. 6 by the template 'for every input the law returns true; each argument reads behind the call as it read before'; 0 by the template 'total and deterministic' (their statements: YtloplmmnmehkmaaGreatTotals.lean).
  GIVEN WITH THE SEED: the statements are not yours to turn. If you find one false, say at which input.
  Laid BY PROGRAM, IN A SANDBOX (cutbox-rows.mjs): the forced cells as the released guide's own fill.sh prints them over the translation c7a7af86102ccd4f… (all of the seat's roots in one cut). By AI agents, Wed Nov 11 2026. No macro, syntax, notation, axiom, sorry.
-/
import Derived.Test.YtloplmmnmehkmaaGreatChecked
import GoSem.Claim
import GoSem.ClaimJoined
import GoSem.ClaimMapViews
import Derived.JoinedTies
import Derived.KernelRfl
namespace Go.Proofs.YtloplmmnmehkmaaGreat
/- THE CELL 'sum', in the pinned program and in every row, IS THE sha256 OF THE DUMP (.gsa) THAT YtloplmmnmehkmaaGreatProg.lean LOADS. Nothing in Lean hashes anything: it is a label: what it is worth is what the hold of that sum in a sandbox is worth. -/
noncomputable def Tryz.pinned : Pinned := { name := "ytloplmmnmehkmaagreat", sum := "c7a7af86102ccd4f19a2cd3a4a876842e819eccf4202a5cb01aa6bbb96ad7f70", checked := Tryz.checked }
namespace Rows
def none {H : Type} : Left H := { results := [], args := [] }

/-- 'floodmarklaw02.LinEchelon': WHATEVER THE INPUT: true; the input reads as it did. -/
def linEchelonSpec : ChangeSpec := { name := "linEchelon", fn := fun _ => fun
  | [d1, d2] => { results := [.lit (.bool true)], args := [d1, d2] }
  | _ => none }
def linEchelonRow : OpenClaim := { program := "ytloplmmnmehkmaagreat", sum := "c7a7af86102ccd4f19a2cd3a4a876842e819eccf4202a5cb01aa6bbb96ad7f70", func := "floodmark/floodmarklaw02.LinEchelon", spec := "linEchelon", unfollowed := true, recurses := true, named := ["math/bits.overflowError"], apart := false }
def LinEchelonSaid : Prop := linEchelonRow.holds Tryz.pinned (OpenSpec.ofChange linEchelonSpec)

/-- ITS FALSE NEIGHBOUR: 'it returns false'. Refute it at one input. -/
def linEchelonWrong : ChangeSpec := { name := "linEchelon", fn := fun _ => fun
  | [d1, d2] => { results := [.lit (.bool false)], args := [d1, d2] }
  | _ => none }
def LinEchelonWrongFalsely : Prop := linEchelonRow.holds Tryz.pinned (OpenSpec.ofChange linEchelonWrong)

/-- 'floodmarklaw02.LinSame': WHATEVER THE INPUT: true; the input reads as it did. -/
def linSameSpec : ChangeSpec := { name := "linSame", fn := fun _ => fun
  | [d1, d2, d3] => { results := [.lit (.bool true)], args := [d1, d2, d3] }
  | _ => none }
def linSameRow : OpenClaim := { program := "ytloplmmnmehkmaagreat", sum := "c7a7af86102ccd4f19a2cd3a4a876842e819eccf4202a5cb01aa6bbb96ad7f70", func := "floodmark/floodmarklaw02.LinSame", spec := "linSame", unfollowed := true, recurses := true, named := ["math/bits.overflowError"], apart := false }
def LinSameSaid : Prop := linSameRow.holds Tryz.pinned (OpenSpec.ofChange linSameSpec)

/-- ITS FALSE NEIGHBOUR: 'it returns false'. Refute it at one input. -/
def linSameWrong : ChangeSpec := { name := "linSame", fn := fun _ => fun
  | [d1, d2, d3] => { results := [.lit (.bool false)], args := [d1, d2, d3] }
  | _ => none }
def LinSameWrongFalsely : Prop := linSameRow.holds Tryz.pinned (OpenSpec.ofChange linSameWrong)

/-- 'floodmarklaw02.LinSolutions': WHATEVER THE INPUT: true; the input reads as it did. -/
def linSolutionsSpec : ChangeSpec := { name := "linSolutions", fn := fun _ => fun
  | [d1, d2, d3] => { results := [.lit (.bool true)], args := [d1, d2, d3] }
  | _ => none }
def linSolutionsRow : OpenClaim := { program := "ytloplmmnmehkmaagreat", sum := "c7a7af86102ccd4f19a2cd3a4a876842e819eccf4202a5cb01aa6bbb96ad7f70", func := "floodmark/floodmarklaw02.LinSolutions", spec := "linSolutions", unfollowed := true, recurses := true, named := ["math/bits.overflowError"], apart := false }
def LinSolutionsSaid : Prop := linSolutionsRow.holds Tryz.pinned (OpenSpec.ofChange linSolutionsSpec)

/-- ITS FALSE NEIGHBOUR: 'it returns false'. Refute it at one input. -/
def linSolutionsWrong : ChangeSpec := { name := "linSolutions", fn := fun _ => fun
  | [d1, d2, d3] => { results := [.lit (.bool false)], args := [d1, d2, d3] }
  | _ => none }
def LinSolutionsWrongFalsely : Prop := linSolutionsRow.holds Tryz.pinned (OpenSpec.ofChange linSolutionsWrong)

/-- 'floodmarklaw02.LinCombines': WHATEVER THE INPUT: true; the input reads as it did. -/
def linCombinesSpec : ChangeSpec := { name := "linCombines", fn := fun _ => fun
  | [d1, d2, d3] => { results := [.lit (.bool true)], args := [d1, d2, d3] }
  | _ => none }
def linCombinesRow : OpenClaim := { program := "ytloplmmnmehkmaagreat", sum := "c7a7af86102ccd4f19a2cd3a4a876842e819eccf4202a5cb01aa6bbb96ad7f70", func := "floodmark/floodmarklaw02.LinCombines", spec := "linCombines", unfollowed := true, recurses := true, named := ["math/bits.overflowError"], apart := false }
def LinCombinesSaid : Prop := linCombinesRow.holds Tryz.pinned (OpenSpec.ofChange linCombinesSpec)

/-- ITS FALSE NEIGHBOUR: 'it returns false'. Refute it at one input. -/
def linCombinesWrong : ChangeSpec := { name := "linCombines", fn := fun _ => fun
  | [d1, d2, d3] => { results := [.lit (.bool false)], args := [d1, d2, d3] }
  | _ => none }
def LinCombinesWrongFalsely : Prop := linCombinesRow.holds Tryz.pinned (OpenSpec.ofChange linCombinesWrong)

/-- 'floodmarklaw02.LinLinear': WHATEVER THE INPUT: true; the input reads as it did. -/
def linLinearSpec : ChangeSpec := { name := "linLinear", fn := fun _ => fun
  | [d1, d2, d3, d4] => { results := [.lit (.bool true)], args := [d1, d2, d3, d4] }
  | _ => none }
def linLinearRow : OpenClaim := { program := "ytloplmmnmehkmaagreat", sum := "c7a7af86102ccd4f19a2cd3a4a876842e819eccf4202a5cb01aa6bbb96ad7f70", func := "floodmark/floodmarklaw02.LinLinear", spec := "linLinear", unfollowed := true, recurses := true, named := ["math/bits.overflowError"], apart := false }
def LinLinearSaid : Prop := linLinearRow.holds Tryz.pinned (OpenSpec.ofChange linLinearSpec)

/-- ITS FALSE NEIGHBOUR: 'it returns false'. Refute it at one input. -/
def linLinearWrong : ChangeSpec := { name := "linLinear", fn := fun _ => fun
  | [d1, d2, d3, d4] => { results := [.lit (.bool false)], args := [d1, d2, d3, d4] }
  | _ => none }
def LinLinearWrongFalsely : Prop := linLinearRow.holds Tryz.pinned (OpenSpec.ofChange linLinearWrong)

/-- 'floodmarklaw02.LinForms': WHATEVER THE INPUT: true; the input reads as it did. -/
def linFormsSpec : ChangeSpec := { name := "linForms", fn := fun _ => fun
  | [d1, d2, d3] => { results := [.lit (.bool true)], args := [d1, d2, d3] }
  | _ => none }
def linFormsRow : OpenClaim := { program := "ytloplmmnmehkmaagreat", sum := "c7a7af86102ccd4f19a2cd3a4a876842e819eccf4202a5cb01aa6bbb96ad7f70", func := "floodmark/floodmarklaw02.LinForms", spec := "linForms", unfollowed := true, recurses := true, named := ["math/bits.overflowError"], apart := false }
def LinFormsSaid : Prop := linFormsRow.holds Tryz.pinned (OpenSpec.ofChange linFormsSpec)

/-- ITS FALSE NEIGHBOUR: 'it returns false'. Refute it at one input. -/
def linFormsWrong : ChangeSpec := { name := "linForms", fn := fun _ => fun
  | [d1, d2, d3] => { results := [.lit (.bool false)], args := [d1, d2, d3] }
  | _ => none }
def LinFormsWrongFalsely : Prop := linFormsRow.holds Tryz.pinned (OpenSpec.ofChange linFormsWrong)

/- THE SECOND FORM. 'bulk': how many values and letters a reading holds, each counted each time it is reached (what is shared counts as often as it is met; a slice's spare places count too). A statement '..UptoSaid' is the law's where the arguments, and the package variables that the reading takes, are together of bulk at most 1048576: NARROWER than '..Said'. Prove '..Said' where nothing that the law and all that it calls make is longer than what came in: it says more and counts as full. Else prove '..UptoSaid'. A law counts once. -/
mutual
def uptoBulk {H : Type} : DataW H → Nat
  | .lit (.string bytes) => bytes.length + 1
  | .lit _ => 1
  | .nil => 1
  | .ptr d => uptoBulk d + 1
  | .slice elems spare => uptoBulkAll elems + uptoBulkAll spare + 1
  | .agg parts => uptoBulkAll parts + 1
  | .iface _ d => uptoBulk d + 1
  | .map entries => uptoBulkEntries entries + 1
  | .held _ => 1
def uptoBulkAll {H : Type} : List (DataW H) → Nat
  | [] => 0
  | d :: r => uptoBulk d + uptoBulkAll r
def uptoBulkEntries {H : Type} : List (Lit × DataW H) → Nat
  | [] => 0
  | x :: r => uptoBulkEntry x + uptoBulkEntries r
def uptoBulkEntry {H : Type} : Lit × DataW H → Nat
  | (.string bytes, d) => bytes.length + uptoBulk d + 1
  | (_, d) => uptoBulk d + 1
 end
def uptoSmall : (H : Type) → List (DataW H) → Bool := fun _ ds => decide (uptoBulkAll ds ≤ 1048576)
def OpenSpec.upto (s : _root_.Go.ChangeSpec) : _root_.Go.OpenSpec := { _root_.Go.OpenSpec.ofChange s with cond := some uptoSmall }

/-- 'floodmarklaw02.LinEchelon', WHERE WHAT IT READS IS OF BULK AT MOST 1048576: true; the input reads as it did. -/
def linEchelonUptoRow : OpenClaim := { program := "ytloplmmnmehkmaagreat", sum := "c7a7af86102ccd4f19a2cd3a4a876842e819eccf4202a5cb01aa6bbb96ad7f70", func := "floodmark/floodmarklaw02.LinEchelon", spec := "linEchelon", unfollowed := true, recurses := true, named := ["math/bits.overflowError"], apart := false, narrowed := true }
def LinEchelonUptoSaid : Prop := linEchelonUptoRow.holds Tryz.pinned (OpenSpec.upto linEchelonSpec)

/-- 'floodmarklaw02.LinSame', WHERE WHAT IT READS IS OF BULK AT MOST 1048576: true; the input reads as it did. -/
def linSameUptoRow : OpenClaim := { program := "ytloplmmnmehkmaagreat", sum := "c7a7af86102ccd4f19a2cd3a4a876842e819eccf4202a5cb01aa6bbb96ad7f70", func := "floodmark/floodmarklaw02.LinSame", spec := "linSame", unfollowed := true, recurses := true, named := ["math/bits.overflowError"], apart := false, narrowed := true }
def LinSameUptoSaid : Prop := linSameUptoRow.holds Tryz.pinned (OpenSpec.upto linSameSpec)

/-- 'floodmarklaw02.LinSolutions', WHERE WHAT IT READS IS OF BULK AT MOST 1048576: true; the input reads as it did. -/
def linSolutionsUptoRow : OpenClaim := { program := "ytloplmmnmehkmaagreat", sum := "c7a7af86102ccd4f19a2cd3a4a876842e819eccf4202a5cb01aa6bbb96ad7f70", func := "floodmark/floodmarklaw02.LinSolutions", spec := "linSolutions", unfollowed := true, recurses := true, named := ["math/bits.overflowError"], apart := false, narrowed := true }
def LinSolutionsUptoSaid : Prop := linSolutionsUptoRow.holds Tryz.pinned (OpenSpec.upto linSolutionsSpec)

/-- 'floodmarklaw02.LinCombines', WHERE WHAT IT READS IS OF BULK AT MOST 1048576: true; the input reads as it did. -/
def linCombinesUptoRow : OpenClaim := { program := "ytloplmmnmehkmaagreat", sum := "c7a7af86102ccd4f19a2cd3a4a876842e819eccf4202a5cb01aa6bbb96ad7f70", func := "floodmark/floodmarklaw02.LinCombines", spec := "linCombines", unfollowed := true, recurses := true, named := ["math/bits.overflowError"], apart := false, narrowed := true }
def LinCombinesUptoSaid : Prop := linCombinesUptoRow.holds Tryz.pinned (OpenSpec.upto linCombinesSpec)

/-- 'floodmarklaw02.LinLinear', WHERE WHAT IT READS IS OF BULK AT MOST 1048576: true; the input reads as it did. -/
def linLinearUptoRow : OpenClaim := { program := "ytloplmmnmehkmaagreat", sum := "c7a7af86102ccd4f19a2cd3a4a876842e819eccf4202a5cb01aa6bbb96ad7f70", func := "floodmark/floodmarklaw02.LinLinear", spec := "linLinear", unfollowed := true, recurses := true, named := ["math/bits.overflowError"], apart := false, narrowed := true }
def LinLinearUptoSaid : Prop := linLinearUptoRow.holds Tryz.pinned (OpenSpec.upto linLinearSpec)

/-- 'floodmarklaw02.LinForms', WHERE WHAT IT READS IS OF BULK AT MOST 1048576: true; the input reads as it did. -/
def linFormsUptoRow : OpenClaim := { program := "ytloplmmnmehkmaagreat", sum := "c7a7af86102ccd4f19a2cd3a4a876842e819eccf4202a5cb01aa6bbb96ad7f70", func := "floodmark/floodmarklaw02.LinForms", spec := "linForms", unfollowed := true, recurses := true, named := ["math/bits.overflowError"], apart := false, narrowed := true }
def LinFormsUptoSaid : Prop := linFormsUptoRow.holds Tryz.pinned (OpenSpec.upto linFormsSpec)

end Rows
end Go.Proofs.YtloplmmnmehkmaaGreat
