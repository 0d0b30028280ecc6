/- reference: operations on rationals. -/
import Derived.Test.YtmeldkceajnobaaDoorRef10
set_option linter.unusedVariables false
set_option linter.unusedSimpArgs false
namespace Go.Proofs.YtmeldkceajnobaaDoor
open Go.RowKit


theorem szr_neg {k : Nat} {q : Rat} (h : SzR k q) : SzR k (-q) := ⟨by rw [Rat.neg_num]; exact h.1.neg, by rw [Rat.neg_den]; exact h.2⟩

end Go.Proofs.YtmeldkceajnobaaDoor
