/- reference: rationals. reference: operations on rationals. reference: To, Valid, From, Num, Down. -/
import Derived.Test.YtloplmmnmehkmaaGreatRef9
import Derived.Test.YtloplmmnmehkmaaGreatRat3
import Derived.Test.YtloplmmnmehkmaaGreatNum1
set_option linter.unusedVariables false
set_option linter.unusedSimpArgs false
namespace Go.Proofs.YtloplmmnmehkmaaGreat
open Go.RowKit

/-- A rational of the reference. -/
def RRV (w : World) (s : Int) (b : Bool) (A : Option Addr) (n c : Nat) (s' : Int) (b' : Bool) (A' : Option Addr) (n' c' : Nat) (q : Rat) : Prop := RV w s b A n c q.num ∧ RV w s' b' A' n' c' (q.den : Int)
section
variable {w w' W : World} {s : Int} {b : Bool} {A : Option Addr} {n c : Nat} {s' : Int} {b' : Bool} {A' : Option Addr} {n' c' : Nat} {q : Rat} {g : Nat}
theorem RRV.kp (h : RRV w s b A n c s' b' A' n' c' q) (e : Kp 3 w w') : RRV w' s b A n c s' b' A' n' c' q := ⟨h.1.kp e, h.2.kp e⟩
theorem RRV.below (h : RRV w s b A n c s' b' A' n' c' q) (e : Below w.heap.size w w') : RRV w' s b A n c s' b' A' n' c' q := ⟨h.1.below e, h.2.below e⟩
end

end Go.Proofs.YtloplmmnmehkmaaGreat

namespace Go.Proofs.YtloplmmnmehkmaaGreat
open Go.RowKit










end Go.Proofs.YtloplmmnmehkmaaGreat

namespace Go.Proofs.YtloplmmnmehkmaaGreat
open Go.RowKit










end Go.Proofs.YtloplmmnmehkmaaGreat
