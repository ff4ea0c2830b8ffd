/- What the printed helpers of laws.FnWaysTold come to: copies, equals, sizes, marks. Conditions: the lengths and numbers that each theorem names. -/
import Derived.Test.YtlmpaphlnlgelaaGreatPFnWaysToldx5
import Derived.Test.YtlmpaphlnlgelaaGreatLib
set_option linter.unusedVariables false
set_option linter.unusedSimpArgs false
namespace Go.Proofs.YtlmpaphlnlgelaaGreat.PFnWaysTold
open Go.RowKit Go.Proofs.YtlmpaphlnlgelaaGreatA Go.Proofs.YtlmpaphlnlgelaaGreatL
theorem lt_of {α : Type} {l : List α} {i : Nat} {x : α} (h : l[i]? = some x) : i < l.length := (List.getElem?_eq_some_iff.1 h).1
end Go.Proofs.YtlmpaphlnlgelaaGreat.PFnWaysTold
