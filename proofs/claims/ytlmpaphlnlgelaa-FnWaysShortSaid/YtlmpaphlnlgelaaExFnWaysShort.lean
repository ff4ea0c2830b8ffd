/- What the printed helpers of laws.FnWaysShort come to: copies, equals, sizes, marks. Conditions: the lengths and numbers that each theorem names. -/
import Derived.Test.YtlmpaphlnlgelaaPFnWaysShortx4
import Derived.Test.YtlmpaphlnlgelaaLib
set_option linter.unusedVariables false
set_option linter.unusedSimpArgs false
namespace Go.Proofs.Ytlmpaphlnlgelaa.PFnWaysShort
open Go.RowKit Go.Proofs.YtlmpaphlnlgelaaA Go.Proofs.YtlmpaphlnlgelaaL
theorem lt_of {α : Type} {l : List α} {i : Nat} {x : α} (h : l[i]? = some x) : i < l.length := (List.getElem?_eq_some_iff.1 h).1
end Go.Proofs.Ytlmpaphlnlgelaa.PFnWaysShort
