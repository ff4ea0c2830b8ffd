/- What the printed helpers of laws.FnWays come to: copies, equals, sizes, marks. Conditions: the lengths and numbers that each theorem names. -/
import Derived.Test.YthfflkfpmebbbaaPFnWaysx2
import Derived.Test.YthfflkfpmebbbaaLib
set_option linter.unusedVariables false
set_option linter.unusedSimpArgs false
namespace Go.Proofs.Ythfflkfpmebbbaa.PFnWays
open Go.RowKit Go.Proofs.YthfflkfpmebbbaaA Go.Proofs.YthfflkfpmebbbaaL
theorem lt_of {α : Type} {l : List α} {i : Nat} {x : α} (h : l[i]? = some x) : i < l.length := (List.getElem?_eq_some_iff.1 h).1
end Go.Proofs.Ythfflkfpmebbbaa.PFnWays
