/- What the printed helpers of laws.FnSendersTold come to: copies, equals, sizes, marks. Conditions: the lengths and numbers that each theorem names. -/
import Derived.Test.YtbapmfjdnnajiaaPFnSendersToldx3
import Derived.Test.YtbapmfjdnnajiaaLib
set_option linter.unusedVariables false
set_option linter.unusedSimpArgs false
namespace Go.Proofs.Ytbapmfjdnnajiaa.PFnSendersTold
open Go.RowKit Go.Proofs.YtbapmfjdnnajiaaA Go.Proofs.YtbapmfjdnnajiaaL
theorem lt_of {α : Type} {l : List α} {i : Nat} {x : α} (h : l[i]? = some x) : i < l.length := (List.getElem?_eq_some_iff.1 h).1
end Go.Proofs.Ytbapmfjdnnajiaa.PFnSendersTold
