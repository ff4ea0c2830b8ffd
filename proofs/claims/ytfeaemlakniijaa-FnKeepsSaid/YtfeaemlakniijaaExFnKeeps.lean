/- What the printed helpers of laws.FnKeeps come to: copies, equals, sizes, marks. Conditions: the lengths and numbers that each theorem names. -/
import Derived.Test.YtfeaemlakniijaaPFnKeepsx2
import Derived.Test.YtfeaemlakniijaaLib
set_option linter.unusedVariables false
set_option linter.unusedSimpArgs false
namespace Go.Proofs.Ytfeaemlakniijaa.PFnKeeps
open Go.RowKit Go.Proofs.YtfeaemlakniijaaA Go.Proofs.YtfeaemlakniijaaL
theorem lt_of {α : Type} {l : List α} {i : Nat} {x : α} (h : l[i]? = some x) : i < l.length := (List.getElem?_eq_some_iff.1 h).1
end Go.Proofs.Ytfeaemlakniijaa.PFnKeeps
