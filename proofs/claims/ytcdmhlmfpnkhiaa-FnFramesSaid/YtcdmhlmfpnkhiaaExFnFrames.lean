/- What the printed helpers of laws.FnFrames come to: copies, equals, sizes, marks. Conditions: the lengths and numbers that each theorem names. -/
import Derived.Test.YtcdmhlmfpnkhiaaPFnFramesx2
import Derived.Test.YtcdmhlmfpnkhiaaLib
set_option linter.unusedVariables false
set_option linter.unusedSimpArgs false
namespace Go.Proofs.Ytcdmhlmfpnkhiaa.PFnFrames
open Go.RowKit Go.Proofs.YtcdmhlmfpnkhiaaA Go.Proofs.YtcdmhlmfpnkhiaaL
theorem lt_of {α : Type} {l : List α} {i : Nat} {x : α} (h : l[i]? = some x) : i < l.length := (List.getElem?_eq_some_iff.1 h).1
end Go.Proofs.Ytcdmhlmfpnkhiaa.PFnFrames
