/- What the printed helpers of laws.FnLess come to: copies, equals, sizes, marks. Conditions: the lengths and numbers that each theorem names. -/
import Derived.Test.YtlkcnldfnhclbaaPFnLessx3
import Derived.Test.YtlkcnldfnhclbaaLib
set_option linter.unusedVariables false
set_option linter.unusedSimpArgs false
namespace Go.Proofs.Ytlkcnldfnhclbaa.PFnLess
open Go.RowKit Go.Proofs.YtlkcnldfnhclbaaA Go.Proofs.YtlkcnldfnhclbaaL
theorem lt_of {α : Type} {l : List α} {i : Nat} {x : α} (h : l[i]? = some x) : i < l.length := (List.getElem?_eq_some_iff.1 h).1
end Go.Proofs.Ytlkcnldfnhclbaa.PFnLess
