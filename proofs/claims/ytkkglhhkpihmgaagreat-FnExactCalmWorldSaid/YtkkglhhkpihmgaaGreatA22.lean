/- The abstract machine, twenty-second part: function values with what they capture; results frozen of what is handed blocks. No claim lies here. -/
import Derived.Test.YtkkglhhkpihmgaaGreatA21
set_option linter.unusedVariables false
set_option linter.unusedSimpArgs false
namespace Go.Proofs.YtkkglhhkpihmgaaGreatA
open Go Go.RowKit
section
variable {P : Program} {E : Env} {nt : Nat} {s : S} {o : Oper} {d : Nat}
end
end Go.Proofs.YtkkglhhkpihmgaaGreatA
