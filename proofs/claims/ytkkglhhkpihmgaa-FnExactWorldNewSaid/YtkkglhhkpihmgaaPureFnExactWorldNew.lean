/- laws.FnExactWorldNew returns true. No condition. -/
import Derived.Test.YtkkglhhkpihmgaaArgFnExactWorldNew
set_option maxRecDepth 100000
namespace Go.Proofs.Ytkkglhhkpihmgaa.PFnExactWorldNew
open Go Go.RowKit Go.Proofs.YtkkglhhkpihmgaaA Go.Proofs.Ytkkglhhkpihmgaa.AFnExactWorldNew
theorem pure : Pure := fun _ => ⟨40, by kernel_rfl⟩
end Go.Proofs.Ytkkglhhkpihmgaa.PFnExactWorldNew
namespace Go.Proofs.Ytkkglhhkpihmgaa
/-- The given statement. -/
theorem fnExactWorldNew_holds : Rows.FnExactWorldNewSaid := AFnExactWorldNew.row PFnExactWorldNew.pure
#print axioms fnExactWorldNew_holds
end Go.Proofs.Ytkkglhhkpihmgaa
