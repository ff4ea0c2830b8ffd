/- What laws.FnExactKeeperNew comes to: true. No condition. -/
import Derived.Test.YtfobhfnkjmfbmaaPFnExactKeeperNewx4
namespace Go.Proofs.Ytfobhfnkjmfbmaa.Pure
open Go.RowKit Go.Proofs.Ytfobhfnkjmfbmaa.PFnExactKeeperNew Go.Proofs.YtfobhfnkjmfbmaaW.PrintWords Go.Proofs.YtfobhfnkjmfbmaaW.PrintLast
theorem FnExactKeeperNew : laws_FnExactKeeperNew.Pure := ⟨40, by decide +kernel⟩
end Go.Proofs.Ytfobhfnkjmfbmaa.Pure
