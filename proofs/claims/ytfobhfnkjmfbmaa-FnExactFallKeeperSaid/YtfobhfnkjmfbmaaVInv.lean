/- Words of the print that the texts of this claim use: of what print.sh laid for the seat, some declarations. -/
import Derived.Test.YtfobhfnkjmfbmaaVTab
namespace Go.Proofs.YtfobhfnkjmfbmaaW.PrintLast
/-- Number i is listed too. -/
def up (b : Nat → Bool) (i : Nat) : Nat → Bool := fun j => if j = i then true else b j
end Go.Proofs.YtfobhfnkjmfbmaaW.PrintLast
