/- Words of the print that the texts of this claim use: of what print.sh laid for the seat, some declarations. -/
import Derived.Test.YtfobhfnkjmfbmaaVWords
import Derived.Laws.StructEq
namespace Go.Proofs.YtfobhfnkjmfbmaaW.PrintWords
open Go.RowKit
end Go.Proofs.YtfobhfnkjmfbmaaW.PrintWords
