/- Words of the print that the texts of this claim use: of what print.sh laid for the seat, some declarations. -/
import Derived.Test.YthdeicbkimlnhaaVApart
import Derived.Test.YthdeicbkimlnhaaVArr
namespace Go.Proofs.YthdeicbkimlnhaaW.PrintWords
open Go.RowKit
namespace Kd
end Kd
end Go.Proofs.YthdeicbkimlnhaaW.PrintWords
