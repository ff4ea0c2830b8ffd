/- Words of the print that the texts of this claim use: of what print.sh laid for the seat, some declarations. -/
import Derived.Test.YthdeicbkimlnhaaVTab
namespace Go.Proofs.YthdeicbkimlnhaaW.PrintLast
end Go.Proofs.YthdeicbkimlnhaaW.PrintLast
