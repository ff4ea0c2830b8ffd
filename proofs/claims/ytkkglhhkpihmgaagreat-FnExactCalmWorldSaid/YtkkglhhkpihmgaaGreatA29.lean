/- The abstract machine, twenty-ninth part: deep rows: elements used up, fronts, clearing. No claim lies here. -/
import Derived.Test.YtkkglhhkpihmgaaGreatA28
set_option linter.unusedVariables false
set_option linter.unusedSimpArgs false
namespace Go.Proofs.YtkkglhhkpihmgaaGreatA
open Go Go.RowKit
section
variable {α : Type} {f : α→AV} {sz lo hi : Nat} {x : List α}
end
section
variable {E : Env} {nt : Nat} {s : S}
end
/-! Fronts. -/
section
variable {P : Program} {E : Env} {nt : Nat} {s : S} {o : Oper} {d : Nat}
end
section
variable {E : Env} {nt : Nat} {tm : List (Nat × AV)} {bk : List (Nat × Blk)} {K : Act→World→Prop}
end
/-! Clearing. -/
section
variable {P : Program} {E : Env} {nt : Nat} {s : S} {o : Oper} {d : Nat}
end
end Go.Proofs.YtkkglhhkpihmgaaGreatA
