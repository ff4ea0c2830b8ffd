/- The abstract machine, twenty-first part: a part of an own row, frozen as it is taken. No claim lies here. -/
import Derived.Test.YtkkglhhkpihmgaaGreatA20
set_option linter.unusedVariables false
set_option linter.unusedSimpArgs false
namespace Go.Proofs.YtkkglhhkpihmgaaGreatA
open Go Go.RowKit
section
variable {E : Env} {nt : Nat}
end
section
variable {P : Program} {E : Env} {nt : Nat} {s : S} {o : Oper} {d : Nat} {α : Type} {f : α→AV} {xs : List α}
end
theorem frl {α : Type} {f : α→AV} {l : List α} {h : Int} (c : h ≤ (l.length : Int)) : h.toNat ≤ (l.map f).length:=by rw [List.length_map];omega
theorem frl' {α : Type} {l : List α} {h : Int} (c : h ≤ (l.length : Int)) : h.toNat ≤ l.length:=by omega
end Go.Proofs.YtkkglhhkpihmgaaGreatA
