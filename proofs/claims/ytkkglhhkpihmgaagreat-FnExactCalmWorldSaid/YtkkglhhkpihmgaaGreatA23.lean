/- The abstract machine, twenty-third part: clear of an own row's tail. No claim lies here. -/
import Derived.Test.YtkkglhhkpihmgaaGreatA22
set_option linter.unusedVariables false
set_option linter.unusedSimpArgs false
namespace Go.Proofs.YtkkglhhkpihmgaaGreatA
open Go Go.RowKit
section
variable {P : Program} {E : Env} {nt : Nat} {s : S} {o : Oper} {d : Nat}
end
section
variable {E : Env} {nt : Nat} {tm : List (Nat × AV)} {bk : List (Nat × Blk)} {K : Act→World→Prop}
end
theorem setE2 {α : Type} {f : α→AV} {l : List α} {i : Nat} {a b : α} : ((l.set i a).map f).set i (f b) = (l.set i b).map f:=by rw [← List.map_set,List.set_set]
theorem setG {α : Type} {f : α→AV} {l : List α} {i : Int} {e : α} (h0 : 0 ≤ i) (h1 : i < ((l.set i.toNat e).length : Int)) : ((l.set i.toNat e).map f)[i.toNat]? = some (f e):=by
  rw [List.length_set] at h1
  rw [List.getElem?_map,List.getElem?_set_self (by omega)];rfl
end Go.Proofs.YtkkglhhkpihmgaaGreatA
