/-
  No cell of these rows narrows 'for every input' (looked for: loops, veiled, ifaces, maps, wideKeys, modest, calm, conditions, laid).
  DERIVED. THE GIVEN ROWS OF THIS SEAT. 4 by the template 'for every input the law returns true; each argument reads behind the call as it read before'; 0 by the template 'total and deterministic' (their statements: YthfflkfpmebbbaaTotals.lean).
  GIVEN WITH THE SEED: the statements are not yours to turn. If you find one false, say at which input.
  Laid BY PROGRAM, IN A SANDBOX (cutbox-rows.mjs): the forced cells as the released guide's own fill.sh prints them over the translation a4758947039c158d… (all of the seat's roots in one cut). By AI agents, Wed Nov 11 2026. No macro, syntax, notation, axiom, sorry.
-/
import Derived.Test.YthfflkfpmebbbaaChecked
import GoSem.Claim
import GoSem.ClaimJoined
import GoSem.ClaimMapViews
import Derived.JoinedTies
import Derived.KernelRfl
namespace Go.Proofs.Ythfflkfpmebbbaa
/- THE CELL 'sum', in the pinned program and in every row, IS THE sha256 OF THE DUMP (.gsa) THAT YthfflkfpmebbbaaProg.lean LOADS. Nothing in Lean hashes anything: it is a label: what it is worth is what the hold of that sum in a sandbox is worth. -/
noncomputable def Try.pinned : Pinned := { name := "ythfflkfpmebbbaa", sum := "a4758947039c158d1a7990b37fbb5df1d4ff37ecc7f29a71b8a0ca8a4f8533a6", checked := Try.checked }
namespace Rows
def none {H : Type} : Left H := { results := [], args := [] }

/-- 'laws.FnExactFieldsRead': WHATEVER THE INPUT: true; the input reads as it did. -/
def fnExactFieldsReadSpec : ChangeSpec := { name := "fnExactFieldsRead", fn := fun _ => fun
  | [d] => { results := [.lit (.bool true)], args := [d] }
  | _ => none }
def fnExactFieldsReadRow : OpenClaim := { program := "ythfflkfpmebbbaa", sum := "a4758947039c158d1a7990b37fbb5df1d4ff37ecc7f29a71b8a0ca8a4f8533a6", func := "loop.example/g00397/laws.FnExactFieldsRead", spec := "fnExactFieldsRead", recurses := true, apart := false }
def FnExactFieldsReadSaid : Prop := fnExactFieldsReadRow.holds Try.pinned (OpenSpec.ofChange fnExactFieldsReadSpec)

/-- ITS FALSE NEIGHBOUR: 'it returns false'. Refute it at one input. -/
def fnExactFieldsReadWrong : ChangeSpec := { name := "fnExactFieldsRead", fn := fun _ => fun
  | [d] => { results := [.lit (.bool false)], args := [d] }
  | _ => none }
def FnExactFieldsReadWrongFalsely : Prop := fnExactFieldsReadRow.holds Try.pinned (OpenSpec.ofChange fnExactFieldsReadWrong)

/-- 'laws.FnExactResultsIn': WHATEVER THE INPUT: true; the input reads as it did. -/
def fnExactResultsInSpec : ChangeSpec := { name := "fnExactResultsIn", fn := fun _ => fun
  | [d] => { results := [.lit (.bool true)], args := [d] }
  | _ => none }
def fnExactResultsInRow : OpenClaim := { program := "ythfflkfpmebbbaa", sum := "a4758947039c158d1a7990b37fbb5df1d4ff37ecc7f29a71b8a0ca8a4f8533a6", func := "loop.example/g00397/laws.FnExactResultsIn", spec := "fnExactResultsIn", recurses := true, apart := false }
def FnExactResultsInSaid : Prop := fnExactResultsInRow.holds Try.pinned (OpenSpec.ofChange fnExactResultsInSpec)

/-- ITS FALSE NEIGHBOUR: 'it returns false'. Refute it at one input. -/
def fnExactResultsInWrong : ChangeSpec := { name := "fnExactResultsIn", fn := fun _ => fun
  | [d] => { results := [.lit (.bool false)], args := [d] }
  | _ => none }
def FnExactResultsInWrongFalsely : Prop := fnExactResultsInRow.holds Try.pinned (OpenSpec.ofChange fnExactResultsInWrong)

/-- 'laws.FnWays': WHATEVER THE INPUT: true; the input reads as it did. -/
def fnWaysSpec : ChangeSpec := { name := "fnWays", fn := fun _ => fun
  | [d] => { results := [.lit (.bool true)], args := [d] }
  | _ => none }
def fnWaysRow : OpenClaim := { program := "ythfflkfpmebbbaa", sum := "a4758947039c158d1a7990b37fbb5df1d4ff37ecc7f29a71b8a0ca8a4f8533a6", func := "loop.example/g00397/laws.FnWays", spec := "fnWays", unfollowed := true, recurses := true, apart := false }
def FnWaysSaid : Prop := fnWaysRow.holds Try.pinned (OpenSpec.ofChange fnWaysSpec)

/-- ITS FALSE NEIGHBOUR: 'it returns false'. Refute it at one input. -/
def fnWaysWrong : ChangeSpec := { name := "fnWays", fn := fun _ => fun
  | [d] => { results := [.lit (.bool false)], args := [d] }
  | _ => none }
def FnWaysWrongFalsely : Prop := fnWaysRow.holds Try.pinned (OpenSpec.ofChange fnWaysWrong)

/-- 'laws.FnWaysShort': WHATEVER THE INPUT: true; the input reads as it did. -/
def fnWaysShortSpec : ChangeSpec := { name := "fnWaysShort", fn := fun _ => fun
  | [d] => { results := [.lit (.bool true)], args := [d] }
  | _ => none }
def fnWaysShortRow : OpenClaim := { program := "ythfflkfpmebbbaa", sum := "a4758947039c158d1a7990b37fbb5df1d4ff37ecc7f29a71b8a0ca8a4f8533a6", func := "loop.example/g00397/laws.FnWaysShort", spec := "fnWaysShort", unfollowed := true, recurses := true, apart := false }
def FnWaysShortSaid : Prop := fnWaysShortRow.holds Try.pinned (OpenSpec.ofChange fnWaysShortSpec)

/-- ITS FALSE NEIGHBOUR: 'it returns false'. Refute it at one input. -/
def fnWaysShortWrong : ChangeSpec := { name := "fnWaysShort", fn := fun _ => fun
  | [d] => { results := [.lit (.bool false)], args := [d] }
  | _ => none }
def FnWaysShortWrongFalsely : Prop := fnWaysShortRow.holds Try.pinned (OpenSpec.ofChange fnWaysShortWrong)

/- THE SECOND FORM. 'bulk': how many values and letters a reading holds, each counted each time it is reached (what is shared counts as often as it is met; a slice's spare places count too). A statement '..UptoSaid' is the law's where the arguments, and the package variables that the reading takes, are together of bulk at most 1048576: NARROWER than '..Said'. Prove '..Said' where nothing that the law and all that it calls make is longer than what came in: it says more and counts as full. Else prove '..UptoSaid'. A law counts once. -/
mutual
def uptoBulk {H : Type} : DataW H → Nat
  | .lit (.string bytes) => bytes.length + 1
  | .lit _ => 1
  | .nil => 1
  | .ptr d => uptoBulk d + 1
  | .slice elems spare => uptoBulkAll elems + uptoBulkAll spare + 1
  | .agg parts => uptoBulkAll parts + 1
  | .iface _ d => uptoBulk d + 1
  | .map entries => uptoBulkEntries entries + 1
  | .held _ => 1
def uptoBulkAll {H : Type} : List (DataW H) → Nat
  | [] => 0
  | d :: r => uptoBulk d + uptoBulkAll r
def uptoBulkEntries {H : Type} : List (Lit × DataW H) → Nat
  | [] => 0
  | x :: r => uptoBulkEntry x + uptoBulkEntries r
def uptoBulkEntry {H : Type} : Lit × DataW H → Nat
  | (.string bytes, d) => bytes.length + uptoBulk d + 1
  | (_, d) => uptoBulk d + 1
 end
def uptoSmall : (H : Type) → List (DataW H) → Bool := fun _ ds => decide (uptoBulkAll ds ≤ 1048576)
def OpenSpec.upto (s : _root_.Go.ChangeSpec) : _root_.Go.OpenSpec := { _root_.Go.OpenSpec.ofChange s with cond := some uptoSmall }

/-- 'laws.FnExactFieldsRead', WHERE WHAT IT READS IS OF BULK AT MOST 1048576: true; the input reads as it did. -/
def fnExactFieldsReadUptoRow : OpenClaim := { program := "ythfflkfpmebbbaa", sum := "a4758947039c158d1a7990b37fbb5df1d4ff37ecc7f29a71b8a0ca8a4f8533a6", func := "loop.example/g00397/laws.FnExactFieldsRead", spec := "fnExactFieldsRead", recurses := true, apart := false, narrowed := true }
def FnExactFieldsReadUptoSaid : Prop := fnExactFieldsReadUptoRow.holds Try.pinned (OpenSpec.upto fnExactFieldsReadSpec)

/-- 'laws.FnExactResultsIn', WHERE WHAT IT READS IS OF BULK AT MOST 1048576: true; the input reads as it did. -/
def fnExactResultsInUptoRow : OpenClaim := { program := "ythfflkfpmebbbaa", sum := "a4758947039c158d1a7990b37fbb5df1d4ff37ecc7f29a71b8a0ca8a4f8533a6", func := "loop.example/g00397/laws.FnExactResultsIn", spec := "fnExactResultsIn", recurses := true, apart := false, narrowed := true }
def FnExactResultsInUptoSaid : Prop := fnExactResultsInUptoRow.holds Try.pinned (OpenSpec.upto fnExactResultsInSpec)

/-- 'laws.FnWays', WHERE WHAT IT READS IS OF BULK AT MOST 1048576: true; the input reads as it did. -/
def fnWaysUptoRow : OpenClaim := { program := "ythfflkfpmebbbaa", sum := "a4758947039c158d1a7990b37fbb5df1d4ff37ecc7f29a71b8a0ca8a4f8533a6", func := "loop.example/g00397/laws.FnWays", spec := "fnWays", unfollowed := true, recurses := true, apart := false, narrowed := true }
def FnWaysUptoSaid : Prop := fnWaysUptoRow.holds Try.pinned (OpenSpec.upto fnWaysSpec)

/-- 'laws.FnWaysShort', WHERE WHAT IT READS IS OF BULK AT MOST 1048576: true; the input reads as it did. -/
def fnWaysShortUptoRow : OpenClaim := { program := "ythfflkfpmebbbaa", sum := "a4758947039c158d1a7990b37fbb5df1d4ff37ecc7f29a71b8a0ca8a4f8533a6", func := "loop.example/g00397/laws.FnWaysShort", spec := "fnWaysShort", unfollowed := true, recurses := true, apart := false, narrowed := true }
def FnWaysShortUptoSaid : Prop := fnWaysShortUptoRow.holds Try.pinned (OpenSpec.upto fnWaysShortSpec)

end Rows
end Go.Proofs.Ythfflkfpmebbbaa
