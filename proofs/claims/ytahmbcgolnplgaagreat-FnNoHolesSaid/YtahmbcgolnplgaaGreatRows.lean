/-
  No cell of these rows narrows 'for every input' (looked for: loops, veiled, ifaces, maps, wideKeys, modest, calm, conditions, laid).
  DERIVED. THE GIVEN ROWS OF THIS SEAT. 4 by the template 'for every input the law returns true; each argument reads behind the call as it read before'; 0 by the template 'total and deterministic' (their statements: YtahmbcgolnplgaaGreatTotals.lean).
  GIVEN WITH THE SEED: the statements are not yours to turn. If you find one false, say at which input.
  Laid BY PROGRAM, IN A SANDBOX (cutbox-rows.mjs): the forced cells as the released guide's own fill.sh prints them over the translation 5e0d84c47264e07f… (all of the seat's roots in one cut). By AI agents, Wed Nov 11 2026. No macro, syntax, notation, axiom, sorry.
-/
import Derived.Test.YtahmbcgolnplgaaGreatChecked
import GoSem.Claim
import GoSem.ClaimJoined
import GoSem.ClaimMapViews
import Derived.JoinedTies
import Derived.KernelRfl
namespace Go.Proofs.YtahmbcgolnplgaaGreat
/- THE CELL 'sum', in the pinned program and in every row, IS THE sha256 OF THE DUMP (.gsa) THAT YtahmbcgolnplgaaGreatProg.lean LOADS. Nothing in Lean hashes anything: it is a label: what it is worth is what the hold of that sum in a sandbox is worth. -/
noncomputable def Tryz.pinned : Pinned := { name := "ytahmbcgolnplgaagreat", sum := "5e0d84c47264e07fb349c52cdf75eaf6adc6c1f5748fac4c6ff37a9dbba545d2", checked := Tryz.checked }
namespace Rows
def none {H : Type} : Left H := { results := [], args := [] }

/-- 'laws.FnCalm': WHATEVER THE INPUT: true; the input reads as it did. -/
def fnCalmSpec : ChangeSpec := { name := "fnCalm", fn := fun _ => fun
  | [d] => { results := [.lit (.bool true)], args := [d] }
  | _ => none }
def fnCalmRow : OpenClaim := { program := "ytahmbcgolnplgaagreat", sum := "5e0d84c47264e07fb349c52cdf75eaf6adc6c1f5748fac4c6ff37a9dbba545d2", func := "loop.example/g00397/laws.FnCalm", spec := "fnCalm", recurses := true, apart := false }
def FnCalmSaid : Prop := fnCalmRow.holds Tryz.pinned (OpenSpec.ofChange fnCalmSpec)

/-- ITS FALSE NEIGHBOUR: 'it returns false'. Refute it at one input. -/
def fnCalmWrong : ChangeSpec := { name := "fnCalm", fn := fun _ => fun
  | [d] => { results := [.lit (.bool false)], args := [d] }
  | _ => none }
def FnCalmWrongFalsely : Prop := fnCalmRow.holds Tryz.pinned (OpenSpec.ofChange fnCalmWrong)

/-- 'laws.FnNoHoles': WHATEVER THE INPUT: true; the input reads as it did. -/
def fnNoHolesSpec : ChangeSpec := { name := "fnNoHoles", fn := fun _ => fun
  | [d] => { results := [.lit (.bool true)], args := [d] }
  | _ => none }
def fnNoHolesRow : OpenClaim := { program := "ytahmbcgolnplgaagreat", sum := "5e0d84c47264e07fb349c52cdf75eaf6adc6c1f5748fac4c6ff37a9dbba545d2", func := "loop.example/g00397/laws.FnNoHoles", spec := "fnNoHoles", unfollowed := true, recurses := true, apart := false }
def FnNoHolesSaid : Prop := fnNoHolesRow.holds Tryz.pinned (OpenSpec.ofChange fnNoHolesSpec)

/-- ITS FALSE NEIGHBOUR: 'it returns false'. Refute it at one input. -/
def fnNoHolesWrong : ChangeSpec := { name := "fnNoHoles", fn := fun _ => fun
  | [d] => { results := [.lit (.bool false)], args := [d] }
  | _ => none }
def FnNoHolesWrongFalsely : Prop := fnNoHolesRow.holds Tryz.pinned (OpenSpec.ofChange fnNoHolesWrong)

/-- 'laws.FnLives': WHATEVER THE INPUT: true; the input reads as it did. -/
def fnLivesSpec : ChangeSpec := { name := "fnLives", fn := fun _ => fun
  | [d] => { results := [.lit (.bool true)], args := [d] }
  | _ => none }
def fnLivesRow : OpenClaim := { program := "ytahmbcgolnplgaagreat", sum := "5e0d84c47264e07fb349c52cdf75eaf6adc6c1f5748fac4c6ff37a9dbba545d2", func := "loop.example/g00397/laws.FnLives", spec := "fnLives", unfollowed := true, recurses := true, apart := false }
def FnLivesSaid : Prop := fnLivesRow.holds Tryz.pinned (OpenSpec.ofChange fnLivesSpec)

/-- ITS FALSE NEIGHBOUR: 'it returns false'. Refute it at one input. -/
def fnLivesWrong : ChangeSpec := { name := "fnLives", fn := fun _ => fun
  | [d] => { results := [.lit (.bool false)], args := [d] }
  | _ => none }
def FnLivesWrongFalsely : Prop := fnLivesRow.holds Tryz.pinned (OpenSpec.ofChange fnLivesWrong)

/-- 'laws.FnExactRunWorld': WHATEVER THE INPUT: true; the input reads as it did. -/
def fnExactRunWorldSpec : ChangeSpec := { name := "fnExactRunWorld", fn := fun _ => fun
  | [d] => { results := [.lit (.bool true)], args := [d] }
  | _ => none }
def fnExactRunWorldRow : OpenClaim := { program := "ytahmbcgolnplgaagreat", sum := "5e0d84c47264e07fb349c52cdf75eaf6adc6c1f5748fac4c6ff37a9dbba545d2", func := "loop.example/g00397/laws.FnExactRunWorld", spec := "fnExactRunWorld", unfollowed := true, recurses := true, apart := false }
def FnExactRunWorldSaid : Prop := fnExactRunWorldRow.holds Tryz.pinned (OpenSpec.ofChange fnExactRunWorldSpec)

/-- ITS FALSE NEIGHBOUR: 'it returns false'. Refute it at one input. -/
def fnExactRunWorldWrong : ChangeSpec := { name := "fnExactRunWorld", fn := fun _ => fun
  | [d] => { results := [.lit (.bool false)], args := [d] }
  | _ => none }
def FnExactRunWorldWrongFalsely : Prop := fnExactRunWorldRow.holds Tryz.pinned (OpenSpec.ofChange fnExactRunWorldWrong)

/- THE SECOND FORM. 'bulk': how many values and letters a reading holds, each counted each time it is reached (what is shared counts as often as it is met; a slice's spare places count too). A statement '..UptoSaid' is the law's where the arguments, and the package variables that the reading takes, are together of bulk at most 1048576: NARROWER than '..Said'. Prove '..Said' where nothing that the law and all that it calls make is longer than what came in: it says more and counts as full. Else prove '..UptoSaid'. A law counts once. -/
mutual
def uptoBulk {H : Type} : DataW H → Nat
  | .lit (.string bytes) => bytes.length + 1
  | .lit _ => 1
  | .nil => 1
  | .ptr d => uptoBulk d + 1
  | .slice elems spare => uptoBulkAll elems + uptoBulkAll spare + 1
  | .agg parts => uptoBulkAll parts + 1
  | .iface _ d => uptoBulk d + 1
  | .map entries => uptoBulkEntries entries + 1
  | .held _ => 1
def uptoBulkAll {H : Type} : List (DataW H) → Nat
  | [] => 0
  | d :: r => uptoBulk d + uptoBulkAll r
def uptoBulkEntries {H : Type} : List (Lit × DataW H) → Nat
  | [] => 0
  | x :: r => uptoBulkEntry x + uptoBulkEntries r
def uptoBulkEntry {H : Type} : Lit × DataW H → Nat
  | (.string bytes, d) => bytes.length + uptoBulk d + 1
  | (_, d) => uptoBulk d + 1
 end
def uptoSmall : (H : Type) → List (DataW H) → Bool := fun _ ds => decide (uptoBulkAll ds ≤ 1048576)
def OpenSpec.upto (s : _root_.Go.ChangeSpec) : _root_.Go.OpenSpec := { _root_.Go.OpenSpec.ofChange s with cond := some uptoSmall }

/-- 'laws.FnCalm', WHERE WHAT IT READS IS OF BULK AT MOST 1048576: true; the input reads as it did. -/
def fnCalmUptoRow : OpenClaim := { program := "ytahmbcgolnplgaagreat", sum := "5e0d84c47264e07fb349c52cdf75eaf6adc6c1f5748fac4c6ff37a9dbba545d2", func := "loop.example/g00397/laws.FnCalm", spec := "fnCalm", recurses := true, apart := false, narrowed := true }
def FnCalmUptoSaid : Prop := fnCalmUptoRow.holds Tryz.pinned (OpenSpec.upto fnCalmSpec)

/-- 'laws.FnNoHoles', WHERE WHAT IT READS IS OF BULK AT MOST 1048576: true; the input reads as it did. -/
def fnNoHolesUptoRow : OpenClaim := { program := "ytahmbcgolnplgaagreat", sum := "5e0d84c47264e07fb349c52cdf75eaf6adc6c1f5748fac4c6ff37a9dbba545d2", func := "loop.example/g00397/laws.FnNoHoles", spec := "fnNoHoles", unfollowed := true, recurses := true, apart := false, narrowed := true }
def FnNoHolesUptoSaid : Prop := fnNoHolesUptoRow.holds Tryz.pinned (OpenSpec.upto fnNoHolesSpec)

/-- 'laws.FnLives', WHERE WHAT IT READS IS OF BULK AT MOST 1048576: true; the input reads as it did. -/
def fnLivesUptoRow : OpenClaim := { program := "ytahmbcgolnplgaagreat", sum := "5e0d84c47264e07fb349c52cdf75eaf6adc6c1f5748fac4c6ff37a9dbba545d2", func := "loop.example/g00397/laws.FnLives", spec := "fnLives", unfollowed := true, recurses := true, apart := false, narrowed := true }
def FnLivesUptoSaid : Prop := fnLivesUptoRow.holds Tryz.pinned (OpenSpec.upto fnLivesSpec)

/-- 'laws.FnExactRunWorld', WHERE WHAT IT READS IS OF BULK AT MOST 1048576: true; the input reads as it did. -/
def fnExactRunWorldUptoRow : OpenClaim := { program := "ytahmbcgolnplgaagreat", sum := "5e0d84c47264e07fb349c52cdf75eaf6adc6c1f5748fac4c6ff37a9dbba545d2", func := "loop.example/g00397/laws.FnExactRunWorld", spec := "fnExactRunWorld", unfollowed := true, recurses := true, apart := false, narrowed := true }
def FnExactRunWorldUptoSaid : Prop := fnExactRunWorldUptoRow.holds Tryz.pinned (OpenSpec.upto fnExactRunWorldSpec)

end Rows
end Go.Proofs.YtahmbcgolnplgaaGreat
