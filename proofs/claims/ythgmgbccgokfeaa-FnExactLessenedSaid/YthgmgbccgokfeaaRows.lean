/-
  No cell of these rows narrows 'for every input' (looked for: loops, veiled, ifaces, maps, wideKeys, modest, calm, conditions, laid).
  DERIVED. THE GIVEN ROWS OF THIS SEAT. 5 by the template 'for every input the law returns true; each argument reads behind the call as it read before'; 0 by the template 'total and deterministic' (their statements: YthgmgbccgokfeaaTotals.lean).
  GIVEN WITH THE SEED: the statements are not yours to turn. If you find one false, say at which input.
  Laid BY PROGRAM, IN A SANDBOX (cutbox-rows.mjs): the forced cells as the released guide's own fill.sh prints them over the translation 9ca41a924563b376… (all of the seat's roots in one cut). By AI agents, Wed Nov 11 2026. No macro, syntax, notation, axiom, sorry.
-/
import Derived.Test.YthgmgbccgokfeaaChecked
import GoSem.Claim
import GoSem.ClaimJoined
import GoSem.ClaimMapViews
import Derived.JoinedTies
import Derived.KernelRfl
namespace Go.Proofs.Ythgmgbccgokfeaa
/- THE CELL 'sum', in the pinned program and in every row, IS THE sha256 OF THE DUMP (.gsa) THAT YthgmgbccgokfeaaProg.lean LOADS. Nothing in Lean hashes anything: it is a label: what it is worth is what the hold of that sum in a sandbox is worth. -/
noncomputable def Try.pinned : Pinned := { name := "ythgmgbccgokfeaa", sum := "9ca41a924563b37606b8e334441c32b8630a797ee7d0812e8dfde1e6f529177c", checked := Try.checked }
namespace Rows
def none {H : Type} : Left H := { results := [], args := [] }

/-- 'laws.FnExactShadowed': WHATEVER THE INPUT: true; the input reads as it did. -/
def fnExactShadowedSpec : ChangeSpec := { name := "fnExactShadowed", fn := fun _ => fun
  | [d] => { results := [.lit (.bool true)], args := [d] }
  | _ => none }
def fnExactShadowedRow : OpenClaim := { program := "ythgmgbccgokfeaa", sum := "9ca41a924563b37606b8e334441c32b8630a797ee7d0812e8dfde1e6f529177c", func := "loop.example/g00397/laws.FnExactShadowed", spec := "fnExactShadowed", unfollowed := true, recurses := true, apart := false }
def FnExactShadowedSaid : Prop := fnExactShadowedRow.holds Try.pinned (OpenSpec.ofChange fnExactShadowedSpec)

/-- ITS FALSE NEIGHBOUR: 'it returns false'. Refute it at one input. -/
def fnExactShadowedWrong : ChangeSpec := { name := "fnExactShadowed", fn := fun _ => fun
  | [d] => { results := [.lit (.bool false)], args := [d] }
  | _ => none }
def FnExactShadowedWrongFalsely : Prop := fnExactShadowedRow.holds Try.pinned (OpenSpec.ofChange fnExactShadowedWrong)

/-- 'laws.FnExactOnlyFor': WHATEVER THE INPUT: true; the input reads as it did. -/
def fnExactOnlyForSpec : ChangeSpec := { name := "fnExactOnlyFor", fn := fun _ => fun
  | [d1, d2] => { results := [.lit (.bool true)], args := [d1, d2] }
  | _ => none }
def fnExactOnlyForRow : OpenClaim := { program := "ythgmgbccgokfeaa", sum := "9ca41a924563b37606b8e334441c32b8630a797ee7d0812e8dfde1e6f529177c", func := "loop.example/g00397/laws.FnExactOnlyFor", spec := "fnExactOnlyFor", unfollowed := true, recurses := true, apart := false }
def FnExactOnlyForSaid : Prop := fnExactOnlyForRow.holds Try.pinned (OpenSpec.ofChange fnExactOnlyForSpec)

/-- ITS FALSE NEIGHBOUR: 'it returns false'. Refute it at one input. -/
def fnExactOnlyForWrong : ChangeSpec := { name := "fnExactOnlyFor", fn := fun _ => fun
  | [d1, d2] => { results := [.lit (.bool false)], args := [d1, d2] }
  | _ => none }
def FnExactOnlyForWrongFalsely : Prop := fnExactOnlyForRow.holds Try.pinned (OpenSpec.ofChange fnExactOnlyForWrong)

/-- 'laws.FnExactUnshadowed': WHATEVER THE INPUT: true; the input reads as it did. -/
def fnExactUnshadowedSpec : ChangeSpec := { name := "fnExactUnshadowed", fn := fun _ => fun
  | [d] => { results := [.lit (.bool true)], args := [d] }
  | _ => none }
def fnExactUnshadowedRow : OpenClaim := { program := "ythgmgbccgokfeaa", sum := "9ca41a924563b37606b8e334441c32b8630a797ee7d0812e8dfde1e6f529177c", func := "loop.example/g00397/laws.FnExactUnshadowed", spec := "fnExactUnshadowed", unfollowed := true, recurses := true, apart := false }
def FnExactUnshadowedSaid : Prop := fnExactUnshadowedRow.holds Try.pinned (OpenSpec.ofChange fnExactUnshadowedSpec)

/-- ITS FALSE NEIGHBOUR: 'it returns false'. Refute it at one input. -/
def fnExactUnshadowedWrong : ChangeSpec := { name := "fnExactUnshadowed", fn := fun _ => fun
  | [d] => { results := [.lit (.bool false)], args := [d] }
  | _ => none }
def FnExactUnshadowedWrongFalsely : Prop := fnExactUnshadowedRow.holds Try.pinned (OpenSpec.ofChange fnExactUnshadowedWrong)

/-- 'laws.FnExactLessened': WHATEVER THE INPUT: true; the input reads as it did. -/
def fnExactLessenedSpec : ChangeSpec := { name := "fnExactLessened", fn := fun _ => fun
  | [d] => { results := [.lit (.bool true)], args := [d] }
  | _ => none }
def fnExactLessenedRow : OpenClaim := { program := "ythgmgbccgokfeaa", sum := "9ca41a924563b37606b8e334441c32b8630a797ee7d0812e8dfde1e6f529177c", func := "loop.example/g00397/laws.FnExactLessened", spec := "fnExactLessened", unfollowed := true, recurses := true, apart := false }
def FnExactLessenedSaid : Prop := fnExactLessenedRow.holds Try.pinned (OpenSpec.ofChange fnExactLessenedSpec)

/-- ITS FALSE NEIGHBOUR: 'it returns false'. Refute it at one input. -/
def fnExactLessenedWrong : ChangeSpec := { name := "fnExactLessened", fn := fun _ => fun
  | [d] => { results := [.lit (.bool false)], args := [d] }
  | _ => none }
def FnExactLessenedWrongFalsely : Prop := fnExactLessenedRow.holds Try.pinned (OpenSpec.ofChange fnExactLessenedWrong)

/-- 'laws.FnFrames': WHATEVER THE INPUT: true; the input reads as it did. -/
def fnFramesSpec : ChangeSpec := { name := "fnFrames", fn := fun _ => fun
  | [d] => { results := [.lit (.bool true)], args := [d] }
  | _ => none }
def fnFramesRow : OpenClaim := { program := "ythgmgbccgokfeaa", sum := "9ca41a924563b37606b8e334441c32b8630a797ee7d0812e8dfde1e6f529177c", func := "loop.example/g00397/laws.FnFrames", spec := "fnFrames", apart := false }
def FnFramesSaid : Prop := fnFramesRow.holds Try.pinned (OpenSpec.ofChange fnFramesSpec)

/-- ITS FALSE NEIGHBOUR: 'it returns false'. Refute it at one input. -/
def fnFramesWrong : ChangeSpec := { name := "fnFrames", fn := fun _ => fun
  | [d] => { results := [.lit (.bool false)], args := [d] }
  | _ => none }
def FnFramesWrongFalsely : Prop := fnFramesRow.holds Try.pinned (OpenSpec.ofChange fnFramesWrong)

/- THE SECOND FORM. 'bulk': how many values and letters a reading holds, each counted each time it is reached (what is shared counts as often as it is met; a slice's spare places count too). A statement '..UptoSaid' is the law's where the arguments, and the package variables that the reading takes, are together of bulk at most 1048576: NARROWER than '..Said'. Prove '..Said' where nothing that the law and all that it calls make is longer than what came in: it says more and counts as full. Else prove '..UptoSaid'. A law counts once. -/
mutual
def uptoBulk {H : Type} : DataW H → Nat
  | .lit (.string bytes) => bytes.length + 1
  | .lit _ => 1
  | .nil => 1
  | .ptr d => uptoBulk d + 1
  | .slice elems spare => uptoBulkAll elems + uptoBulkAll spare + 1
  | .agg parts => uptoBulkAll parts + 1
  | .iface _ d => uptoBulk d + 1
  | .map entries => uptoBulkEntries entries + 1
  | .held _ => 1
def uptoBulkAll {H : Type} : List (DataW H) → Nat
  | [] => 0
  | d :: r => uptoBulk d + uptoBulkAll r
def uptoBulkEntries {H : Type} : List (Lit × DataW H) → Nat
  | [] => 0
  | x :: r => uptoBulkEntry x + uptoBulkEntries r
def uptoBulkEntry {H : Type} : Lit × DataW H → Nat
  | (.string bytes, d) => bytes.length + uptoBulk d + 1
  | (_, d) => uptoBulk d + 1
 end
def uptoSmall : (H : Type) → List (DataW H) → Bool := fun _ ds => decide (uptoBulkAll ds ≤ 1048576)
def OpenSpec.upto (s : _root_.Go.ChangeSpec) : _root_.Go.OpenSpec := { _root_.Go.OpenSpec.ofChange s with cond := some uptoSmall }

/-- 'laws.FnExactShadowed', WHERE WHAT IT READS IS OF BULK AT MOST 1048576: true; the input reads as it did. -/
def fnExactShadowedUptoRow : OpenClaim := { program := "ythgmgbccgokfeaa", sum := "9ca41a924563b37606b8e334441c32b8630a797ee7d0812e8dfde1e6f529177c", func := "loop.example/g00397/laws.FnExactShadowed", spec := "fnExactShadowed", unfollowed := true, recurses := true, apart := false, narrowed := true }
def FnExactShadowedUptoSaid : Prop := fnExactShadowedUptoRow.holds Try.pinned (OpenSpec.upto fnExactShadowedSpec)

/-- 'laws.FnExactOnlyFor', WHERE WHAT IT READS IS OF BULK AT MOST 1048576: true; the input reads as it did. -/
def fnExactOnlyForUptoRow : OpenClaim := { program := "ythgmgbccgokfeaa", sum := "9ca41a924563b37606b8e334441c32b8630a797ee7d0812e8dfde1e6f529177c", func := "loop.example/g00397/laws.FnExactOnlyFor", spec := "fnExactOnlyFor", unfollowed := true, recurses := true, apart := false, narrowed := true }
def FnExactOnlyForUptoSaid : Prop := fnExactOnlyForUptoRow.holds Try.pinned (OpenSpec.upto fnExactOnlyForSpec)

/-- 'laws.FnExactUnshadowed', WHERE WHAT IT READS IS OF BULK AT MOST 1048576: true; the input reads as it did. -/
def fnExactUnshadowedUptoRow : OpenClaim := { program := "ythgmgbccgokfeaa", sum := "9ca41a924563b37606b8e334441c32b8630a797ee7d0812e8dfde1e6f529177c", func := "loop.example/g00397/laws.FnExactUnshadowed", spec := "fnExactUnshadowed", unfollowed := true, recurses := true, apart := false, narrowed := true }
def FnExactUnshadowedUptoSaid : Prop := fnExactUnshadowedUptoRow.holds Try.pinned (OpenSpec.upto fnExactUnshadowedSpec)

/-- 'laws.FnExactLessened', WHERE WHAT IT READS IS OF BULK AT MOST 1048576: true; the input reads as it did. -/
def fnExactLessenedUptoRow : OpenClaim := { program := "ythgmgbccgokfeaa", sum := "9ca41a924563b37606b8e334441c32b8630a797ee7d0812e8dfde1e6f529177c", func := "loop.example/g00397/laws.FnExactLessened", spec := "fnExactLessened", unfollowed := true, recurses := true, apart := false, narrowed := true }
def FnExactLessenedUptoSaid : Prop := fnExactLessenedUptoRow.holds Try.pinned (OpenSpec.upto fnExactLessenedSpec)

/-- 'laws.FnFrames', WHERE WHAT IT READS IS OF BULK AT MOST 1048576: true; the input reads as it did. -/
def fnFramesUptoRow : OpenClaim := { program := "ythgmgbccgokfeaa", sum := "9ca41a924563b37606b8e334441c32b8630a797ee7d0812e8dfde1e6f529177c", func := "loop.example/g00397/laws.FnFrames", spec := "fnFrames", apart := false, narrowed := true }
def FnFramesUptoSaid : Prop := fnFramesUptoRow.holds Try.pinned (OpenSpec.upto fnFramesSpec)

end Rows
end Go.Proofs.Ythgmgbccgokfeaa
