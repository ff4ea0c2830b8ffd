/-
  No cell of these rows narrows 'for every input' (looked for: loops, veiled, ifaces, maps, wideKeys, modest, calm, conditions, laid).
  DERIVED. THE GIVEN ROWS OF THIS SEAT. 11 by the template 'for every input the law returns true; each argument reads behind the call as it read before'; 0 by the template 'total and deterministic' (their statements: YthdeicbkimlnhaaTotals.lean).
  GIVEN WITH THE SEED: the statements are not yours to turn. If you find one false, say at which input.
  Laid BY PROGRAM, IN A SANDBOX (cutbox-rows.mjs): the forced cells as the released guide's own fill.sh prints them over the translation e95e40bb82ebad94… (all of the seat's roots in one cut). By AI agents, Wed Nov 11 2026. No macro, syntax, notation, axiom, sorry.
-/
import Derived.Test.YthdeicbkimlnhaaChecked
import GoSem.Claim
import GoSem.ClaimJoined
import GoSem.ClaimMapViews
import Derived.JoinedTies
import Derived.KernelRfl
namespace Go.Proofs.Ythdeicbkimlnhaa
/- THE CELL 'sum', in the pinned program and in every row, IS THE sha256 OF THE DUMP (.gsa) THAT YthdeicbkimlnhaaProg.lean LOADS. Nothing in Lean hashes anything: it is a label: what it is worth is what the hold of that sum in a sandbox is worth. -/
noncomputable def Try.pinned : Pinned := { name := "ythdeicbkimlnhaa", sum := "e95e40bb82ebad94dde810dc6074548bc0cea0ba5e2086c3f6bff570cf51419e", checked := Try.checked }
namespace Rows
def none {H : Type} : Left H := { results := [], args := [] }

/-- 'laws.FnSenders': WHATEVER THE INPUT: true; the input reads as it did. -/
def fnSendersSpec : ChangeSpec := { name := "fnSenders", fn := fun _ => fun
  | [d] => { results := [.lit (.bool true)], args := [d] }
  | _ => none }
def fnSendersRow : OpenClaim := { program := "ythdeicbkimlnhaa", sum := "e95e40bb82ebad94dde810dc6074548bc0cea0ba5e2086c3f6bff570cf51419e", func := "loop.example/g00397/laws.FnSenders", spec := "fnSenders", apart := false }
def FnSendersSaid : Prop := fnSendersRow.holds Try.pinned (OpenSpec.ofChange fnSendersSpec)

/-- ITS FALSE NEIGHBOUR: 'it returns false'. Refute it at one input. -/
def fnSendersWrong : ChangeSpec := { name := "fnSenders", fn := fun _ => fun
  | [d] => { results := [.lit (.bool false)], args := [d] }
  | _ => none }
def FnSendersWrongFalsely : Prop := fnSendersRow.holds Try.pinned (OpenSpec.ofChange fnSendersWrong)

/-- 'laws.FnExactKeeperOk': WHATEVER THE INPUT: true; the input reads as it did. -/
def fnExactKeeperOkSpec : ChangeSpec := { name := "fnExactKeeperOk", fn := fun _ => fun
  | [d] => { results := [.lit (.bool true)], args := [d] }
  | _ => none }
def fnExactKeeperOkRow : OpenClaim := { program := "ythdeicbkimlnhaa", sum := "e95e40bb82ebad94dde810dc6074548bc0cea0ba5e2086c3f6bff570cf51419e", func := "loop.example/g00397/laws.FnExactKeeperOk", spec := "fnExactKeeperOk", apart := false }
def FnExactKeeperOkSaid : Prop := fnExactKeeperOkRow.holds Try.pinned (OpenSpec.ofChange fnExactKeeperOkSpec)

/-- ITS FALSE NEIGHBOUR: 'it returns false'. Refute it at one input. -/
def fnExactKeeperOkWrong : ChangeSpec := { name := "fnExactKeeperOk", fn := fun _ => fun
  | [d] => { results := [.lit (.bool false)], args := [d] }
  | _ => none }
def FnExactKeeperOkWrongFalsely : Prop := fnExactKeeperOkRow.holds Try.pinned (OpenSpec.ofChange fnExactKeeperOkWrong)

/-- 'laws.FnKeeps': WHATEVER THE INPUT: true; the input reads as it did. -/
def fnKeepsSpec : ChangeSpec := { name := "fnKeeps", fn := fun _ => fun
  | [d] => { results := [.lit (.bool true)], args := [d] }
  | _ => none }
def fnKeepsRow : OpenClaim := { program := "ythdeicbkimlnhaa", sum := "e95e40bb82ebad94dde810dc6074548bc0cea0ba5e2086c3f6bff570cf51419e", func := "loop.example/g00397/laws.FnKeeps", spec := "fnKeeps", apart := false }
def FnKeepsSaid : Prop := fnKeepsRow.holds Try.pinned (OpenSpec.ofChange fnKeepsSpec)

/-- ITS FALSE NEIGHBOUR: 'it returns false'. Refute it at one input. -/
def fnKeepsWrong : ChangeSpec := { name := "fnKeeps", fn := fun _ => fun
  | [d] => { results := [.lit (.bool false)], args := [d] }
  | _ => none }
def FnKeepsWrongFalsely : Prop := fnKeepsRow.holds Try.pinned (OpenSpec.ofChange fnKeepsWrong)

/-- 'laws.FnFrames': WHATEVER THE INPUT: true; the input reads as it did. -/
def fnFramesSpec : ChangeSpec := { name := "fnFrames", fn := fun _ => fun
  | [d] => { results := [.lit (.bool true)], args := [d] }
  | _ => none }
def fnFramesRow : OpenClaim := { program := "ythdeicbkimlnhaa", sum := "e95e40bb82ebad94dde810dc6074548bc0cea0ba5e2086c3f6bff570cf51419e", func := "loop.example/g00397/laws.FnFrames", spec := "fnFrames", apart := false }
def FnFramesSaid : Prop := fnFramesRow.holds Try.pinned (OpenSpec.ofChange fnFramesSpec)

/-- ITS FALSE NEIGHBOUR: 'it returns false'. Refute it at one input. -/
def fnFramesWrong : ChangeSpec := { name := "fnFrames", fn := fun _ => fun
  | [d] => { results := [.lit (.bool false)], args := [d] }
  | _ => none }
def FnFramesWrongFalsely : Prop := fnFramesRow.holds Try.pinned (OpenSpec.ofChange fnFramesWrong)

/-- 'laws.FnExactReadLog': WHATEVER THE INPUT: true; the input reads as it did. -/
def fnExactReadLogSpec : ChangeSpec := { name := "fnExactReadLog", fn := fun _ => fun
  | [d] => { results := [.lit (.bool true)], args := [d] }
  | _ => none }
def fnExactReadLogRow : OpenClaim := { program := "ythdeicbkimlnhaa", sum := "e95e40bb82ebad94dde810dc6074548bc0cea0ba5e2086c3f6bff570cf51419e", func := "loop.example/g00397/laws.FnExactReadLog", spec := "fnExactReadLog", apart := false }
def FnExactReadLogSaid : Prop := fnExactReadLogRow.holds Try.pinned (OpenSpec.ofChange fnExactReadLogSpec)

/-- ITS FALSE NEIGHBOUR: 'it returns false'. Refute it at one input. -/
def fnExactReadLogWrong : ChangeSpec := { name := "fnExactReadLog", fn := fun _ => fun
  | [d] => { results := [.lit (.bool false)], args := [d] }
  | _ => none }
def FnExactReadLogWrongFalsely : Prop := fnExactReadLogRow.holds Try.pinned (OpenSpec.ofChange fnExactReadLogWrong)

/-- 'laws.FnSendersTold': WHATEVER THE INPUT: true; the input reads as it did. -/
def fnSendersToldSpec : ChangeSpec := { name := "fnSendersTold", fn := fun _ => fun
  | [d] => { results := [.lit (.bool true)], args := [d] }
  | _ => none }
def fnSendersToldRow : OpenClaim := { program := "ythdeicbkimlnhaa", sum := "e95e40bb82ebad94dde810dc6074548bc0cea0ba5e2086c3f6bff570cf51419e", func := "loop.example/g00397/laws.FnSendersTold", spec := "fnSendersTold", apart := false }
def FnSendersToldSaid : Prop := fnSendersToldRow.holds Try.pinned (OpenSpec.ofChange fnSendersToldSpec)

/-- ITS FALSE NEIGHBOUR: 'it returns false'. Refute it at one input. -/
def fnSendersToldWrong : ChangeSpec := { name := "fnSendersTold", fn := fun _ => fun
  | [d] => { results := [.lit (.bool false)], args := [d] }
  | _ => none }
def FnSendersToldWrongFalsely : Prop := fnSendersToldRow.holds Try.pinned (OpenSpec.ofChange fnSendersToldWrong)

/-- 'laws.FnExactShadowed': WHATEVER THE INPUT: true; the input reads as it did. -/
def fnExactShadowedSpec : ChangeSpec := { name := "fnExactShadowed", fn := fun _ => fun
  | [d] => { results := [.lit (.bool true)], args := [d] }
  | _ => none }
def fnExactShadowedRow : OpenClaim := { program := "ythdeicbkimlnhaa", sum := "e95e40bb82ebad94dde810dc6074548bc0cea0ba5e2086c3f6bff570cf51419e", func := "loop.example/g00397/laws.FnExactShadowed", spec := "fnExactShadowed", unfollowed := true, recurses := true, apart := false }
def FnExactShadowedSaid : Prop := fnExactShadowedRow.holds Try.pinned (OpenSpec.ofChange fnExactShadowedSpec)

/-- ITS FALSE NEIGHBOUR: 'it returns false'. Refute it at one input. -/
def fnExactShadowedWrong : ChangeSpec := { name := "fnExactShadowed", fn := fun _ => fun
  | [d] => { results := [.lit (.bool false)], args := [d] }
  | _ => none }
def FnExactShadowedWrongFalsely : Prop := fnExactShadowedRow.holds Try.pinned (OpenSpec.ofChange fnExactShadowedWrong)

/-- 'laws.FnKeepsTold': WHATEVER THE INPUT: true; the input reads as it did. -/
def fnKeepsToldSpec : ChangeSpec := { name := "fnKeepsTold", fn := fun _ => fun
  | [d] => { results := [.lit (.bool true)], args := [d] }
  | _ => none }
def fnKeepsToldRow : OpenClaim := { program := "ythdeicbkimlnhaa", sum := "e95e40bb82ebad94dde810dc6074548bc0cea0ba5e2086c3f6bff570cf51419e", func := "loop.example/g00397/laws.FnKeepsTold", spec := "fnKeepsTold", apart := false }
def FnKeepsToldSaid : Prop := fnKeepsToldRow.holds Try.pinned (OpenSpec.ofChange fnKeepsToldSpec)

/-- ITS FALSE NEIGHBOUR: 'it returns false'. Refute it at one input. -/
def fnKeepsToldWrong : ChangeSpec := { name := "fnKeepsTold", fn := fun _ => fun
  | [d] => { results := [.lit (.bool false)], args := [d] }
  | _ => none }
def FnKeepsToldWrongFalsely : Prop := fnKeepsToldRow.holds Try.pinned (OpenSpec.ofChange fnKeepsToldWrong)

/-- 'laws.FnExactOnlyFor': WHATEVER THE INPUT: true; the input reads as it did. -/
def fnExactOnlyForSpec : ChangeSpec := { name := "fnExactOnlyFor", fn := fun _ => fun
  | [d1, d2] => { results := [.lit (.bool true)], args := [d1, d2] }
  | _ => none }
def fnExactOnlyForRow : OpenClaim := { program := "ythdeicbkimlnhaa", sum := "e95e40bb82ebad94dde810dc6074548bc0cea0ba5e2086c3f6bff570cf51419e", func := "loop.example/g00397/laws.FnExactOnlyFor", spec := "fnExactOnlyFor", unfollowed := true, recurses := true, apart := false }
def FnExactOnlyForSaid : Prop := fnExactOnlyForRow.holds Try.pinned (OpenSpec.ofChange fnExactOnlyForSpec)

/-- ITS FALSE NEIGHBOUR: 'it returns false'. Refute it at one input. -/
def fnExactOnlyForWrong : ChangeSpec := { name := "fnExactOnlyFor", fn := fun _ => fun
  | [d1, d2] => { results := [.lit (.bool false)], args := [d1, d2] }
  | _ => none }
def FnExactOnlyForWrongFalsely : Prop := fnExactOnlyForRow.holds Try.pinned (OpenSpec.ofChange fnExactOnlyForWrong)

/-- 'laws.FnExactKept': WHATEVER THE INPUT: true; the input reads as it did. -/
def fnExactKeptSpec : ChangeSpec := { name := "fnExactKept", fn := fun _ => fun
  | [d1, d2] => { results := [.lit (.bool true)], args := [d1, d2] }
  | _ => none }
def fnExactKeptRow : OpenClaim := { program := "ythdeicbkimlnhaa", sum := "e95e40bb82ebad94dde810dc6074548bc0cea0ba5e2086c3f6bff570cf51419e", func := "loop.example/g00397/laws.FnExactKept", spec := "fnExactKept", apart := false }
def FnExactKeptSaid : Prop := fnExactKeptRow.holds Try.pinned (OpenSpec.ofChange fnExactKeptSpec)

/-- ITS FALSE NEIGHBOUR: 'it returns false'. Refute it at one input. -/
def fnExactKeptWrong : ChangeSpec := { name := "fnExactKept", fn := fun _ => fun
  | [d1, d2] => { results := [.lit (.bool false)], args := [d1, d2] }
  | _ => none }
def FnExactKeptWrongFalsely : Prop := fnExactKeptRow.holds Try.pinned (OpenSpec.ofChange fnExactKeptWrong)

/-- 'laws.FnExactUnshadowed': WHATEVER THE INPUT: true; the input reads as it did. -/
def fnExactUnshadowedSpec : ChangeSpec := { name := "fnExactUnshadowed", fn := fun _ => fun
  | [d] => { results := [.lit (.bool true)], args := [d] }
  | _ => none }
def fnExactUnshadowedRow : OpenClaim := { program := "ythdeicbkimlnhaa", sum := "e95e40bb82ebad94dde810dc6074548bc0cea0ba5e2086c3f6bff570cf51419e", func := "loop.example/g00397/laws.FnExactUnshadowed", spec := "fnExactUnshadowed", unfollowed := true, recurses := true, apart := false }
def FnExactUnshadowedSaid : Prop := fnExactUnshadowedRow.holds Try.pinned (OpenSpec.ofChange fnExactUnshadowedSpec)

/-- ITS FALSE NEIGHBOUR: 'it returns false'. Refute it at one input. -/
def fnExactUnshadowedWrong : ChangeSpec := { name := "fnExactUnshadowed", fn := fun _ => fun
  | [d] => { results := [.lit (.bool false)], args := [d] }
  | _ => none }
def FnExactUnshadowedWrongFalsely : Prop := fnExactUnshadowedRow.holds Try.pinned (OpenSpec.ofChange fnExactUnshadowedWrong)

/- THE SECOND FORM. 'bulk': how many values and letters a reading holds, each counted each time it is reached (what is shared counts as often as it is met; a slice's spare places count too). A statement '..UptoSaid' is the law's where the arguments, and the package variables that the reading takes, are together of bulk at most 1048576: NARROWER than '..Said'. Prove '..Said' where nothing that the law and all that it calls make is longer than what came in: it says more and counts as full. Else prove '..UptoSaid'. A law counts once. -/
mutual
def uptoBulk {H : Type} : DataW H → Nat
  | .lit (.string bytes) => bytes.length + 1
  | .lit _ => 1
  | .nil => 1
  | .ptr d => uptoBulk d + 1
  | .slice elems spare => uptoBulkAll elems + uptoBulkAll spare + 1
  | .agg parts => uptoBulkAll parts + 1
  | .iface _ d => uptoBulk d + 1
  | .map entries => uptoBulkEntries entries + 1
  | .held _ => 1
def uptoBulkAll {H : Type} : List (DataW H) → Nat
  | [] => 0
  | d :: r => uptoBulk d + uptoBulkAll r
def uptoBulkEntries {H : Type} : List (Lit × DataW H) → Nat
  | [] => 0
  | x :: r => uptoBulkEntry x + uptoBulkEntries r
def uptoBulkEntry {H : Type} : Lit × DataW H → Nat
  | (.string bytes, d) => bytes.length + uptoBulk d + 1
  | (_, d) => uptoBulk d + 1
 end
def uptoSmall : (H : Type) → List (DataW H) → Bool := fun _ ds => decide (uptoBulkAll ds ≤ 1048576)
def OpenSpec.upto (s : _root_.Go.ChangeSpec) : _root_.Go.OpenSpec := { _root_.Go.OpenSpec.ofChange s with cond := some uptoSmall }

/-- 'laws.FnSenders', WHERE WHAT IT READS IS OF BULK AT MOST 1048576: true; the input reads as it did. -/
def fnSendersUptoRow : OpenClaim := { program := "ythdeicbkimlnhaa", sum := "e95e40bb82ebad94dde810dc6074548bc0cea0ba5e2086c3f6bff570cf51419e", func := "loop.example/g00397/laws.FnSenders", spec := "fnSenders", apart := false, narrowed := true }
def FnSendersUptoSaid : Prop := fnSendersUptoRow.holds Try.pinned (OpenSpec.upto fnSendersSpec)

/-- 'laws.FnExactKeeperOk', WHERE WHAT IT READS IS OF BULK AT MOST 1048576: true; the input reads as it did. -/
def fnExactKeeperOkUptoRow : OpenClaim := { program := "ythdeicbkimlnhaa", sum := "e95e40bb82ebad94dde810dc6074548bc0cea0ba5e2086c3f6bff570cf51419e", func := "loop.example/g00397/laws.FnExactKeeperOk", spec := "fnExactKeeperOk", apart := false, narrowed := true }
def FnExactKeeperOkUptoSaid : Prop := fnExactKeeperOkUptoRow.holds Try.pinned (OpenSpec.upto fnExactKeeperOkSpec)

/-- 'laws.FnKeeps', WHERE WHAT IT READS IS OF BULK AT MOST 1048576: true; the input reads as it did. -/
def fnKeepsUptoRow : OpenClaim := { program := "ythdeicbkimlnhaa", sum := "e95e40bb82ebad94dde810dc6074548bc0cea0ba5e2086c3f6bff570cf51419e", func := "loop.example/g00397/laws.FnKeeps", spec := "fnKeeps", apart := false, narrowed := true }
def FnKeepsUptoSaid : Prop := fnKeepsUptoRow.holds Try.pinned (OpenSpec.upto fnKeepsSpec)

/-- 'laws.FnFrames', WHERE WHAT IT READS IS OF BULK AT MOST 1048576: true; the input reads as it did. -/
def fnFramesUptoRow : OpenClaim := { program := "ythdeicbkimlnhaa", sum := "e95e40bb82ebad94dde810dc6074548bc0cea0ba5e2086c3f6bff570cf51419e", func := "loop.example/g00397/laws.FnFrames", spec := "fnFrames", apart := false, narrowed := true }
def FnFramesUptoSaid : Prop := fnFramesUptoRow.holds Try.pinned (OpenSpec.upto fnFramesSpec)

/-- 'laws.FnExactReadLog', WHERE WHAT IT READS IS OF BULK AT MOST 1048576: true; the input reads as it did. -/
def fnExactReadLogUptoRow : OpenClaim := { program := "ythdeicbkimlnhaa", sum := "e95e40bb82ebad94dde810dc6074548bc0cea0ba5e2086c3f6bff570cf51419e", func := "loop.example/g00397/laws.FnExactReadLog", spec := "fnExactReadLog", apart := false, narrowed := true }
def FnExactReadLogUptoSaid : Prop := fnExactReadLogUptoRow.holds Try.pinned (OpenSpec.upto fnExactReadLogSpec)

/-- 'laws.FnSendersTold', WHERE WHAT IT READS IS OF BULK AT MOST 1048576: true; the input reads as it did. -/
def fnSendersToldUptoRow : OpenClaim := { program := "ythdeicbkimlnhaa", sum := "e95e40bb82ebad94dde810dc6074548bc0cea0ba5e2086c3f6bff570cf51419e", func := "loop.example/g00397/laws.FnSendersTold", spec := "fnSendersTold", apart := false, narrowed := true }
def FnSendersToldUptoSaid : Prop := fnSendersToldUptoRow.holds Try.pinned (OpenSpec.upto fnSendersToldSpec)

/-- 'laws.FnExactShadowed', WHERE WHAT IT READS IS OF BULK AT MOST 1048576: true; the input reads as it did. -/
def fnExactShadowedUptoRow : OpenClaim := { program := "ythdeicbkimlnhaa", sum := "e95e40bb82ebad94dde810dc6074548bc0cea0ba5e2086c3f6bff570cf51419e", func := "loop.example/g00397/laws.FnExactShadowed", spec := "fnExactShadowed", unfollowed := true, recurses := true, apart := false, narrowed := true }
def FnExactShadowedUptoSaid : Prop := fnExactShadowedUptoRow.holds Try.pinned (OpenSpec.upto fnExactShadowedSpec)

/-- 'laws.FnKeepsTold', WHERE WHAT IT READS IS OF BULK AT MOST 1048576: true; the input reads as it did. -/
def fnKeepsToldUptoRow : OpenClaim := { program := "ythdeicbkimlnhaa", sum := "e95e40bb82ebad94dde810dc6074548bc0cea0ba5e2086c3f6bff570cf51419e", func := "loop.example/g00397/laws.FnKeepsTold", spec := "fnKeepsTold", apart := false, narrowed := true }
def FnKeepsToldUptoSaid : Prop := fnKeepsToldUptoRow.holds Try.pinned (OpenSpec.upto fnKeepsToldSpec)

/-- 'laws.FnExactOnlyFor', WHERE WHAT IT READS IS OF BULK AT MOST 1048576: true; the input reads as it did. -/
def fnExactOnlyForUptoRow : OpenClaim := { program := "ythdeicbkimlnhaa", sum := "e95e40bb82ebad94dde810dc6074548bc0cea0ba5e2086c3f6bff570cf51419e", func := "loop.example/g00397/laws.FnExactOnlyFor", spec := "fnExactOnlyFor", unfollowed := true, recurses := true, apart := false, narrowed := true }
def FnExactOnlyForUptoSaid : Prop := fnExactOnlyForUptoRow.holds Try.pinned (OpenSpec.upto fnExactOnlyForSpec)

/-- 'laws.FnExactKept', WHERE WHAT IT READS IS OF BULK AT MOST 1048576: true; the input reads as it did. -/
def fnExactKeptUptoRow : OpenClaim := { program := "ythdeicbkimlnhaa", sum := "e95e40bb82ebad94dde810dc6074548bc0cea0ba5e2086c3f6bff570cf51419e", func := "loop.example/g00397/laws.FnExactKept", spec := "fnExactKept", apart := false, narrowed := true }
def FnExactKeptUptoSaid : Prop := fnExactKeptUptoRow.holds Try.pinned (OpenSpec.upto fnExactKeptSpec)

/-- 'laws.FnExactUnshadowed', WHERE WHAT IT READS IS OF BULK AT MOST 1048576: true; the input reads as it did. -/
def fnExactUnshadowedUptoRow : OpenClaim := { program := "ythdeicbkimlnhaa", sum := "e95e40bb82ebad94dde810dc6074548bc0cea0ba5e2086c3f6bff570cf51419e", func := "loop.example/g00397/laws.FnExactUnshadowed", spec := "fnExactUnshadowed", unfollowed := true, recurses := true, apart := false, narrowed := true }
def FnExactUnshadowedUptoSaid : Prop := fnExactUnshadowedUptoRow.holds Try.pinned (OpenSpec.upto fnExactUnshadowedSpec)

end Rows
end Go.Proofs.Ythdeicbkimlnhaa
