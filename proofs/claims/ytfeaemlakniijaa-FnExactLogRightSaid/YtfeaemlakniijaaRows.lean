/-
  No cell of these rows narrows 'for every input' (looked for: loops, veiled, ifaces, maps, wideKeys, modest, calm, conditions, laid).
  DERIVED. THE GIVEN ROWS OF THIS SEAT. 5 by the template 'for every input the law returns true; each argument reads behind the call as it read before'; 0 by the template 'total and deterministic' (their statements: YtfeaemlakniijaaTotals.lean).
  GIVEN WITH THE SEED: the statements are not yours to turn. If you find one false, say at which input.
  Laid BY PROGRAM, IN A SANDBOX (cutbox-rows.mjs): the forced cells as the released guide's own fill.sh prints them over the translation add1ee8ad3faa730… (all of the seat's roots in one cut). By AI agents, Wed Nov 11 2026. No macro, syntax, notation, axiom, sorry.
-/
import Derived.Test.YtfeaemlakniijaaChecked
import GoSem.Claim
import GoSem.ClaimJoined
import GoSem.ClaimMapViews
import Derived.JoinedTies
import Derived.KernelRfl
namespace Go.Proofs.Ytfeaemlakniijaa
/- THE CELL 'sum', in the pinned program and in every row, IS THE sha256 OF THE DUMP (.gsa) THAT YtfeaemlakniijaaProg.lean LOADS. Nothing in Lean hashes anything: it is a label: what it is worth is what the hold of that sum in a sandbox is worth. -/
noncomputable def Try.pinned : Pinned := { name := "ytfeaemlakniijaa", sum := "add1ee8ad3faa7306e9ad11d21b35b90240e8e32d1a9d32975437d41d57381f6", checked := Try.checked }
namespace Rows
def none {H : Type} : Left H := { results := [], args := [] }

/-- 'laws.FnKeeps': WHATEVER THE INPUT: true; the input reads as it did. -/
def fnKeepsSpec : ChangeSpec := { name := "fnKeeps", fn := fun _ => fun
  | [d] => { results := [.lit (.bool true)], args := [d] }
  | _ => none }
def fnKeepsRow : OpenClaim := { program := "ytfeaemlakniijaa", sum := "add1ee8ad3faa7306e9ad11d21b35b90240e8e32d1a9d32975437d41d57381f6", func := "loop.example/g00397/laws.FnKeeps", spec := "fnKeeps", apart := false }
def FnKeepsSaid : Prop := fnKeepsRow.holds Try.pinned (OpenSpec.ofChange fnKeepsSpec)

/-- ITS FALSE NEIGHBOUR: 'it returns false'. Refute it at one input. -/
def fnKeepsWrong : ChangeSpec := { name := "fnKeeps", fn := fun _ => fun
  | [d] => { results := [.lit (.bool false)], args := [d] }
  | _ => none }
def FnKeepsWrongFalsely : Prop := fnKeepsRow.holds Try.pinned (OpenSpec.ofChange fnKeepsWrong)

/-- 'laws.FnKeepsTold': WHATEVER THE INPUT: true; the input reads as it did. -/
def fnKeepsToldSpec : ChangeSpec := { name := "fnKeepsTold", fn := fun _ => fun
  | [d] => { results := [.lit (.bool true)], args := [d] }
  | _ => none }
def fnKeepsToldRow : OpenClaim := { program := "ytfeaemlakniijaa", sum := "add1ee8ad3faa7306e9ad11d21b35b90240e8e32d1a9d32975437d41d57381f6", func := "loop.example/g00397/laws.FnKeepsTold", spec := "fnKeepsTold", apart := false }
def FnKeepsToldSaid : Prop := fnKeepsToldRow.holds Try.pinned (OpenSpec.ofChange fnKeepsToldSpec)

/-- ITS FALSE NEIGHBOUR: 'it returns false'. Refute it at one input. -/
def fnKeepsToldWrong : ChangeSpec := { name := "fnKeepsTold", fn := fun _ => fun
  | [d] => { results := [.lit (.bool false)], args := [d] }
  | _ => none }
def FnKeepsToldWrongFalsely : Prop := fnKeepsToldRow.holds Try.pinned (OpenSpec.ofChange fnKeepsToldWrong)

/-- 'laws.FnExactLogRight': WHATEVER THE INPUT: true; the input reads as it did. -/
def fnExactLogRightSpec : ChangeSpec := { name := "fnExactLogRight", fn := fun _ => fun
  | [d] => { results := [.lit (.bool true)], args := [d] }
  | _ => none }
def fnExactLogRightRow : OpenClaim := { program := "ytfeaemlakniijaa", sum := "add1ee8ad3faa7306e9ad11d21b35b90240e8e32d1a9d32975437d41d57381f6", func := "loop.example/g00397/laws.FnExactLogRight", spec := "fnExactLogRight", apart := false }
def FnExactLogRightSaid : Prop := fnExactLogRightRow.holds Try.pinned (OpenSpec.ofChange fnExactLogRightSpec)

/-- ITS FALSE NEIGHBOUR: 'it returns false'. Refute it at one input. -/
def fnExactLogRightWrong : ChangeSpec := { name := "fnExactLogRight", fn := fun _ => fun
  | [d] => { results := [.lit (.bool false)], args := [d] }
  | _ => none }
def FnExactLogRightWrongFalsely : Prop := fnExactLogRightRow.holds Try.pinned (OpenSpec.ofChange fnExactLogRightWrong)

/-- 'laws.FnSenders': WHATEVER THE INPUT: true; the input reads as it did. -/
def fnSendersSpec : ChangeSpec := { name := "fnSenders", fn := fun _ => fun
  | [d] => { results := [.lit (.bool true)], args := [d] }
  | _ => none }
def fnSendersRow : OpenClaim := { program := "ytfeaemlakniijaa", sum := "add1ee8ad3faa7306e9ad11d21b35b90240e8e32d1a9d32975437d41d57381f6", func := "loop.example/g00397/laws.FnSenders", spec := "fnSenders", apart := false }
def FnSendersSaid : Prop := fnSendersRow.holds Try.pinned (OpenSpec.ofChange fnSendersSpec)

/-- ITS FALSE NEIGHBOUR: 'it returns false'. Refute it at one input. -/
def fnSendersWrong : ChangeSpec := { name := "fnSenders", fn := fun _ => fun
  | [d] => { results := [.lit (.bool false)], args := [d] }
  | _ => none }
def FnSendersWrongFalsely : Prop := fnSendersRow.holds Try.pinned (OpenSpec.ofChange fnSendersWrong)

/-- 'laws.FnFrames': WHATEVER THE INPUT: true; the input reads as it did. -/
def fnFramesSpec : ChangeSpec := { name := "fnFrames", fn := fun _ => fun
  | [d] => { results := [.lit (.bool true)], args := [d] }
  | _ => none }
def fnFramesRow : OpenClaim := { program := "ytfeaemlakniijaa", sum := "add1ee8ad3faa7306e9ad11d21b35b90240e8e32d1a9d32975437d41d57381f6", func := "loop.example/g00397/laws.FnFrames", spec := "fnFrames", apart := false }
def FnFramesSaid : Prop := fnFramesRow.holds Try.pinned (OpenSpec.ofChange fnFramesSpec)

/-- ITS FALSE NEIGHBOUR: 'it returns false'. Refute it at one input. -/
def fnFramesWrong : ChangeSpec := { name := "fnFrames", fn := fun _ => fun
  | [d] => { results := [.lit (.bool false)], args := [d] }
  | _ => none }
def FnFramesWrongFalsely : Prop := fnFramesRow.holds Try.pinned (OpenSpec.ofChange fnFramesWrong)

/- THE SECOND FORM. 'bulk': how many values and letters a reading holds, each counted each time it is reached (what is shared counts as often as it is met; a slice's spare places count too). A statement '..UptoSaid' is the law's where the arguments, and the package variables that the reading takes, are together of bulk at most 1048576: NARROWER than '..Said'. Prove '..Said' where nothing that the law and all that it calls make is longer than what came in: it says more and counts as full. Else prove '..UptoSaid'. A law counts once. -/
mutual
def uptoBulk {H : Type} : DataW H → Nat
  | .lit (.string bytes) => bytes.length + 1
  | .lit _ => 1
  | .nil => 1
  | .ptr d => uptoBulk d + 1
  | .slice elems spare => uptoBulkAll elems + uptoBulkAll spare + 1
  | .agg parts => uptoBulkAll parts + 1
  | .iface _ d => uptoBulk d + 1
  | .map entries => uptoBulkEntries entries + 1
  | .held _ => 1
def uptoBulkAll {H : Type} : List (DataW H) → Nat
  | [] => 0
  | d :: r => uptoBulk d + uptoBulkAll r
def uptoBulkEntries {H : Type} : List (Lit × DataW H) → Nat
  | [] => 0
  | x :: r => uptoBulkEntry x + uptoBulkEntries r
def uptoBulkEntry {H : Type} : Lit × DataW H → Nat
  | (.string bytes, d) => bytes.length + uptoBulk d + 1
  | (_, d) => uptoBulk d + 1
 end
def uptoSmall : (H : Type) → List (DataW H) → Bool := fun _ ds => decide (uptoBulkAll ds ≤ 1048576)
def OpenSpec.upto (s : _root_.Go.ChangeSpec) : _root_.Go.OpenSpec := { _root_.Go.OpenSpec.ofChange s with cond := some uptoSmall }

/-- 'laws.FnKeeps', WHERE WHAT IT READS IS OF BULK AT MOST 1048576: true; the input reads as it did. -/
def fnKeepsUptoRow : OpenClaim := { program := "ytfeaemlakniijaa", sum := "add1ee8ad3faa7306e9ad11d21b35b90240e8e32d1a9d32975437d41d57381f6", func := "loop.example/g00397/laws.FnKeeps", spec := "fnKeeps", apart := false, narrowed := true }
def FnKeepsUptoSaid : Prop := fnKeepsUptoRow.holds Try.pinned (OpenSpec.upto fnKeepsSpec)

/-- 'laws.FnKeepsTold', WHERE WHAT IT READS IS OF BULK AT MOST 1048576: true; the input reads as it did. -/
def fnKeepsToldUptoRow : OpenClaim := { program := "ytfeaemlakniijaa", sum := "add1ee8ad3faa7306e9ad11d21b35b90240e8e32d1a9d32975437d41d57381f6", func := "loop.example/g00397/laws.FnKeepsTold", spec := "fnKeepsTold", apart := false, narrowed := true }
def FnKeepsToldUptoSaid : Prop := fnKeepsToldUptoRow.holds Try.pinned (OpenSpec.upto fnKeepsToldSpec)

/-- 'laws.FnExactLogRight', WHERE WHAT IT READS IS OF BULK AT MOST 1048576: true; the input reads as it did. -/
def fnExactLogRightUptoRow : OpenClaim := { program := "ytfeaemlakniijaa", sum := "add1ee8ad3faa7306e9ad11d21b35b90240e8e32d1a9d32975437d41d57381f6", func := "loop.example/g00397/laws.FnExactLogRight", spec := "fnExactLogRight", apart := false, narrowed := true }
def FnExactLogRightUptoSaid : Prop := fnExactLogRightUptoRow.holds Try.pinned (OpenSpec.upto fnExactLogRightSpec)

/-- 'laws.FnSenders', WHERE WHAT IT READS IS OF BULK AT MOST 1048576: true; the input reads as it did. -/
def fnSendersUptoRow : OpenClaim := { program := "ytfeaemlakniijaa", sum := "add1ee8ad3faa7306e9ad11d21b35b90240e8e32d1a9d32975437d41d57381f6", func := "loop.example/g00397/laws.FnSenders", spec := "fnSenders", apart := false, narrowed := true }
def FnSendersUptoSaid : Prop := fnSendersUptoRow.holds Try.pinned (OpenSpec.upto fnSendersSpec)

/-- 'laws.FnFrames', WHERE WHAT IT READS IS OF BULK AT MOST 1048576: true; the input reads as it did. -/
def fnFramesUptoRow : OpenClaim := { program := "ytfeaemlakniijaa", sum := "add1ee8ad3faa7306e9ad11d21b35b90240e8e32d1a9d32975437d41d57381f6", func := "loop.example/g00397/laws.FnFrames", spec := "fnFrames", apart := false, narrowed := true }
def FnFramesUptoSaid : Prop := fnFramesUptoRow.holds Try.pinned (OpenSpec.upto fnFramesSpec)

end Rows
end Go.Proofs.Ytfeaemlakniijaa
