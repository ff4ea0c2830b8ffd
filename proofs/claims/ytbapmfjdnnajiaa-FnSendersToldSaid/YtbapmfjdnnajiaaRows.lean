/-
  No cell of these rows narrows 'for every input' (looked for: loops, veiled, ifaces, maps, wideKeys, modest, calm, conditions, laid).
  DERIVED. THE GIVEN ROWS OF THIS SEAT. 8 by the template 'for every input the law returns true; each argument reads behind the call as it read before'; 0 by the template 'total and deterministic' (their statements: YtbapmfjdnnajiaaTotals.lean).
  GIVEN WITH THE SEED: the statements are not yours to turn. If you find one false, say at which input.
  Laid BY PROGRAM, IN A SANDBOX (cutbox-rows.mjs): the forced cells as the released guide's own fill.sh prints them over the translation ea098620efd172b5… (all of the seat's roots in one cut). By AI agents, Wed Nov 11 2026. No macro, syntax, notation, axiom, sorry.
-/
import Derived.Test.YtbapmfjdnnajiaaChecked
import GoSem.Claim
import GoSem.ClaimJoined
import GoSem.ClaimMapViews
import Derived.JoinedTies
import Derived.KernelRfl
namespace Go.Proofs.Ytbapmfjdnnajiaa
/- THE CELL 'sum', in the pinned program and in every row, IS THE sha256 OF THE DUMP (.gsa) THAT YtbapmfjdnnajiaaProg.lean LOADS. Nothing in Lean hashes anything: it is a label: what it is worth is what the hold of that sum in a sandbox is worth. -/
noncomputable def Try.pinned : Pinned := { name := "ytbapmfjdnnajiaa", sum := "ea098620efd172b5f703d46a0fdef5ed7cceac0d42ba63d855950f62660046d8", checked := Try.checked }
namespace Rows
def none {H : Type} : Left H := { results := [], args := [] }

/-- 'laws.FnExactKeeperOk': WHATEVER THE INPUT: true; the input reads as it did. -/
def fnExactKeeperOkSpec : ChangeSpec := { name := "fnExactKeeperOk", fn := fun _ => fun
  | [d] => { results := [.lit (.bool true)], args := [d] }
  | _ => none }
def fnExactKeeperOkRow : OpenClaim := { program := "ytbapmfjdnnajiaa", sum := "ea098620efd172b5f703d46a0fdef5ed7cceac0d42ba63d855950f62660046d8", func := "loop.example/g00397/laws.FnExactKeeperOk", spec := "fnExactKeeperOk", apart := false }
def FnExactKeeperOkSaid : Prop := fnExactKeeperOkRow.holds Try.pinned (OpenSpec.ofChange fnExactKeeperOkSpec)

/-- ITS FALSE NEIGHBOUR: 'it returns false'. Refute it at one input. -/
def fnExactKeeperOkWrong : ChangeSpec := { name := "fnExactKeeperOk", fn := fun _ => fun
  | [d] => { results := [.lit (.bool false)], args := [d] }
  | _ => none }
def FnExactKeeperOkWrongFalsely : Prop := fnExactKeeperOkRow.holds Try.pinned (OpenSpec.ofChange fnExactKeeperOkWrong)

/-- 'laws.FnKeeps': WHATEVER THE INPUT: true; the input reads as it did. -/
def fnKeepsSpec : ChangeSpec := { name := "fnKeeps", fn := fun _ => fun
  | [d] => { results := [.lit (.bool true)], args := [d] }
  | _ => none }
def fnKeepsRow : OpenClaim := { program := "ytbapmfjdnnajiaa", sum := "ea098620efd172b5f703d46a0fdef5ed7cceac0d42ba63d855950f62660046d8", func := "loop.example/g00397/laws.FnKeeps", spec := "fnKeeps", apart := false }
def FnKeepsSaid : Prop := fnKeepsRow.holds Try.pinned (OpenSpec.ofChange fnKeepsSpec)

/-- ITS FALSE NEIGHBOUR: 'it returns false'. Refute it at one input. -/
def fnKeepsWrong : ChangeSpec := { name := "fnKeeps", fn := fun _ => fun
  | [d] => { results := [.lit (.bool false)], args := [d] }
  | _ => none }
def FnKeepsWrongFalsely : Prop := fnKeepsRow.holds Try.pinned (OpenSpec.ofChange fnKeepsWrong)

/-- 'laws.FnKeepsTold': WHATEVER THE INPUT: true; the input reads as it did. -/
def fnKeepsToldSpec : ChangeSpec := { name := "fnKeepsTold", fn := fun _ => fun
  | [d] => { results := [.lit (.bool true)], args := [d] }
  | _ => none }
def fnKeepsToldRow : OpenClaim := { program := "ytbapmfjdnnajiaa", sum := "ea098620efd172b5f703d46a0fdef5ed7cceac0d42ba63d855950f62660046d8", func := "loop.example/g00397/laws.FnKeepsTold", spec := "fnKeepsTold", apart := false }
def FnKeepsToldSaid : Prop := fnKeepsToldRow.holds Try.pinned (OpenSpec.ofChange fnKeepsToldSpec)

/-- ITS FALSE NEIGHBOUR: 'it returns false'. Refute it at one input. -/
def fnKeepsToldWrong : ChangeSpec := { name := "fnKeepsTold", fn := fun _ => fun
  | [d] => { results := [.lit (.bool false)], args := [d] }
  | _ => none }
def FnKeepsToldWrongFalsely : Prop := fnKeepsToldRow.holds Try.pinned (OpenSpec.ofChange fnKeepsToldWrong)

/-- 'laws.FnExactLogRight': WHATEVER THE INPUT: true; the input reads as it did. -/
def fnExactLogRightSpec : ChangeSpec := { name := "fnExactLogRight", fn := fun _ => fun
  | [d] => { results := [.lit (.bool true)], args := [d] }
  | _ => none }
def fnExactLogRightRow : OpenClaim := { program := "ytbapmfjdnnajiaa", sum := "ea098620efd172b5f703d46a0fdef5ed7cceac0d42ba63d855950f62660046d8", func := "loop.example/g00397/laws.FnExactLogRight", spec := "fnExactLogRight", apart := false }
def FnExactLogRightSaid : Prop := fnExactLogRightRow.holds Try.pinned (OpenSpec.ofChange fnExactLogRightSpec)

/-- ITS FALSE NEIGHBOUR: 'it returns false'. Refute it at one input. -/
def fnExactLogRightWrong : ChangeSpec := { name := "fnExactLogRight", fn := fun _ => fun
  | [d] => { results := [.lit (.bool false)], args := [d] }
  | _ => none }
def FnExactLogRightWrongFalsely : Prop := fnExactLogRightRow.holds Try.pinned (OpenSpec.ofChange fnExactLogRightWrong)

/-- 'laws.FnSenders': WHATEVER THE INPUT: true; the input reads as it did. -/
def fnSendersSpec : ChangeSpec := { name := "fnSenders", fn := fun _ => fun
  | [d] => { results := [.lit (.bool true)], args := [d] }
  | _ => none }
def fnSendersRow : OpenClaim := { program := "ytbapmfjdnnajiaa", sum := "ea098620efd172b5f703d46a0fdef5ed7cceac0d42ba63d855950f62660046d8", func := "loop.example/g00397/laws.FnSenders", spec := "fnSenders", apart := false }
def FnSendersSaid : Prop := fnSendersRow.holds Try.pinned (OpenSpec.ofChange fnSendersSpec)

/-- ITS FALSE NEIGHBOUR: 'it returns false'. Refute it at one input. -/
def fnSendersWrong : ChangeSpec := { name := "fnSenders", fn := fun _ => fun
  | [d] => { results := [.lit (.bool false)], args := [d] }
  | _ => none }
def FnSendersWrongFalsely : Prop := fnSendersRow.holds Try.pinned (OpenSpec.ofChange fnSendersWrong)

/-- 'laws.FnSendersTold': WHATEVER THE INPUT: true; the input reads as it did. -/
def fnSendersToldSpec : ChangeSpec := { name := "fnSendersTold", fn := fun _ => fun
  | [d] => { results := [.lit (.bool true)], args := [d] }
  | _ => none }
def fnSendersToldRow : OpenClaim := { program := "ytbapmfjdnnajiaa", sum := "ea098620efd172b5f703d46a0fdef5ed7cceac0d42ba63d855950f62660046d8", func := "loop.example/g00397/laws.FnSendersTold", spec := "fnSendersTold", apart := false }
def FnSendersToldSaid : Prop := fnSendersToldRow.holds Try.pinned (OpenSpec.ofChange fnSendersToldSpec)

/-- ITS FALSE NEIGHBOUR: 'it returns false'. Refute it at one input. -/
def fnSendersToldWrong : ChangeSpec := { name := "fnSendersTold", fn := fun _ => fun
  | [d] => { results := [.lit (.bool false)], args := [d] }
  | _ => none }
def FnSendersToldWrongFalsely : Prop := fnSendersToldRow.holds Try.pinned (OpenSpec.ofChange fnSendersToldWrong)

/-- 'laws.FnFrames': WHATEVER THE INPUT: true; the input reads as it did. -/
def fnFramesSpec : ChangeSpec := { name := "fnFrames", fn := fun _ => fun
  | [d] => { results := [.lit (.bool true)], args := [d] }
  | _ => none }
def fnFramesRow : OpenClaim := { program := "ytbapmfjdnnajiaa", sum := "ea098620efd172b5f703d46a0fdef5ed7cceac0d42ba63d855950f62660046d8", func := "loop.example/g00397/laws.FnFrames", spec := "fnFrames", apart := false }
def FnFramesSaid : Prop := fnFramesRow.holds Try.pinned (OpenSpec.ofChange fnFramesSpec)

/-- ITS FALSE NEIGHBOUR: 'it returns false'. Refute it at one input. -/
def fnFramesWrong : ChangeSpec := { name := "fnFrames", fn := fun _ => fun
  | [d] => { results := [.lit (.bool false)], args := [d] }
  | _ => none }
def FnFramesWrongFalsely : Prop := fnFramesRow.holds Try.pinned (OpenSpec.ofChange fnFramesWrong)

/-- 'laws.FnExactTaken': WHATEVER THE INPUT: true; the input reads as it did. -/
def fnExactTakenSpec : ChangeSpec := { name := "fnExactTaken", fn := fun _ => fun
  | [d1, d2, d3] => { results := [.lit (.bool true)], args := [d1, d2, d3] }
  | _ => none }
def fnExactTakenRow : OpenClaim := { program := "ytbapmfjdnnajiaa", sum := "ea098620efd172b5f703d46a0fdef5ed7cceac0d42ba63d855950f62660046d8", func := "loop.example/g00397/laws.FnExactTaken", spec := "fnExactTaken", apart := false }
def FnExactTakenSaid : Prop := fnExactTakenRow.holds Try.pinned (OpenSpec.ofChange fnExactTakenSpec)

/-- ITS FALSE NEIGHBOUR: 'it returns false'. Refute it at one input. -/
def fnExactTakenWrong : ChangeSpec := { name := "fnExactTaken", fn := fun _ => fun
  | [d1, d2, d3] => { results := [.lit (.bool false)], args := [d1, d2, d3] }
  | _ => none }
def FnExactTakenWrongFalsely : Prop := fnExactTakenRow.holds Try.pinned (OpenSpec.ofChange fnExactTakenWrong)

/- THE SECOND FORM. 'bulk': how many values and letters a reading holds, each counted each time it is reached (what is shared counts as often as it is met; a slice's spare places count too). A statement '..UptoSaid' is the law's where the arguments, and the package variables that the reading takes, are together of bulk at most 1048576: NARROWER than '..Said'. Prove '..Said' where nothing that the law and all that it calls make is longer than what came in: it says more and counts as full. Else prove '..UptoSaid'. A law counts once. -/
mutual
def uptoBulk {H : Type} : DataW H → Nat
  | .lit (.string bytes) => bytes.length + 1
  | .lit _ => 1
  | .nil => 1
  | .ptr d => uptoBulk d + 1
  | .slice elems spare => uptoBulkAll elems + uptoBulkAll spare + 1
  | .agg parts => uptoBulkAll parts + 1
  | .iface _ d => uptoBulk d + 1
  | .map entries => uptoBulkEntries entries + 1
  | .held _ => 1
def uptoBulkAll {H : Type} : List (DataW H) → Nat
  | [] => 0
  | d :: r => uptoBulk d + uptoBulkAll r
def uptoBulkEntries {H : Type} : List (Lit × DataW H) → Nat
  | [] => 0
  | x :: r => uptoBulkEntry x + uptoBulkEntries r
def uptoBulkEntry {H : Type} : Lit × DataW H → Nat
  | (.string bytes, d) => bytes.length + uptoBulk d + 1
  | (_, d) => uptoBulk d + 1
 end
def uptoSmall : (H : Type) → List (DataW H) → Bool := fun _ ds => decide (uptoBulkAll ds ≤ 1048576)
def OpenSpec.upto (s : _root_.Go.ChangeSpec) : _root_.Go.OpenSpec := { _root_.Go.OpenSpec.ofChange s with cond := some uptoSmall }

/-- 'laws.FnExactKeeperOk', WHERE WHAT IT READS IS OF BULK AT MOST 1048576: true; the input reads as it did. -/
def fnExactKeeperOkUptoRow : OpenClaim := { program := "ytbapmfjdnnajiaa", sum := "ea098620efd172b5f703d46a0fdef5ed7cceac0d42ba63d855950f62660046d8", func := "loop.example/g00397/laws.FnExactKeeperOk", spec := "fnExactKeeperOk", apart := false, narrowed := true }
def FnExactKeeperOkUptoSaid : Prop := fnExactKeeperOkUptoRow.holds Try.pinned (OpenSpec.upto fnExactKeeperOkSpec)

/-- 'laws.FnKeeps', WHERE WHAT IT READS IS OF BULK AT MOST 1048576: true; the input reads as it did. -/
def fnKeepsUptoRow : OpenClaim := { program := "ytbapmfjdnnajiaa", sum := "ea098620efd172b5f703d46a0fdef5ed7cceac0d42ba63d855950f62660046d8", func := "loop.example/g00397/laws.FnKeeps", spec := "fnKeeps", apart := false, narrowed := true }
def FnKeepsUptoSaid : Prop := fnKeepsUptoRow.holds Try.pinned (OpenSpec.upto fnKeepsSpec)

/-- 'laws.FnKeepsTold', WHERE WHAT IT READS IS OF BULK AT MOST 1048576: true; the input reads as it did. -/
def fnKeepsToldUptoRow : OpenClaim := { program := "ytbapmfjdnnajiaa", sum := "ea098620efd172b5f703d46a0fdef5ed7cceac0d42ba63d855950f62660046d8", func := "loop.example/g00397/laws.FnKeepsTold", spec := "fnKeepsTold", apart := false, narrowed := true }
def FnKeepsToldUptoSaid : Prop := fnKeepsToldUptoRow.holds Try.pinned (OpenSpec.upto fnKeepsToldSpec)

/-- 'laws.FnExactLogRight', WHERE WHAT IT READS IS OF BULK AT MOST 1048576: true; the input reads as it did. -/
def fnExactLogRightUptoRow : OpenClaim := { program := "ytbapmfjdnnajiaa", sum := "ea098620efd172b5f703d46a0fdef5ed7cceac0d42ba63d855950f62660046d8", func := "loop.example/g00397/laws.FnExactLogRight", spec := "fnExactLogRight", apart := false, narrowed := true }
def FnExactLogRightUptoSaid : Prop := fnExactLogRightUptoRow.holds Try.pinned (OpenSpec.upto fnExactLogRightSpec)

/-- 'laws.FnSenders', WHERE WHAT IT READS IS OF BULK AT MOST 1048576: true; the input reads as it did. -/
def fnSendersUptoRow : OpenClaim := { program := "ytbapmfjdnnajiaa", sum := "ea098620efd172b5f703d46a0fdef5ed7cceac0d42ba63d855950f62660046d8", func := "loop.example/g00397/laws.FnSenders", spec := "fnSenders", apart := false, narrowed := true }
def FnSendersUptoSaid : Prop := fnSendersUptoRow.holds Try.pinned (OpenSpec.upto fnSendersSpec)

/-- 'laws.FnSendersTold', WHERE WHAT IT READS IS OF BULK AT MOST 1048576: true; the input reads as it did. -/
def fnSendersToldUptoRow : OpenClaim := { program := "ytbapmfjdnnajiaa", sum := "ea098620efd172b5f703d46a0fdef5ed7cceac0d42ba63d855950f62660046d8", func := "loop.example/g00397/laws.FnSendersTold", spec := "fnSendersTold", apart := false, narrowed := true }
def FnSendersToldUptoSaid : Prop := fnSendersToldUptoRow.holds Try.pinned (OpenSpec.upto fnSendersToldSpec)

/-- 'laws.FnFrames', WHERE WHAT IT READS IS OF BULK AT MOST 1048576: true; the input reads as it did. -/
def fnFramesUptoRow : OpenClaim := { program := "ytbapmfjdnnajiaa", sum := "ea098620efd172b5f703d46a0fdef5ed7cceac0d42ba63d855950f62660046d8", func := "loop.example/g00397/laws.FnFrames", spec := "fnFrames", apart := false, narrowed := true }
def FnFramesUptoSaid : Prop := fnFramesUptoRow.holds Try.pinned (OpenSpec.upto fnFramesSpec)

/-- 'laws.FnExactTaken', WHERE WHAT IT READS IS OF BULK AT MOST 1048576: true; the input reads as it did. -/
def fnExactTakenUptoRow : OpenClaim := { program := "ytbapmfjdnnajiaa", sum := "ea098620efd172b5f703d46a0fdef5ed7cceac0d42ba63d855950f62660046d8", func := "loop.example/g00397/laws.FnExactTaken", spec := "fnExactTaken", apart := false, narrowed := true }
def FnExactTakenUptoSaid : Prop := fnExactTakenUptoRow.holds Try.pinned (OpenSpec.upto fnExactTakenSpec)

end Rows
end Go.Proofs.Ytbapmfjdnnajiaa
