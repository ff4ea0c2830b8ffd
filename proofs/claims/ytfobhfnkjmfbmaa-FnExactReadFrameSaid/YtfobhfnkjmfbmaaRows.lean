/-
  No cell of these rows narrows 'for every input' (looked for: loops, veiled, ifaces, maps, wideKeys, modest, calm, conditions, laid).
  DERIVED. THE GIVEN ROWS OF THIS SEAT. 12 by the template 'for every input the law returns true; each argument reads behind the call as it read before'; 0 by the template 'total and deterministic' (their statements: YtfobhfnkjmfbmaaTotals.lean).
  GIVEN WITH THE SEED: the statements are not yours to turn. If you find one false, say at which input.
  Laid BY PROGRAM, IN A SANDBOX (cutbox-rows.mjs): the forced cells as the released guide's own fill.sh prints them over the translation 053cebfdfe6d66c1… (all of the seat's roots in one cut). By AI agents, Wed Nov 11 2026. No macro, syntax, notation, axiom, sorry.
-/
import Derived.Test.YtfobhfnkjmfbmaaChecked
import GoSem.Claim
import GoSem.ClaimJoined
import GoSem.ClaimMapViews
import Derived.JoinedTies
import Derived.KernelRfl
namespace Go.Proofs.Ytfobhfnkjmfbmaa
/- THE CELL 'sum', in the pinned program and in every row, IS THE sha256 OF THE DUMP (.gsa) THAT YtfobhfnkjmfbmaaProg.lean LOADS. Nothing in Lean hashes anything: it is a label: what it is worth is what the hold of that sum in a sandbox is worth. -/
noncomputable def Try.pinned : Pinned := { name := "ytfobhfnkjmfbmaa", sum := "053cebfdfe6d66c1898667fef1c7b5b23752b31cd27a72cff6c1721312fc8b33", checked := Try.checked }
namespace Rows
def none {H : Type} : Left H := { results := [], args := [] }

/-- 'laws.FnExactAckOf': WHATEVER THE INPUT: true; the input reads as it did. -/
def fnExactAckOfSpec : ChangeSpec := { name := "fnExactAckOf", fn := fun _ => fun
  | [d1, d2] => { results := [.lit (.bool true)], args := [d1, d2] }
  | _ => none }
def fnExactAckOfRow : OpenClaim := { program := "ytfobhfnkjmfbmaa", sum := "053cebfdfe6d66c1898667fef1c7b5b23752b31cd27a72cff6c1721312fc8b33", func := "loop.example/g00397/laws.FnExactAckOf", spec := "fnExactAckOf", apart := false }
def FnExactAckOfSaid : Prop := fnExactAckOfRow.holds Try.pinned (OpenSpec.ofChange fnExactAckOfSpec)

/-- ITS FALSE NEIGHBOUR: 'it returns false'. Refute it at one input. -/
def fnExactAckOfWrong : ChangeSpec := { name := "fnExactAckOf", fn := fun _ => fun
  | [d1, d2] => { results := [.lit (.bool false)], args := [d1, d2] }
  | _ => none }
def FnExactAckOfWrongFalsely : Prop := fnExactAckOfRow.holds Try.pinned (OpenSpec.ofChange fnExactAckOfWrong)

/-- 'laws.FnExactNextOf': WHATEVER THE INPUT: true; the input reads as it did. -/
def fnExactNextOfSpec : ChangeSpec := { name := "fnExactNextOf", fn := fun _ => fun
  | [d1, d2] => { results := [.lit (.bool true)], args := [d1, d2] }
  | _ => none }
def fnExactNextOfRow : OpenClaim := { program := "ytfobhfnkjmfbmaa", sum := "053cebfdfe6d66c1898667fef1c7b5b23752b31cd27a72cff6c1721312fc8b33", func := "loop.example/g00397/laws.FnExactNextOf", spec := "fnExactNextOf", apart := false }
def FnExactNextOfSaid : Prop := fnExactNextOfRow.holds Try.pinned (OpenSpec.ofChange fnExactNextOfSpec)

/-- ITS FALSE NEIGHBOUR: 'it returns false'. Refute it at one input. -/
def fnExactNextOfWrong : ChangeSpec := { name := "fnExactNextOf", fn := fun _ => fun
  | [d1, d2] => { results := [.lit (.bool false)], args := [d1, d2] }
  | _ => none }
def FnExactNextOfWrongFalsely : Prop := fnExactNextOfRow.holds Try.pinned (OpenSpec.ofChange fnExactNextOfWrong)

/-- 'laws.FnExactKeeperNew': WHATEVER THE INPUT: true; the input reads as it did. -/
def fnExactKeeperNewSpec : ChangeSpec := { name := "fnExactKeeperNew", fn := fun _ => fun
  | [] => { results := [.lit (.bool true)], args := [] }
  | _ => none }
def fnExactKeeperNewRow : OpenClaim := { program := "ytfobhfnkjmfbmaa", sum := "053cebfdfe6d66c1898667fef1c7b5b23752b31cd27a72cff6c1721312fc8b33", func := "loop.example/g00397/laws.FnExactKeeperNew", spec := "fnExactKeeperNew", apart := false }
def FnExactKeeperNewSaid : Prop := fnExactKeeperNewRow.holds Try.pinned (OpenSpec.ofChange fnExactKeeperNewSpec)

/-- ITS FALSE NEIGHBOUR: 'it returns false'. Refute it at one input. -/
def fnExactKeeperNewWrong : ChangeSpec := { name := "fnExactKeeperNew", fn := fun _ => fun
  | [] => { results := [.lit (.bool false)], args := [] }
  | _ => none }
def FnExactKeeperNewWrongFalsely : Prop := fnExactKeeperNewRow.holds Try.pinned (OpenSpec.ofChange fnExactKeeperNewWrong)

/-- 'laws.FnExactSays': WHATEVER THE INPUT: true; the input reads as it did. -/
def fnExactSaysSpec : ChangeSpec := { name := "fnExactSays", fn := fun _ => fun
  | [d] => { results := [.lit (.bool true)], args := [d] }
  | _ => none }
def fnExactSaysRow : OpenClaim := { program := "ytfobhfnkjmfbmaa", sum := "053cebfdfe6d66c1898667fef1c7b5b23752b31cd27a72cff6c1721312fc8b33", func := "loop.example/g00397/laws.FnExactSays", spec := "fnExactSays", apart := false }
def FnExactSaysSaid : Prop := fnExactSaysRow.holds Try.pinned (OpenSpec.ofChange fnExactSaysSpec)

/-- ITS FALSE NEIGHBOUR: 'it returns false'. Refute it at one input. -/
def fnExactSaysWrong : ChangeSpec := { name := "fnExactSays", fn := fun _ => fun
  | [d] => { results := [.lit (.bool false)], args := [d] }
  | _ => none }
def FnExactSaysWrongFalsely : Prop := fnExactSaysRow.holds Try.pinned (OpenSpec.ofChange fnExactSaysWrong)

/-- 'laws.FnExactEntriesOf': WHATEVER THE INPUT: true; the input reads as it did. -/
def fnExactEntriesOfSpec : ChangeSpec := { name := "fnExactEntriesOf", fn := fun _ => fun
  | [d1, d2] => { results := [.lit (.bool true)], args := [d1, d2] }
  | _ => none }
def fnExactEntriesOfRow : OpenClaim := { program := "ytfobhfnkjmfbmaa", sum := "053cebfdfe6d66c1898667fef1c7b5b23752b31cd27a72cff6c1721312fc8b33", func := "loop.example/g00397/laws.FnExactEntriesOf", spec := "fnExactEntriesOf", apart := false }
def FnExactEntriesOfSaid : Prop := fnExactEntriesOfRow.holds Try.pinned (OpenSpec.ofChange fnExactEntriesOfSpec)

/-- ITS FALSE NEIGHBOUR: 'it returns false'. Refute it at one input. -/
def fnExactEntriesOfWrong : ChangeSpec := { name := "fnExactEntriesOf", fn := fun _ => fun
  | [d1, d2] => { results := [.lit (.bool false)], args := [d1, d2] }
  | _ => none }
def FnExactEntriesOfWrongFalsely : Prop := fnExactEntriesOfRow.holds Try.pinned (OpenSpec.ofChange fnExactEntriesOfWrong)

/-- 'laws.FnExactSaveKeeper': WHATEVER THE INPUT: true; the input reads as it did. -/
def fnExactSaveKeeperSpec : ChangeSpec := { name := "fnExactSaveKeeper", fn := fun _ => fun
  | [d] => { results := [.lit (.bool true)], args := [d] }
  | _ => none }
def fnExactSaveKeeperRow : OpenClaim := { program := "ytfobhfnkjmfbmaa", sum := "053cebfdfe6d66c1898667fef1c7b5b23752b31cd27a72cff6c1721312fc8b33", func := "loop.example/g00397/laws.FnExactSaveKeeper", spec := "fnExactSaveKeeper", apart := false }
def FnExactSaveKeeperSaid : Prop := fnExactSaveKeeperRow.holds Try.pinned (OpenSpec.ofChange fnExactSaveKeeperSpec)

/-- ITS FALSE NEIGHBOUR: 'it returns false'. Refute it at one input. -/
def fnExactSaveKeeperWrong : ChangeSpec := { name := "fnExactSaveKeeper", fn := fun _ => fun
  | [d] => { results := [.lit (.bool false)], args := [d] }
  | _ => none }
def FnExactSaveKeeperWrongFalsely : Prop := fnExactSaveKeeperRow.holds Try.pinned (OpenSpec.ofChange fnExactSaveKeeperWrong)

/-- 'laws.FnExactFallKeeper': WHATEVER THE INPUT: true; the input reads as it did. -/
def fnExactFallKeeperSpec : ChangeSpec := { name := "fnExactFallKeeper", fn := fun _ => fun
  | [d] => { results := [.lit (.bool true)], args := [d] }
  | _ => none }
def fnExactFallKeeperRow : OpenClaim := { program := "ytfobhfnkjmfbmaa", sum := "053cebfdfe6d66c1898667fef1c7b5b23752b31cd27a72cff6c1721312fc8b33", func := "loop.example/g00397/laws.FnExactFallKeeper", spec := "fnExactFallKeeper", apart := false }
def FnExactFallKeeperSaid : Prop := fnExactFallKeeperRow.holds Try.pinned (OpenSpec.ofChange fnExactFallKeeperSpec)

/-- ITS FALSE NEIGHBOUR: 'it returns false'. Refute it at one input. -/
def fnExactFallKeeperWrong : ChangeSpec := { name := "fnExactFallKeeper", fn := fun _ => fun
  | [d] => { results := [.lit (.bool false)], args := [d] }
  | _ => none }
def FnExactFallKeeperWrongFalsely : Prop := fnExactFallKeeperRow.holds Try.pinned (OpenSpec.ofChange fnExactFallKeeperWrong)

/-- 'laws.FnExactTaken': WHATEVER THE INPUT: true; the input reads as it did. -/
def fnExactTakenSpec : ChangeSpec := { name := "fnExactTaken", fn := fun _ => fun
  | [d1, d2, d3] => { results := [.lit (.bool true)], args := [d1, d2, d3] }
  | _ => none }
def fnExactTakenRow : OpenClaim := { program := "ytfobhfnkjmfbmaa", sum := "053cebfdfe6d66c1898667fef1c7b5b23752b31cd27a72cff6c1721312fc8b33", func := "loop.example/g00397/laws.FnExactTaken", spec := "fnExactTaken", apart := false }
def FnExactTakenSaid : Prop := fnExactTakenRow.holds Try.pinned (OpenSpec.ofChange fnExactTakenSpec)

/-- ITS FALSE NEIGHBOUR: 'it returns false'. Refute it at one input. -/
def fnExactTakenWrong : ChangeSpec := { name := "fnExactTaken", fn := fun _ => fun
  | [d1, d2, d3] => { results := [.lit (.bool false)], args := [d1, d2, d3] }
  | _ => none }
def FnExactTakenWrongFalsely : Prop := fnExactTakenRow.holds Try.pinned (OpenSpec.ofChange fnExactTakenWrong)

/-- 'laws.FnExactFiledOf': WHATEVER THE INPUT: true; the input reads as it did. -/
def fnExactFiledOfSpec : ChangeSpec := { name := "fnExactFiledOf", fn := fun _ => fun
  | [d1, d2] => { results := [.lit (.bool true)], args := [d1, d2] }
  | _ => none }
def fnExactFiledOfRow : OpenClaim := { program := "ytfobhfnkjmfbmaa", sum := "053cebfdfe6d66c1898667fef1c7b5b23752b31cd27a72cff6c1721312fc8b33", func := "loop.example/g00397/laws.FnExactFiledOf", spec := "fnExactFiledOf", apart := false }
def FnExactFiledOfSaid : Prop := fnExactFiledOfRow.holds Try.pinned (OpenSpec.ofChange fnExactFiledOfSpec)

/-- ITS FALSE NEIGHBOUR: 'it returns false'. Refute it at one input. -/
def fnExactFiledOfWrong : ChangeSpec := { name := "fnExactFiledOf", fn := fun _ => fun
  | [d1, d2] => { results := [.lit (.bool false)], args := [d1, d2] }
  | _ => none }
def FnExactFiledOfWrongFalsely : Prop := fnExactFiledOfRow.holds Try.pinned (OpenSpec.ofChange fnExactFiledOfWrong)

/-- 'laws.FnExactWorldNew': WHATEVER THE INPUT: true; the input reads as it did. -/
def fnExactWorldNewSpec : ChangeSpec := { name := "fnExactWorldNew", fn := fun _ => fun
  | [] => { results := [.lit (.bool true)], args := [] }
  | _ => none }
def fnExactWorldNewRow : OpenClaim := { program := "ytfobhfnkjmfbmaa", sum := "053cebfdfe6d66c1898667fef1c7b5b23752b31cd27a72cff6c1721312fc8b33", func := "loop.example/g00397/laws.FnExactWorldNew", spec := "fnExactWorldNew", apart := false }
def FnExactWorldNewSaid : Prop := fnExactWorldNewRow.holds Try.pinned (OpenSpec.ofChange fnExactWorldNewSpec)

/-- ITS FALSE NEIGHBOUR: 'it returns false'. Refute it at one input. -/
def fnExactWorldNewWrong : ChangeSpec := { name := "fnExactWorldNew", fn := fun _ => fun
  | [] => { results := [.lit (.bool false)], args := [] }
  | _ => none }
def FnExactWorldNewWrongFalsely : Prop := fnExactWorldNewRow.holds Try.pinned (OpenSpec.ofChange fnExactWorldNewWrong)

/-- 'laws.FnExactReadFrame': WHATEVER THE INPUT: true; the input reads as it did. -/
def fnExactReadFrameSpec : ChangeSpec := { name := "fnExactReadFrame", fn := fun _ => fun
  | [d] => { results := [.lit (.bool true)], args := [d] }
  | _ => none }
def fnExactReadFrameRow : OpenClaim := { program := "ytfobhfnkjmfbmaa", sum := "053cebfdfe6d66c1898667fef1c7b5b23752b31cd27a72cff6c1721312fc8b33", func := "loop.example/g00397/laws.FnExactReadFrame", spec := "fnExactReadFrame", apart := false }
def FnExactReadFrameSaid : Prop := fnExactReadFrameRow.holds Try.pinned (OpenSpec.ofChange fnExactReadFrameSpec)

/-- ITS FALSE NEIGHBOUR: 'it returns false'. Refute it at one input. -/
def fnExactReadFrameWrong : ChangeSpec := { name := "fnExactReadFrame", fn := fun _ => fun
  | [d] => { results := [.lit (.bool false)], args := [d] }
  | _ => none }
def FnExactReadFrameWrongFalsely : Prop := fnExactReadFrameRow.holds Try.pinned (OpenSpec.ofChange fnExactReadFrameWrong)

/-- 'laws.FnExactLogText': WHATEVER THE INPUT: true; the input reads as it did. -/
def fnExactLogTextSpec : ChangeSpec := { name := "fnExactLogText", fn := fun _ => fun
  | [d] => { results := [.lit (.bool true)], args := [d] }
  | _ => none }
def fnExactLogTextRow : OpenClaim := { program := "ytfobhfnkjmfbmaa", sum := "053cebfdfe6d66c1898667fef1c7b5b23752b31cd27a72cff6c1721312fc8b33", func := "loop.example/g00397/laws.FnExactLogText", spec := "fnExactLogText", apart := false }
def FnExactLogTextSaid : Prop := fnExactLogTextRow.holds Try.pinned (OpenSpec.ofChange fnExactLogTextSpec)

/-- ITS FALSE NEIGHBOUR: 'it returns false'. Refute it at one input. -/
def fnExactLogTextWrong : ChangeSpec := { name := "fnExactLogText", fn := fun _ => fun
  | [d] => { results := [.lit (.bool false)], args := [d] }
  | _ => none }
def FnExactLogTextWrongFalsely : Prop := fnExactLogTextRow.holds Try.pinned (OpenSpec.ofChange fnExactLogTextWrong)

/- THE SECOND FORM. 'bulk': how many values and letters a reading holds, each counted each time it is reached (what is shared counts as often as it is met; a slice's spare places count too). A statement '..UptoSaid' is the law's where the arguments, and the package variables that the reading takes, are together of bulk at most 1048576: NARROWER than '..Said'. Prove '..Said' where nothing that the law and all that it calls make is longer than what came in: it says more and counts as full. Else prove '..UptoSaid'. A law counts once. -/
mutual
def uptoBulk {H : Type} : DataW H → Nat
  | .lit (.string bytes) => bytes.length + 1
  | .lit _ => 1
  | .nil => 1
  | .ptr d => uptoBulk d + 1
  | .slice elems spare => uptoBulkAll elems + uptoBulkAll spare + 1
  | .agg parts => uptoBulkAll parts + 1
  | .iface _ d => uptoBulk d + 1
  | .map entries => uptoBulkEntries entries + 1
  | .held _ => 1
def uptoBulkAll {H : Type} : List (DataW H) → Nat
  | [] => 0
  | d :: r => uptoBulk d + uptoBulkAll r
def uptoBulkEntries {H : Type} : List (Lit × DataW H) → Nat
  | [] => 0
  | x :: r => uptoBulkEntry x + uptoBulkEntries r
def uptoBulkEntry {H : Type} : Lit × DataW H → Nat
  | (.string bytes, d) => bytes.length + uptoBulk d + 1
  | (_, d) => uptoBulk d + 1
 end
def uptoSmall : (H : Type) → List (DataW H) → Bool := fun _ ds => decide (uptoBulkAll ds ≤ 1048576)
def OpenSpec.upto (s : _root_.Go.ChangeSpec) : _root_.Go.OpenSpec := { _root_.Go.OpenSpec.ofChange s with cond := some uptoSmall }

/-- 'laws.FnExactAckOf', WHERE WHAT IT READS IS OF BULK AT MOST 1048576: true; the input reads as it did. -/
def fnExactAckOfUptoRow : OpenClaim := { program := "ytfobhfnkjmfbmaa", sum := "053cebfdfe6d66c1898667fef1c7b5b23752b31cd27a72cff6c1721312fc8b33", func := "loop.example/g00397/laws.FnExactAckOf", spec := "fnExactAckOf", apart := false, narrowed := true }
def FnExactAckOfUptoSaid : Prop := fnExactAckOfUptoRow.holds Try.pinned (OpenSpec.upto fnExactAckOfSpec)

/-- 'laws.FnExactNextOf', WHERE WHAT IT READS IS OF BULK AT MOST 1048576: true; the input reads as it did. -/
def fnExactNextOfUptoRow : OpenClaim := { program := "ytfobhfnkjmfbmaa", sum := "053cebfdfe6d66c1898667fef1c7b5b23752b31cd27a72cff6c1721312fc8b33", func := "loop.example/g00397/laws.FnExactNextOf", spec := "fnExactNextOf", apart := false, narrowed := true }
def FnExactNextOfUptoSaid : Prop := fnExactNextOfUptoRow.holds Try.pinned (OpenSpec.upto fnExactNextOfSpec)

/-- 'laws.FnExactKeeperNew', WHERE WHAT IT READS IS OF BULK AT MOST 1048576: true; the input reads as it did. -/
def fnExactKeeperNewUptoRow : OpenClaim := { program := "ytfobhfnkjmfbmaa", sum := "053cebfdfe6d66c1898667fef1c7b5b23752b31cd27a72cff6c1721312fc8b33", func := "loop.example/g00397/laws.FnExactKeeperNew", spec := "fnExactKeeperNew", apart := false, narrowed := true }
def FnExactKeeperNewUptoSaid : Prop := fnExactKeeperNewUptoRow.holds Try.pinned (OpenSpec.upto fnExactKeeperNewSpec)

/-- 'laws.FnExactSays', WHERE WHAT IT READS IS OF BULK AT MOST 1048576: true; the input reads as it did. -/
def fnExactSaysUptoRow : OpenClaim := { program := "ytfobhfnkjmfbmaa", sum := "053cebfdfe6d66c1898667fef1c7b5b23752b31cd27a72cff6c1721312fc8b33", func := "loop.example/g00397/laws.FnExactSays", spec := "fnExactSays", apart := false, narrowed := true }
def FnExactSaysUptoSaid : Prop := fnExactSaysUptoRow.holds Try.pinned (OpenSpec.upto fnExactSaysSpec)

/-- 'laws.FnExactEntriesOf', WHERE WHAT IT READS IS OF BULK AT MOST 1048576: true; the input reads as it did. -/
def fnExactEntriesOfUptoRow : OpenClaim := { program := "ytfobhfnkjmfbmaa", sum := "053cebfdfe6d66c1898667fef1c7b5b23752b31cd27a72cff6c1721312fc8b33", func := "loop.example/g00397/laws.FnExactEntriesOf", spec := "fnExactEntriesOf", apart := false, narrowed := true }
def FnExactEntriesOfUptoSaid : Prop := fnExactEntriesOfUptoRow.holds Try.pinned (OpenSpec.upto fnExactEntriesOfSpec)

/-- 'laws.FnExactSaveKeeper', WHERE WHAT IT READS IS OF BULK AT MOST 1048576: true; the input reads as it did. -/
def fnExactSaveKeeperUptoRow : OpenClaim := { program := "ytfobhfnkjmfbmaa", sum := "053cebfdfe6d66c1898667fef1c7b5b23752b31cd27a72cff6c1721312fc8b33", func := "loop.example/g00397/laws.FnExactSaveKeeper", spec := "fnExactSaveKeeper", apart := false, narrowed := true }
def FnExactSaveKeeperUptoSaid : Prop := fnExactSaveKeeperUptoRow.holds Try.pinned (OpenSpec.upto fnExactSaveKeeperSpec)

/-- 'laws.FnExactFallKeeper', WHERE WHAT IT READS IS OF BULK AT MOST 1048576: true; the input reads as it did. -/
def fnExactFallKeeperUptoRow : OpenClaim := { program := "ytfobhfnkjmfbmaa", sum := "053cebfdfe6d66c1898667fef1c7b5b23752b31cd27a72cff6c1721312fc8b33", func := "loop.example/g00397/laws.FnExactFallKeeper", spec := "fnExactFallKeeper", apart := false, narrowed := true }
def FnExactFallKeeperUptoSaid : Prop := fnExactFallKeeperUptoRow.holds Try.pinned (OpenSpec.upto fnExactFallKeeperSpec)

/-- 'laws.FnExactTaken', WHERE WHAT IT READS IS OF BULK AT MOST 1048576: true; the input reads as it did. -/
def fnExactTakenUptoRow : OpenClaim := { program := "ytfobhfnkjmfbmaa", sum := "053cebfdfe6d66c1898667fef1c7b5b23752b31cd27a72cff6c1721312fc8b33", func := "loop.example/g00397/laws.FnExactTaken", spec := "fnExactTaken", apart := false, narrowed := true }
def FnExactTakenUptoSaid : Prop := fnExactTakenUptoRow.holds Try.pinned (OpenSpec.upto fnExactTakenSpec)

/-- 'laws.FnExactFiledOf', WHERE WHAT IT READS IS OF BULK AT MOST 1048576: true; the input reads as it did. -/
def fnExactFiledOfUptoRow : OpenClaim := { program := "ytfobhfnkjmfbmaa", sum := "053cebfdfe6d66c1898667fef1c7b5b23752b31cd27a72cff6c1721312fc8b33", func := "loop.example/g00397/laws.FnExactFiledOf", spec := "fnExactFiledOf", apart := false, narrowed := true }
def FnExactFiledOfUptoSaid : Prop := fnExactFiledOfUptoRow.holds Try.pinned (OpenSpec.upto fnExactFiledOfSpec)

/-- 'laws.FnExactWorldNew', WHERE WHAT IT READS IS OF BULK AT MOST 1048576: true; the input reads as it did. -/
def fnExactWorldNewUptoRow : OpenClaim := { program := "ytfobhfnkjmfbmaa", sum := "053cebfdfe6d66c1898667fef1c7b5b23752b31cd27a72cff6c1721312fc8b33", func := "loop.example/g00397/laws.FnExactWorldNew", spec := "fnExactWorldNew", apart := false, narrowed := true }
def FnExactWorldNewUptoSaid : Prop := fnExactWorldNewUptoRow.holds Try.pinned (OpenSpec.upto fnExactWorldNewSpec)

/-- 'laws.FnExactReadFrame', WHERE WHAT IT READS IS OF BULK AT MOST 1048576: true; the input reads as it did. -/
def fnExactReadFrameUptoRow : OpenClaim := { program := "ytfobhfnkjmfbmaa", sum := "053cebfdfe6d66c1898667fef1c7b5b23752b31cd27a72cff6c1721312fc8b33", func := "loop.example/g00397/laws.FnExactReadFrame", spec := "fnExactReadFrame", apart := false, narrowed := true }
def FnExactReadFrameUptoSaid : Prop := fnExactReadFrameUptoRow.holds Try.pinned (OpenSpec.upto fnExactReadFrameSpec)

/-- 'laws.FnExactLogText', WHERE WHAT IT READS IS OF BULK AT MOST 1048576: true; the input reads as it did. -/
def fnExactLogTextUptoRow : OpenClaim := { program := "ytfobhfnkjmfbmaa", sum := "053cebfdfe6d66c1898667fef1c7b5b23752b31cd27a72cff6c1721312fc8b33", func := "loop.example/g00397/laws.FnExactLogText", spec := "fnExactLogText", apart := false, narrowed := true }
def FnExactLogTextUptoSaid : Prop := fnExactLogTextUptoRow.holds Try.pinned (OpenSpec.upto fnExactLogTextSpec)

end Rows
end Go.Proofs.Ytfobhfnkjmfbmaa
