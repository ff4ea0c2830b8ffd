/-
  No cell of these rows narrows 'for every input' (looked for: loops, veiled, ifaces, maps, wideKeys, modest, calm, conditions, laid).
  DERIVED. THE GIVEN ROWS OF THIS SEAT. 12 by the template 'for every input the law returns true; each argument reads behind the call as it read before'; 0 by the template 'total and deterministic' (their statements: YtkbabldehmgmaaaTotals.lean).
  GIVEN WITH THE SEED: the statements are not yours to turn. If you find one false, say at which input.
  Laid BY PROGRAM, IN A SANDBOX (cutbox-rows.mjs): the forced cells as the released guide's own fill.sh prints them over the translation 6a6575eb6ef2f1ba… (all of the seat's roots in one cut). By AI agents, Wed Nov 11 2026. No macro, syntax, notation, axiom, sorry.
-/
import Derived.Test.YtkbabldehmgmaaaChecked
import GoSem.Claim
import GoSem.ClaimJoined
import GoSem.ClaimMapViews
import Derived.JoinedTies
import Derived.KernelRfl
namespace Go.Proofs.Ytkbabldehmgmaaa
/- THE CELL 'sum', in the pinned program and in every row, IS THE sha256 OF THE DUMP (.gsa) THAT YtkbabldehmgmaaaProg.lean LOADS. Nothing in Lean hashes anything: it is a label: what it is worth is what the hold of that sum in a sandbox is worth. -/
noncomputable def Try.pinned : Pinned := { name := "ytkbabldehmgmaaa", sum := "6a6575eb6ef2f1bab8ea7ae61b513c547b73a849e809849215c3af68521fe2c8", checked := Try.checked }
namespace Rows
def none {H : Type} : Left H := { results := [], args := [] }

/-- 'laws.FnExactSenderNew': WHATEVER THE INPUT: true; the input reads as it did. -/
def fnExactSenderNewSpec : ChangeSpec := { name := "fnExactSenderNew", fn := fun _ => fun
  | [d] => { results := [.lit (.bool true)], args := [d] }
  | _ => none }
def fnExactSenderNewRow : OpenClaim := { program := "ytkbabldehmgmaaa", sum := "6a6575eb6ef2f1bab8ea7ae61b513c547b73a849e809849215c3af68521fe2c8", func := "loop.example/g00397/laws.FnExactSenderNew", spec := "fnExactSenderNew", apart := false }
def FnExactSenderNewSaid : Prop := fnExactSenderNewRow.holds Try.pinned (OpenSpec.ofChange fnExactSenderNewSpec)

/-- ITS FALSE NEIGHBOUR: 'it returns false'. Refute it at one input. -/
def fnExactSenderNewWrong : ChangeSpec := { name := "fnExactSenderNew", fn := fun _ => fun
  | [d] => { results := [.lit (.bool false)], args := [d] }
  | _ => none }
def FnExactSenderNewWrongFalsely : Prop := fnExactSenderNewRow.holds Try.pinned (OpenSpec.ofChange fnExactSenderNewWrong)

/-- 'laws.FnExactSpread': WHATEVER THE INPUT: true; the input reads as it did. -/
def fnExactSpreadSpec : ChangeSpec := { name := "fnExactSpread", fn := fun _ => fun
  | [d] => { results := [.lit (.bool true)], args := [d] }
  | _ => none }
def fnExactSpreadRow : OpenClaim := { program := "ytkbabldehmgmaaa", sum := "6a6575eb6ef2f1bab8ea7ae61b513c547b73a849e809849215c3af68521fe2c8", func := "loop.example/g00397/laws.FnExactSpread", spec := "fnExactSpread", apart := false }
def FnExactSpreadSaid : Prop := fnExactSpreadRow.holds Try.pinned (OpenSpec.ofChange fnExactSpreadSpec)

/-- ITS FALSE NEIGHBOUR: 'it returns false'. Refute it at one input. -/
def fnExactSpreadWrong : ChangeSpec := { name := "fnExactSpread", fn := fun _ => fun
  | [d] => { results := [.lit (.bool false)], args := [d] }
  | _ => none }
def FnExactSpreadWrongFalsely : Prop := fnExactSpreadRow.holds Try.pinned (OpenSpec.ofChange fnExactSpreadWrong)

/-- 'laws.FnExactSenderOk': WHATEVER THE INPUT: true; the input reads as it did. -/
def fnExactSenderOkSpec : ChangeSpec := { name := "fnExactSenderOk", fn := fun _ => fun
  | [d] => { results := [.lit (.bool true)], args := [d] }
  | _ => none }
def fnExactSenderOkRow : OpenClaim := { program := "ytkbabldehmgmaaa", sum := "6a6575eb6ef2f1bab8ea7ae61b513c547b73a849e809849215c3af68521fe2c8", func := "loop.example/g00397/laws.FnExactSenderOk", spec := "fnExactSenderOk", apart := false }
def FnExactSenderOkSaid : Prop := fnExactSenderOkRow.holds Try.pinned (OpenSpec.ofChange fnExactSenderOkSpec)

/-- ITS FALSE NEIGHBOUR: 'it returns false'. Refute it at one input. -/
def fnExactSenderOkWrong : ChangeSpec := { name := "fnExactSenderOk", fn := fun _ => fun
  | [d] => { results := [.lit (.bool false)], args := [d] }
  | _ => none }
def FnExactSenderOkWrongFalsely : Prop := fnExactSenderOkRow.holds Try.pinned (OpenSpec.ofChange fnExactSenderOkWrong)

/-- 'laws.FnExactEntryText': WHATEVER THE INPUT: true; the input reads as it did. -/
def fnExactEntryTextSpec : ChangeSpec := { name := "fnExactEntryText", fn := fun _ => fun
  | [d] => { results := [.lit (.bool true)], args := [d] }
  | _ => none }
def fnExactEntryTextRow : OpenClaim := { program := "ytkbabldehmgmaaa", sum := "6a6575eb6ef2f1bab8ea7ae61b513c547b73a849e809849215c3af68521fe2c8", func := "loop.example/g00397/laws.FnExactEntryText", spec := "fnExactEntryText", apart := false }
def FnExactEntryTextSaid : Prop := fnExactEntryTextRow.holds Try.pinned (OpenSpec.ofChange fnExactEntryTextSpec)

/-- ITS FALSE NEIGHBOUR: 'it returns false'. Refute it at one input. -/
def fnExactEntryTextWrong : ChangeSpec := { name := "fnExactEntryText", fn := fun _ => fun
  | [d] => { results := [.lit (.bool false)], args := [d] }
  | _ => none }
def FnExactEntryTextWrongFalsely : Prop := fnExactEntryTextRow.holds Try.pinned (OpenSpec.ofChange fnExactEntryTextWrong)

/-- 'laws.FnExactEventOk': WHATEVER THE INPUT: true; the input reads as it did. -/
def fnExactEventOkSpec : ChangeSpec := { name := "fnExactEventOk", fn := fun _ => fun
  | [d] => { results := [.lit (.bool true)], args := [d] }
  | _ => none }
def fnExactEventOkRow : OpenClaim := { program := "ytkbabldehmgmaaa", sum := "6a6575eb6ef2f1bab8ea7ae61b513c547b73a849e809849215c3af68521fe2c8", func := "loop.example/g00397/laws.FnExactEventOk", spec := "fnExactEventOk", apart := false }
def FnExactEventOkSaid : Prop := fnExactEventOkRow.holds Try.pinned (OpenSpec.ofChange fnExactEventOkSpec)

/-- ITS FALSE NEIGHBOUR: 'it returns false'. Refute it at one input. -/
def fnExactEventOkWrong : ChangeSpec := { name := "fnExactEventOk", fn := fun _ => fun
  | [d] => { results := [.lit (.bool false)], args := [d] }
  | _ => none }
def FnExactEventOkWrongFalsely : Prop := fnExactEventOkRow.holds Try.pinned (OpenSpec.ofChange fnExactEventOkWrong)

/-- 'laws.FnLess': WHATEVER THE INPUT: true; the input reads as it did. -/
def fnLessSpec : ChangeSpec := { name := "fnLess", fn := fun _ => fun
  | [d] => { results := [.lit (.bool true)], args := [d] }
  | _ => none }
def fnLessRow : OpenClaim := { program := "ytkbabldehmgmaaa", sum := "6a6575eb6ef2f1bab8ea7ae61b513c547b73a849e809849215c3af68521fe2c8", func := "loop.example/g00397/laws.FnLess", spec := "fnLess", unfollowed := true, recurses := true, apart := false }
def FnLessSaid : Prop := fnLessRow.holds Try.pinned (OpenSpec.ofChange fnLessSpec)

/-- ITS FALSE NEIGHBOUR: 'it returns false'. Refute it at one input. -/
def fnLessWrong : ChangeSpec := { name := "fnLess", fn := fun _ => fun
  | [d] => { results := [.lit (.bool false)], args := [d] }
  | _ => none }
def FnLessWrongFalsely : Prop := fnLessRow.holds Try.pinned (OpenSpec.ofChange fnLessWrong)

/-- 'laws.FnExactFits': WHATEVER THE INPUT: true; the input reads as it did. -/
def fnExactFitsSpec : ChangeSpec := { name := "fnExactFits", fn := fun _ => fun
  | [d1, d2] => { results := [.lit (.bool true)], args := [d1, d2] }
  | _ => none }
def fnExactFitsRow : OpenClaim := { program := "ytkbabldehmgmaaa", sum := "6a6575eb6ef2f1bab8ea7ae61b513c547b73a849e809849215c3af68521fe2c8", func := "loop.example/g00397/laws.FnExactFits", spec := "fnExactFits", apart := false }
def FnExactFitsSaid : Prop := fnExactFitsRow.holds Try.pinned (OpenSpec.ofChange fnExactFitsSpec)

/-- ITS FALSE NEIGHBOUR: 'it returns false'. Refute it at one input. -/
def fnExactFitsWrong : ChangeSpec := { name := "fnExactFits", fn := fun _ => fun
  | [d1, d2] => { results := [.lit (.bool false)], args := [d1, d2] }
  | _ => none }
def FnExactFitsWrongFalsely : Prop := fnExactFitsRow.holds Try.pinned (OpenSpec.ofChange fnExactFitsWrong)

/-- 'laws.FnExactAgain': WHATEVER THE INPUT: true; the input reads as it did. -/
def fnExactAgainSpec : ChangeSpec := { name := "fnExactAgain", fn := fun _ => fun
  | [d1, d2] => { results := [.lit (.bool true)], args := [d1, d2] }
  | _ => none }
def fnExactAgainRow : OpenClaim := { program := "ytkbabldehmgmaaa", sum := "6a6575eb6ef2f1bab8ea7ae61b513c547b73a849e809849215c3af68521fe2c8", func := "loop.example/g00397/laws.FnExactAgain", spec := "fnExactAgain", apart := false }
def FnExactAgainSaid : Prop := fnExactAgainRow.holds Try.pinned (OpenSpec.ofChange fnExactAgainSpec)

/-- ITS FALSE NEIGHBOUR: 'it returns false'. Refute it at one input. -/
def fnExactAgainWrong : ChangeSpec := { name := "fnExactAgain", fn := fun _ => fun
  | [d1, d2] => { results := [.lit (.bool false)], args := [d1, d2] }
  | _ => none }
def FnExactAgainWrongFalsely : Prop := fnExactAgainRow.holds Try.pinned (OpenSpec.ofChange fnExactAgainWrong)

/-- 'laws.FnExactLongestRun': WHATEVER THE INPUT: true; the input reads as it did. -/
def fnExactLongestRunSpec : ChangeSpec := { name := "fnExactLongestRun", fn := fun _ => fun
  | [d] => { results := [.lit (.bool true)], args := [d] }
  | _ => none }
def fnExactLongestRunRow : OpenClaim := { program := "ytkbabldehmgmaaa", sum := "6a6575eb6ef2f1bab8ea7ae61b513c547b73a849e809849215c3af68521fe2c8", func := "loop.example/g00397/laws.FnExactLongestRun", spec := "fnExactLongestRun", unfollowed := true, recurses := true, apart := false }
def FnExactLongestRunSaid : Prop := fnExactLongestRunRow.holds Try.pinned (OpenSpec.ofChange fnExactLongestRunSpec)

/-- ITS FALSE NEIGHBOUR: 'it returns false'. Refute it at one input. -/
def fnExactLongestRunWrong : ChangeSpec := { name := "fnExactLongestRun", fn := fun _ => fun
  | [d] => { results := [.lit (.bool false)], args := [d] }
  | _ => none }
def FnExactLongestRunWrongFalsely : Prop := fnExactLongestRunRow.holds Try.pinned (OpenSpec.ofChange fnExactLongestRunWrong)

/-- 'laws.FnExactAcked': WHATEVER THE INPUT: true; the input reads as it did. -/
def fnExactAckedSpec : ChangeSpec := { name := "fnExactAcked", fn := fun _ => fun
  | [d1, d2] => { results := [.lit (.bool true)], args := [d1, d2] }
  | _ => none }
def fnExactAckedRow : OpenClaim := { program := "ytkbabldehmgmaaa", sum := "6a6575eb6ef2f1bab8ea7ae61b513c547b73a849e809849215c3af68521fe2c8", func := "loop.example/g00397/laws.FnExactAcked", spec := "fnExactAcked", apart := false }
def FnExactAckedSaid : Prop := fnExactAckedRow.holds Try.pinned (OpenSpec.ofChange fnExactAckedSpec)

/-- ITS FALSE NEIGHBOUR: 'it returns false'. Refute it at one input. -/
def fnExactAckedWrong : ChangeSpec := { name := "fnExactAcked", fn := fun _ => fun
  | [d1, d2] => { results := [.lit (.bool false)], args := [d1, d2] }
  | _ => none }
def FnExactAckedWrongFalsely : Prop := fnExactAckedRow.holds Try.pinned (OpenSpec.ofChange fnExactAckedWrong)

/-- 'laws.FnExactWaysIn': WHATEVER THE INPUT: true; the input reads as it did. -/
def fnExactWaysInSpec : ChangeSpec := { name := "fnExactWaysIn", fn := fun _ => fun
  | [d] => { results := [.lit (.bool true)], args := [d] }
  | _ => none }
def fnExactWaysInRow : OpenClaim := { program := "ytkbabldehmgmaaa", sum := "6a6575eb6ef2f1bab8ea7ae61b513c547b73a849e809849215c3af68521fe2c8", func := "loop.example/g00397/laws.FnExactWaysIn", spec := "fnExactWaysIn", unfollowed := true, recurses := true, apart := false }
def FnExactWaysInSaid : Prop := fnExactWaysInRow.holds Try.pinned (OpenSpec.ofChange fnExactWaysInSpec)

/-- ITS FALSE NEIGHBOUR: 'it returns false'. Refute it at one input. -/
def fnExactWaysInWrong : ChangeSpec := { name := "fnExactWaysIn", fn := fun _ => fun
  | [d] => { results := [.lit (.bool false)], args := [d] }
  | _ => none }
def FnExactWaysInWrongFalsely : Prop := fnExactWaysInRow.holds Try.pinned (OpenSpec.ofChange fnExactWaysInWrong)

/-- 'laws.FnExactShortestRun': WHATEVER THE INPUT: true; the input reads as it did. -/
def fnExactShortestRunSpec : ChangeSpec := { name := "fnExactShortestRun", fn := fun _ => fun
  | [d] => { results := [.lit (.bool true)], args := [d] }
  | _ => none }
def fnExactShortestRunRow : OpenClaim := { program := "ytkbabldehmgmaaa", sum := "6a6575eb6ef2f1bab8ea7ae61b513c547b73a849e809849215c3af68521fe2c8", func := "loop.example/g00397/laws.FnExactShortestRun", spec := "fnExactShortestRun", unfollowed := true, recurses := true, apart := false }
def FnExactShortestRunSaid : Prop := fnExactShortestRunRow.holds Try.pinned (OpenSpec.ofChange fnExactShortestRunSpec)

/-- ITS FALSE NEIGHBOUR: 'it returns false'. Refute it at one input. -/
def fnExactShortestRunWrong : ChangeSpec := { name := "fnExactShortestRun", fn := fun _ => fun
  | [d] => { results := [.lit (.bool false)], args := [d] }
  | _ => none }
def FnExactShortestRunWrongFalsely : Prop := fnExactShortestRunRow.holds Try.pinned (OpenSpec.ofChange fnExactShortestRunWrong)

/- THE SECOND FORM. 'bulk': how many values and letters a reading holds, each counted each time it is reached (what is shared counts as often as it is met; a slice's spare places count too). A statement '..UptoSaid' is the law's where the arguments, and the package variables that the reading takes, are together of bulk at most 1048576: NARROWER than '..Said'. Prove '..Said' where nothing that the law and all that it calls make is longer than what came in: it says more and counts as full. Else prove '..UptoSaid'. A law counts once. -/
mutual
def uptoBulk {H : Type} : DataW H → Nat
  | .lit (.string bytes) => bytes.length + 1
  | .lit _ => 1
  | .nil => 1
  | .ptr d => uptoBulk d + 1
  | .slice elems spare => uptoBulkAll elems + uptoBulkAll spare + 1
  | .agg parts => uptoBulkAll parts + 1
  | .iface _ d => uptoBulk d + 1
  | .map entries => uptoBulkEntries entries + 1
  | .held _ => 1
def uptoBulkAll {H : Type} : List (DataW H) → Nat
  | [] => 0
  | d :: r => uptoBulk d + uptoBulkAll r
def uptoBulkEntries {H : Type} : List (Lit × DataW H) → Nat
  | [] => 0
  | x :: r => uptoBulkEntry x + uptoBulkEntries r
def uptoBulkEntry {H : Type} : Lit × DataW H → Nat
  | (.string bytes, d) => bytes.length + uptoBulk d + 1
  | (_, d) => uptoBulk d + 1
 end
def uptoSmall : (H : Type) → List (DataW H) → Bool := fun _ ds => decide (uptoBulkAll ds ≤ 1048576)
def OpenSpec.upto (s : _root_.Go.ChangeSpec) : _root_.Go.OpenSpec := { _root_.Go.OpenSpec.ofChange s with cond := some uptoSmall }

/-- 'laws.FnExactSenderNew', WHERE WHAT IT READS IS OF BULK AT MOST 1048576: true; the input reads as it did. -/
def fnExactSenderNewUptoRow : OpenClaim := { program := "ytkbabldehmgmaaa", sum := "6a6575eb6ef2f1bab8ea7ae61b513c547b73a849e809849215c3af68521fe2c8", func := "loop.example/g00397/laws.FnExactSenderNew", spec := "fnExactSenderNew", apart := false, narrowed := true }
def FnExactSenderNewUptoSaid : Prop := fnExactSenderNewUptoRow.holds Try.pinned (OpenSpec.upto fnExactSenderNewSpec)

/-- 'laws.FnExactSpread', WHERE WHAT IT READS IS OF BULK AT MOST 1048576: true; the input reads as it did. -/
def fnExactSpreadUptoRow : OpenClaim := { program := "ytkbabldehmgmaaa", sum := "6a6575eb6ef2f1bab8ea7ae61b513c547b73a849e809849215c3af68521fe2c8", func := "loop.example/g00397/laws.FnExactSpread", spec := "fnExactSpread", apart := false, narrowed := true }
def FnExactSpreadUptoSaid : Prop := fnExactSpreadUptoRow.holds Try.pinned (OpenSpec.upto fnExactSpreadSpec)

/-- 'laws.FnExactSenderOk', WHERE WHAT IT READS IS OF BULK AT MOST 1048576: true; the input reads as it did. -/
def fnExactSenderOkUptoRow : OpenClaim := { program := "ytkbabldehmgmaaa", sum := "6a6575eb6ef2f1bab8ea7ae61b513c547b73a849e809849215c3af68521fe2c8", func := "loop.example/g00397/laws.FnExactSenderOk", spec := "fnExactSenderOk", apart := false, narrowed := true }
def FnExactSenderOkUptoSaid : Prop := fnExactSenderOkUptoRow.holds Try.pinned (OpenSpec.upto fnExactSenderOkSpec)

/-- 'laws.FnExactEntryText', WHERE WHAT IT READS IS OF BULK AT MOST 1048576: true; the input reads as it did. -/
def fnExactEntryTextUptoRow : OpenClaim := { program := "ytkbabldehmgmaaa", sum := "6a6575eb6ef2f1bab8ea7ae61b513c547b73a849e809849215c3af68521fe2c8", func := "loop.example/g00397/laws.FnExactEntryText", spec := "fnExactEntryText", apart := false, narrowed := true }
def FnExactEntryTextUptoSaid : Prop := fnExactEntryTextUptoRow.holds Try.pinned (OpenSpec.upto fnExactEntryTextSpec)

/-- 'laws.FnExactEventOk', WHERE WHAT IT READS IS OF BULK AT MOST 1048576: true; the input reads as it did. -/
def fnExactEventOkUptoRow : OpenClaim := { program := "ytkbabldehmgmaaa", sum := "6a6575eb6ef2f1bab8ea7ae61b513c547b73a849e809849215c3af68521fe2c8", func := "loop.example/g00397/laws.FnExactEventOk", spec := "fnExactEventOk", apart := false, narrowed := true }
def FnExactEventOkUptoSaid : Prop := fnExactEventOkUptoRow.holds Try.pinned (OpenSpec.upto fnExactEventOkSpec)

/-- 'laws.FnLess', WHERE WHAT IT READS IS OF BULK AT MOST 1048576: true; the input reads as it did. -/
def fnLessUptoRow : OpenClaim := { program := "ytkbabldehmgmaaa", sum := "6a6575eb6ef2f1bab8ea7ae61b513c547b73a849e809849215c3af68521fe2c8", func := "loop.example/g00397/laws.FnLess", spec := "fnLess", unfollowed := true, recurses := true, apart := false, narrowed := true }
def FnLessUptoSaid : Prop := fnLessUptoRow.holds Try.pinned (OpenSpec.upto fnLessSpec)

/-- 'laws.FnExactFits', WHERE WHAT IT READS IS OF BULK AT MOST 1048576: true; the input reads as it did. -/
def fnExactFitsUptoRow : OpenClaim := { program := "ytkbabldehmgmaaa", sum := "6a6575eb6ef2f1bab8ea7ae61b513c547b73a849e809849215c3af68521fe2c8", func := "loop.example/g00397/laws.FnExactFits", spec := "fnExactFits", apart := false, narrowed := true }
def FnExactFitsUptoSaid : Prop := fnExactFitsUptoRow.holds Try.pinned (OpenSpec.upto fnExactFitsSpec)

/-- 'laws.FnExactAgain', WHERE WHAT IT READS IS OF BULK AT MOST 1048576: true; the input reads as it did. -/
def fnExactAgainUptoRow : OpenClaim := { program := "ytkbabldehmgmaaa", sum := "6a6575eb6ef2f1bab8ea7ae61b513c547b73a849e809849215c3af68521fe2c8", func := "loop.example/g00397/laws.FnExactAgain", spec := "fnExactAgain", apart := false, narrowed := true }
def FnExactAgainUptoSaid : Prop := fnExactAgainUptoRow.holds Try.pinned (OpenSpec.upto fnExactAgainSpec)

/-- 'laws.FnExactLongestRun', WHERE WHAT IT READS IS OF BULK AT MOST 1048576: true; the input reads as it did. -/
def fnExactLongestRunUptoRow : OpenClaim := { program := "ytkbabldehmgmaaa", sum := "6a6575eb6ef2f1bab8ea7ae61b513c547b73a849e809849215c3af68521fe2c8", func := "loop.example/g00397/laws.FnExactLongestRun", spec := "fnExactLongestRun", unfollowed := true, recurses := true, apart := false, narrowed := true }
def FnExactLongestRunUptoSaid : Prop := fnExactLongestRunUptoRow.holds Try.pinned (OpenSpec.upto fnExactLongestRunSpec)

/-- 'laws.FnExactAcked', WHERE WHAT IT READS IS OF BULK AT MOST 1048576: true; the input reads as it did. -/
def fnExactAckedUptoRow : OpenClaim := { program := "ytkbabldehmgmaaa", sum := "6a6575eb6ef2f1bab8ea7ae61b513c547b73a849e809849215c3af68521fe2c8", func := "loop.example/g00397/laws.FnExactAcked", spec := "fnExactAcked", apart := false, narrowed := true }
def FnExactAckedUptoSaid : Prop := fnExactAckedUptoRow.holds Try.pinned (OpenSpec.upto fnExactAckedSpec)

/-- 'laws.FnExactWaysIn', WHERE WHAT IT READS IS OF BULK AT MOST 1048576: true; the input reads as it did. -/
def fnExactWaysInUptoRow : OpenClaim := { program := "ytkbabldehmgmaaa", sum := "6a6575eb6ef2f1bab8ea7ae61b513c547b73a849e809849215c3af68521fe2c8", func := "loop.example/g00397/laws.FnExactWaysIn", spec := "fnExactWaysIn", unfollowed := true, recurses := true, apart := false, narrowed := true }
def FnExactWaysInUptoSaid : Prop := fnExactWaysInUptoRow.holds Try.pinned (OpenSpec.upto fnExactWaysInSpec)

/-- 'laws.FnExactShortestRun', WHERE WHAT IT READS IS OF BULK AT MOST 1048576: true; the input reads as it did. -/
def fnExactShortestRunUptoRow : OpenClaim := { program := "ytkbabldehmgmaaa", sum := "6a6575eb6ef2f1bab8ea7ae61b513c547b73a849e809849215c3af68521fe2c8", func := "loop.example/g00397/laws.FnExactShortestRun", spec := "fnExactShortestRun", unfollowed := true, recurses := true, apart := false, narrowed := true }
def FnExactShortestRunUptoSaid : Prop := fnExactShortestRunUptoRow.holds Try.pinned (OpenSpec.upto fnExactShortestRunSpec)

end Rows
end Go.Proofs.Ytkbabldehmgmaaa
