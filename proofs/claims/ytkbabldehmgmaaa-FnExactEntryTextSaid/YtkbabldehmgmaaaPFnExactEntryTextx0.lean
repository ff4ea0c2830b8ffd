import Derived.Test.YtkbabldehmgmaaaProg
import Derived.Below
import Derived.Deep.Draws
import Derived.Deep.AppendLies
import Derived.Maps.AppendAt
import Derived.OwnWalk
import Derived.Laws.BytesArg
import Derived.Laws.MakeOwn
import Derived.Laws.OwnMore
import Derived.Deep.OwnRows
import Derived.Tactics
import Derived.Lib.ConvBytes
import Derived.Laws.Slices
import Derived.WalkKit
import Derived.KernelRfl
import Derived.RowKit3
import Derived.Deep.LoopGhost
import Derived.Deep.QuietTactic
import Derived.BigQuiet
import Derived.WideLaws
import Derived.Deep.DeepCutAuto
import Derived.Deep.CutBlock
import Derived.Deep.RegionHeld3
import Derived.Laws.Rows
import Derived.Lib.AppendStr
import Derived.ArgAppend
import Derived.Laws.IdiomCopy
import Derived.OrdersHeld
import Derived.Laws.BitsLemmas
import Derived.RowKit
import Derived.Test.YtkbabldehmgmaaaWWords
import Derived.Test.YtkbabldehmgmaaaWLast
import Derived.Test.YtkbabldehmgmaaaWTab
import Derived.Test.YtkbabldehmgmaaaWFour
import Derived.Test.YtkbabldehmgmaaaWQPut
import Derived.Test.YtkbabldehmgmaaaWApart
import Derived.Test.YtkbabldehmgmaaaWArr
import Derived.Test.YtkbabldehmgmaaaWZeros
import Derived.Test.YtkbabldehmgmaaaWFoot
import Derived.Test.YtkbabldehmgmaaaWKept
import Derived.Test.YtkbabldehmgmaaaWShare
import Derived.Test.YtkbabldehmgmaaaWN
import Derived.Test.YtkbabldehmgmaaaWFootNe
import Derived.Test.YtkbabldehmgmaaaWAt
import Derived.Test.YtkbabldehmgmaaaWEqStruct
import Derived.Test.YtkbabldehmgmaaaWRepsOne
import Derived.Test.YtkbabldehmgmaaaWInv
import Derived.Test.YtkbabldehmgmaaaWInvWords
import Derived.Test.YtkbabldehmgmaaaWGuard
import Derived.Test.YtkbabldehmgmaaaWNEv
import Derived.Test.YtkbabldehmgmaaaWMore
import Derived.Test.YtkbabldehmgmaaaSh
namespace Go.Proofs.Ytkbabldehmgmaaa.PFnExactEntryText
open Go.RowKit Go.Proofs.YtkbabldehmgmaaaW.PrintWords Go.Proofs.YtkbabldehmgmaaaW.PrintLast Go.Proofs.YtkbabldehmgmaaaW.PrintMore Go.Proofs.YtkbabldehmgmaaaH
attribute [local go_sem] max2_int min2_int max_two min_two max_three min_three max_four min_four   -- for this text's walks alone
set_option linter.unusedVariables false
set_option linter.unusedSimpArgs false



def errW : Option Int → Value
 | none => .nilIface
 | some c => .iface 0 (.int .i64 c)
theorem errW_none : errW none = .nilIface := rfl
theorem errW_some (c : Int) : errW (some c) = .iface 0 (.int .i64 c) := rfl

theorem info5 : (Try.prog.info? 5).map (fun i => (i.zero, i.size, i.bytes)) = some (some (.int .u8 0), 1, 1) := by kernel_rfl
-- the values' own types

end Go.Proofs.Ytkbabldehmgmaaa.PFnExactEntryText
