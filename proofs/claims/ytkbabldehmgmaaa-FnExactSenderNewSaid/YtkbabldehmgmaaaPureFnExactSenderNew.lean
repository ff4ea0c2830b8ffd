/- What laws.FnExactSenderNew comes to, as numbers and lists: true at every input. No condition. -/
import Derived.Test.YtkbabldehmgmaaaPFnExactSenderNewx2
namespace Go.Proofs.Ytkbabldehmgmaaa.Pure
open Go.RowKit Go.Proofs.Ytkbabldehmgmaaa.PFnExactSenderNew Go.Proofs.YtkbabldehmgmaaaW.PrintWords Go.Proofs.YtkbabldehmgmaaaW.PrintLast
theorem FnExactSenderNew : laws_FnExactSenderNew.Pure := by
  intro a0 h
  refine ⟨2, ?_⟩
  simp [laws_FnExactSenderNew.f, spec_SenderNew.f, impl_SenderNew.f, laws_eqSender.f, laws_eqItemS.f, laws_eqItemS.l0, laws_markSender.f, laws_markItemS.f, laws_markItemS.l0, laws_heldSender.f, laws_heldItemS.f, laws_heldItemS.l0]
end Go.Proofs.Ytkbabldehmgmaaa.Pure
