/- laws.FnExactParted is true for all lists of lines: the card of the given row, tied to the program's text. -/
import Derived.Test.YtahmbcgolnplgaaDoorShaE
import Derived.Test.YtahmbcgolnplgaaDoorArgFnExactParted
set_option linter.unusedVariables false
set_option linter.unusedSimpArgs false
namespace Go.Proofs.YtahmbcgolnplgaaDoor.PFnExactParted
open Go Go.RowKit Go.Proofs.YtahmbcgolnplgaaDoorA Go.Proofs.YtahmbcgolnplgaaDoorL Go.Proofs.YtahmbcgolnplgaaDoor.AFnExactParted
theorem pure : Pure := by
  intro l0 l1 h0 h1
  refine Ev.rounds ?_
  unfold laws_FnExactParted.f
  obtain ⟨v, hv, h⟩ := szEntryS_of l0 1048576 h0.1 (by omega) (by omega)
  refine Ev.bindc hv ?_
  rcases h with h | ⟨a0, a1, a2⟩
  · exact Ev.pos h (Ev.now _)
  refine Ev.neg (by omega) ?_
  obtain ⟨v', hv', h'⟩ := szEntryS_of l1 v h1.1 a0 (by omega)
  refine Ev.bindc hv' ?_
  rcases h' with h' | ⟨b0, b1, b2⟩
  · exact Ev.pos h' (Ev.now _)
  refine Ev.neg (by omega) ?_
  have e0 := toEntryS_ev l0 a2
  have e1 := toEntryS_ev l1 b2
  have m0 : (l0.map cvS40_S35).length ≤ 1048576 := by simpa using a2
  have m1 : (l1.map cvS40_S35).length ≤ 1048576 := by simpa using b2
  generalize l0.map cvS40_S35 = xs at e0 m0
  generalize l1.map cvS40_S35 = ys at e1 m1
  obtain ⟨r, r1, r2⟩ := parted_ev xs ys m0 m1
  have q0 := eqEntryS_ev xs (by omega)
  have q1 := eqEntryS_ev ys (by omega)
  refine Ev.bind e0 (Ev.bind e1 (Ev.bind r1 (Ev.bind e0 (Ev.bind e1 (Ev.bind r2 ?_)))))
  exact Ev.pos (beq_self_eq_true _) (Ev.pos (beq_self_eq_true _) (Ev.pos rfl (Ev.bind e0 (Ev.bind q0 (Ev.pos rfl (Ev.bind e1 (Ev.bind q1 (Ev.pos rfl (Ev.now _)))))))))
end Go.Proofs.YtahmbcgolnplgaaDoor.PFnExactParted
namespace Go.Proofs.YtahmbcgolnplgaaDoor
/-- The card of FnExactParted. -/
theorem fnExactParted_holds : Rows.FnExactPartedCardSaid := AFnExactParted.card PFnExactParted.pure
#print axioms fnExactParted_holds
end Go.Proofs.YtahmbcgolnplgaaDoor
