/- laws.FnExactAckOf returns true at every input, its arguments as they were. No condition. -/
import Derived.Test.YtfobhfnkjmfbmaaExFnExactAckOf
import Derived.Test.YtfobhfnkjmfbmaaArgFnExactAckOf
set_option linter.unusedVariables false
set_option linter.unusedSimpArgs false
namespace Go.Proofs.Ytfobhfnkjmfbmaa.PFnExactAckOf
open Go.RowKit Go.Proofs.YtfobhfnkjmfbmaaW.PrintWords Go.Proofs.YtfobhfnkjmfbmaaW.PrintLast Go.Proofs.YtfobhfnkjmfbmaaL Go.Proofs.YtfobhfnkjmfbmaaO Go.Proofs.Ytfobhfnkjmfbmaa.AFnExactAckOf
theorem i64_of {x : Int} (h : OkN .i64 x) : -9223372036854775808 ≤ x ∧ x ≤ 9223372036854775807 := bounds_i64 h
theorem pure : Pure := by
  intro l0 l1 l2 a l4 pid h0 h1 h2 ha h4 hp
  refine Ev.rounds ?_
  unfold laws_FnExactAckOf.f
  obtain ⟨v, hv, h⟩ := szKeeper_of l0 l1 l2 a l4 1048576 h0.1 h1.1 h2.1 h4.1 (by omega) (by omega)
  refine Ev.bind (Ev.const hv) ?_
  rcases h with h | ⟨k0, k1, n0, n1, n2, n4⟩
  · exact Ev.pos h (Ev.now _)
  have e1 := toKeeper_ev l0 l1 l2 a l4 n0 n1 n2 n4
  have m0 : (l0.map cvS177_S136).length ≤ 1048576 := by simpa using n0
  have m2 : (l2.map cvS181_S179).length ≤ 1048576 := by simpa using n2
  have m1 : (l1.map (fun x : Int => x)).length ≤ 1048576 := by simpa using n1
  have m4 : (l4.map (fun x : Int => x)).length ≤ 1048576 := by simpa using n4
  generalize l0.map cvS177_S136 = x0 at e1 m0
  generalize l2.map cvS181_S179 = x2 at e1 m2
  generalize l1.map (fun x : Int => x) = x1 at e1 m1
  generalize l4.map (fun x : Int => x) = x4 at e1 m4
  have e2 : ∃ r, spec_AckOf.f x0 x1 x2 a x4 pid = some r := by
    unfold spec_AckOf.f spec_l01In.f
    rw [w64 (by omega) (by omega)]
    by_cases g : pid ≥ 0
    · rw [if_pos g]
      by_cases g' : pid ≤ (x4.length : Int) - 1
      · simp only [Option.bind_some, decide_eq_true g', if_true]
        rw [if_pos (by omega), if_pos (by omega)]; exact ⟨_, rfl⟩
      · simp only [Option.bind_some, decide_eq_false g', Bool.false_eq_true, if_false]; exact ⟨_, rfl⟩
    · rw [if_neg g]; simp only [Option.bind_some, Bool.false_eq_true, if_false]; exact ⟨_, rfl⟩
  obtain ⟨r, e2⟩ := e2
  have e3 : impl_AckOf.f x0 x1 x2 a x4 pid = some r := e2
  have e4 := eqKeeper_ev x0 x1 x2 a x4 (by omega) (by omega) (by omega) (by omega)
  have e5 : ∀ a b c d e f g : Int, laws_eqFrame.f a b c d e f g a b c d e f g = some true := by
    intro a b c d e f g; simp [laws_eqFrame.f, laws_eqItem.f]
  repeat (first
    | (with_reducible refine Ev.bind e1 ?_; try dsimp only)
    | (with_reducible refine Ev.bindc e2 ?_; try dsimp only)
    | (with_reducible refine Ev.bindc e3 ?_; try dsimp only)
    | (with_reducible refine Ev.bind e4 ?_; try dsimp only)
    | (with_reducible refine Ev.bindc (e5 _ _ _ _ _ _ _) ?_; try dsimp only)
    | (refine Ev.neg (by omega) ?_)
    | (refine Ev.pos (by rfl) ?_)
    | (refine Ev.neg (by simp) ?_)
    | (refine Ev.step (fun _ => rfl) ?_; simp only [laws_FnExactAckOf.j0])
    | exact Ev.now _)
end Go.Proofs.Ytfobhfnkjmfbmaa.PFnExactAckOf
namespace Go.Proofs.Ytfobhfnkjmfbmaa
/-- The given statement. -/
theorem fnExactAckOf_holds : Rows.FnExactAckOfSaid := AFnExactAckOf.row PFnExactAckOf.pure
#print axioms fnExactAckOf_holds
end Go.Proofs.Ytfobhfnkjmfbmaa
