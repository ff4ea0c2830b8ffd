/- laws.FnExactFallKeeper returns true at every input, its argument as it was. No condition. -/
import Derived.Test.YtfobhfnkjmfbmaaExFnExactFallKeeper
import Derived.Test.YtfobhfnkjmfbmaaArgFnExactFallKeeper
set_option linter.unusedVariables false
set_option linter.unusedSimpArgs false
namespace Go.Proofs.Ytfobhfnkjmfbmaa.PFnExactFallKeeper
open Go.RowKit Go.Proofs.YtfobhfnkjmfbmaaW.PrintWords Go.Proofs.YtfobhfnkjmfbmaaW.PrintLast Go.Proofs.YtfobhfnkjmfbmaaL Go.Proofs.YtfobhfnkjmfbmaaO Go.Proofs.Ytfobhfnkjmfbmaa.AFnExactFallKeeper
theorem i64_of {x : Int} (h : OkN .i64 x) : -9223372036854775808 ≤ x ∧ x ≤ 9223372036854775807 := bounds_i64 h
theorem spec_l20Copy_of (x0 : List S136) (x1 : List Int) (x2 : List S179) (a : Int) (x4 : List Int) (h0 : x0.length ≤ 1048576) (h1 : x1.length ≤ 1048576) (h2 : x2.length ≤ 1048576) (h4 : x4.length ≤ 1048576) : spec_l20Copy.f x0 x1 x2 a x4 = some (x0, x1, x2, a, x4) := by
  unfold spec_l20Copy.f
  simp only [Option.bind_some, List.length_nil, List.nil_append]
  rw [if_pos (by omega), if_pos (by omega), if_pos (by omega), if_pos (by omega)]
theorem impl_copyInts_of (x : List Int) (h : x.length ≤ 1048576) : impl_copyInts.f x = some x := by
  unfold impl_copyInts.f
  simp only [Option.bind_some, List.length_nil, List.nil_append]
  rw [if_pos (by omega)]
theorem impl_copyKeeper_of (x0 : List S136) (x1 : List Int) (x2 : List S179) (a : Int) (x4 : List Int) (h0 : x0.length ≤ 1048576) (h1 : x1.length ≤ 1048576) (h2 : x2.length ≤ 1048576) (h4 : x4.length ≤ 1048576) : impl_copyKeeper.f x0 x1 x2 a x4 = some (x0, x1, x2, a, x4) := by
  unfold impl_copyKeeper.f
  rw [impl_copyInts_of x1 h1, impl_copyInts_of x4 h4]
  simp only [Option.bind_some, List.length_nil, List.nil_append]
  rw [if_pos (by omega), if_pos (by omega)]
def valV (x0 : List S136) (_ : List Int) (_ : List S179) (a : Int) (x4 : List Int) : (List S136) × List Int × (List S179) × Int × List Int := ((if 0 ≤ a ∧ a ≤ (x0.length : Int) then x0.take a.toNat else x0), x4, [], a, x4)
theorem val_length (x0 : List S136) (x1 : List Int) (x2 : List S179) (a : Int) (x4 : List Int) (h0 : x0.length ≤ 1048576) (h1 : x1.length ≤ 1048576) (h2 : x2.length ≤ 1048576) (h4 : x4.length ≤ 1048576) :
    (valV x0 x1 x2 a x4).1.length ≤ 1048576 ∧ (valV x0 x1 x2 a x4).2.1.length ≤ 1048576 ∧ (valV x0 x1 x2 a x4).2.2.1.length ≤ 1048576 ∧ (valV x0 x1 x2 a x4).2.2.2.2.length ≤ 1048576 := by
  refine ⟨?_, h4, by simp [valV], h4⟩
  unfold valV
  dsimp only
  split
  · rw [List.length_take]; omega
  · exact h0
theorem spec_l01In_of (x lo hi : Int) : spec_l01In.f x lo hi = some (decide (lo ≤ x ∧ x ≤ hi)) := by
  unfold spec_l01In.f
  rw [ite_some]; congr 1; rw [Bool.eq_iff_iff]
  by_cases h : x ≥ lo <;> simp [h] <;> omega
theorem impl_within_of (x lo hi : Int) : impl_within.f x lo hi = some (decide (lo ≤ x ∧ x ≤ hi)) := spec_l01In_of x lo hi
theorem spec_of (x0 : List S136) (x1 : List Int) (x2 : List S179) (a : Int) (x4 : List Int) (h0 : x0.length ≤ 1048576) (h1 : x1.length ≤ 1048576) (h2 : x2.length ≤ 1048576) (h4 : x4.length ≤ 1048576) : spec_FallKeeper.f x0 x1 x2 a x4 = some (valV x0 x1 x2 a x4) := by
  unfold spec_FallKeeper.f valV
  rw [spec_l20Copy_of x0 x1 x2 a x4 h0 h1 h2 h4, spec_l01In_of]
  simp only [Option.bind_some, List.length_nil, List.nil_append, decide_eq_true_eq]
  by_cases h : 0 ≤ a ∧ a ≤ (x0.length : Int)
  · rw [if_pos h, if_pos h.1, if_pos h.2, if_pos (by rw [List.length_take]; omega), if_pos (by omega), if_pos h]
  · rw [if_neg h, if_pos (by omega), if_neg h]
theorem impl_of (x0 : List S136) (x1 : List Int) (x2 : List S179) (a : Int) (x4 : List Int) (h0 : x0.length ≤ 1048576) (h1 : x1.length ≤ 1048576) (h2 : x2.length ≤ 1048576) (h4 : x4.length ≤ 1048576) : impl_FallKeeper.f x0 x1 x2 a x4 = some (valV x0 x1 x2 a x4) := by
  unfold impl_FallKeeper.f valV
  rw [impl_copyKeeper_of x0 x1 x2 a x4 h0 h1 h2 h4, impl_within_of]
  simp only [Option.bind_some, decide_eq_true_eq]
  rw [impl_copyInts_of x4 h4]
  simp only [Option.bind_some]
  by_cases h : 0 ≤ a ∧ a ≤ (x0.length : Int)
  · rw [if_pos h, if_pos h.1, if_pos h.2, if_pos h]
  · rw [if_neg h, if_neg h]
theorem pure : Pure := by
  intro l0 l1 l2 a l4 h0 h1 h2 ha h4
  refine Ev.rounds ?_
  unfold laws_FnExactFallKeeper.f
  obtain ⟨v, hv, h⟩ := szKeeper_of l0 l1 l2 a l4 1048576 h0.1 h1.1 h2.1 h4.1 (by omega) (by omega)
  refine Ev.bind (Ev.const hv) ?_
  rcases h with h | ⟨k0, k1, n0, n1, n2, n4⟩
  · exact Ev.pos h (Ev.now _)
  have e1 := toKeeper_ev l0 l1 l2 a l4 n0 n1 n2 n4
  have m0 : (l0.map cvS177_S136).length ≤ 1048576 := by simpa using n0
  have m2 : (l2.map cvS181_S179).length ≤ 1048576 := by simpa using n2
  have m1 : (l1.map (fun x : Int => x)).length ≤ 1048576 := by simpa using n1
  have m4 : (l4.map (fun x : Int => x)).length ≤ 1048576 := by simpa using n4
  generalize l0.map cvS177_S136 = x0 at e1 m0
  generalize l2.map cvS181_S179 = x2 at e1 m2
  generalize l1.map (fun x : Int => x) = x1 at e1 m1
  generalize l4.map (fun x : Int => x) = x4 at e1 m4
  have e2 := spec_of x0 x1 x2 a x4 m0 m1 m2 m4
  have e3 := impl_of x0 x1 x2 a x4 m0 m1 m2 m4
  have hg := val_length x0 x1 x2 a x4 m0 m1 m2 m4
  generalize valV x0 x1 x2 a x4 = g at e2 e3 hg
  obtain ⟨g0, g1, g2, g3, g4⟩ := g
  obtain ⟨p0, p1, p2, p4⟩ := hg
  replace p0 : g0.length ≤ 1048576 := p0
  replace p1 : g1.length ≤ 1048576 := p1
  replace p2 : g2.length ≤ 1048576 := p2
  replace p4 : g4.length ≤ 1048576 := p4
  have e4 := eqKeeper_ev x0 x1 x2 a x4 (by omega) (by omega) (by omega) (by omega)
  have e5 := eqKeeper_ev g0 g1 g2 g3 g4 (by omega) (by omega) (by omega) (by omega)
  have c0 : mcount ctS136 x0 ≤ 6300000 := by rw [mcount_const ctS136 6 (fun _ => rfl)]; omega
  have c1 : mcount ctInt x1 ≤ 1048576 := by rw [mcount_const ctInt 1 (fun _ => rfl)]; omega
  have c2 : mcount ctS179 x2 ≤ 6300000 := by rw [mcount_const ctS179 6 (fun _ => rfl)]; omega
  have c4 : mcount ctInt x4 ≤ 1048576 := by rw [mcount_const ctInt 1 (fun _ => rfl)]; omega
  have d0 : mcount ctS136 g0 ≤ 6300000 := by rw [mcount_const ctS136 6 (fun _ => rfl)]; omega
  have d1 : mcount ctInt g1 ≤ 1048576 := by rw [mcount_const ctInt 1 (fun _ => rfl)]; omega
  have d2 : mcount ctS179 g2 ≤ 6300000 := by rw [mcount_const ctS179 6 (fun _ => rfl)]; omega
  have d4 : mcount ctInt g4 ≤ 1048576 := by rw [mcount_const ctInt 1 (fun _ => rfl)]; omega
  have e6 := markKeeper_ev x0 x1 x2 a x4 1 (by omega) (by omega) (by omega) (by omega) (by omega) (by omega)
  have e7 := markKeeper_ev g0 g1 g2 g3 g4 1 (by omega) (by omega) (by omega) (by omega) (by omega) (by omega)
  have e8 := heldKeeper_ev g0 g1 g2 g3 g4 1 (by omega) (by omega) (by omega) (by omega) (by omega) (by omega)
  repeat (first
    | (with_reducible refine Ev.bind e1 ?_; try dsimp only)
    | (with_reducible refine Ev.bindc e2 ?_; try dsimp only)
    | (with_reducible refine Ev.bindc e3 ?_; try dsimp only)
    | (with_reducible refine Ev.bind e4 ?_; try dsimp only)
    | (with_reducible refine Ev.bind e5 ?_; try dsimp only)
    | (with_reducible refine Ev.bind e6 ?_; try dsimp only)
    | (with_reducible refine Ev.bind e7 ?_; try dsimp only)
    | (with_reducible refine Ev.bind e8 ?_; try dsimp only)
    | (refine Ev.neg (by omega) ?_)
    | (refine Ev.pos (by first | rfl | omega) ?_)
    | (refine Ev.neg (by simp) ?_)
    | (refine Ev.step (fun _ => rfl) ?_; simp only [laws_FnExactFallKeeper.j0])
    | exact Ev.now _)
end Go.Proofs.Ytfobhfnkjmfbmaa.PFnExactFallKeeper
namespace Go.Proofs.Ytfobhfnkjmfbmaa
/-- The given statement. -/
theorem fnExactFallKeeper_holds : Rows.FnExactFallKeeperSaid := AFnExactFallKeeper.row PFnExactFallKeeper.pure
#print axioms fnExactFallKeeper_holds
end Go.Proofs.Ytfobhfnkjmfbmaa
