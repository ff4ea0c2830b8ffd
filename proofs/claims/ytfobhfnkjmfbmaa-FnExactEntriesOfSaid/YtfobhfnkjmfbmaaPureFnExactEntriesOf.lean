/- laws.FnExactEntriesOf returns true at every input, its arguments as they were. No condition. -/
import Derived.Test.YtfobhfnkjmfbmaaExFnExactEntriesOf
import Derived.Test.YtfobhfnkjmfbmaaArgFnExactEntriesOf
set_option linter.unusedVariables false
set_option linter.unusedSimpArgs false
namespace Go.Proofs.Ytfobhfnkjmfbmaa.PFnExactEntriesOf
open Go.RowKit Go.Proofs.YtfobhfnkjmfbmaaW.PrintWords Go.Proofs.YtfobhfnkjmfbmaaW.PrintLast Go.Proofs.YtfobhfnkjmfbmaaL Go.Proofs.YtfobhfnkjmfbmaaO Go.Proofs.Ytfobhfnkjmfbmaa.AFnExactEntriesOf
theorem i64_of {x : Int} (h : OkN .i64 x) : -9223372036854775808 ≤ x ∧ x ≤ 9223372036854775807 := bounds_i64 h
def entOn (pid : Int) (s : List S29) (x : S136) : Except (List S29) (List S29) := .ok (if x.f0 = pid then s ++ [x.f2] else s)
def entriesV (pid : Int) (l : List S136) : List S29 := foldE (entOn pid) id l []
theorem ent_length (pid : Int) : ∀ (l : List S136) (s : List S29), (foldE (entOn pid) id l s).length ≤ s.length + l.length
  | [], s => by simp [foldE]
  | x :: r, s => by
    rw [foldE_on r (show entOn pid s x = .ok _ from rfl)]
    have := ent_length pid r (if x.f0 = pid then s ++ [x.f2] else s)
    have h2 : (if x.f0 = pid then s ++ [x.f2] else s).length ≤ s.length + 1 := by split <;> simp
    simp only [List.length_cons]; omega
theorem spec_EntriesOf_ev (l : List S136) (l1 : List Int) (l2 : List S179) (a : Int) (l4 : List Int) (pid : Int) (hn : l.length ≤ 1048576) : Ev (fun k => spec_EntriesOf.f k l l1 l2 a l4 pid) (entriesV pid l) := by
  unfold spec_EntriesOf.f entriesV
  have := foldE_ev (fun k s i => spec_EntriesOf.l0 k pid s i l l1 l2 a l4) l (entOn pid) id (fun i s => s.length ≤ i) ?_ ?_ ?_ l.length 0 [] rfl (Nat.zero_le _) (by simp)
  · simpa using this
  · intro s hs
    refine Ev.step (f := fun _ => some s) (fun k => ?_) (Ev.now _)
    simp only [spec_EntriesOf.l0]; rw [if_neg (by omega)]
  · intro i x s e hx hs he; cases he
  · intro i x s s' hx hs he
    have hi := lt_of hx
    obtain rfl : (if x.f0 = pid then s ++ [x.f2] else s) = s' := by injection he
    refine ⟨by split <;> (try simp) <;> omega, fun r h => ?_⟩
    refine Ev.step (fun k => ?_) h
    simp only [spec_EntriesOf.l0]
    rw [if_pos (by omega), if_pos (by omega), rd136 hx, w64 (by omega) (by omega)]
    by_cases hp : x.f0 = pid
    · rw [if_pos hp, if_pos hp, if_pos (by omega)]
    · rw [if_neg hp, if_neg hp]
theorem impl_EntriesOf_ev (l : List S136) (l1 : List Int) (l2 : List S179) (a : Int) (l4 : List Int) (pid : Int) (hn : l.length ≤ 1048576) : Ev (fun k => impl_EntriesOf.f k l l1 l2 a l4 pid) (entriesV pid l) := by
  unfold impl_EntriesOf.f entriesV
  have := foldE_ev (fun k s i => impl_EntriesOf.l0 k pid s l (l.length : Int) i) l (entOn pid) id (fun i s => s.length ≤ i) ?_ ?_ ?_ l.length 0 [] rfl (Nat.zero_le _) (by simp)
  · simpa using this
  · intro s hs
    refine Ev.step (f := fun _ => some s) (fun k => ?_) (Ev.now _)
    simp only [impl_EntriesOf.l0]; rw [if_neg (by omega)]
  · intro i x s e hx hs he; cases he
  · intro i x s s' hx hs he
    have hi := lt_of hx
    obtain rfl : (if x.f0 = pid then s ++ [x.f2] else s) = s' := by injection he
    refine ⟨by split <;> (try simp) <;> omega, fun r h => ?_⟩
    refine Ev.step (fun k => ?_) h
    simp only [impl_EntriesOf.l0]
    rw [if_pos (by omega), if_pos (by omega), if_pos (by omega), rd136 hx, w64 (by omega) (by omega)]
    by_cases hp : x.f0 = pid
    · rw [if_pos hp, if_pos hp, if_pos (by omega)]
    · rw [if_neg hp, if_neg hp]
theorem pure : Pure := by
  intro l0 l1 l2 a l4 pid h0 h1 h2 ha h4 hp
  refine Ev.rounds ?_
  unfold laws_FnExactEntriesOf.f
  obtain ⟨v, hv, h⟩ := szKeeper_of l0 l1 l2 a l4 1048576 h0.1 h1.1 h2.1 h4.1 (by omega) (by omega)
  refine Ev.bind (Ev.const hv) ?_
  rcases h with h | ⟨k0, k1, n0, n1, n2, n4⟩
  · exact Ev.pos h (Ev.now _)
  have e1 := toKeeper_ev l0 l1 l2 a l4 n0 n1 n2 n4
  have m0 : (l0.map cvS177_S136).length ≤ 1048576 := by simpa using n0
  have m2 : (l2.map cvS181_S179).length ≤ 1048576 := by simpa using n2
  have m1 : (l1.map (fun x : Int => x)).length ≤ 1048576 := by simpa using n1
  have m4 : (l4.map (fun x : Int => x)).length ≤ 1048576 := by simpa using n4
  generalize l0.map cvS177_S136 = x0 at e1 m0
  generalize l2.map cvS181_S179 = x2 at e1 m2
  generalize l1.map (fun x : Int => x) = x1 at e1 m1
  generalize l4.map (fun x : Int => x) = x4 at e1 m4
  have e2 := spec_EntriesOf_ev x0 x1 x2 a x4 pid m0
  have e3 := impl_EntriesOf_ev x0 x1 x2 a x4 pid m0
  have hg : (entriesV pid x0).length ≤ x0.length := by have := ent_length pid x0 []; simpa [entriesV] using this
  generalize entriesV pid x0 = g at e2 e3 hg
  have e4 := eqKeeper_ev x0 x1 x2 a x4 (by omega) (by omega) (by omega) (by omega)
  have e5 := eqItemS_ev g (by omega)
  have c0 : mcount ctS136 x0 ≤ 6300000 := by rw [mcount_const ctS136 6 (fun _ => rfl)]; omega
  have c1 : mcount ctInt x1 ≤ 1048576 := by rw [mcount_const ctInt 1 (fun _ => rfl)]; omega
  have c2 : mcount ctS179 x2 ≤ 6300000 := by rw [mcount_const ctS179 6 (fun _ => rfl)]; omega
  have c4 : mcount ctInt x4 ≤ 1048576 := by rw [mcount_const ctInt 1 (fun _ => rfl)]; omega
  have c5 : mcount ctS29 g ≤ 6300000 := by rw [mcount_const ctS29 4 (fun _ => rfl)]; omega
  have e6 := markKeeper_ev x0 x1 x2 a x4 1 (by omega) (by omega) (by omega) (by omega) (by omega) (by omega)
  have e7 := markItemS_ev g 1 (by omega) (by omega) (by omega)
  have e8 := heldItemS_ev g 1 (by omega) (by omega) (by omega)
  repeat (first
    | (with_reducible refine Ev.bind e1 ?_; try dsimp only)
    | (with_reducible refine Ev.bind e2 ?_; try dsimp only)
    | (with_reducible refine Ev.bind e3 ?_; try dsimp only)
    | (with_reducible refine Ev.bind e4 ?_; try dsimp only)
    | (with_reducible refine Ev.bind e5 ?_; try dsimp only)
    | (with_reducible refine Ev.bind e6 ?_; try dsimp only)
    | (with_reducible refine Ev.bind e7 ?_; try dsimp only)
    | (with_reducible refine Ev.bind e8 ?_; try dsimp only)
    | (refine Ev.neg (by omega) ?_)
    | (refine Ev.pos (by first | rfl | omega) ?_)
    | (refine Ev.neg (by simp) ?_)
    | (refine Ev.step (fun _ => rfl) ?_; simp only [laws_FnExactEntriesOf.j0])
    | exact Ev.now _)
end Go.Proofs.Ytfobhfnkjmfbmaa.PFnExactEntriesOf
namespace Go.Proofs.Ytfobhfnkjmfbmaa
/-- The given statement. -/
theorem fnExactEntriesOf_holds : Rows.FnExactEntriesOfSaid := AFnExactEntriesOf.row PFnExactEntriesOf.pure
#print axioms fnExactEntriesOf_holds
end Go.Proofs.Ytfobhfnkjmfbmaa
