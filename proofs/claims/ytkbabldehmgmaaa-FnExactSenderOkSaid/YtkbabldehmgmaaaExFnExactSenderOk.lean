/- What the printed helpers of laws.FnExactSenderOk come to: copies, equals, sizes, marks. Conditions: the lengths and numbers that each theorem names. -/
import Derived.Test.YtkbabldehmgmaaaPFnExactSenderOkx3
import Derived.Test.YtkbabldehmgmaaaLib
set_option linter.unusedVariables false
set_option linter.unusedSimpArgs false
namespace Go.Proofs.Ytkbabldehmgmaaa.PFnExactSenderOk
open Go.RowKit Go.Proofs.YtkbabldehmgmaaaW.PrintWords Go.Proofs.YtkbabldehmgmaaaW.PrintLast Go.Proofs.YtkbabldehmgmaaaL
theorem lt_of {α : Type} {l : List α} {i : Nat} {x : α} (h : l[i]? = some x) : i < l.length := (List.getElem?_eq_some_iff.1 h).1
theorem rd47 {l : List S47} {i : Nat} {x : S47} (h : l[i]? = some x) : rd_T47 l (i : Int) = x := by
  unfold rd_T47; simpa using get_of l z47 h
theorem eqItemS_ev (l : List S47) (hl : l.length ≤ 4611686018427387904) : Ev (fun k => laws_eqItemS.f k l l) true := by
  unfold laws_eqItemS.f
  refine Ev.pos rfl ?_
  refine same_ev (fun k i => laws_eqItemS.l0 k l l i) l ?_ ?_
  · refine Ev.step (f := fun _ => some true) (fun k => ?_) (Ev.now _)
    simp only [laws_eqItemS.l0]; rw [if_neg (by omega)]
  · intro i x hx h
    have hi := lt_of hx
    refine Ev.step (fun k => ?_) h
    simp only [laws_eqItemS.l0]
    rw [if_pos (by omega), if_pos (by omega), if_pos (by omega), rd47 hx]
    simp [laws_eqItem.f, laws_eqItem.f]
    rw [w64 (by omega) (by omega)]
theorem eqSender_ev (a0_0 : Int) (a0_1 : Int) (l0_2 : List S47) (a0_3 : Int) (a0_4 : Int) (hl0_2 : l0_2.length ≤ 4611686018427387904) : Ev (fun k => laws_eqSender.f k a0_0 a0_1 l0_2 a0_3 a0_4 a0_0 a0_1 l0_2 a0_3 a0_4) true := by
  unfold laws_eqSender.f
  repeat (first | refine Ev.pos rfl ?_ | refine Ev.neg (by simp) ?_ | (refine Ev.bind (eqItemS_ev _ (by assumption)) ?_; try dsimp only))
  exact Ev.now _
theorem szItemS_of (l : List S43) (a : Int) (hl : l.length ≤ 9223372036854775807) (h0 : 0 ≤ a) (ha : a ≤ 1048576) : ∃ v, laws_szItemS.f l a = some v ∧ (v < 0 ∨ (0 ≤ v ∧ v ≤ a ∧ l.length ≤ 1048576)) := by
  unfold laws_szItemS.f
  rw [w64 (by omega) (by omega)]
  by_cases h : a - (l.length : Int) < 0
  · rw [if_pos h]; exact ⟨_, rfl, .inl (by omega)⟩
  · rw [if_neg h]; exact ⟨_, rfl, .inr ⟨by omega, by omega, by omega⟩⟩
theorem szSender_of (a0_0 : Int) (a0_1 : Int) (l0_2 : List S43) (a0_3 : Int) (a0_4 : Int) (a1 : Int) (hl0_2 : l0_2.length ≤ 9223372036854775807)  (h0 : 0 ≤ a1) (ha : a1 ≤ 1048576) : ∃ v, laws_szSender.f a0_0 a0_1 l0_2 a0_3 a0_4 a1 = some v ∧ (v < 0 ∨ (0 ≤ v ∧ v ≤ a1 ∧ l0_2.length ≤ 1048576)) := by
  unfold laws_szSender.f
  obtain ⟨v1, e1, h1⟩ := szItemS_of l0_2 a1 hl0_2 (by omega) (by omega)
  rw [e1]; simp only [Option.bind_some]
  rcases h1 with h1 | h1
  · rw [if_pos h1]; exact ⟨_, rfl, .inl (by omega)⟩
  rw [if_neg (by omega)]
  exact ⟨_, rfl, .inr (by omega)⟩
def cvS43_S47 (x : S43) : S47 := ⟨x.f0, x.f1, x.f2, x.f3⟩
theorem rd43 {l : List S43} {i : Nat} {x : S43} (h : l[i]? = some x) : rd_T43 l (i : Int) = x := by
  unfold rd_T43; simpa using get_of l z43 h
theorem toItemS_ev (l : List S43) (hl : l.length ≤ 1048576) : Ev (fun k => laws_toItemS.f k l) (l.map cvS43_S47) := by
  unfold laws_toItemS.f
  refine Ev.pos (by omega) (Ev.pos (by omega) ?_)
  rw [Int.toNat_natCast]
  refine copy_ev (fun k out i => laws_toItemS.l0 k l out i) l cvS43_S47 z47 ?_ ?_
  · intro out
    refine Ev.step (f := fun _ => some out) (fun k => ?_) (Ev.now _)
    simp only [laws_toItemS.l0]; rw [if_neg (by omega)]
  · intro i x out r hx ho h
    have hi := lt_of hx
    refine Ev.step (fun k => ?_) h
    simp only [laws_toItemS.l0]
    rw [if_pos (by omega), if_pos (by omega), rd43 hx]
    simp only [laws_toItem.f, laws_toItem.f, Option.bind_some]
    rw [if_pos (by omega), w64 (by omega) (by omega), Int.toNat_natCast]
    rfl
theorem toSender_ev (a0_0 : Int) (a0_1 : Int) (l0_2 : List S43) (a0_3 : Int) (a0_4 : Int) (hl0_2 : l0_2.length ≤ 1048576) : Ev (fun k => laws_toSender.f k a0_0 a0_1 l0_2 a0_3 a0_4) (a0_0, a0_1, l0_2.map cvS43_S47, a0_3, a0_4) := by
  unfold laws_toSender.f
  repeat (first | (refine Ev.bind (toItemS_ev _ (by assumption)) ?_; try dsimp only))
  exact Ev.now _
end Go.Proofs.Ytkbabldehmgmaaa.PFnExactSenderOk
