/- What the printed helpers of laws.FnExactEventOk come to: copies, equals, sizes, marks. Conditions: the lengths and numbers that each theorem names. -/
import Derived.Test.YtkbabldehmgmaaaPFnExactEventOkx5
import Derived.Test.YtkbabldehmgmaaaLib
set_option linter.unusedVariables false
set_option linter.unusedSimpArgs false
namespace Go.Proofs.Ytkbabldehmgmaaa.PFnExactEventOk
open Go.RowKit Go.Proofs.YtkbabldehmgmaaaW.PrintWords Go.Proofs.YtkbabldehmgmaaaW.PrintLast Go.Proofs.YtkbabldehmgmaaaL
theorem lt_of {α : Type} {l : List α} {i : Nat} {x : α} (h : l[i]? = some x) : i < l.length := (List.getElem?_eq_some_iff.1 h).1
theorem szWideS_of (l : List S177) (a : Int) (hl : l.length ≤ 9223372036854775807) (h0 : 0 ≤ a) (ha : a ≤ 1048576) : ∃ v, laws_szWideS.f l a = some v ∧ (v < 0 ∨ (0 ≤ v ∧ v ≤ a ∧ l.length ≤ 1048576)) := by
  unfold laws_szWideS.f
  rw [w64 (by omega) (by omega)]
  by_cases h : a - (l.length : Int) < 0
  · rw [if_pos h]; exact ⟨_, rfl, .inl (by omega)⟩
  · rw [if_neg h]; exact ⟨_, rfl, .inr ⟨by omega, by omega, by omega⟩⟩
theorem szCall_of (a0_0 : Int) (a0_1 : Int) (l0_2 : List S177) (a1 : Int) (hl0_2 : l0_2.length ≤ 9223372036854775807)  (h0 : 0 ≤ a1) (ha : a1 ≤ 1048576) : ∃ v, laws_szCall.f a0_0 a0_1 l0_2 a1 = some v ∧ (v < 0 ∨ (0 ≤ v ∧ v ≤ a1 ∧ l0_2.length ≤ 1048576)) := by
  unfold laws_szCall.f
  obtain ⟨v1, e1, h1⟩ := szWideS_of l0_2 a1 hl0_2 (by omega) (by omega)
  rw [e1]; simp only [Option.bind_some]
  rcases h1 with h1 | h1
  · rw [if_pos h1]; exact ⟨_, rfl, .inl (by omega)⟩
  rw [if_neg (by omega)]
  exact ⟨_, rfl, .inr (by omega)⟩
theorem szEvent_of (a0_0 : Int) (a0_1 : Int) (a0_2 : Int) (a0_3 : Int) (a0_4 : Int) (l0_5 : List S177) (a0_6 : ByteArray) (a1 : Int) (hl0_5 : l0_5.length ≤ 9223372036854775807) (ha0_6 : a0_6.size ≤ 9223372036854775807) (h0 : 0 ≤ a1) (ha : a1 ≤ 1048576) : ∃ v, laws_szEvent.f a0_0 a0_1 a0_2 a0_3 a0_4 l0_5 a0_6 a1 = some v ∧ (v < 0 ∨ (0 ≤ v ∧ v ≤ a1 ∧ l0_5.length ≤ 1048576 ∧ a0_6.size ≤ 1048576)) := by
  unfold laws_szEvent.f
  obtain ⟨v1, e1, h1⟩ := szCall_of a0_3 a0_4 l0_5 a1 hl0_5 (by omega) (by omega)
  rw [e1]; simp only [Option.bind_some]
  rcases h1 with h1 | h1
  · rw [if_pos h1]; exact ⟨_, rfl, .inl (by omega)⟩
  rw [if_neg (by omega)]
  rw [w64 (by omega) (by omega)]
  by_cases hsa0_6 : v1 - (a0_6.size : Int) < 0
  · rw [if_pos hsa0_6]; exact ⟨_, rfl, .inl (by omega)⟩
  rw [if_neg hsa0_6]
  exact ⟨_, rfl, .inr (by omega)⟩
def cvS177_S131 (x : S177) : S131 := ⟨x.f0, x.f1⟩
theorem rd177 {l : List S177} {i : Nat} {x : S177} (h : l[i]? = some x) : rd_T177 l (i : Int) = x := by
  unfold rd_T177; simpa using get_of l z177 h
theorem toWideS_ev (l : List S177) (hl : l.length ≤ 1048576) : Ev (fun k => laws_toWideS.f k l) (l.map cvS177_S131) := by
  unfold laws_toWideS.f
  refine Ev.pos (by omega) (Ev.pos (by omega) ?_)
  rw [Int.toNat_natCast]
  refine copy_ev (fun k out i => laws_toWideS.l0 k l out i) l cvS177_S131 z131 ?_ ?_
  · intro out
    refine Ev.step (f := fun _ => some out) (fun k => ?_) (Ev.now _)
    simp only [laws_toWideS.l0]; rw [if_neg (by omega)]
  · intro i x out r hx ho h
    have hi := lt_of hx
    refine Ev.step (fun k => ?_) h
    simp only [laws_toWideS.l0]
    rw [if_pos (by omega), if_pos (by omega), rd177 hx]
    simp only [laws_toWide.f, laws_toWide.f, Option.bind_some]
    rw [if_pos (by omega), w64 (by omega) (by omega), Int.toNat_natCast]
    rfl
theorem toCall_ev (a0_0 : Int) (a0_1 : Int) (l0_2 : List S177) (hl0_2 : l0_2.length ≤ 1048576) : Ev (fun k => laws_toCall.f k a0_0 a0_1 l0_2) (a0_0, a0_1, l0_2.map cvS177_S131) := by
  unfold laws_toCall.f
  repeat (first | (refine Ev.bind (toWideS_ev _ (by assumption)) ?_; try dsimp only))
  exact Ev.now _
theorem toEvent_ev (a0_0 : Int) (a0_1 : Int) (a0_2 : Int) (a0_3 : Int) (a0_4 : Int) (l0_5 : List S177) (a0_6 : ByteArray) (hl0_5 : l0_5.length ≤ 1048576) : Ev (fun k => laws_toEvent.f k a0_0 a0_1 a0_2 a0_3 a0_4 l0_5 a0_6) (a0_0, a0_1, a0_2, a0_3, a0_4, l0_5.map cvS177_S131, a0_6) := by
  unfold laws_toEvent.f
  repeat (first | (refine Ev.bind (toCall_ev _ _ _ (by assumption)) ?_; try dsimp only))
  exact Ev.now _
theorem rd131 {l : List S131} {i : Nat} {x : S131} (h : l[i]? = some x) : rd_T131 l (i : Int) = x := by
  unfold rd_T131; simpa using get_of l z131 h
theorem eqWideS_ev (l : List S131) (hl : l.length ≤ 4611686018427387904) : Ev (fun k => laws_eqWideS.f k l l) true := by
  unfold laws_eqWideS.f
  refine Ev.pos rfl ?_
  refine same_ev (fun k i => laws_eqWideS.l0 k l l i) l ?_ ?_
  · refine Ev.step (f := fun _ => some true) (fun k => ?_) (Ev.now _)
    simp only [laws_eqWideS.l0]; rw [if_neg (by omega)]
  · intro i x hx h
    have hi := lt_of hx
    refine Ev.step (fun k => ?_) h
    simp only [laws_eqWideS.l0]
    rw [if_pos (by omega), if_pos (by omega), if_pos (by omega), rd131 hx]
    simp [laws_eqWide.f, laws_eqWide.f]
    rw [w64 (by omega) (by omega)]
theorem eqCall_ev (a0_0 : Int) (a0_1 : Int) (l0_2 : List S131) (hl0_2 : l0_2.length ≤ 4611686018427387904) : Ev (fun k => laws_eqCall.f k a0_0 a0_1 l0_2 a0_0 a0_1 l0_2) true := by
  unfold laws_eqCall.f
  repeat (first | refine Ev.pos rfl ?_ | refine Ev.neg (by simp) ?_ | (refine Ev.bind (eqWideS_ev _ (by assumption)) ?_; try dsimp only))
  exact Ev.now _
theorem eqEvent_ev (a0_0 : Int) (a0_1 : Int) (a0_2 : Int) (a0_3 : Int) (a0_4 : Int) (l0_5 : List S131) (a0_6 : ByteArray) (hl0_5 : l0_5.length ≤ 4611686018427387904) : Ev (fun k => laws_eqEvent.f k a0_0 a0_1 a0_2 a0_3 a0_4 l0_5 a0_6 a0_0 a0_1 a0_2 a0_3 a0_4 l0_5 a0_6) true := by
  unfold laws_eqEvent.f
  repeat (first | refine Ev.pos rfl ?_ | refine Ev.neg (by simp) ?_ | (refine Ev.bind (eqCall_ev _ _ _ (by assumption)) ?_; try dsimp only))
  exact Ev.now _
end Go.Proofs.Ytkbabldehmgmaaa.PFnExactEventOk
