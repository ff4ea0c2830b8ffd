/- What the printed helpers of laws.FnExactShortestRun come to: copies, equals, sizes, marks. Conditions: the lengths and numbers that each theorem names. -/
import Derived.Test.YtkbabldehmgmaaaPFnExactShortestRunx5
import Derived.Test.YtkbabldehmgmaaaLib
set_option linter.unusedVariables false
set_option linter.unusedSimpArgs false
namespace Go.Proofs.Ytkbabldehmgmaaa.PFnExactShortestRun
open Go.RowKit Go.Proofs.YtkbabldehmgmaaaW.PrintWords Go.Proofs.YtkbabldehmgmaaaW.PrintLast Go.Proofs.YtkbabldehmgmaaaL
theorem lt_of {α : Type} {l : List α} {i : Nat} {x : α} (h : l[i]? = some x) : i < l.length := (List.getElem?_eq_some_iff.1 h).1
theorem szInsS_of (l : List S145) (a : Int) (hl : l.length ≤ 9223372036854775807) (h0 : 0 ≤ a) (ha : a ≤ 1048576) : ∃ v, laws_szInsS.f l a = some v ∧ (v < 0 ∨ (0 ≤ v ∧ v ≤ a ∧ l.length ≤ 1048576)) := by
  unfold laws_szInsS.f
  rw [w64 (by omega) (by omega)]
  by_cases h : a - (l.length : Int) < 0
  · rw [if_pos h]; exact ⟨_, rfl, .inl (by omega)⟩
  · rw [if_neg h]; exact ⟨_, rfl, .inr ⟨by omega, by omega, by omega⟩⟩
def cvS145_S143 (x : S145) : S143 := ⟨x.f0, x.f1, x.f2, x.f3⟩
theorem rd145 {l : List S145} {i : Nat} {x : S145} (h : l[i]? = some x) : rd_T145 l (i : Int) = x := by
  unfold rd_T145; simpa using get_of l z145 h
theorem toInsS_ev (l : List S145) (hl : l.length ≤ 1048576) : Ev (fun k => laws_toInsS.f k l) (l.map cvS145_S143) := by
  unfold laws_toInsS.f
  refine Ev.pos (by omega) (Ev.pos (by omega) ?_)
  rw [Int.toNat_natCast]
  refine copy_ev (fun k out i => laws_toInsS.l0 k l out i) l cvS145_S143 z143 ?_ ?_
  · intro out
    refine Ev.step (f := fun _ => some out) (fun k => ?_) (Ev.now _)
    simp only [laws_toInsS.l0]; rw [if_neg (by omega)]
  · intro i x out r hx ho h
    have hi := lt_of hx
    refine Ev.step (fun k => ?_) h
    simp only [laws_toInsS.l0]
    rw [if_pos (by omega), if_pos (by omega), rd145 hx]
    (try simp only [laws_toIns.f, laws_toIns.f, Option.bind_some])
    rw [if_pos (by omega), w64 (by omega) (by omega), Int.toNat_natCast]
    (try rfl)
theorem rd143 {l : List S143} {i : Nat} {x : S143} (h : l[i]? = some x) : rd_T143 l (i : Int) = x := by
  unfold rd_T143; simpa using get_of l z143 h
theorem eqInsS_ev (l : List S143) (hl : l.length ≤ 4611686018427387904) : Ev (fun k => laws_eqInsS.f k l l) true := by
  unfold laws_eqInsS.f
  refine Ev.pos rfl ?_
  refine same_ev (fun k i => laws_eqInsS.l0 k l l i) l ?_ ?_
  · refine Ev.step (f := fun _ => some true) (fun k => ?_) (Ev.now _)
    simp only [laws_eqInsS.l0]; rw [if_neg (by omega)]
  · intro i x hx h
    have hi := lt_of hx
    refine Ev.step (fun k => ?_) h
    simp only [laws_eqInsS.l0]
    rw [if_pos (by omega), if_pos (by omega), if_pos (by omega)]
    (try rw [rd143 hx])
    simp [laws_eqIns.f, laws_eqIns.f]
    rw [w64 (by omega) (by omega)]
end Go.Proofs.Ytkbabldehmgmaaa.PFnExactShortestRun
