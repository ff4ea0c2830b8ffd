/- What the printed helpers of laws.FnExactFits come to: copies, equals, sizes, marks. Conditions: the lengths and numbers that each theorem names. -/
import Derived.Test.YtkbabldehmgmaaaPFnExactFitsx4
import Derived.Test.YtkbabldehmgmaaaLib
set_option linter.unusedVariables false
set_option linter.unusedSimpArgs false
namespace Go.Proofs.Ytkbabldehmgmaaa.PFnExactFits
open Go.RowKit Go.Proofs.YtkbabldehmgmaaaW.PrintWords Go.Proofs.YtkbabldehmgmaaaW.PrintLast Go.Proofs.YtkbabldehmgmaaaL
theorem lt_of {α : Type} {l : List α} {i : Nat} {x : α} (h : l[i]? = some x) : i < l.length := (List.getElem?_eq_some_iff.1 h).1
theorem szItemS_of (l : List S43) (a : Int) (hl : l.length ≤ 9223372036854775807) (h0 : 0 ≤ a) (ha : a ≤ 1048576) : ∃ v, laws_szItemS.f l a = some v ∧ (v < 0 ∨ (0 ≤ v ∧ v ≤ a ∧ l.length ≤ 1048576)) := by
  unfold laws_szItemS.f
  rw [w64 (by omega) (by omega)]
  by_cases h : a - (l.length : Int) < 0
  · rw [if_pos h]; exact ⟨_, rfl, .inl (by omega)⟩
  · rw [if_neg h]; exact ⟨_, rfl, .inr ⟨by omega, by omega, by omega⟩⟩
def cvS43_S47 (x : S43) : S47 := ⟨x.f0, x.f1, x.f2, x.f3⟩
theorem rd43 {l : List S43} {i : Nat} {x : S43} (h : l[i]? = some x) : rd_T43 l (i : Int) = x := by
  unfold rd_T43; simpa using get_of l z43 h
theorem toItemS_ev (l : List S43) (hl : l.length ≤ 1048576) : Ev (fun k => laws_toItemS.f k l) (l.map cvS43_S47) := by
  unfold laws_toItemS.f
  refine Ev.pos (by omega) (Ev.pos (by omega) ?_)
  rw [Int.toNat_natCast]
  refine copy_ev (fun k out i => laws_toItemS.l0 k l out i) l cvS43_S47 z47 ?_ ?_
  · intro out
    refine Ev.step (f := fun _ => some out) (fun k => ?_) (Ev.now _)
    simp only [laws_toItemS.l0]; rw [if_neg (by omega)]
  · intro i x out r hx ho h
    have hi := lt_of hx
    refine Ev.step (fun k => ?_) h
    simp only [laws_toItemS.l0]
    rw [if_pos (by omega), if_pos (by omega), rd43 hx]
    (try simp only [laws_toItem.f, laws_toItem.f, Option.bind_some])
    rw [if_pos (by omega), w64 (by omega) (by omega), Int.toNat_natCast]
    (try rfl)
theorem rd47 {l : List S47} {i : Nat} {x : S47} (h : l[i]? = some x) : rd_T47 l (i : Int) = x := by
  unfold rd_T47; simpa using get_of l z47 h
theorem eqItemS_ev (l : List S47) (hl : l.length ≤ 4611686018427387904) : Ev (fun k => laws_eqItemS.f k l l) true := by
  unfold laws_eqItemS.f
  refine Ev.pos rfl ?_
  refine same_ev (fun k i => laws_eqItemS.l0 k l l i) l ?_ ?_
  · refine Ev.step (f := fun _ => some true) (fun k => ?_) (Ev.now _)
    simp only [laws_eqItemS.l0]; rw [if_neg (by omega)]
  · intro i x hx h
    have hi := lt_of hx
    refine Ev.step (fun k => ?_) h
    simp only [laws_eqItemS.l0]
    rw [if_pos (by omega), if_pos (by omega), if_pos (by omega)]
    (try rw [rd47 hx])
    simp [laws_eqItem.f, laws_eqItem.f]
    rw [w64 (by omega) (by omega)]
theorem szSeenS_of (l : List S137) (a : Int) (hl : l.length ≤ 9223372036854775807) (h0 : 0 ≤ a) (ha : a ≤ 1048576) : ∃ v, laws_szSeenS.f l a = some v ∧ (v < 0 ∨ (0 ≤ v ∧ v ≤ a ∧ l.length ≤ 1048576)) := by
  unfold laws_szSeenS.f
  rw [w64 (by omega) (by omega)]
  by_cases h : a - (l.length : Int) < 0
  · rw [if_pos h]; exact ⟨_, rfl, .inl (by omega)⟩
  · rw [if_neg h]; exact ⟨_, rfl, .inr ⟨by omega, by omega, by omega⟩⟩
def cvS137_S135 (x : S137) : S135 := ⟨x.f0, x.f1, x.f2, x.f3⟩
theorem rd137 {l : List S137} {i : Nat} {x : S137} (h : l[i]? = some x) : rd_T137 l (i : Int) = x := by
  unfold rd_T137; simpa using get_of l z137 h
theorem toSeenS_ev (l : List S137) (hl : l.length ≤ 1048576) : Ev (fun k => laws_toSeenS.f k l) (l.map cvS137_S135) := by
  unfold laws_toSeenS.f
  refine Ev.pos (by omega) (Ev.pos (by omega) ?_)
  rw [Int.toNat_natCast]
  refine copy_ev (fun k out i => laws_toSeenS.l0 k l out i) l cvS137_S135 z135 ?_ ?_
  · intro out
    refine Ev.step (f := fun _ => some out) (fun k => ?_) (Ev.now _)
    simp only [laws_toSeenS.l0]; rw [if_neg (by omega)]
  · intro i x out r hx ho h
    have hi := lt_of hx
    refine Ev.step (fun k => ?_) h
    simp only [laws_toSeenS.l0]
    rw [if_pos (by omega), if_pos (by omega), rd137 hx]
    (try simp only [laws_toSeen.f, laws_toSeen.f, Option.bind_some])
    rw [if_pos (by omega), w64 (by omega) (by omega), Int.toNat_natCast]
    (try rfl)
theorem rd135 {l : List S135} {i : Nat} {x : S135} (h : l[i]? = some x) : rd_T135 l (i : Int) = x := by
  unfold rd_T135; simpa using get_of l z135 h
theorem eqSeenS_ev (l : List S135) (hl : l.length ≤ 4611686018427387904) : Ev (fun k => laws_eqSeenS.f k l l) true := by
  unfold laws_eqSeenS.f
  refine Ev.pos rfl ?_
  refine same_ev (fun k i => laws_eqSeenS.l0 k l l i) l ?_ ?_
  · refine Ev.step (f := fun _ => some true) (fun k => ?_) (Ev.now _)
    simp only [laws_eqSeenS.l0]; rw [if_neg (by omega)]
  · intro i x hx h
    have hi := lt_of hx
    refine Ev.step (fun k => ?_) h
    simp only [laws_eqSeenS.l0]
    rw [if_pos (by omega), if_pos (by omega), if_pos (by omega)]
    (try rw [rd135 hx])
    simp [laws_eqSeen.f, laws_eqSeen.f]
    rw [w64 (by omega) (by omega)]
end Go.Proofs.Ytkbabldehmgmaaa.PFnExactFits
