/- What the printed helpers of laws.FnExactLogText come to: copies, equals, sizes, marks. Conditions: the lengths and numbers that each theorem names. -/
import Derived.Test.YtfobhfnkjmfbmaaPFnExactLogTextx8
import Derived.Test.YtfobhfnkjmfbmaaLib
set_option linter.unusedVariables false
set_option linter.unusedSimpArgs false
namespace Go.Proofs.Ytfobhfnkjmfbmaa.PFnExactLogText
open Go.RowKit Go.Proofs.YtfobhfnkjmfbmaaW.PrintWords Go.Proofs.YtfobhfnkjmfbmaaW.PrintLast Go.Proofs.YtfobhfnkjmfbmaaL
theorem lt_of {α : Type} {l : List α} {i : Nat} {x : α} (h : l[i]? = some x) : i < l.length := (List.getElem?_eq_some_iff.1 h).1
theorem szEntryS_of (l : List S177) (a : Int) (hl : l.length ≤ 9223372036854775807) (h0 : 0 ≤ a) (ha : a ≤ 1048576) : ∃ v, laws_szEntryS.f l a = some v ∧ (v < 0 ∨ (0 ≤ v ∧ v ≤ a ∧ l.length ≤ 1048576)) := by
  unfold laws_szEntryS.f
  rw [w64 (by omega) (by omega)]
  by_cases h : a - (l.length : Int) < 0
  · rw [if_pos h]; exact ⟨_, rfl, .inl (by omega)⟩
  · rw [if_neg h]; exact ⟨_, rfl, .inr ⟨by omega, by omega, by omega⟩⟩
def cvS177_S136 (x : S177) : S136 := ⟨x.f0, x.f1, ⟨x.f2.f0, x.f2.f1, x.f2.f2, x.f2.f3⟩⟩
theorem rd177 {l : List S177} {i : Nat} {x : S177} (h : l[i]? = some x) : rd_T177 l (i : Int) = x := by
  unfold rd_T177; simpa using get_of l z177 h
theorem toEntryS_ev (l : List S177) (hl : l.length ≤ 1048576) : Ev (fun k => laws_toEntryS.f k l) (l.map cvS177_S136) := by
  unfold laws_toEntryS.f
  refine Ev.pos (by omega) (Ev.pos (by omega) ?_)
  rw [Int.toNat_natCast]
  refine copy_ev (fun k out i => laws_toEntryS.l0 k l out i) l cvS177_S136 z136 ?_ ?_
  · intro out
    refine Ev.step (f := fun _ => some out) (fun k => ?_) (Ev.now _)
    simp only [laws_toEntryS.l0]; rw [if_neg (by omega)]
  · intro i x out r hx ho h
    have hi := lt_of hx
    refine Ev.step (fun k => ?_) h
    simp only [laws_toEntryS.l0]
    rw [if_pos (by omega), if_pos (by omega), rd177 hx]
    (try simp only [laws_toEntry.f, laws_toEntry.f, laws_toItem.f, Option.bind_some])
    rw [if_pos (by omega), w64 (by omega) (by omega), Int.toNat_natCast]
    (try rfl)
theorem rd136 {l : List S136} {i : Nat} {x : S136} (h : l[i]? = some x) : rd_T136 l (i : Int) = x := by
  unfold rd_T136; simpa using get_of l z136 h
theorem eqEntryS_ev (l : List S136) (hl : l.length ≤ 4611686018427387904) : Ev (fun k => laws_eqEntryS.f k l l) true := by
  unfold laws_eqEntryS.f
  refine Ev.pos rfl ?_
  refine same_ev (fun k i => laws_eqEntryS.l0 k l l i) l ?_ ?_
  · refine Ev.step (f := fun _ => some true) (fun k => ?_) (Ev.now _)
    simp only [laws_eqEntryS.l0]; rw [if_neg (by omega)]
  · intro i x hx h
    have hi := lt_of hx
    refine Ev.step (fun k => ?_) h
    simp only [laws_eqEntryS.l0]
    rw [if_pos (by omega), if_pos (by omega), if_pos (by omega)]
    (try rw [rd136 hx])
    simp [laws_eqEntry.f, laws_eqEntry.f, laws_eqItem.f]
    rw [w64 (by omega) (by omega)]
end Go.Proofs.Ytfobhfnkjmfbmaa.PFnExactLogText
