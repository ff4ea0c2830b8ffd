/- What the printed helpers of laws.FnExactReadLog come to: copies, equals, sizes, marks. Conditions: the lengths and numbers that each theorem names. -/
import Derived.Test.YthdeicbkimlnhaaPFnExactReadLogx12
import Derived.Test.YthdeicbkimlnhaaLib
set_option linter.unusedVariables false
set_option linter.unusedSimpArgs false
namespace Go.Proofs.Ythdeicbkimlnhaa.PFnExactReadLog
open Go.RowKit Go.Proofs.YthdeicbkimlnhaaW.PrintWords Go.Proofs.YthdeicbkimlnhaaW.PrintLast Go.Proofs.YthdeicbkimlnhaaL
theorem lt_of {α : Type} {l : List α} {i : Nat} {x : α} (h : l[i]? = some x) : i < l.length := (List.getElem?_eq_some_iff.1 h).1
theorem rd134 {l : List S134} {i : Nat} {x : S134} (h : l[i]? = some x) : rd_T134 l (i : Int) = x := by
  unfold rd_T134; simpa using get_of l z134 h
theorem eqEntryS_ev (l : List S134) (hl : l.length ≤ 4611686018427387904) : Ev (fun k => laws_eqEntryS.f k l l) true := by
  unfold laws_eqEntryS.f
  refine Ev.pos rfl ?_
  refine same_ev (fun k i => laws_eqEntryS.l0 k l l i) l ?_ ?_
  · refine Ev.step (f := fun _ => some true) (fun k => ?_) (Ev.now _)
    simp only [laws_eqEntryS.l0]; rw [if_neg (by omega)]
  · intro i x hx h
    have hi := lt_of hx
    refine Ev.step (fun k => ?_) h
    simp only [laws_eqEntryS.l0]
    rw [if_pos (by omega), if_pos (by omega), if_pos (by omega)]
    (try rw [rd134 hx])
    simp [laws_eqEntry.f, laws_eqEntry.f, laws_eqItem.f]
    rw [w64 (by omega) (by omega)]
def mkS134 (_ : S134) (a : Int) : S134 := ⟨a, a + 1, ⟨a + 2, a + 3, a + 4, a + 5⟩⟩
def ctS134 (_ : S134) : Nat := 6
theorem markEntryS_ev (l : List S134) (a : Int) (ha : 0 ≤ a) (hB : a + mcount ctS134 l ≤ 4611686018427387904) (hl : l.length ≤ 4611686018427387904) : Ev (fun k => laws_markEntryS.f k l a) (a + mcount ctS134 l, marks mkS134 ctS134 l a) := by
  unfold laws_markEntryS.f
  refine marked_ev (fun k xs a i => laws_markEntryS.l0 k xs a i) mkS134 ctS134 4611686018427387904 l a ha hB ?_ ?_
  · intro ys a hy
    refine Ev.step (f := fun _ => some (a, ys)) (fun k => ?_) (Ev.now _)
    simp only [laws_markEntryS.l0]; rw [if_neg (by omega)]
  · intro i x ys a r hy hx h0 hB h
    have hi := lt_of hx
    have hct : ctS134 x = 6 := rfl
    rw [hct] at hB h
    refine Ev.step (fun k => ?_) h
    simp only [laws_markEntryS.l0]
    rw [if_pos (by omega), if_pos (by omega)]
    simp only [Option.bind_some, Int.toNat_natCast]
    have hr : ∀ (v : S134), rd_T134 (ys.set i v) (i : Int) = v := fun v => rd134 (by simp [hi])
    (try simp only [hr, List.set_set])
    rw [w64 (x := a + 1) (by omega) (by omega), w64 (x := a + 1 + 1) (by omega) (by omega), w64 (x := a + 1 + 1 + 1) (by omega) (by omega), w64 (x := a + 1 + 1 + 1 + 1) (by omega) (by omega), w64 (x := a + 1 + 1 + 1 + 1 + 1) (by omega) (by omega), w64 (x := a + 1 + 1 + 1 + 1 + 1 + 1) (by omega) (by omega), w64 (x := (i : Int) + 1) (by omega) (by omega)]
    (try simp only [mkS134, show a + 1 + 1 = a + 2 by omega, show a + 2 + 1 = a + 3 by omega, show a + 3 + 1 = a + 4 by omega, show a + 4 + 1 = a + 5 by omega, show a + 5 + 1 = a + ((6 : Nat) : Int) by omega])
    (try rfl)
theorem heldEntryS_ev (l : List S134) (a : Int) (ha : 0 ≤ a) (hB : a + mcount ctS134 l ≤ 4611686018427387904) (hl : l.length ≤ 4611686018427387904) : Ev (fun k => laws_heldEntryS.f k (marks mkS134 ctS134 l a) a) (a + mcount ctS134 l) := by
  unfold laws_heldEntryS.f
  refine held_ev (fun k b i => laws_heldEntryS.l0 k (marks mkS134 ctS134 l a) b i) mkS134 ctS134 4611686018427387904 l a ha hB ?_ ?_
  · intro b
    refine Ev.step (f := fun _ => some b) (fun k => ?_) (Ev.now _)
    simp only [laws_heldEntryS.l0]; rw [if_neg (by rw [marks_length]; omega)]
  · intro i x b r hx hm h0 hB h
    have hi := lt_of hx
    have hct : ctS134 x = 6 := rfl
    rw [hct] at hB h
    refine Ev.step (fun k => ?_) h
    simp only [laws_heldEntryS.l0]
    rw [if_pos (by rw [marks_length]; omega), if_pos (by omega), rd134 hm]
    rw [w64 (x := b + 1) (by omega) (by omega), w64 (x := b + 1 + 1) (by omega) (by omega), w64 (x := b + 1 + 1 + 1) (by omega) (by omega), w64 (x := b + 1 + 1 + 1 + 1) (by omega) (by omega), w64 (x := b + 1 + 1 + 1 + 1 + 1) (by omega) (by omega), w64 (x := b + 1 + 1 + 1 + 1 + 1 + 1) (by omega) (by omega), w64 (x := (i : Int) + 1) (by omega) (by omega)]
    simp only [mkS134, show b + 1 + 1 = b + 2 by omega, show b + 2 + 1 = b + 3 by omega, show b + 3 + 1 = b + 4 by omega, show b + 4 + 1 = b + 5 by omega, show b + 5 + 1 = b + ((6 : Nat) : Int) by omega, bne_self_eq_false, Bool.false_eq_true, if_true, if_false]
    (try rfl)
end Go.Proofs.Ythdeicbkimlnhaa.PFnExactReadLog
