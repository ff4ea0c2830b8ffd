/- What the printed helpers of laws.FnExactFieldsRead come to: copies, equals, sizes, marks. Conditions: the lengths and numbers that each theorem names. -/
import Derived.Test.YthfflkfpmebbbaaPFnExactFieldsReadx2
import Derived.Test.YthfflkfpmebbbaaLib
set_option linter.unusedVariables false
set_option linter.unusedSimpArgs false
namespace Go.Proofs.Ythfflkfpmebbbaa.PFnExactFieldsRead
open Go.RowKit Go.Proofs.YthfflkfpmebbbaaA Go.Proofs.YthfflkfpmebbbaaL
theorem lt_of {α : Type} {l : List α} {i : Nat} {x : α} (h : l[i]? = some x) : i < l.length := (List.getElem?_eq_some_iff.1 h).1
theorem szInsS_of (l : List S58) (a : Int) (hl : l.length ≤ 9223372036854775807) (h0 : 0 ≤ a) (ha : a ≤ 1048576) : ∃ v, laws_szInsS.f l a = some v ∧ (v < 0 ∨ (0 ≤ v ∧ v ≤ a ∧ l.length ≤ 1048576)) := by
  unfold laws_szInsS.f
  rw [w64 (by omega) (by omega)]
  by_cases h : a - (l.length : Int) < 0
  · rw [if_pos h]; exact ⟨_, rfl, .inl (by omega)⟩
  · rw [if_neg h]; exact ⟨_, rfl, .inr ⟨by omega, by omega, by omega⟩⟩
def cvS58_S46 (x : S58) : S46 := ⟨x.f0, x.f1, x.f2, x.f3⟩
theorem rd58 {l : List S58} {i : Nat} {x : S58} (h : l[i]? = some x) : rd_T58 l (i : Int) = x := by
  unfold rd_T58; simpa using get_of l z58 h
theorem toInsS_ev (l : List S58) (hl : l.length ≤ 1048576) : Ev (fun k => laws_toInsS.f k l) (l.map cvS58_S46) := by
  unfold laws_toInsS.f
  refine Ev.pos (by omega) (Ev.pos (by omega) ?_)
  rw [Int.toNat_natCast]
  refine copy_ev (fun k out i => laws_toInsS.l0 k l out i) l cvS58_S46 z46 ?_ ?_
  · intro out
    refine Ev.step (f := fun _ => some out) (fun k => ?_) (Ev.now _)
    simp only [laws_toInsS.l0]; rw [if_neg (by omega)]
  · intro i x out r hx ho h
    have hi := lt_of hx
    refine Ev.step (fun k => ?_) h
    simp only [laws_toInsS.l0]
    rw [if_pos (by omega), if_pos (by omega), rd58 hx]
    (try simp only [laws_toIns.f, laws_toIns.f, Option.bind_some])
    rw [if_pos (by omega), w64 (by omega) (by omega), Int.toNat_natCast]
    (try rfl)
theorem rdInt {l : List Int} {i : Nat} {x : Int} (h : l[i]? = some x) : rd l (i : Int) = x := by
  unfold rd; simpa using get_of l 0 h
theorem eqIntS_ev (l : List Int) (hl : l.length ≤ 4611686018427387904) : Ev (fun k => laws_eqIntS.f k l l) true := by
  unfold laws_eqIntS.f
  refine Ev.pos rfl ?_
  refine same_ev (fun k i => laws_eqIntS.l0 k l l i) l ?_ ?_
  · refine Ev.step (f := fun _ => some true) (fun k => ?_) (Ev.now _)
    simp only [laws_eqIntS.l0]; rw [if_neg (by omega)]
  · intro i x hx h
    have hi := lt_of hx
    refine Ev.step (fun k => ?_) h
    simp only [laws_eqIntS.l0]
    rw [if_pos (by omega), if_pos (by omega), if_pos (by omega)]
    (try rw [rdInt hx])
    simp
    rw [w64 (by omega) (by omega)]
theorem rd46 {l : List S46} {i : Nat} {x : S46} (h : l[i]? = some x) : rd_T46 l (i : Int) = x := by
  unfold rd_T46; simpa using get_of l z46 h
theorem eqInsS_ev (l : List S46) (hl : l.length ≤ 4611686018427387904) : Ev (fun k => laws_eqInsS.f k l l) true := by
  unfold laws_eqInsS.f
  refine Ev.pos rfl ?_
  refine same_ev (fun k i => laws_eqInsS.l0 k l l i) l ?_ ?_
  · refine Ev.step (f := fun _ => some true) (fun k => ?_) (Ev.now _)
    simp only [laws_eqInsS.l0]; rw [if_neg (by omega)]
  · intro i x hx h
    have hi := lt_of hx
    refine Ev.step (fun k => ?_) h
    simp only [laws_eqInsS.l0]
    rw [if_pos (by omega), if_pos (by omega), if_pos (by omega)]
    (try rw [rd46 hx])
    simp [laws_eqIns.f, laws_eqIns.f]
    rw [w64 (by omega) (by omega)]
def mkS46 (_ : S46) (a : Int) : S46 := ⟨a, a + 1, a + 2, a + 3⟩
def ctS46 (_ : S46) : Nat := 4
theorem markInsS_ev (l : List S46) (a : Int) (ha : 0 ≤ a) (hB : a + mcount ctS46 l ≤ 4611686018427387904) (hl : l.length ≤ 4611686018427387904) : Ev (fun k => laws_markInsS.f k l a) (a + mcount ctS46 l, marks mkS46 ctS46 l a) := by
  unfold laws_markInsS.f
  refine marked_ev (fun k xs a i => laws_markInsS.l0 k xs a i) mkS46 ctS46 4611686018427387904 l a ha hB ?_ ?_
  · intro ys a hy
    refine Ev.step (f := fun _ => some (a, ys)) (fun k => ?_) (Ev.now _)
    simp only [laws_markInsS.l0]; rw [if_neg (by omega)]
  · intro i x ys a r hy hx h0 hB h
    have hi := lt_of hx
    have hct : ctS46 x = 4 := rfl
    rw [hct] at hB h
    refine Ev.step (fun k => ?_) h
    simp only [laws_markInsS.l0]
    rw [if_pos (by omega), if_pos (by omega)]
    simp only [Option.bind_some, Int.toNat_natCast]
    have hr : ∀ (v : S46), rd_T46 (ys.set i v) (i : Int) = v := fun v => rd46 (by simp [hi])
    (try simp only [hr, List.set_set])
    rw [w64 (x := a + 1) (by omega) (by omega), w64 (x := a + 1 + 1) (by omega) (by omega), w64 (x := a + 1 + 1 + 1) (by omega) (by omega), w64 (x := a + 1 + 1 + 1 + 1) (by omega) (by omega), w64 (x := (i : Int) + 1) (by omega) (by omega)]
    (try simp only [mkS46, show a + 1 + 1 = a + 2 by omega, show a + 2 + 1 = a + 3 by omega, show a + 3 + 1 = a + ((4 : Nat) : Int) by omega])
    (try rfl)
def mkInt (_ : Int) (a : Int) : Int := a
def ctInt (_ : Int) : Nat := 1
theorem markIntS_ev (l : List Int) (a : Int) (ha : 0 ≤ a) (hB : a + mcount ctInt l ≤ 4611686018427387904) (hl : l.length ≤ 4611686018427387904) : Ev (fun k => laws_markIntS.f k l a) (a + mcount ctInt l, marks mkInt ctInt l a) := by
  unfold laws_markIntS.f
  refine marked_ev (fun k xs a i => laws_markIntS.l0 k xs a i) mkInt ctInt 4611686018427387904 l a ha hB ?_ ?_
  · intro ys a hy
    refine Ev.step (f := fun _ => some (a, ys)) (fun k => ?_) (Ev.now _)
    simp only [laws_markIntS.l0]; rw [if_neg (by omega)]
  · intro i x ys a r hy hx h0 hB h
    have hi := lt_of hx
    have hct : ctInt x = 1 := rfl
    rw [hct] at hB h
    refine Ev.step (fun k => ?_) h
    simp only [laws_markIntS.l0]
    rw [if_pos (by omega), if_pos (by omega)]
    simp only [Option.bind_some, Int.toNat_natCast]
    have hr : ∀ (v : Int), rd (ys.set i v) (i : Int) = v := fun v => rdInt (by simp [hi])
    (try simp only [hr, List.set_set])
    rw [w64 (x := a + 1) (by omega) (by omega), w64 (x := (i : Int) + 1) (by omega) (by omega)]
    (try simp only [mkInt, show a + 1 = a + ((1 : Nat) : Int) by omega])
    (try rfl)
theorem heldIntS_ev (l : List Int) (a : Int) (ha : 0 ≤ a) (hB : a + mcount ctInt l ≤ 4611686018427387904) (hl : l.length ≤ 4611686018427387904) : Ev (fun k => laws_heldIntS.f k (marks mkInt ctInt l a) a) (a + mcount ctInt l) := by
  unfold laws_heldIntS.f
  refine held_ev (fun k b i => laws_heldIntS.l0 k (marks mkInt ctInt l a) b i) mkInt ctInt 4611686018427387904 l a ha hB ?_ ?_
  · intro b
    refine Ev.step (f := fun _ => some b) (fun k => ?_) (Ev.now _)
    simp only [laws_heldIntS.l0]; rw [if_neg (by rw [marks_length]; omega)]
  · intro i x b r hx hm h0 hB h
    have hi := lt_of hx
    have hct : ctInt x = 1 := rfl
    rw [hct] at hB h
    refine Ev.step (fun k => ?_) h
    simp only [laws_heldIntS.l0]
    rw [if_pos (by rw [marks_length]; omega), if_pos (by omega), rdInt hm]
    rw [w64 (x := b + 1) (by omega) (by omega), w64 (x := (i : Int) + 1) (by omega) (by omega)]
    simp only [mkInt, show b + 1 = b + ((1 : Nat) : Int) by omega, bne_self_eq_false, Bool.false_eq_true, if_true, if_false]
    (try rfl)
end Go.Proofs.Ythfflkfpmebbbaa.PFnExactFieldsRead
