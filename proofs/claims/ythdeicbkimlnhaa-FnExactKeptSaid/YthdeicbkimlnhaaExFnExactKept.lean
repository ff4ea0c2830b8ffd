/- What the printed helpers of laws.FnExactKept come to: copies, equals, sizes, marks. Conditions: the lengths and numbers that each theorem names. -/
import Derived.Test.YthdeicbkimlnhaaPFnExactKeptx13
import Derived.Test.YthdeicbkimlnhaaLib
set_option linter.unusedVariables false
set_option linter.unusedSimpArgs false
namespace Go.Proofs.Ythdeicbkimlnhaa.PFnExactKept
open Go.RowKit Go.Proofs.YthdeicbkimlnhaaW.PrintWords Go.Proofs.YthdeicbkimlnhaaW.PrintLast Go.Proofs.YthdeicbkimlnhaaL
theorem lt_of {α : Type} {l : List α} {i : Nat} {x : α} (h : l[i]? = some x) : i < l.length := (List.getElem?_eq_some_iff.1 h).1
theorem szEntryS_of (l : List S175) (a : Int) (hl : l.length ≤ 9223372036854775807) (h0 : 0 ≤ a) (ha : a ≤ 1048576) : ∃ v, laws_szEntryS.f l a = some v ∧ (v < 0 ∨ (0 ≤ v ∧ v ≤ a ∧ l.length ≤ 1048576)) := by
  unfold laws_szEntryS.f
  rw [w64 (by omega) (by omega)]
  by_cases h : a - (l.length : Int) < 0
  · rw [if_pos h]; exact ⟨_, rfl, .inl (by omega)⟩
  · rw [if_neg h]; exact ⟨_, rfl, .inr ⟨by omega, by omega, by omega⟩⟩
theorem szIntS_of (l : List Int) (a : Int) (hl : l.length ≤ 9223372036854775807) (h0 : 0 ≤ a) (ha : a ≤ 1048576) : ∃ v, laws_szIntS.f l a = some v ∧ (v < 0 ∨ (0 ≤ v ∧ v ≤ a ∧ l.length ≤ 1048576)) := by
  unfold laws_szIntS.f
  rw [w64 (by omega) (by omega)]
  by_cases h : a - (l.length : Int) < 0
  · rw [if_pos h]; exact ⟨_, rfl, .inl (by omega)⟩
  · rw [if_neg h]; exact ⟨_, rfl, .inr ⟨by omega, by omega, by omega⟩⟩
theorem szEarlyS_of (l : List S177) (a : Int) (hl : l.length ≤ 9223372036854775807) (h0 : 0 ≤ a) (ha : a ≤ 1048576) : ∃ v, laws_szEarlyS.f l a = some v ∧ (v < 0 ∨ (0 ≤ v ∧ v ≤ a ∧ l.length ≤ 1048576)) := by
  unfold laws_szEarlyS.f
  rw [w64 (by omega) (by omega)]
  by_cases h : a - (l.length : Int) < 0
  · rw [if_pos h]; exact ⟨_, rfl, .inl (by omega)⟩
  · rw [if_neg h]; exact ⟨_, rfl, .inr ⟨by omega, by omega, by omega⟩⟩
theorem szKeeper_of (l0_0 : List S175) (l0_1 : List Int) (l0_2 : List S177) (a0_3 : Int) (l0_4 : List Int) (a1 : Int) (hl0_0 : l0_0.length ≤ 9223372036854775807) (hl0_1 : l0_1.length ≤ 9223372036854775807) (hl0_2 : l0_2.length ≤ 9223372036854775807) (hl0_4 : l0_4.length ≤ 9223372036854775807)  (h0 : 0 ≤ a1) (ha : a1 ≤ 1048576) : ∃ v, laws_szKeeper.f l0_0 l0_1 l0_2 a0_3 l0_4 a1 = some v ∧ (v < 0 ∨ (0 ≤ v ∧ v ≤ a1 ∧ l0_0.length ≤ 1048576 ∧ l0_1.length ≤ 1048576 ∧ l0_2.length ≤ 1048576 ∧ l0_4.length ≤ 1048576)) := by
  unfold laws_szKeeper.f
  obtain ⟨v1, e1, h1⟩ := szEntryS_of l0_0 a1 hl0_0 (by omega) (by omega)
  rw [e1]; simp only [Option.bind_some]
  rcases h1 with h1 | h1
  · rw [if_pos h1]; exact ⟨_, rfl, .inl (by omega)⟩
  rw [if_neg (by omega)]
  obtain ⟨v2, e2, h2⟩ := szIntS_of l0_1 v1 hl0_1 (by omega) (by omega)
  rw [e2]; simp only [Option.bind_some]
  rcases h2 with h2 | h2
  · rw [if_pos h2]; exact ⟨_, rfl, .inl (by omega)⟩
  rw [if_neg (by omega)]
  obtain ⟨v3, e3, h3⟩ := szEarlyS_of l0_2 v2 hl0_2 (by omega) (by omega)
  rw [e3]; simp only [Option.bind_some]
  rcases h3 with h3 | h3
  · rw [if_pos h3]; exact ⟨_, rfl, .inl (by omega)⟩
  rw [if_neg (by omega)]
  obtain ⟨v4, e4, h4⟩ := szIntS_of l0_4 v3 hl0_4 (by omega) (by omega)
  rw [e4]; simp only [Option.bind_some]
  rcases h4 with h4 | h4
  · rw [if_pos h4]; exact ⟨_, rfl, .inl (by omega)⟩
  rw [if_neg (by omega)]
  exact ⟨_, rfl, .inr (by omega)⟩
def cvS175_S134 (x : S175) : S134 := ⟨x.f0, x.f1, ⟨x.f2.f0, x.f2.f1, x.f2.f2, x.f2.f3⟩⟩
theorem rd175 {l : List S175} {i : Nat} {x : S175} (h : l[i]? = some x) : rd_T175 l (i : Int) = x := by
  unfold rd_T175; simpa using get_of l z175 h
theorem toEntryS_ev (l : List S175) (hl : l.length ≤ 1048576) : Ev (fun k => laws_toEntryS.f k l) (l.map cvS175_S134) := by
  unfold laws_toEntryS.f
  refine Ev.pos (by omega) (Ev.pos (by omega) ?_)
  rw [Int.toNat_natCast]
  refine copy_ev (fun k out i => laws_toEntryS.l0 k l out i) l cvS175_S134 z134 ?_ ?_
  · intro out
    refine Ev.step (f := fun _ => some out) (fun k => ?_) (Ev.now _)
    simp only [laws_toEntryS.l0]; rw [if_neg (by omega)]
  · intro i x out r hx ho h
    have hi := lt_of hx
    refine Ev.step (fun k => ?_) h
    simp only [laws_toEntryS.l0]
    rw [if_pos (by omega), if_pos (by omega), rd175 hx]
    (try simp only [laws_toEntry.f, laws_toEntry.f, laws_toItem.f, Option.bind_some])
    rw [if_pos (by omega), w64 (by omega) (by omega), Int.toNat_natCast]
    (try rfl)
theorem rdInt {l : List Int} {i : Nat} {x : Int} (h : l[i]? = some x) : rd l (i : Int) = x := by
  unfold rd; simpa using get_of l 0 h
theorem toIntS_ev (l : List Int) (hl : l.length ≤ 1048576) : Ev (fun k => laws_toIntS.f k l) (l.map (fun x : Int => x)) := by
  unfold laws_toIntS.f
  refine Ev.pos (by omega) (Ev.pos (by omega) ?_)
  rw [Int.toNat_natCast]
  refine copy_ev (fun k out i => laws_toIntS.l0 k l out i) l (fun x : Int => x) 0 ?_ ?_
  · intro out
    refine Ev.step (f := fun _ => some out) (fun k => ?_) (Ev.now _)
    simp only [laws_toIntS.l0]; rw [if_neg (by omega)]
  · intro i x out r hx ho h
    have hi := lt_of hx
    refine Ev.step (fun k => ?_) h
    simp only [laws_toIntS.l0]
    rw [if_pos (by omega), if_pos (by omega), rdInt hx]
    (try simp only [Option.bind_some, Option.bind_some])
    rw [if_pos (by omega), w64 (by omega) (by omega), Int.toNat_natCast]
    (try rfl)
def cvS177_S127 (x : S177) : S127 := ⟨x.f0, x.f1, ⟨x.f2.f0, x.f2.f1, x.f2.f2, x.f2.f3⟩⟩
theorem rd177 {l : List S177} {i : Nat} {x : S177} (h : l[i]? = some x) : rd_T177 l (i : Int) = x := by
  unfold rd_T177; simpa using get_of l z177 h
theorem toEarlyS_ev (l : List S177) (hl : l.length ≤ 1048576) : Ev (fun k => laws_toEarlyS.f k l) (l.map cvS177_S127) := by
  unfold laws_toEarlyS.f
  refine Ev.pos (by omega) (Ev.pos (by omega) ?_)
  rw [Int.toNat_natCast]
  refine copy_ev (fun k out i => laws_toEarlyS.l0 k l out i) l cvS177_S127 z127 ?_ ?_
  · intro out
    refine Ev.step (f := fun _ => some out) (fun k => ?_) (Ev.now _)
    simp only [laws_toEarlyS.l0]; rw [if_neg (by omega)]
  · intro i x out r hx ho h
    have hi := lt_of hx
    refine Ev.step (fun k => ?_) h
    simp only [laws_toEarlyS.l0]
    rw [if_pos (by omega), if_pos (by omega), rd177 hx]
    (try simp only [laws_toEarly.f, laws_toEarly.f, laws_toItem.f, Option.bind_some])
    rw [if_pos (by omega), w64 (by omega) (by omega), Int.toNat_natCast]
    (try rfl)
theorem toKeeper_ev (l0_0 : List S175) (l0_1 : List Int) (l0_2 : List S177) (a0_3 : Int) (l0_4 : List Int) (hl0_0 : l0_0.length ≤ 1048576) (hl0_1 : l0_1.length ≤ 1048576) (hl0_2 : l0_2.length ≤ 1048576) (hl0_4 : l0_4.length ≤ 1048576) : Ev (fun k => laws_toKeeper.f k l0_0 l0_1 l0_2 a0_3 l0_4) (l0_0.map cvS175_S134, l0_1.map (fun x : Int => x), l0_2.map cvS177_S127, a0_3, l0_4.map (fun x : Int => x)) := by
  unfold laws_toKeeper.f
  repeat (first | (refine Ev.bind (toEarlyS_ev _ (by assumption)) ?_; try dsimp only) | (refine Ev.bind (toEntryS_ev _ (by assumption)) ?_; try dsimp only) | (refine Ev.bind (toIntS_ev _ (by assumption)) ?_; try dsimp only))
  exact Ev.now _
theorem rd134 {l : List S134} {i : Nat} {x : S134} (h : l[i]? = some x) : rd_T134 l (i : Int) = x := by
  unfold rd_T134; simpa using get_of l z134 h
theorem eqEntryS_ev (l : List S134) (hl : l.length ≤ 4611686018427387904) : Ev (fun k => laws_eqEntryS.f k l l) true := by
  unfold laws_eqEntryS.f
  refine Ev.pos rfl ?_
  refine same_ev (fun k i => laws_eqEntryS.l0 k l l i) l ?_ ?_
  · refine Ev.step (f := fun _ => some true) (fun k => ?_) (Ev.now _)
    simp only [laws_eqEntryS.l0]; rw [if_neg (by omega)]
  · intro i x hx h
    have hi := lt_of hx
    refine Ev.step (fun k => ?_) h
    simp only [laws_eqEntryS.l0]
    rw [if_pos (by omega), if_pos (by omega), if_pos (by omega)]
    (try rw [rd134 hx])
    simp [laws_eqEntry.f, laws_eqEntry.f, laws_eqItem.f]
    rw [w64 (by omega) (by omega)]
theorem eqIntS_ev (l : List Int) (hl : l.length ≤ 4611686018427387904) : Ev (fun k => laws_eqIntS.f k l l) true := by
  unfold laws_eqIntS.f
  refine Ev.pos rfl ?_
  refine same_ev (fun k i => laws_eqIntS.l0 k l l i) l ?_ ?_
  · refine Ev.step (f := fun _ => some true) (fun k => ?_) (Ev.now _)
    simp only [laws_eqIntS.l0]; rw [if_neg (by omega)]
  · intro i x hx h
    have hi := lt_of hx
    refine Ev.step (fun k => ?_) h
    simp only [laws_eqIntS.l0]
    rw [if_pos (by omega), if_pos (by omega), if_pos (by omega)]
    (try rw [rdInt hx])
    simp
    rw [w64 (by omega) (by omega)]
theorem rd127 {l : List S127} {i : Nat} {x : S127} (h : l[i]? = some x) : rd_T127 l (i : Int) = x := by
  unfold rd_T127; simpa using get_of l z127 h
theorem eqEarlyS_ev (l : List S127) (hl : l.length ≤ 4611686018427387904) : Ev (fun k => laws_eqEarlyS.f k l l) true := by
  unfold laws_eqEarlyS.f
  refine Ev.pos rfl ?_
  refine same_ev (fun k i => laws_eqEarlyS.l0 k l l i) l ?_ ?_
  · refine Ev.step (f := fun _ => some true) (fun k => ?_) (Ev.now _)
    simp only [laws_eqEarlyS.l0]; rw [if_neg (by omega)]
  · intro i x hx h
    have hi := lt_of hx
    refine Ev.step (fun k => ?_) h
    simp only [laws_eqEarlyS.l0]
    rw [if_pos (by omega), if_pos (by omega), if_pos (by omega)]
    (try rw [rd127 hx])
    simp [laws_eqEarly.f, laws_eqEarly.f, laws_eqItem.f]
    rw [w64 (by omega) (by omega)]
theorem eqKeeper_ev (l0_0 : List S134) (l0_1 : List Int) (l0_2 : List S127) (a0_3 : Int) (l0_4 : List Int) (hl0_0 : l0_0.length ≤ 4611686018427387904) (hl0_1 : l0_1.length ≤ 4611686018427387904) (hl0_2 : l0_2.length ≤ 4611686018427387904) (hl0_4 : l0_4.length ≤ 4611686018427387904) : Ev (fun k => laws_eqKeeper.f k l0_0 l0_1 l0_2 a0_3 l0_4 l0_0 l0_1 l0_2 a0_3 l0_4) true := by
  unfold laws_eqKeeper.f
  repeat (first | refine Ev.pos rfl ?_ | refine Ev.neg (by simp) ?_ | (refine Ev.bind (eqEarlyS_ev _ (by assumption)) ?_; try dsimp only) | (refine Ev.bind (eqEntryS_ev _ (by assumption)) ?_; try dsimp only) | (refine Ev.bind (eqIntS_ev _ (by assumption)) ?_; try dsimp only))
  exact Ev.now _
def mkS134 (_ : S134) (a : Int) : S134 := ⟨a, a + 1, ⟨a + 2, a + 3, a + 4, a + 5⟩⟩
def ctS134 (_ : S134) : Nat := 6
theorem markEntryS_ev (l : List S134) (a : Int) (ha : 0 ≤ a) (hB : a + mcount ctS134 l ≤ 4611686018427387904) (hl : l.length ≤ 4611686018427387904) : Ev (fun k => laws_markEntryS.f k l a) (a + mcount ctS134 l, marks mkS134 ctS134 l a) := by
  unfold laws_markEntryS.f
  refine marked_ev (fun k xs a i => laws_markEntryS.l0 k xs a i) mkS134 ctS134 4611686018427387904 l a ha hB ?_ ?_
  · intro ys a hy
    refine Ev.step (f := fun _ => some (a, ys)) (fun k => ?_) (Ev.now _)
    simp only [laws_markEntryS.l0]; rw [if_neg (by omega)]
  · intro i x ys a r hy hx h0 hB h
    have hi := lt_of hx
    have hct : ctS134 x = 6 := rfl
    rw [hct] at hB h
    refine Ev.step (fun k => ?_) h
    simp only [laws_markEntryS.l0]
    rw [if_pos (by omega), if_pos (by omega)]
    simp only [Option.bind_some, Int.toNat_natCast]
    have hr : ∀ (v : S134), rd_T134 (ys.set i v) (i : Int) = v := fun v => rd134 (by simp [hi])
    (try simp only [hr, List.set_set])
    rw [w64 (x := a + 1) (by omega) (by omega), w64 (x := a + 1 + 1) (by omega) (by omega), w64 (x := a + 1 + 1 + 1) (by omega) (by omega), w64 (x := a + 1 + 1 + 1 + 1) (by omega) (by omega), w64 (x := a + 1 + 1 + 1 + 1 + 1) (by omega) (by omega), w64 (x := a + 1 + 1 + 1 + 1 + 1 + 1) (by omega) (by omega), w64 (x := (i : Int) + 1) (by omega) (by omega)]
    (try simp only [mkS134, show a + 1 + 1 = a + 2 by omega, show a + 2 + 1 = a + 3 by omega, show a + 3 + 1 = a + 4 by omega, show a + 4 + 1 = a + 5 by omega, show a + 5 + 1 = a + ((6 : Nat) : Int) by omega])
    (try rfl)
def mkInt (_ : Int) (a : Int) : Int := a
def ctInt (_ : Int) : Nat := 1
theorem markIntS_ev (l : List Int) (a : Int) (ha : 0 ≤ a) (hB : a + mcount ctInt l ≤ 4611686018427387904) (hl : l.length ≤ 4611686018427387904) : Ev (fun k => laws_markIntS.f k l a) (a + mcount ctInt l, marks mkInt ctInt l a) := by
  unfold laws_markIntS.f
  refine marked_ev (fun k xs a i => laws_markIntS.l0 k xs a i) mkInt ctInt 4611686018427387904 l a ha hB ?_ ?_
  · intro ys a hy
    refine Ev.step (f := fun _ => some (a, ys)) (fun k => ?_) (Ev.now _)
    simp only [laws_markIntS.l0]; rw [if_neg (by omega)]
  · intro i x ys a r hy hx h0 hB h
    have hi := lt_of hx
    have hct : ctInt x = 1 := rfl
    rw [hct] at hB h
    refine Ev.step (fun k => ?_) h
    simp only [laws_markIntS.l0]
    rw [if_pos (by omega), if_pos (by omega)]
    simp only [Option.bind_some, Int.toNat_natCast]
    have hr : ∀ (v : Int), rd (ys.set i v) (i : Int) = v := fun v => rdInt (by simp [hi])
    (try simp only [hr, List.set_set])
    rw [w64 (x := a + 1) (by omega) (by omega), w64 (x := (i : Int) + 1) (by omega) (by omega)]
    (try simp only [mkInt, show a + 1 = a + ((1 : Nat) : Int) by omega])
    (try rfl)
def mkS127 (_ : S127) (a : Int) : S127 := ⟨a, a + 1, ⟨a + 2, a + 3, a + 4, a + 5⟩⟩
def ctS127 (_ : S127) : Nat := 6
theorem markEarlyS_ev (l : List S127) (a : Int) (ha : 0 ≤ a) (hB : a + mcount ctS127 l ≤ 4611686018427387904) (hl : l.length ≤ 4611686018427387904) : Ev (fun k => laws_markEarlyS.f k l a) (a + mcount ctS127 l, marks mkS127 ctS127 l a) := by
  unfold laws_markEarlyS.f
  refine marked_ev (fun k xs a i => laws_markEarlyS.l0 k xs a i) mkS127 ctS127 4611686018427387904 l a ha hB ?_ ?_
  · intro ys a hy
    refine Ev.step (f := fun _ => some (a, ys)) (fun k => ?_) (Ev.now _)
    simp only [laws_markEarlyS.l0]; rw [if_neg (by omega)]
  · intro i x ys a r hy hx h0 hB h
    have hi := lt_of hx
    have hct : ctS127 x = 6 := rfl
    rw [hct] at hB h
    refine Ev.step (fun k => ?_) h
    simp only [laws_markEarlyS.l0]
    rw [if_pos (by omega), if_pos (by omega)]
    simp only [Option.bind_some, Int.toNat_natCast]
    have hr : ∀ (v : S127), rd_T127 (ys.set i v) (i : Int) = v := fun v => rd127 (by simp [hi])
    (try simp only [hr, List.set_set])
    rw [w64 (x := a + 1) (by omega) (by omega), w64 (x := a + 1 + 1) (by omega) (by omega), w64 (x := a + 1 + 1 + 1) (by omega) (by omega), w64 (x := a + 1 + 1 + 1 + 1) (by omega) (by omega), w64 (x := a + 1 + 1 + 1 + 1 + 1) (by omega) (by omega), w64 (x := a + 1 + 1 + 1 + 1 + 1 + 1) (by omega) (by omega), w64 (x := (i : Int) + 1) (by omega) (by omega)]
    (try simp only [mkS127, show a + 1 + 1 = a + 2 by omega, show a + 2 + 1 = a + 3 by omega, show a + 3 + 1 = a + 4 by omega, show a + 4 + 1 = a + 5 by omega, show a + 5 + 1 = a + ((6 : Nat) : Int) by omega])
    (try rfl)
theorem markKeeper_ev (l0_0 : List S134) (l0_1 : List Int) (l0_2 : List S127) (a0_3 : Int) (l0_4 : List Int) (a1 : Int) (hl0_0 : l0_0.length ≤ 4611686018427387904) (hl0_1 : l0_1.length ≤ 4611686018427387904) (hl0_2 : l0_2.length ≤ 4611686018427387904) (hl0_4 : l0_4.length ≤ 4611686018427387904) (h0 : 0 ≤ a1) (hB : a1 + mcount ctS134 l0_0 + mcount ctInt l0_1 + mcount ctS127 l0_2 + mcount ctInt l0_4 ≤ 4611686018427387904) : Ev (fun k => laws_markKeeper.f k l0_0 l0_1 l0_2 a0_3 l0_4 a1) (a1 + mcount ctS134 l0_0 + mcount ctInt l0_1 + mcount ctS127 l0_2 + mcount ctInt l0_4, marks mkS134 ctS134 l0_0 (a1), marks mkInt ctInt l0_1 (a1 + mcount ctS134 l0_0), marks mkS127 ctS127 l0_2 (a1 + mcount ctS134 l0_0 + mcount ctInt l0_1), marks mkInt ctInt l0_4 (a1 + mcount ctS134 l0_0 + mcount ctInt l0_1 + mcount ctS127 l0_2)) := by
  unfold laws_markKeeper.f
  refine Ev.bind (markEntryS_ev _ _ (by omega) (by omega) (by assumption)) ?_; try dsimp only
  refine Ev.bind (markIntS_ev _ _ (by omega) (by omega) (by assumption)) ?_; try dsimp only
  refine Ev.bind (markEarlyS_ev _ _ (by omega) (by omega) (by assumption)) ?_; try dsimp only
  refine Ev.bind (markIntS_ev _ _ (by omega) (by omega) (by assumption)) ?_; try dsimp only
  exact Ev.now _
theorem heldEntryS_ev (l : List S134) (a : Int) (ha : 0 ≤ a) (hB : a + mcount ctS134 l ≤ 4611686018427387904) (hl : l.length ≤ 4611686018427387904) : Ev (fun k => laws_heldEntryS.f k (marks mkS134 ctS134 l a) a) (a + mcount ctS134 l) := by
  unfold laws_heldEntryS.f
  refine held_ev (fun k b i => laws_heldEntryS.l0 k (marks mkS134 ctS134 l a) b i) mkS134 ctS134 4611686018427387904 l a ha hB ?_ ?_
  · intro b
    refine Ev.step (f := fun _ => some b) (fun k => ?_) (Ev.now _)
    simp only [laws_heldEntryS.l0]; rw [if_neg (by rw [marks_length]; omega)]
  · intro i x b r hx hm h0 hB h
    have hi := lt_of hx
    have hct : ctS134 x = 6 := rfl
    rw [hct] at hB h
    refine Ev.step (fun k => ?_) h
    simp only [laws_heldEntryS.l0]
    rw [if_pos (by rw [marks_length]; omega), if_pos (by omega), rd134 hm]
    rw [w64 (x := b + 1) (by omega) (by omega), w64 (x := b + 1 + 1) (by omega) (by omega), w64 (x := b + 1 + 1 + 1) (by omega) (by omega), w64 (x := b + 1 + 1 + 1 + 1) (by omega) (by omega), w64 (x := b + 1 + 1 + 1 + 1 + 1) (by omega) (by omega), w64 (x := b + 1 + 1 + 1 + 1 + 1 + 1) (by omega) (by omega), w64 (x := (i : Int) + 1) (by omega) (by omega)]
    simp only [mkS134, show b + 1 + 1 = b + 2 by omega, show b + 2 + 1 = b + 3 by omega, show b + 3 + 1 = b + 4 by omega, show b + 4 + 1 = b + 5 by omega, show b + 5 + 1 = b + ((6 : Nat) : Int) by omega, bne_self_eq_false, Bool.false_eq_true, if_true, if_false]
    (try rfl)
theorem heldIntS_ev (l : List Int) (a : Int) (ha : 0 ≤ a) (hB : a + mcount ctInt l ≤ 4611686018427387904) (hl : l.length ≤ 4611686018427387904) : Ev (fun k => laws_heldIntS.f k (marks mkInt ctInt l a) a) (a + mcount ctInt l) := by
  unfold laws_heldIntS.f
  refine held_ev (fun k b i => laws_heldIntS.l0 k (marks mkInt ctInt l a) b i) mkInt ctInt 4611686018427387904 l a ha hB ?_ ?_
  · intro b
    refine Ev.step (f := fun _ => some b) (fun k => ?_) (Ev.now _)
    simp only [laws_heldIntS.l0]; rw [if_neg (by rw [marks_length]; omega)]
  · intro i x b r hx hm h0 hB h
    have hi := lt_of hx
    have hct : ctInt x = 1 := rfl
    rw [hct] at hB h
    refine Ev.step (fun k => ?_) h
    simp only [laws_heldIntS.l0]
    rw [if_pos (by rw [marks_length]; omega), if_pos (by omega), rdInt hm]
    rw [w64 (x := b + 1) (by omega) (by omega), w64 (x := (i : Int) + 1) (by omega) (by omega)]
    simp only [mkInt, show b + 1 = b + ((1 : Nat) : Int) by omega, bne_self_eq_false, Bool.false_eq_true, if_true, if_false]
    (try rfl)
theorem heldEarlyS_ev (l : List S127) (a : Int) (ha : 0 ≤ a) (hB : a + mcount ctS127 l ≤ 4611686018427387904) (hl : l.length ≤ 4611686018427387904) : Ev (fun k => laws_heldEarlyS.f k (marks mkS127 ctS127 l a) a) (a + mcount ctS127 l) := by
  unfold laws_heldEarlyS.f
  refine held_ev (fun k b i => laws_heldEarlyS.l0 k (marks mkS127 ctS127 l a) b i) mkS127 ctS127 4611686018427387904 l a ha hB ?_ ?_
  · intro b
    refine Ev.step (f := fun _ => some b) (fun k => ?_) (Ev.now _)
    simp only [laws_heldEarlyS.l0]; rw [if_neg (by rw [marks_length]; omega)]
  · intro i x b r hx hm h0 hB h
    have hi := lt_of hx
    have hct : ctS127 x = 6 := rfl
    rw [hct] at hB h
    refine Ev.step (fun k => ?_) h
    simp only [laws_heldEarlyS.l0]
    rw [if_pos (by rw [marks_length]; omega), if_pos (by omega), rd127 hm]
    rw [w64 (x := b + 1) (by omega) (by omega), w64 (x := b + 1 + 1) (by omega) (by omega), w64 (x := b + 1 + 1 + 1) (by omega) (by omega), w64 (x := b + 1 + 1 + 1 + 1) (by omega) (by omega), w64 (x := b + 1 + 1 + 1 + 1 + 1) (by omega) (by omega), w64 (x := b + 1 + 1 + 1 + 1 + 1 + 1) (by omega) (by omega), w64 (x := (i : Int) + 1) (by omega) (by omega)]
    simp only [mkS127, show b + 1 + 1 = b + 2 by omega, show b + 2 + 1 = b + 3 by omega, show b + 3 + 1 = b + 4 by omega, show b + 4 + 1 = b + 5 by omega, show b + 5 + 1 = b + ((6 : Nat) : Int) by omega, bne_self_eq_false, Bool.false_eq_true, if_true, if_false]
    (try rfl)
theorem heldKeeper_ev (l0_0 : List S134) (l0_1 : List Int) (l0_2 : List S127) (a0_3 : Int) (l0_4 : List Int) (a1 : Int) (hl0_0 : l0_0.length ≤ 4611686018427387904) (hl0_1 : l0_1.length ≤ 4611686018427387904) (hl0_2 : l0_2.length ≤ 4611686018427387904) (hl0_4 : l0_4.length ≤ 4611686018427387904) (h0 : 0 ≤ a1) (hB : a1 + mcount ctS134 l0_0 + mcount ctInt l0_1 + mcount ctS127 l0_2 + mcount ctInt l0_4 ≤ 4611686018427387904) : Ev (fun k => laws_heldKeeper.f k (marks mkS134 ctS134 l0_0 (a1)) (marks mkInt ctInt l0_1 (a1 + mcount ctS134 l0_0)) (marks mkS127 ctS127 l0_2 (a1 + mcount ctS134 l0_0 + mcount ctInt l0_1)) a0_3 (marks mkInt ctInt l0_4 (a1 + mcount ctS134 l0_0 + mcount ctInt l0_1 + mcount ctS127 l0_2)) a1) (a1 + mcount ctS134 l0_0 + mcount ctInt l0_1 + mcount ctS127 l0_2 + mcount ctInt l0_4) := by
  unfold laws_heldKeeper.f
  refine Ev.bind (heldEntryS_ev _ _ (by omega) (by omega) (by assumption)) ?_; try dsimp only
  refine Ev.neg (by omega) ?_
  refine Ev.bind (heldIntS_ev _ _ (by omega) (by omega) (by assumption)) ?_; try dsimp only
  refine Ev.neg (by omega) ?_
  refine Ev.bind (heldEarlyS_ev _ _ (by omega) (by omega) (by assumption)) ?_; try dsimp only
  refine Ev.neg (by omega) ?_
  refine Ev.bind (heldIntS_ev _ _ (by omega) (by omega) (by assumption)) ?_; try dsimp only
  refine Ev.neg (by omega) ?_
  exact Ev.now _
end Go.Proofs.Ythdeicbkimlnhaa.PFnExactKept
