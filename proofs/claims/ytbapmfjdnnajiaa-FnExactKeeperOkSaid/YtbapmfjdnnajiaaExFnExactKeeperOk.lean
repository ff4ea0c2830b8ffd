/- What the printed helpers of laws.FnExactKeeperOk come to: copies, equals, sizes, marks. Conditions: the lengths and numbers that each theorem names. -/
import Derived.Test.YtbapmfjdnnajiaaPFnExactKeeperOkx2
import Derived.Test.YtbapmfjdnnajiaaLib
set_option linter.unusedVariables false
set_option linter.unusedSimpArgs false
namespace Go.Proofs.Ytbapmfjdnnajiaa.PFnExactKeeperOk
open Go.RowKit Go.Proofs.YtbapmfjdnnajiaaA Go.Proofs.YtbapmfjdnnajiaaL
theorem lt_of {α : Type} {l : List α} {i : Nat} {x : α} (h : l[i]? = some x) : i < l.length := (List.getElem?_eq_some_iff.1 h).1
theorem szEntryS_of (l : List S180) (a : Int) (hl : l.length ≤ 9223372036854775807) (h0 : 0 ≤ a) (ha : a ≤ 1048576) : ∃ v, laws_szEntryS.f l a = some v ∧ (v < 0 ∨ (0 ≤ v ∧ v ≤ a ∧ l.length ≤ 1048576)) := by
  unfold laws_szEntryS.f
  rw [w64 (by omega) (by omega)]
  by_cases h : a - (l.length : Int) < 0
  · rw [if_pos h]; exact ⟨_, rfl, .inl (by omega)⟩
  · rw [if_neg h]; exact ⟨_, rfl, .inr ⟨by omega, by omega, by omega⟩⟩
theorem szIntS_of (l : List Int) (a : Int) (hl : l.length ≤ 9223372036854775807) (h0 : 0 ≤ a) (ha : a ≤ 1048576) : ∃ v, laws_szIntS.f l a = some v ∧ (v < 0 ∨ (0 ≤ v ∧ v ≤ a ∧ l.length ≤ 1048576)) := by
  unfold laws_szIntS.f
  rw [w64 (by omega) (by omega)]
  by_cases h : a - (l.length : Int) < 0
  · rw [if_pos h]; exact ⟨_, rfl, .inl (by omega)⟩
  · rw [if_neg h]; exact ⟨_, rfl, .inr ⟨by omega, by omega, by omega⟩⟩
theorem szEarlyS_of (l : List S182) (a : Int) (hl : l.length ≤ 9223372036854775807) (h0 : 0 ≤ a) (ha : a ≤ 1048576) : ∃ v, laws_szEarlyS.f l a = some v ∧ (v < 0 ∨ (0 ≤ v ∧ v ≤ a ∧ l.length ≤ 1048576)) := by
  unfold laws_szEarlyS.f
  rw [w64 (by omega) (by omega)]
  by_cases h : a - (l.length : Int) < 0
  · rw [if_pos h]; exact ⟨_, rfl, .inl (by omega)⟩
  · rw [if_neg h]; exact ⟨_, rfl, .inr ⟨by omega, by omega, by omega⟩⟩
theorem szKeeper_of (l0_0 : List S180) (l0_1 : List Int) (l0_2 : List S182) (a0_3 : Int) (l0_4 : List Int) (a1 : Int) (hl0_0 : l0_0.length ≤ 9223372036854775807) (hl0_1 : l0_1.length ≤ 9223372036854775807) (hl0_2 : l0_2.length ≤ 9223372036854775807) (hl0_4 : l0_4.length ≤ 9223372036854775807)  (h0 : 0 ≤ a1) (ha : a1 ≤ 1048576) : ∃ v, laws_szKeeper.f l0_0 l0_1 l0_2 a0_3 l0_4 a1 = some v ∧ (v < 0 ∨ (0 ≤ v ∧ v ≤ a1 ∧ l0_0.length ≤ 1048576 ∧ l0_1.length ≤ 1048576 ∧ l0_2.length ≤ 1048576 ∧ l0_4.length ≤ 1048576)) := by
  unfold laws_szKeeper.f
  obtain ⟨v1, e1, h1⟩ := szEntryS_of l0_0 a1 hl0_0 (by omega) (by omega)
  rw [e1]; simp only [Option.bind_some]
  rcases h1 with h1 | h1
  · rw [if_pos h1]; exact ⟨_, rfl, .inl (by omega)⟩
  rw [if_neg (by omega)]
  obtain ⟨v2, e2, h2⟩ := szIntS_of l0_1 v1 hl0_1 (by omega) (by omega)
  rw [e2]; simp only [Option.bind_some]
  rcases h2 with h2 | h2
  · rw [if_pos h2]; exact ⟨_, rfl, .inl (by omega)⟩
  rw [if_neg (by omega)]
  obtain ⟨v3, e3, h3⟩ := szEarlyS_of l0_2 v2 hl0_2 (by omega) (by omega)
  rw [e3]; simp only [Option.bind_some]
  rcases h3 with h3 | h3
  · rw [if_pos h3]; exact ⟨_, rfl, .inl (by omega)⟩
  rw [if_neg (by omega)]
  obtain ⟨v4, e4, h4⟩ := szIntS_of l0_4 v3 hl0_4 (by omega) (by omega)
  rw [e4]; simp only [Option.bind_some]
  rcases h4 with h4 | h4
  · rw [if_pos h4]; exact ⟨_, rfl, .inl (by omega)⟩
  rw [if_neg (by omega)]
  exact ⟨_, rfl, .inr (by omega)⟩
def cvS180_S130 (x : S180) : S130 := ⟨x.f0, x.f1, ⟨x.f2.f0, x.f2.f1, x.f2.f2, x.f2.f3⟩⟩
theorem rd180 {l : List S180} {i : Nat} {x : S180} (h : l[i]? = some x) : rd_T180 l (i : Int) = x := by
  unfold rd_T180; simpa using get_of l z180 h
theorem toEntryS_ev (l : List S180) (hl : l.length ≤ 1048576) : Ev (fun k => laws_toEntryS.f k l) (l.map cvS180_S130) := by
  unfold laws_toEntryS.f
  refine Ev.pos (by omega) (Ev.pos (by omega) ?_)
  rw [Int.toNat_natCast]
  refine copy_ev (fun k out i => laws_toEntryS.l0 k l out i) l cvS180_S130 z130 ?_ ?_
  · intro out
    refine Ev.step (f := fun _ => some out) (fun k => ?_) (Ev.now _)
    simp only [laws_toEntryS.l0]; rw [if_neg (by omega)]
  · intro i x out r hx ho h
    have hi := lt_of hx
    refine Ev.step (fun k => ?_) h
    simp only [laws_toEntryS.l0]
    rw [if_pos (by omega), if_pos (by omega), rd180 hx]
    (try simp only [laws_toEntry.f, laws_toEntry.f, laws_toItem.f, Option.bind_some])
    rw [if_pos (by omega), w64 (by omega) (by omega), Int.toNat_natCast]
    (try rfl)
theorem rdInt {l : List Int} {i : Nat} {x : Int} (h : l[i]? = some x) : rd l (i : Int) = x := by
  unfold rd; simpa using get_of l 0 h
theorem toIntS_ev (l : List Int) (hl : l.length ≤ 1048576) : Ev (fun k => laws_toIntS.f k l) (l.map (fun x : Int => x)) := by
  unfold laws_toIntS.f
  refine Ev.pos (by omega) (Ev.pos (by omega) ?_)
  rw [Int.toNat_natCast]
  refine copy_ev (fun k out i => laws_toIntS.l0 k l out i) l (fun x : Int => x) 0 ?_ ?_
  · intro out
    refine Ev.step (f := fun _ => some out) (fun k => ?_) (Ev.now _)
    simp only [laws_toIntS.l0]; rw [if_neg (by omega)]
  · intro i x out r hx ho h
    have hi := lt_of hx
    refine Ev.step (fun k => ?_) h
    simp only [laws_toIntS.l0]
    rw [if_pos (by omega), if_pos (by omega), rdInt hx]
    (try simp only [Option.bind_some, Option.bind_some])
    rw [if_pos (by omega), w64 (by omega) (by omega), Int.toNat_natCast]
    (try rfl)
def cvS182_S123 (x : S182) : S123 := ⟨x.f0, x.f1, ⟨x.f2.f0, x.f2.f1, x.f2.f2, x.f2.f3⟩⟩
theorem rd182 {l : List S182} {i : Nat} {x : S182} (h : l[i]? = some x) : rd_T182 l (i : Int) = x := by
  unfold rd_T182; simpa using get_of l z182 h
theorem toEarlyS_ev (l : List S182) (hl : l.length ≤ 1048576) : Ev (fun k => laws_toEarlyS.f k l) (l.map cvS182_S123) := by
  unfold laws_toEarlyS.f
  refine Ev.pos (by omega) (Ev.pos (by omega) ?_)
  rw [Int.toNat_natCast]
  refine copy_ev (fun k out i => laws_toEarlyS.l0 k l out i) l cvS182_S123 z123 ?_ ?_
  · intro out
    refine Ev.step (f := fun _ => some out) (fun k => ?_) (Ev.now _)
    simp only [laws_toEarlyS.l0]; rw [if_neg (by omega)]
  · intro i x out r hx ho h
    have hi := lt_of hx
    refine Ev.step (fun k => ?_) h
    simp only [laws_toEarlyS.l0]
    rw [if_pos (by omega), if_pos (by omega), rd182 hx]
    (try simp only [laws_toEarly.f, laws_toEarly.f, laws_toItem.f, Option.bind_some])
    rw [if_pos (by omega), w64 (by omega) (by omega), Int.toNat_natCast]
    (try rfl)
theorem toKeeper_ev (l0_0 : List S180) (l0_1 : List Int) (l0_2 : List S182) (a0_3 : Int) (l0_4 : List Int) (hl0_0 : l0_0.length ≤ 1048576) (hl0_1 : l0_1.length ≤ 1048576) (hl0_2 : l0_2.length ≤ 1048576) (hl0_4 : l0_4.length ≤ 1048576) : Ev (fun k => laws_toKeeper.f k l0_0 l0_1 l0_2 a0_3 l0_4) (l0_0.map cvS180_S130, l0_1.map (fun x : Int => x), l0_2.map cvS182_S123, a0_3, l0_4.map (fun x : Int => x)) := by
  unfold laws_toKeeper.f
  repeat (first | (refine Ev.bind (toEarlyS_ev _ (by assumption)) ?_; try dsimp only) | (refine Ev.bind (toEntryS_ev _ (by assumption)) ?_; try dsimp only) | (refine Ev.bind (toIntS_ev _ (by assumption)) ?_; try dsimp only))
  exact Ev.now _
theorem rd130 {l : List S130} {i : Nat} {x : S130} (h : l[i]? = some x) : rd_T130 l (i : Int) = x := by
  unfold rd_T130; simpa using get_of l z130 h
theorem eqEntryS_ev (l : List S130) (hl : l.length ≤ 4611686018427387904) : Ev (fun k => laws_eqEntryS.f k l l) true := by
  unfold laws_eqEntryS.f
  refine Ev.pos rfl ?_
  refine same_ev (fun k i => laws_eqEntryS.l0 k l l i) l ?_ ?_
  · refine Ev.step (f := fun _ => some true) (fun k => ?_) (Ev.now _)
    simp only [laws_eqEntryS.l0]; rw [if_neg (by omega)]
  · intro i x hx h
    have hi := lt_of hx
    refine Ev.step (fun k => ?_) h
    simp only [laws_eqEntryS.l0]
    rw [if_pos (by omega), if_pos (by omega), if_pos (by omega)]
    (try rw [rd130 hx])
    simp [laws_eqEntry.f, laws_eqEntry.f, laws_eqItem.f]
    rw [w64 (by omega) (by omega)]
theorem eqIntS_ev (l : List Int) (hl : l.length ≤ 4611686018427387904) : Ev (fun k => laws_eqIntS.f k l l) true := by
  unfold laws_eqIntS.f
  refine Ev.pos rfl ?_
  refine same_ev (fun k i => laws_eqIntS.l0 k l l i) l ?_ ?_
  · refine Ev.step (f := fun _ => some true) (fun k => ?_) (Ev.now _)
    simp only [laws_eqIntS.l0]; rw [if_neg (by omega)]
  · intro i x hx h
    have hi := lt_of hx
    refine Ev.step (fun k => ?_) h
    simp only [laws_eqIntS.l0]
    rw [if_pos (by omega), if_pos (by omega), if_pos (by omega)]
    (try rw [rdInt hx])
    simp
    rw [w64 (by omega) (by omega)]
theorem rd123 {l : List S123} {i : Nat} {x : S123} (h : l[i]? = some x) : rd_T123 l (i : Int) = x := by
  unfold rd_T123; simpa using get_of l z123 h
theorem eqEarlyS_ev (l : List S123) (hl : l.length ≤ 4611686018427387904) : Ev (fun k => laws_eqEarlyS.f k l l) true := by
  unfold laws_eqEarlyS.f
  refine Ev.pos rfl ?_
  refine same_ev (fun k i => laws_eqEarlyS.l0 k l l i) l ?_ ?_
  · refine Ev.step (f := fun _ => some true) (fun k => ?_) (Ev.now _)
    simp only [laws_eqEarlyS.l0]; rw [if_neg (by omega)]
  · intro i x hx h
    have hi := lt_of hx
    refine Ev.step (fun k => ?_) h
    simp only [laws_eqEarlyS.l0]
    rw [if_pos (by omega), if_pos (by omega), if_pos (by omega)]
    (try rw [rd123 hx])
    simp [laws_eqEarly.f, laws_eqEarly.f, laws_eqItem.f]
    rw [w64 (by omega) (by omega)]
theorem eqKeeper_ev (l0_0 : List S130) (l0_1 : List Int) (l0_2 : List S123) (a0_3 : Int) (l0_4 : List Int) (hl0_0 : l0_0.length ≤ 4611686018427387904) (hl0_1 : l0_1.length ≤ 4611686018427387904) (hl0_2 : l0_2.length ≤ 4611686018427387904) (hl0_4 : l0_4.length ≤ 4611686018427387904) : Ev (fun k => laws_eqKeeper.f k l0_0 l0_1 l0_2 a0_3 l0_4 l0_0 l0_1 l0_2 a0_3 l0_4) true := by
  unfold laws_eqKeeper.f
  repeat (first | refine Ev.pos rfl ?_ | refine Ev.neg (by simp) ?_ | (refine Ev.bind (eqEarlyS_ev _ (by assumption)) ?_; try dsimp only) | (refine Ev.bind (eqEntryS_ev _ (by assumption)) ?_; try dsimp only) | (refine Ev.bind (eqIntS_ev _ (by assumption)) ?_; try dsimp only))
  exact Ev.now _
end Go.Proofs.Ytbapmfjdnnajiaa.PFnExactKeeperOk
