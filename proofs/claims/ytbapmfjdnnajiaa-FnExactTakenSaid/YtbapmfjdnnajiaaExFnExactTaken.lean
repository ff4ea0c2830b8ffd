/- What the printed helpers of laws.FnExactTaken come to: copies, equals, sizes, marks. Conditions: the lengths and numbers that each theorem names. -/
import Derived.Test.YtbapmfjdnnajiaaPFnExactTakenx2
import Derived.Test.YtbapmfjdnnajiaaLib
set_option linter.unusedVariables false
set_option linter.unusedSimpArgs false
namespace Go.Proofs.Ytbapmfjdnnajiaa.PFnExactTaken
open Go.RowKit Go.Proofs.YtbapmfjdnnajiaaA Go.Proofs.YtbapmfjdnnajiaaL
theorem lt_of {α : Type} {l : List α} {i : Nat} {x : α} (h : l[i]? = some x) : i < l.length := (List.getElem?_eq_some_iff.1 h).1
theorem szItemS_of (l : List S178) (a : Int) (hl : l.length ≤ 9223372036854775807) (h0 : 0 ≤ a) (ha : a ≤ 1048576) : ∃ v, laws_szItemS.f l a = some v ∧ (v < 0 ∨ (0 ≤ v ∧ v ≤ a ∧ l.length ≤ 1048576)) := by
  unfold laws_szItemS.f
  rw [w64 (by omega) (by omega)]
  by_cases h : a - (l.length : Int) < 0
  · rw [if_pos h]; exact ⟨_, rfl, .inl (by omega)⟩
  · rw [if_neg h]; exact ⟨_, rfl, .inr ⟨by omega, by omega, by omega⟩⟩
theorem szSender_of (a0_0 : Int) (a0_1 : Int) (l0_2 : List S178) (a0_3 : Int) (a0_4 : Int) (a1 : Int) (hl0_2 : l0_2.length ≤ 9223372036854775807)  (h0 : 0 ≤ a1) (ha : a1 ≤ 1048576) : ∃ v, laws_szSender.f a0_0 a0_1 l0_2 a0_3 a0_4 a1 = some v ∧ (v < 0 ∨ (0 ≤ v ∧ v ≤ a1 ∧ l0_2.length ≤ 1048576)) := by
  unfold laws_szSender.f
  obtain ⟨v1, e1, h1⟩ := szItemS_of l0_2 a1 hl0_2 (by omega) (by omega)
  rw [e1]; simp only [Option.bind_some]
  rcases h1 with h1 | h1
  · rw [if_pos h1]; exact ⟨_, rfl, .inl (by omega)⟩
  rw [if_neg (by omega)]
  exact ⟨_, rfl, .inr (by omega)⟩
theorem szRing_of (l0_0 : List S178) (a0_1 : Int) (a0_2 : Int) (a0_3 : Int) (a1 : Int) (hl0_0 : l0_0.length ≤ 9223372036854775807)  (h0 : 0 ≤ a1) (ha : a1 ≤ 1048576) : ∃ v, laws_szRing.f l0_0 a0_1 a0_2 a0_3 a1 = some v ∧ (v < 0 ∨ (0 ≤ v ∧ v ≤ a1 ∧ l0_0.length ≤ 1048576)) := by
  unfold laws_szRing.f
  obtain ⟨v1, e1, h1⟩ := szItemS_of l0_0 a1 hl0_0 (by omega) (by omega)
  rw [e1]; simp only [Option.bind_some]
  rcases h1 with h1 | h1
  · rw [if_pos h1]; exact ⟨_, rfl, .inl (by omega)⟩
  rw [if_neg (by omega)]
  exact ⟨_, rfl, .inr (by omega)⟩
def cvS178_S43 (x : S178) : S43 := ⟨x.f0, x.f1, x.f2, x.f3⟩
theorem rd178 {l : List S178} {i : Nat} {x : S178} (h : l[i]? = some x) : rd_T178 l (i : Int) = x := by
  unfold rd_T178; simpa using get_of l z178 h
theorem toItemS_ev (l : List S178) (hl : l.length ≤ 1048576) : Ev (fun k => laws_toItemS.f k l) (l.map cvS178_S43) := by
  unfold laws_toItemS.f
  refine Ev.pos (by omega) (Ev.pos (by omega) ?_)
  rw [Int.toNat_natCast]
  refine copy_ev (fun k out i => laws_toItemS.l0 k l out i) l cvS178_S43 z43 ?_ ?_
  · intro out
    refine Ev.step (f := fun _ => some out) (fun k => ?_) (Ev.now _)
    simp only [laws_toItemS.l0]; rw [if_neg (by omega)]
  · intro i x out r hx ho h
    have hi := lt_of hx
    refine Ev.step (fun k => ?_) h
    simp only [laws_toItemS.l0]
    rw [if_pos (by omega), if_pos (by omega), rd178 hx]
    (try simp only [laws_toItem.f, laws_toItem.f, Option.bind_some])
    rw [if_pos (by omega), w64 (by omega) (by omega), Int.toNat_natCast]
    (try rfl)
theorem toSender_ev (a0_0 : Int) (a0_1 : Int) (l0_2 : List S178) (a0_3 : Int) (a0_4 : Int) (hl0_2 : l0_2.length ≤ 1048576) : Ev (fun k => laws_toSender.f k a0_0 a0_1 l0_2 a0_3 a0_4) (a0_0, a0_1, l0_2.map cvS178_S43, a0_3, a0_4) := by
  unfold laws_toSender.f
  repeat (first | (refine Ev.bind (toItemS_ev _ (by assumption)) ?_; try dsimp only))
  exact Ev.now _
theorem toRing_ev (l0_0 : List S178) (a0_1 : Int) (a0_2 : Int) (a0_3 : Int) (hl0_0 : l0_0.length ≤ 1048576) : Ev (fun k => laws_toRing.f k l0_0 a0_1 a0_2 a0_3) (l0_0.map cvS178_S43, a0_1, a0_2, a0_3) := by
  unfold laws_toRing.f
  repeat (first | (refine Ev.bind (toItemS_ev _ (by assumption)) ?_; try dsimp only))
  exact Ev.now _
theorem rd43 {l : List S43} {i : Nat} {x : S43} (h : l[i]? = some x) : rd_T43 l (i : Int) = x := by
  unfold rd_T43; simpa using get_of l z43 h
theorem eqItemS_ev (l : List S43) (hl : l.length ≤ 4611686018427387904) : Ev (fun k => laws_eqItemS.f k l l) true := by
  unfold laws_eqItemS.f
  refine Ev.pos rfl ?_
  refine same_ev (fun k i => laws_eqItemS.l0 k l l i) l ?_ ?_
  · refine Ev.step (f := fun _ => some true) (fun k => ?_) (Ev.now _)
    simp only [laws_eqItemS.l0]; rw [if_neg (by omega)]
  · intro i x hx h
    have hi := lt_of hx
    refine Ev.step (fun k => ?_) h
    simp only [laws_eqItemS.l0]
    rw [if_pos (by omega), if_pos (by omega), if_pos (by omega)]
    (try rw [rd43 hx])
    simp [laws_eqItem.f, laws_eqItem.f]
    rw [w64 (by omega) (by omega)]
theorem eqSender_ev (a0_0 : Int) (a0_1 : Int) (l0_2 : List S43) (a0_3 : Int) (a0_4 : Int) (hl0_2 : l0_2.length ≤ 4611686018427387904) : Ev (fun k => laws_eqSender.f k a0_0 a0_1 l0_2 a0_3 a0_4 a0_0 a0_1 l0_2 a0_3 a0_4) true := by
  unfold laws_eqSender.f
  repeat (first | refine Ev.pos rfl ?_ | refine Ev.neg (by simp) ?_ | (refine Ev.bind (eqItemS_ev _ (by assumption)) ?_; try dsimp only))
  exact Ev.now _
theorem eqRing_ev (l0_0 : List S43) (a0_1 : Int) (a0_2 : Int) (a0_3 : Int) (hl0_0 : l0_0.length ≤ 4611686018427387904) : Ev (fun k => laws_eqRing.f k l0_0 a0_1 a0_2 a0_3 l0_0 a0_1 a0_2 a0_3) true := by
  unfold laws_eqRing.f
  repeat (first | refine Ev.pos rfl ?_ | refine Ev.neg (by simp) ?_ | (refine Ev.bind (eqItemS_ev _ (by assumption)) ?_; try dsimp only))
  exact Ev.now _
def mkS43 (_ : S43) (a : Int) : S43 := ⟨a, a + 1, a + 2, a + 3⟩
def ctS43 (_ : S43) : Nat := 4
theorem markItemS_ev (l : List S43) (a : Int) (ha : 0 ≤ a) (hB : a + mcount ctS43 l ≤ 4611686018427387904) (hl : l.length ≤ 4611686018427387904) : Ev (fun k => laws_markItemS.f k l a) (a + mcount ctS43 l, marks mkS43 ctS43 l a) := by
  unfold laws_markItemS.f
  refine marked_ev (fun k xs a i => laws_markItemS.l0 k xs a i) mkS43 ctS43 4611686018427387904 l a ha hB ?_ ?_
  · intro ys a hy
    refine Ev.step (f := fun _ => some (a, ys)) (fun k => ?_) (Ev.now _)
    simp only [laws_markItemS.l0]; rw [if_neg (by omega)]
  · intro i x ys a r hy hx h0 hB h
    have hi := lt_of hx
    have hct : ctS43 x = 4 := rfl
    rw [hct] at hB h
    refine Ev.step (fun k => ?_) h
    simp only [laws_markItemS.l0]
    rw [if_pos (by omega), if_pos (by omega)]
    simp only [Option.bind_some, Int.toNat_natCast]
    have hr : ∀ (v : S43), rd_T43 (ys.set i v) (i : Int) = v := fun v => rd43 (by simp [hi])
    (try simp only [hr, List.set_set])
    rw [w64 (x := a + 1) (by omega) (by omega), w64 (x := a + 1 + 1) (by omega) (by omega), w64 (x := a + 1 + 1 + 1) (by omega) (by omega), w64 (x := a + 1 + 1 + 1 + 1) (by omega) (by omega), w64 (x := (i : Int) + 1) (by omega) (by omega)]
    (try simp only [mkS43, show a + 1 + 1 = a + 2 by omega, show a + 2 + 1 = a + 3 by omega, show a + 3 + 1 = a + ((4 : Nat) : Int) by omega])
    (try rfl)
theorem markSender_ev (a0_0 : Int) (a0_1 : Int) (l0_2 : List S43) (a0_3 : Int) (a0_4 : Int) (a1 : Int) (hl0_2 : l0_2.length ≤ 4611686018427387904) (h0 : 0 ≤ a1) (hB : a1 + mcount ctS43 l0_2 ≤ 4611686018427387904) : Ev (fun k => laws_markSender.f k a0_0 a0_1 l0_2 a0_3 a0_4 a1) (a1 + mcount ctS43 l0_2, marks mkS43 ctS43 l0_2 (a1)) := by
  unfold laws_markSender.f
  refine Ev.bind (markItemS_ev _ _ (by omega) (by omega) (by assumption)) ?_; try dsimp only
  exact Ev.now _
theorem markRing_ev (l0_0 : List S43) (a0_1 : Int) (a0_2 : Int) (a0_3 : Int) (a1 : Int) (hl0_0 : l0_0.length ≤ 4611686018427387904) (h0 : 0 ≤ a1) (hB : a1 + mcount ctS43 l0_0 ≤ 4611686018427387904) : Ev (fun k => laws_markRing.f k l0_0 a0_1 a0_2 a0_3 a1) (a1 + mcount ctS43 l0_0, marks mkS43 ctS43 l0_0 (a1)) := by
  unfold laws_markRing.f
  refine Ev.bind (markItemS_ev _ _ (by omega) (by omega) (by assumption)) ?_; try dsimp only
  exact Ev.now _
theorem heldItemS_ev (l : List S43) (a : Int) (ha : 0 ≤ a) (hB : a + mcount ctS43 l ≤ 4611686018427387904) (hl : l.length ≤ 4611686018427387904) : Ev (fun k => laws_heldItemS.f k (marks mkS43 ctS43 l a) a) (a + mcount ctS43 l) := by
  unfold laws_heldItemS.f
  refine held_ev (fun k b i => laws_heldItemS.l0 k (marks mkS43 ctS43 l a) b i) mkS43 ctS43 4611686018427387904 l a ha hB ?_ ?_
  · intro b
    refine Ev.step (f := fun _ => some b) (fun k => ?_) (Ev.now _)
    simp only [laws_heldItemS.l0]; rw [if_neg (by rw [marks_length]; omega)]
  · intro i x b r hx hm h0 hB h
    have hi := lt_of hx
    have hct : ctS43 x = 4 := rfl
    rw [hct] at hB h
    refine Ev.step (fun k => ?_) h
    simp only [laws_heldItemS.l0]
    rw [if_pos (by rw [marks_length]; omega), if_pos (by omega), rd43 hm]
    rw [w64 (x := b + 1) (by omega) (by omega), w64 (x := b + 1 + 1) (by omega) (by omega), w64 (x := b + 1 + 1 + 1) (by omega) (by omega), w64 (x := b + 1 + 1 + 1 + 1) (by omega) (by omega), w64 (x := (i : Int) + 1) (by omega) (by omega)]
    simp only [mkS43, show b + 1 + 1 = b + 2 by omega, show b + 2 + 1 = b + 3 by omega, show b + 3 + 1 = b + ((4 : Nat) : Int) by omega, bne_self_eq_false, Bool.false_eq_true, if_true, if_false]
    (try rfl)
theorem heldSender_ev (a0_0 : Int) (a0_1 : Int) (l0_2 : List S43) (a0_3 : Int) (a0_4 : Int) (a1 : Int) (hl0_2 : l0_2.length ≤ 4611686018427387904) (h0 : 0 ≤ a1) (hB : a1 + mcount ctS43 l0_2 ≤ 4611686018427387904) : Ev (fun k => laws_heldSender.f k a0_0 a0_1 (marks mkS43 ctS43 l0_2 (a1)) a0_3 a0_4 a1) (a1 + mcount ctS43 l0_2) := by
  unfold laws_heldSender.f
  refine Ev.bind (heldItemS_ev _ _ (by omega) (by omega) (by assumption)) ?_; try dsimp only
  refine Ev.neg (by omega) ?_
  exact Ev.now _
theorem heldRing_ev (l0_0 : List S43) (a0_1 : Int) (a0_2 : Int) (a0_3 : Int) (a1 : Int) (hl0_0 : l0_0.length ≤ 4611686018427387904) (h0 : 0 ≤ a1) (hB : a1 + mcount ctS43 l0_0 ≤ 4611686018427387904) : Ev (fun k => laws_heldRing.f k (marks mkS43 ctS43 l0_0 (a1)) a0_1 a0_2 a0_3 a1) (a1 + mcount ctS43 l0_0) := by
  unfold laws_heldRing.f
  refine Ev.bind (heldItemS_ev _ _ (by omega) (by omega) (by assumption)) ?_; try dsimp only
  refine Ev.neg (by omega) ?_
  exact Ev.now _
end Go.Proofs.Ytbapmfjdnnajiaa.PFnExactTaken
