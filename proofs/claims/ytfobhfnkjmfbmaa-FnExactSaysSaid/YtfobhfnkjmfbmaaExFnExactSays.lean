/- What the printed helpers of laws.FnExactSays come to: copies, equals, sizes, marks. Conditions: the lengths and numbers that each theorem names. -/
import Derived.Test.YtfobhfnkjmfbmaaPFnExactSaysx5
import Derived.Test.YtfobhfnkjmfbmaaLib
set_option linter.unusedVariables false
set_option linter.unusedSimpArgs false
namespace Go.Proofs.Ytfobhfnkjmfbmaa.PFnExactSays
open Go.RowKit Go.Proofs.YtfobhfnkjmfbmaaW.PrintWords Go.Proofs.YtfobhfnkjmfbmaaW.PrintLast Go.Proofs.YtfobhfnkjmfbmaaL
theorem lt_of {α : Type} {l : List α} {i : Nat} {x : α} (h : l[i]? = some x) : i < l.length := (List.getElem?_eq_some_iff.1 h).1
theorem szItemS_of (l : List S175) (a : Int) (hl : l.length ≤ 9223372036854775807) (h0 : 0 ≤ a) (ha : a ≤ 1048576) : ∃ v, laws_szItemS.f l a = some v ∧ (v < 0 ∨ (0 ≤ v ∧ v ≤ a ∧ l.length ≤ 1048576)) := by
  unfold laws_szItemS.f
  rw [w64 (by omega) (by omega)]
  by_cases h : a - (l.length : Int) < 0
  · rw [if_pos h]; exact ⟨_, rfl, .inl (by omega)⟩
  · rw [if_neg h]; exact ⟨_, rfl, .inr ⟨by omega, by omega, by omega⟩⟩
theorem szSender_of (a0_0 : Int) (a0_1 : Int) (l0_2 : List S175) (a0_3 : Int) (a0_4 : Int) (a1 : Int) (hl0_2 : l0_2.length ≤ 9223372036854775807)  (h0 : 0 ≤ a1) (ha : a1 ≤ 1048576) : ∃ v, laws_szSender.f a0_0 a0_1 l0_2 a0_3 a0_4 a1 = some v ∧ (v < 0 ∨ (0 ≤ v ∧ v ≤ a1 ∧ l0_2.length ≤ 1048576)) := by
  unfold laws_szSender.f
  obtain ⟨v1, e1, h1⟩ := szItemS_of l0_2 a1 hl0_2 (by omega) (by omega)
  rw [e1]; simp only [Option.bind_some]
  rcases h1 with h1 | h1
  · rw [if_pos h1]; exact ⟨_, rfl, .inl (by omega)⟩
  rw [if_neg (by omega)]
  exact ⟨_, rfl, .inr (by omega)⟩
def cvS175_S29 (x : S175) : S29 := ⟨x.f0, x.f1, x.f2, x.f3⟩
theorem rd175 {l : List S175} {i : Nat} {x : S175} (h : l[i]? = some x) : rd_T175 l (i : Int) = x := by
  unfold rd_T175; simpa using get_of l z175 h
theorem toItemS_ev (l : List S175) (hl : l.length ≤ 1048576) : Ev (fun k => laws_toItemS.f k l) (l.map cvS175_S29) := by
  unfold laws_toItemS.f
  refine Ev.pos (by omega) (Ev.pos (by omega) ?_)
  rw [Int.toNat_natCast]
  refine copy_ev (fun k out i => laws_toItemS.l0 k l out i) l cvS175_S29 z29 ?_ ?_
  · intro out
    refine Ev.step (f := fun _ => some out) (fun k => ?_) (Ev.now _)
    simp only [laws_toItemS.l0]; rw [if_neg (by omega)]
  · intro i x out r hx ho h
    have hi := lt_of hx
    refine Ev.step (fun k => ?_) h
    simp only [laws_toItemS.l0]
    rw [if_pos (by omega), if_pos (by omega), rd175 hx]
    (try simp only [laws_toItem.f, laws_toItem.f, Option.bind_some])
    rw [if_pos (by omega), w64 (by omega) (by omega), Int.toNat_natCast]
    (try rfl)
theorem toSender_ev (a0_0 : Int) (a0_1 : Int) (l0_2 : List S175) (a0_3 : Int) (a0_4 : Int) (hl0_2 : l0_2.length ≤ 1048576) : Ev (fun k => laws_toSender.f k a0_0 a0_1 l0_2 a0_3 a0_4) (a0_0, a0_1, l0_2.map cvS175_S29, a0_3, a0_4) := by
  unfold laws_toSender.f
  repeat (first | (refine Ev.bind (toItemS_ev _ (by assumption)) ?_; try dsimp only))
  exact Ev.now _
theorem rd31 {l : List S31} {i : Nat} {x : S31} (h : l[i]? = some x) : rd_T31 l (i : Int) = x := by
  unfold rd_T31; simpa using get_of l z31 h
theorem eqFrameS_ev (l : List S31) (hl : l.length ≤ 4611686018427387904) : Ev (fun k => laws_eqFrameS.f k l l) true := by
  unfold laws_eqFrameS.f
  refine Ev.pos rfl ?_
  refine same_ev (fun k i => laws_eqFrameS.l0 k l l i) l ?_ ?_
  · refine Ev.step (f := fun _ => some true) (fun k => ?_) (Ev.now _)
    simp only [laws_eqFrameS.l0]; rw [if_neg (by omega)]
  · intro i x hx h
    have hi := lt_of hx
    refine Ev.step (fun k => ?_) h
    simp only [laws_eqFrameS.l0]
    rw [if_pos (by omega), if_pos (by omega), if_pos (by omega)]
    (try rw [rd31 hx])
    simp [laws_eqFrame.f, laws_eqFrame.f, laws_eqItem.f]
    rw [w64 (by omega) (by omega)]
theorem rd29 {l : List S29} {i : Nat} {x : S29} (h : l[i]? = some x) : rd_T29 l (i : Int) = x := by
  unfold rd_T29; simpa using get_of l z29 h
theorem eqItemS_ev (l : List S29) (hl : l.length ≤ 4611686018427387904) : Ev (fun k => laws_eqItemS.f k l l) true := by
  unfold laws_eqItemS.f
  refine Ev.pos rfl ?_
  refine same_ev (fun k i => laws_eqItemS.l0 k l l i) l ?_ ?_
  · refine Ev.step (f := fun _ => some true) (fun k => ?_) (Ev.now _)
    simp only [laws_eqItemS.l0]; rw [if_neg (by omega)]
  · intro i x hx h
    have hi := lt_of hx
    refine Ev.step (fun k => ?_) h
    simp only [laws_eqItemS.l0]
    rw [if_pos (by omega), if_pos (by omega), if_pos (by omega)]
    (try rw [rd29 hx])
    simp [laws_eqItem.f, laws_eqItem.f]
    rw [w64 (by omega) (by omega)]
theorem eqSender_ev (a0_0 : Int) (a0_1 : Int) (l0_2 : List S29) (a0_3 : Int) (a0_4 : Int) (hl0_2 : l0_2.length ≤ 4611686018427387904) : Ev (fun k => laws_eqSender.f k a0_0 a0_1 l0_2 a0_3 a0_4 a0_0 a0_1 l0_2 a0_3 a0_4) true := by
  unfold laws_eqSender.f
  repeat (first | refine Ev.pos rfl ?_ | refine Ev.neg (by simp) ?_ | (refine Ev.bind (eqItemS_ev _ (by assumption)) ?_; try dsimp only))
  exact Ev.now _
def mkS29 (_ : S29) (a : Int) : S29 := ⟨a, a + 1, a + 2, a + 3⟩
def ctS29 (_ : S29) : Nat := 4
theorem markItemS_ev (l : List S29) (a : Int) (ha : 0 ≤ a) (hB : a + mcount ctS29 l ≤ 4611686018427387904) (hl : l.length ≤ 4611686018427387904) : Ev (fun k => laws_markItemS.f k l a) (a + mcount ctS29 l, marks mkS29 ctS29 l a) := by
  unfold laws_markItemS.f
  refine marked_ev (fun k xs a i => laws_markItemS.l0 k xs a i) mkS29 ctS29 4611686018427387904 l a ha hB ?_ ?_
  · intro ys a hy
    refine Ev.step (f := fun _ => some (a, ys)) (fun k => ?_) (Ev.now _)
    simp only [laws_markItemS.l0]; rw [if_neg (by omega)]
  · intro i x ys a r hy hx h0 hB h
    have hi := lt_of hx
    have hct : ctS29 x = 4 := rfl
    rw [hct] at hB h
    refine Ev.step (fun k => ?_) h
    simp only [laws_markItemS.l0]
    rw [if_pos (by omega), if_pos (by omega)]
    simp only [Option.bind_some, Int.toNat_natCast]
    have hr : ∀ (v : S29), rd_T29 (ys.set i v) (i : Int) = v := fun v => rd29 (by simp [hi])
    (try simp only [hr, List.set_set])
    rw [w64 (x := a + 1) (by omega) (by omega), w64 (x := a + 1 + 1) (by omega) (by omega), w64 (x := a + 1 + 1 + 1) (by omega) (by omega), w64 (x := a + 1 + 1 + 1 + 1) (by omega) (by omega), w64 (x := (i : Int) + 1) (by omega) (by omega)]
    (try simp only [mkS29, show a + 1 + 1 = a + 2 by omega, show a + 2 + 1 = a + 3 by omega, show a + 3 + 1 = a + ((4 : Nat) : Int) by omega])
    (try rfl)
theorem markSender_ev (a0_0 : Int) (a0_1 : Int) (l0_2 : List S29) (a0_3 : Int) (a0_4 : Int) (a1 : Int) (hl0_2 : l0_2.length ≤ 4611686018427387904) (h0 : 0 ≤ a1) (hB : a1 + mcount ctS29 l0_2 ≤ 4611686018427387904) : Ev (fun k => laws_markSender.f k a0_0 a0_1 l0_2 a0_3 a0_4 a1) (a1 + mcount ctS29 l0_2, marks mkS29 ctS29 l0_2 (a1)) := by
  unfold laws_markSender.f
  refine Ev.bind (markItemS_ev _ _ (by omega) (by omega) (by assumption)) ?_; try dsimp only
  exact Ev.now _
def mkS31 (_ : S31) (a : Int) : S31 := ⟨a, a + 1, a + 2, ⟨a + 3, a + 4, a + 5, a + 6⟩⟩
def ctS31 (_ : S31) : Nat := 7
theorem markFrameS_ev (l : List S31) (a : Int) (ha : 0 ≤ a) (hB : a + mcount ctS31 l ≤ 4611686018427387904) (hl : l.length ≤ 4611686018427387904) : Ev (fun k => laws_markFrameS.f k l a) (a + mcount ctS31 l, marks mkS31 ctS31 l a) := by
  unfold laws_markFrameS.f
  refine marked_ev (fun k xs a i => laws_markFrameS.l0 k xs a i) mkS31 ctS31 4611686018427387904 l a ha hB ?_ ?_
  · intro ys a hy
    refine Ev.step (f := fun _ => some (a, ys)) (fun k => ?_) (Ev.now _)
    simp only [laws_markFrameS.l0]; rw [if_neg (by omega)]
  · intro i x ys a r hy hx h0 hB h
    have hi := lt_of hx
    have hct : ctS31 x = 7 := rfl
    rw [hct] at hB h
    refine Ev.step (fun k => ?_) h
    simp only [laws_markFrameS.l0]
    rw [if_pos (by omega), if_pos (by omega)]
    simp only [Option.bind_some, Int.toNat_natCast]
    have hr : ∀ (v : S31), rd_T31 (ys.set i v) (i : Int) = v := fun v => rd31 (by simp [hi])
    (try simp only [hr, List.set_set])
    rw [w64 (x := a + 1) (by omega) (by omega), w64 (x := a + 1 + 1) (by omega) (by omega), w64 (x := a + 1 + 1 + 1) (by omega) (by omega), w64 (x := a + 1 + 1 + 1 + 1) (by omega) (by omega), w64 (x := a + 1 + 1 + 1 + 1 + 1) (by omega) (by omega), w64 (x := a + 1 + 1 + 1 + 1 + 1 + 1) (by omega) (by omega), w64 (x := a + 1 + 1 + 1 + 1 + 1 + 1 + 1) (by omega) (by omega), w64 (x := (i : Int) + 1) (by omega) (by omega)]
    (try simp only [mkS31, show a + 1 + 1 = a + 2 by omega, show a + 2 + 1 = a + 3 by omega, show a + 3 + 1 = a + 4 by omega, show a + 4 + 1 = a + 5 by omega, show a + 5 + 1 = a + 6 by omega, show a + 6 + 1 = a + ((7 : Nat) : Int) by omega])
    (try rfl)
theorem heldFrameS_ev (l : List S31) (a : Int) (ha : 0 ≤ a) (hB : a + mcount ctS31 l ≤ 4611686018427387904) (hl : l.length ≤ 4611686018427387904) : Ev (fun k => laws_heldFrameS.f k (marks mkS31 ctS31 l a) a) (a + mcount ctS31 l) := by
  unfold laws_heldFrameS.f
  refine held_ev (fun k b i => laws_heldFrameS.l0 k (marks mkS31 ctS31 l a) b i) mkS31 ctS31 4611686018427387904 l a ha hB ?_ ?_
  · intro b
    refine Ev.step (f := fun _ => some b) (fun k => ?_) (Ev.now _)
    simp only [laws_heldFrameS.l0]; rw [if_neg (by rw [marks_length]; omega)]
  · intro i x b r hx hm h0 hB h
    have hi := lt_of hx
    have hct : ctS31 x = 7 := rfl
    rw [hct] at hB h
    refine Ev.step (fun k => ?_) h
    simp only [laws_heldFrameS.l0]
    rw [if_pos (by rw [marks_length]; omega), if_pos (by omega), rd31 hm]
    rw [w64 (x := b + 1) (by omega) (by omega), w64 (x := b + 1 + 1) (by omega) (by omega), w64 (x := b + 1 + 1 + 1) (by omega) (by omega), w64 (x := b + 1 + 1 + 1 + 1) (by omega) (by omega), w64 (x := b + 1 + 1 + 1 + 1 + 1) (by omega) (by omega), w64 (x := b + 1 + 1 + 1 + 1 + 1 + 1) (by omega) (by omega), w64 (x := b + 1 + 1 + 1 + 1 + 1 + 1 + 1) (by omega) (by omega), w64 (x := (i : Int) + 1) (by omega) (by omega)]
    simp only [mkS31, show b + 1 + 1 = b + 2 by omega, show b + 2 + 1 = b + 3 by omega, show b + 3 + 1 = b + 4 by omega, show b + 4 + 1 = b + 5 by omega, show b + 5 + 1 = b + 6 by omega, show b + 6 + 1 = b + ((7 : Nat) : Int) by omega, bne_self_eq_false, Bool.false_eq_true, if_true, if_false]
    (try rfl)
end Go.Proofs.Ytfobhfnkjmfbmaa.PFnExactSays
