/- laws.FnExactTaken returns true at every input, its arguments as they were. No condition. -/
import Derived.Test.YtbapmfjdnnajiaaExFnExactTaken
import Derived.Test.YtbapmfjdnnajiaaArgFnExactTaken
set_option linter.unusedVariables false
set_option linter.unusedSimpArgs false
namespace Go.Proofs.Ytbapmfjdnnajiaa.PFnExactTaken
open Go.RowKit Go.Proofs.YtbapmfjdnnajiaaA Go.Proofs.YtbapmfjdnnajiaaL Go.Proofs.Ytbapmfjdnnajiaa.AFnExactTaken
theorem i64_of {x : Int} (h : OkN .i64 x) : -9223372036854775808 ≤ x ∧ x ≤ 9223372036854775807 := bounds_i64 h
theorem itemok_eq (a b c d : Int) : impl_ItemOk.f a b c d = spec_ItemOk.f a b c d := rfl
def itemOk (x : S43) : Bool := decide ((x.f0 = 1 ∧ (0 ≤ x.f1 ∧ x.f1 ≤ 4294967295) ∧ (0 ≤ x.f2 ∧ x.f2 ≤ 4294967295) ∧ x.f3 = 0) ∨ (x.f0 = 2 ∧ (1 ≤ x.f3 ∧ x.f3 ≤ 1000000000) ∧ x.f1 = 0 ∧ x.f2 = 0))
theorem spec_l01In_of (x lo hi : Int) : spec_l01In.f x lo hi = some (decide (lo ≤ x ∧ x ≤ hi)) := by
  unfold spec_l01In.f
  rw [ite_some]; congr 1; rw [Bool.eq_iff_iff]
  by_cases h : x ≥ lo <;> simp [h] <;> omega
theorem spec_ItemOk_of (x : S43) : spec_ItemOk.f x.f0 x.f1 x.f2 x.f3 = some (itemOk x) := by
  unfold spec_ItemOk.f itemOk spec_HalfOk.f
  simp only [spec_l01In_of, Option.bind_some, ite_some]
  congr 1; rw [Bool.eq_iff_iff]
  by_cases h1 : x.f0 = 1
  · simp [h1]
  · by_cases h2 : x.f0 = 2 <;> simp [h1, h2]
theorem impl_ItemOk_of (x : S43) : impl_ItemOk.f x.f0 x.f1 x.f2 x.f3 = some (itemOk x) := (itemok_eq _ _ _ _).trans (spec_ItemOk_of x)
def senderOk (a b : Int) (l : List S43) (c d : Int) : Bool := l.all itemOk && (decide ((0 ≤ a ∧ a ≤ 2) ∧ (1 ≤ b ∧ b ≤ 1000000000) ∧ l.length ≤ 3 ∧ (0 ≤ c ∧ c ≤ 1000000000) ∧ (d = 1 ∨ d = 2 ∨ d = 4)))
def senderRest (a b : Int) (n : Nat) (c d : Int) : Bool := decide ((0 ≤ a ∧ a ≤ 2) ∧ (1 ≤ b ∧ b ≤ 1000000000) ∧ n ≤ 3 ∧ (0 ≤ c ∧ c ≤ 1000000000) ∧ (d = 1 ∨ d = 2 ∨ d = 4))
theorem spec_SenderOk_ev (a b : Int) (l : List S43) (c d : Int) (hn : l.length ≤ 1048576) : Ev (fun k => spec_SenderOk.f k a b l c d) (senderOk a b l c d) := by
  unfold spec_SenderOk.f
  have := foldE_ev (σ := Unit) (ρ := Bool) (fun k _ i => spec_SenderOk.l0 k a b l c d i) l (fun _ x => if itemOk x then .ok () else .error false) (fun _ => senderRest a b l.length c d) (fun _ _ => True) ?_ ?_ ?_ l.length 0 () rfl (Nat.zero_le _) trivial
  · refine Ev.eq ?_ (by simpa using this)
    unfold senderOk
    rw [show decide _ = senderRest a b l.length c d from rfl]
    generalize senderRest a b l.length c d = z
    clear this hn
    induction l with
    | nil => simp [foldE]
    | cons x r ih =>
      cases h : itemOk x with
      | true => rw [foldE_on r (show (if itemOk x then Except.ok () else Except.error false) = .ok () by simp [h])]; simpa [h] using ih
      | false => rw [foldE_stop r (show (if itemOk x then Except.ok () else Except.error false) = .error false by simp [h])]; simp [h]
  · intro _ _
    refine Ev.step (f := fun _ => some (senderRest a b l.length c d)) (fun k => ?_) (Ev.now _)
    simp only [spec_SenderOk.l0]; rw [if_neg (by omega)]
    unfold senderRest
    simp only [spec_l01In_of, Option.bind_some, ite_some]
    congr 1; rw [Bool.eq_iff_iff]
    by_cases h8 : d = 1 <;> by_cases h9 : d = 2 <;> simp [h8, h9] <;> omega
  · intro i x s e hx hs he
    have hi := lt_of hx
    cases h : itemOk x with
    | true => rw [h] at he; cases he
    | false =>
      rw [h] at he; injection he with he; subst he
      refine Ev.step (f := fun _ => some false) (fun k => ?_) (Ev.now _)
      simp only [spec_SenderOk.l0]
      rw [if_pos (by omega), if_pos (by omega), rd43 hx, spec_ItemOk_of, h]
      rfl
  · intro i x s s' hx hs he
    have hi := lt_of hx
    cases h : itemOk x with
    | false => rw [h] at he; cases he
    | true =>
      refine ⟨trivial, fun r hr => ?_⟩
      refine Ev.step (fun k => ?_) hr
      simp only [spec_SenderOk.l0]
      rw [if_pos (by omega), if_pos (by omega), rd43 hx, spec_ItemOk_of, h, w64 (by omega) (by omega)]
      rfl
theorem impl_areItems_ev (l : List S43) (hn : l.length ≤ 1048576) : Ev (fun k => impl_areItems.f k l) (l.all itemOk) := by
  unfold impl_areItems.f
  refine all_ev (fun k i => impl_areItems.l0 k l i) l itemOk ?_ ?_ ?_
  · refine Ev.step (f := fun _ => some true) (fun k => ?_) (Ev.now _)
    simp only [impl_areItems.l0]; rw [if_neg (by omega)]
  · intro i x hx h
    have hi := lt_of hx
    refine Ev.step (f := fun _ => some false) (fun k => ?_) (Ev.now _)
    simp only [impl_areItems.l0]
    rw [if_pos (by omega), if_pos (by omega), rd43 hx, impl_ItemOk_of, h]
    rfl
  · intro i x r hx h hr
    have hi := lt_of hx
    refine Ev.step (fun k => ?_) hr
    simp only [impl_areItems.l0]
    rw [if_pos (by omega), if_pos (by omega), rd43 hx, impl_ItemOk_of, h, w64 (by omega) (by omega)]
    rfl
theorem impl_SenderOk_ev (a b : Int) (l : List S43) (c d : Int) (hn : l.length ≤ 1048576) : Ev (fun k => impl_SenderOk.f k a b l c d) (senderOk a b l c d) := by
  have e1 := impl_areItems_ev l hn
  unfold impl_SenderOk.f impl_isPid.f senderOk
  have e0 : ∀ x lo hi : Int, impl_within.f x lo hi = some (decide (lo ≤ x ∧ x ≤ hi)) := spec_l01In_of
  simp only [e0, Option.bind_some, decide_eq_true_eq, ite_some]
  refine Ev.both (fun h1 => Ev.both (fun h2 => Ev.both (fun h3 => Ev.bind e1 (Ev.some_ ?_)) (fun h3 => Ev.some_ ?_)) (fun h2 => Ev.some_ ?_)) (fun h1 => Ev.some_ ?_)
  · cases l.all itemOk
    · simp
    · simp only [if_true, Bool.true_and]
      rw [Bool.eq_iff_iff]
      by_cases h8 : d = 1 <;> by_cases h9 : d = 2 <;> simp [h8, h9] <;> omega
  · rw [decide_eq_false (by omega)]; simp
  · rw [decide_eq_false (by omega)]; simp
  · rw [decide_eq_false (by omega)]; simp
theorem senderOk_of {a b : Int} {l : List S43} {c d : Int} (h : senderOk a b l c d = true) : l.all itemOk = true ∧ (0 ≤ a ∧ a ≤ 2) ∧ (1 ≤ b ∧ b ≤ 1000000000) ∧ l.length ≤ 3 ∧ (0 ≤ c ∧ c ≤ 1000000000) ∧ (d = 1 ∨ d = 2 ∨ d = 4) := by
  unfold senderOk at h
  rw [Bool.and_eq_true] at h
  exact ⟨h.1, of_decide_eq_true h.2⟩
theorem spec_l18Copy_of (a b : Int) (l : List S43) (c d : Int) (hn : l.length ≤ 1048576) : spec_l18Copy.f a b l c d = some (a, b, l, c, d) := by
  unfold spec_l18Copy.f
  simp only [Option.bind_some, List.length_nil, List.nil_append]
  rw [if_pos (by omega)]
theorem impl_copyItems_of (l : List S43) (hn : l.length ≤ 1048576) : impl_copyItems.f l = some l := by
  unfold impl_copyItems.f
  simp only [Option.bind_some, List.length_nil, List.nil_append]
  rw [if_pos (by omega)]
theorem impl_copySender_of (a b : Int) (l : List S43) (c d : Int) (hn : l.length ≤ 1048576) : impl_copySender.f a b l c d = some (a, b, l, c, d) := by
  unfold impl_copySender.f
  rw [impl_copyItems_of l hn]; rfl
abbrev It := S43
theorem spec_l16Copy_of (l : List It) (a b c : Int) (hn : l.length ≤ 1048576) : spec_l16Copy.f l a b c = some (l, a, b, c) := by
  unfold spec_l16Copy.f
  simp only [List.length_nil, List.nil_append]
  rw [if_pos (by omega)]
theorem impl_copyRing_of (l : List It) (a b c : Int) (hn : l.length ≤ 1048576) : impl_copyRing.f l a b c = some (l, a, b, c) := by
  unfold impl_copyRing.f
  rw [impl_copyItems_of l hn]; rfl
def drainV (l : List It) (a b c : Int) : List It × Int × Int × Int × Int × Int × Int × Int × Bool :=
  if (l.length : Int) > 0 then (l.drop 1, a, b, c, (rd_T43 l 0).f0, (rd_T43 l 0).f1, (rd_T43 l 0).f2, (rd_T43 l 0).f3, true) else if b = 0 then (l, a, b, c, 0, 0, 0, 0, false) else (l, a, 0, c, 2, 0, 0, b, true)
theorem drainV_len (l : List It) (a b c : Int) : (drainV l a b c).1.length ≤ l.length := by
  unfold drainV
  split
  · simp
  · split <;> exact Nat.le_refl _
theorem spec_Drained_of (l : List It) (a b c : Int) (hn : l.length ≤ 1048576) : spec_Drained.f l a b c = some (drainV l a b c) := by
  unfold spec_Drained.f drainV
  rw [spec_l16Copy_of l a b c hn]
  simp only [Option.bind_some, List.length_nil, List.nil_append]
  by_cases h : (l.length : Int) > 0
  · simp only [if_pos h, if_pos (show (0 : Int) < (l.length : Int) by omega), if_pos (show (1 : Int) ≤ (l.length : Int) by omega), if_pos (show 0 + (l.drop 1).length < 4398046511104 by rw [List.length_drop]; omega)]
  · rw [if_neg h, if_neg h]; split <;> rfl
theorem impl_Drained_of (l : List It) (a b c : Int) (hn : l.length ≤ 1048576) : impl_Drained.f l a b c = some (drainV l a b c) := by
  unfold impl_Drained.f drainV
  rw [impl_copyRing_of l a b c hn]
  simp only [Option.bind_some]
  by_cases h : (l.length : Int) > 0
  · rw [if_pos h, if_pos h, if_pos (by omega), if_pos (by omega), impl_copyItems_of _ (by simp; omega)]; rfl
  · rw [if_neg h, if_neg h]; split <;> rfl
def len16 (x : It) : Int := if x.f0 = 2 then x.f3 else 1
def ringSum (l : List It) (s : Int) : Int := l.foldl (fun s x => wrap64 (s + len16 x)) s
def ringIn (l : List It) (a b c : Int) : Bool := decide (l.length ≤ 4 ∧ (0 ≤ a ∧ a ≤ 5) ∧ (0 ≤ b ∧ b ≤ 1000000000) ∧ (0 ≤ c ∧ c ≤ 1000000000))
def ringOk (l : List It) (a b c : Int) : Bool := ringIn l a b c && (l.all itemOk && decide (ringSum l b ≤ c))
theorem spec_RingOk_loop (l : List It) (a b c : Int) (hn : l.length ≤ 1048576) (s : Int) : Ev (fun k => spec_RingOk.l0 k l a b c s 0) (l.all itemOk && decide (ringSum l s ≤ c)) := by
  have := foldE_ev (σ := Int) (ρ := Bool) (fun k s i => spec_RingOk.l0 k l a b c s i) l (fun s x => if itemOk x then .ok (wrap64 (s + len16 x)) else .error false) (fun s => decide (s ≤ c)) (fun _ _ => True) ?_ ?_ ?_ l.length 0 s rfl (Nat.zero_le _) trivial
  · refine Ev.eq ?_ (by simpa using this)
    clear this hn
    induction l generalizing s with
    | nil => rfl
    | cons x r ih =>
      cases h : itemOk x with
      | true => rw [foldE_on r (show (if itemOk x then Except.ok (wrap64 (s + len16 x)) else Except.error false) = .ok (wrap64 (s + len16 x)) by simp [h])]; rw [ih, List.all_cons, h]; rfl
      | false => rw [foldE_stop r (show (if itemOk x then Except.ok (wrap64 (s + len16 x)) else Except.error false) = .error false by simp [h])]; simp [h]
  · intro s _
    refine Ev.step (f := fun _ => some (decide (s ≤ c))) (fun k => ?_) (Ev.now _)
    simp only [spec_RingOk.l0]; rw [if_neg (by omega)]
  · intro i x s e hx hs he
    have hi := lt_of hx
    cases h : itemOk x with
    | true => rw [h] at he; cases he
    | false =>
      rw [h] at he; injection he with he; subst he
      refine Ev.step (f := fun _ => some false) (fun k => ?_) (Ev.now _)
      simp only [spec_RingOk.l0]
      rw [if_pos (by omega), if_pos (by omega), rd43 hx, spec_ItemOk_of, h]
      rfl
  · intro i x s s' hx hs he
    have hi := lt_of hx
    cases h : itemOk x with
    | false => rw [h] at he; cases he
    | true =>
      rw [h] at he; injection he with he; subst he
      refine ⟨trivial, fun r hr => ?_⟩
      refine Ev.step (fun k => ?_) hr
      simp only [spec_RingOk.l0]
      rw [if_pos (by omega), if_pos (by omega), rd43 hx, spec_ItemOk_of, h, w64 (x := (i : Int) + 1) (by omega) (by omega)]
      simp only [Option.bind_some, if_true]
      have e : spec_l16Length.f x.f0 x.f1 x.f2 x.f3 = some (len16 x) := by unfold spec_l16Length.f len16; split <;> rfl
      rw [e]; rfl
theorem impl_RingOk_loop (l : List It) (a b c : Int) (hn : l.length ≤ 1048576) (ho : l.all itemOk = true) (s : Int) : Ev (fun k => impl_RingOk.l0 k l a b c s 0) (decide (ringSum l s ≤ c)) := by
  have := foldE_ev (σ := Int) (ρ := Bool) (fun k s i => impl_RingOk.l0 k l a b c s i) l (fun s x => .ok (wrap64 (s + len16 x))) (fun s => decide (s ≤ c)) (fun _ _ => True) ?_ ?_ ?_ l.length 0 s rfl (Nat.zero_le _) trivial
  · refine Ev.eq ?_ (by simpa using this)
    clear this hn ho
    induction l generalizing s with
    | nil => rfl
    | cons x r ih => rw [foldE_on r rfl, ih]; rfl
  · intro s _
    refine Ev.step (f := fun _ => some (decide (s ≤ c))) (fun k => ?_) (Ev.now _)
    simp only [impl_RingOk.l0]; rw [if_neg (by omega)]
  · intro i x s e hx hs he; cases he
  · intro i x s s' hx hs he
    have hi := lt_of hx
    injection he with he; subst he
    refine ⟨trivial, fun r hr => ?_⟩
    refine Ev.step (fun k => ?_) hr
    have hx' : itemOk x = true := List.all_eq_true.1 ho x (List.mem_of_getElem? hx)
    simp only [impl_RingOk.l0]
    rw [if_pos (by omega), if_pos (by omega), rd43 hx, w64 (x := (i : Int) + 1) (by omega) (by omega)]
    unfold itemOk at hx'
    rw [decide_eq_true_eq] at hx'
    unfold len16
    rcases hx' with h | h
    · rw [if_pos h.1, if_neg (by omega)]
    · rw [if_neg (by omega), if_pos h.1]
theorem spec_RingOk_ev (l : List It) (a b c : Int) (hn : l.length ≤ 1048576) : Ev (fun k => spec_RingOk.f k l a b c) (ringOk l a b c) := by
  have e1 := spec_RingOk_loop l a b c hn b
  unfold spec_RingOk.f ringOk
  generalize (l.all itemOk && decide (ringSum l b ≤ c)) = z at e1
  have no : ∀ h : ringIn l a b c = false, (ringIn l a b c && z) = false := fun h => by rw [h]; rfl
  have yes : ∀ h : ringIn l a b c = true, (ringIn l a b c && z) = z := fun h => by rw [h]; rfl
  by_cases h0 : (l.length : Int) > 4
  · exact Ev.pos h0 (Ev.some_ (no (decide_eq_false (by omega))).symm)
  refine Ev.neg h0 (Ev.bindc (spec_l01In_of _ _ _) (Ev.both (fun h1 => Ev.bindc (spec_l01In_of _ _ _) (Ev.both (fun h2 => Ev.bindc (spec_l01In_of _ _ _) (Ev.both (fun h3 => Ev.eq (yes ?_).symm e1) (fun h3 => Ev.some_ (no ?_).symm))) (fun h2 => Ev.some_ (no ?_).symm))) (fun h1 => Ev.some_ (no ?_).symm)))
  all_goals simp only [decide_eq_true_eq] at *
  · exact decide_eq_true (by omega)
  · exact decide_eq_false (by omega)
  · exact decide_eq_false (by omega)
  · exact decide_eq_false (by omega)
theorem impl_RingOk_ev (l : List It) (a b c : Int) (hn : l.length ≤ 1048576) : Ev (fun k => impl_RingOk.f k l a b c) (ringOk l a b c) := by
  have e0 := impl_areItems_ev l hn
  have e2 : ∀ x lo hi : Int, impl_within.f x lo hi = some (decide (lo ≤ x ∧ x ≤ hi)) := spec_l01In_of
  unfold impl_RingOk.f ringOk
  by_cases h0 : (l.length : Int) > 4
  · exact Ev.pos h0 (Ev.some_ (by rw [show ringIn l a b c = false from decide_eq_false (by omega)]; rfl))
  refine Ev.neg h0 (Ev.bind e0 ?_)
  cases ho : l.all itemOk with
  | false => exact Ev.neg (by simp) (Ev.some_ (by simp))
  | true =>
    have e1 := impl_RingOk_loop l a b c hn ho b
    generalize decide (ringSum l b ≤ c) = z at e1
    have no : ∀ h : ringIn l a b c = false, (ringIn l a b c && (true && z)) = false := fun h => by rw [h]; rfl
    have yes : ∀ h : ringIn l a b c = true, (ringIn l a b c && (true && z)) = z := fun h => by rw [h]; rfl
    refine Ev.pos rfl (Ev.bindc (e2 _ _ _) (Ev.both (fun h1 => Ev.bindc (e2 _ _ _) (Ev.both (fun h2 => Ev.bindc (e2 _ _ _) (Ev.both (fun h3 => Ev.eq (yes ?_).symm e1) (fun h3 => Ev.some_ (no ?_).symm))) (fun h2 => Ev.some_ (no ?_).symm))) (fun h1 => Ev.some_ (no ?_).symm)))
    all_goals simp only [decide_eq_true_eq] at *
    · exact decide_eq_true (by omega)
    · exact decide_eq_false (by omega)
    · exact decide_eq_false (by omega)
    · exact decide_eq_false (by omega)
/-- What Taken gives. -/
def takenIf (a b : Int) (l : List It) (c d : Int) (R : List It) (ra rb rc now : Int) : Bool := senderOk a b l c d && (ringOk R ra rb rc && ((drainV R ra rb rc).2.2.2.2.2.2.2.2 && decide ((l.length : Int) < 3 ∧ 0 ≤ now ∧ now ≤ 1000000000)))
def takenV (a b : Int) (l : List It) (c d : Int) (R : List It) (ra rb rc now : Int) : Int × Int × List It × Int × Int × List It × Int × Int × Int × Bool :=
  if takenIf a b l c d R ra rb rc now = true then (a, b, l ++ [⟨(drainV R ra rb rc).2.2.2.2.1, (drainV R ra rb rc).2.2.2.2.2.1, (drainV R ra rb rc).2.2.2.2.2.2.1, (drainV R ra rb rc).2.2.2.2.2.2.2.1⟩], now, 1, (drainV R ra rb rc).1, (drainV R ra rb rc).2.1, (drainV R ra rb rc).2.2.1, (drainV R ra rb rc).2.2.2.1, true)
  else (a, b, l, c, d, R, ra, rb, rc, false)
theorem takenV_len (a b : Int) (l : List It) (c d : Int) (R : List It) (ra rb rc now : Int) (hl : l.length ≤ 1048576) (hR : R.length ≤ 1048576) : (takenV a b l c d R ra rb rc now).2.2.1.length ≤ 1048577 ∧ (takenV a b l c d R ra rb rc now).2.2.2.2.2.1.length ≤ 1048576 := by
  unfold takenV
  split
  · have := drainV_len R ra rb rc
    constructor
    · simp; omega
    · show (drainV R ra rb rc).1.length ≤ _; omega
  · exact ⟨by show l.length ≤ _; omega, hR⟩
theorem spec_Taken_ev (a b : Int) (l : List It) (c d : Int) (R : List It) (ra rb rc now : Int) (hl : l.length ≤ 1048576) (hR : R.length ≤ 1048576) : Ev (fun k => spec_Taken.f k a b l c d R ra rb rc now) (takenV a b l c d R ra rb rc now) := by
  unfold spec_Taken.f
  have jT : takenIf a b l c d R ra rb rc now = false → Ev (fun k => spec_Taken.j0 k R ra rb rc now (a, b, l, c, d) (drainV R ra rb rc) true) (takenV a b l c d R ra rb rc now) := by
    intro h
    refine Ev.step (fun _ => rfl) ?_
    simp only [spec_Taken.j0]
    refine Ev.pos (by simp) (Ev.bindc (spec_l16Copy_of R ra rb rc hR) (Ev.some_ ?_))
    unfold takenV; rw [if_neg (by rw [h]; simp)]
  have jF : takenIf a b l c d R ra rb rc now = true → Ev (fun k => spec_Taken.j0 k R ra rb rc now (a, b, l, c, d) (drainV R ra rb rc) false) (takenV a b l c d R ra rb rc now) := by
    intro h
    refine Ev.step (fun _ => rfl) ?_
    simp only [spec_Taken.j0]
    refine Ev.neg (by simp) (Ev.pos (by simp; omega) (Ev.some_ ?_))
    unfold takenV; rw [if_pos h]
  refine Ev.bindc (spec_l18Copy_of a b l c d hl) (Ev.bindc (spec_Drained_of R ra rb rc hR) (Ev.bind (spec_SenderOk_ev a b l c d hl) ?_))
  cases h1 : senderOk a b l c d with
  | false => exact Ev.neg (by simp) (jT (by simp [takenIf, h1]))
  | true =>
    refine Ev.pos rfl (Ev.bind (spec_RingOk_ev R ra rb rc hR) ?_)
    cases h2 : ringOk R ra rb rc with
    | false => exact Ev.neg (by simp) (jT (by simp [takenIf, h2]))
    | true =>
      refine Ev.pos rfl ?_
      cases h3 : (drainV R ra rb rc).2.2.2.2.2.2.2.2 with
      | false => exact Ev.neg (by simp) (jT (by simp [takenIf, h3]))
      | true =>
        refine Ev.pos rfl ?_
        by_cases h4 : (l.length : Int) ≥ 3
        · exact Ev.pos h4 (jT (by simp [takenIf]; omega))
        · refine Ev.neg h4 (Ev.bindc (spec_l01In_of _ _ _) ?_)
          by_cases h5 : 0 ≤ now ∧ now ≤ 1000000000
          · rw [decide_eq_true h5]; exact jF (by simp [takenIf, h1, h2, h3]; omega)
          · rw [decide_eq_false h5]; exact jT (by simp [takenIf]; omega)
theorem impl_Taken_ev (a b : Int) (l : List It) (c d : Int) (R : List It) (ra rb rc now : Int) (hl : l.length ≤ 1048576) (hR : R.length ≤ 1048576) : Ev (fun k => impl_Taken.f k a b l c d R ra rb rc now) (takenV a b l c d R ra rb rc now) := by
  have e2 : ∀ x lo hi : Int, impl_within.f x lo hi = some (decide (lo ≤ x ∧ x ≤ hi)) := spec_l01In_of
  unfold impl_Taken.f
  have jT : takenIf a b l c d R ra rb rc now = false → Ev (fun k => impl_Taken.j0 k a b l c d R ra rb rc now (drainV R ra rb rc) true) (takenV a b l c d R ra rb rc now) := by
    intro h
    refine Ev.step (fun _ => rfl) ?_
    simp only [impl_Taken.j0]
    refine Ev.pos (by simp) (Ev.bindc (impl_copySender_of a b l c d hl) (Ev.bindc (impl_copyRing_of R ra rb rc hR) (Ev.some_ ?_)))
    unfold takenV; rw [if_neg (by rw [h]; simp)]
  have jF : takenIf a b l c d R ra rb rc now = true → Ev (fun k => impl_Taken.j0 k a b l c d R ra rb rc now (drainV R ra rb rc) false) (takenV a b l c d R ra rb rc now) := by
    intro h
    refine Ev.step (fun _ => rfl) ?_
    simp only [impl_Taken.j0]
    refine Ev.neg (by simp) (Ev.bindc (impl_copySender_of a b l c d hl) (Ev.pos (by simp; omega) (Ev.some_ ?_)))
    unfold takenV; rw [if_pos h]
  refine Ev.bindc (impl_Drained_of R ra rb rc hR) (Ev.bind (impl_SenderOk_ev a b l c d hl) ?_)
  cases h1 : senderOk a b l c d with
  | false => exact Ev.neg (by simp) (jT (by simp [takenIf, h1]))
  | true =>
    have h0 := (senderOk_of h1).2.2.2.1
    refine Ev.pos rfl (Ev.bind (impl_RingOk_ev R ra rb rc hR) ?_)
    cases h2 : ringOk R ra rb rc with
    | false => exact Ev.neg (by simp) (jT (by simp [takenIf, h2]))
    | true =>
      refine Ev.pos rfl ?_
      by_cases h4 : (l.length : Int) = 3
      · exact Ev.pos h4 (jT (by simp [takenIf]; omega))
      · refine Ev.neg h4 ?_
        cases h3 : (drainV R ra rb rc).2.2.2.2.2.2.2.2 with
        | false => exact Ev.neg (by simp) (jT (by simp [takenIf, h3]))
        | true =>
          refine Ev.pos rfl (Ev.bindc (e2 _ _ _) ?_)
          by_cases h5 : 0 ≤ now ∧ now ≤ 1000000000
          · rw [decide_eq_true h5]; exact jF (by simp [takenIf, h1, h2, h3]; omega)
          · rw [decide_eq_false h5]; exact jT (by simp [takenIf]; omega)
theorem pure : Pure := by
  intro a b l0 c d l1 ra rb rc now ha hb hl hc hd hr ha2 hb2 hc2 hw
  refine Ev.rounds ?_
  unfold laws_FnExactTaken.f
  obtain ⟨v, hv, h⟩ := szSender_of a b l0 c d 1048576 hl.1 (by omega) (by omega)
  refine Ev.bind (Ev.const hv) ?_
  rcases h with h | ⟨h0, h1, h2⟩
  · exact Ev.pos h (Ev.now _)
  refine Ev.neg (by omega) ?_
  obtain ⟨v', hv', h'⟩ := szRing_of l1 ra rb rc v hr.1 (by omega) (by omega)
  refine Ev.bind (Ev.const hv') ?_
  rcases h' with h' | ⟨h0', h1', h2'⟩
  · exact Ev.pos h' (Ev.now _)
  refine Ev.neg (by omega) ?_
  have e1 := toSender_ev a b l0 c d h2
  have f1 := toRing_ev l1 ra rb rc h2'
  have hm : (l0.map cvS178_S43).length ≤ 1048576 := by simpa using h2
  have hm' : (l1.map cvS178_S43).length ≤ 1048576 := by simpa using h2'
  generalize l0.map cvS178_S43 = xs at e1 hm
  generalize l1.map cvS178_S43 = ys at f1 hm'
  have e2 := spec_Taken_ev a b xs c d ys ra rb rc now hm hm'
  have e3 := impl_Taken_ev a b xs c d ys ra rb rc now hm hm'
  have hg := takenV_len a b xs c d ys ra rb rc now hm hm'
  generalize takenV a b xs c d ys ra rb rc now = g at e2 e3 hg
  obtain ⟨g1, g2, g3, g4, g5, g6, g7, g8, g9, g10⟩ := g
  obtain ⟨hg3, hg6⟩ := hg
  replace hg3 : g3.length ≤ 1048577 := hg3
  replace hg6 : g6.length ≤ 1048576 := hg6
  have e4 := eqSender_ev a b xs c d (by omega)
  have f4 := eqRing_ev ys ra rb rc (by omega)
  have e5 := eqSender_ev g1 g2 g3 g4 g5 (by omega)
  have f5 := eqRing_ev g6 g7 g8 g9 (by omega)
  have hc1 : mcount ctS43 xs ≤ 4194308 := by rw [mcount_const ctS43 4 (fun _ => rfl)]; omega
  have hc2 : mcount ctS43 g3 ≤ 4194308 := by rw [mcount_const ctS43 4 (fun _ => rfl)]; omega
  have hc3 : mcount ctS43 ys ≤ 4194308 := by rw [mcount_const ctS43 4 (fun _ => rfl)]; omega
  have hc4 : mcount ctS43 g6 ≤ 4194308 := by rw [mcount_const ctS43 4 (fun _ => rfl)]; omega
  have e6 := markSender_ev a b xs c d 1 (by omega) (by omega) (by omega)
  have f6 := markRing_ev ys ra rb rc (1 + mcount ctS43 xs) (by omega) (by omega) (by omega)
  have e7 := markSender_ev g1 g2 g3 g4 g5 1 (by omega) (by omega) (by omega)
  have f7 := markRing_ev g6 g7 g8 g9 (1 + mcount ctS43 g3) (by omega) (by omega) (by omega)
  have e8 := heldSender_ev g1 g2 g3 g4 g5 1 (by omega) (by omega) (by omega)
  have f8 := heldRing_ev g6 g7 g8 g9 (1 + mcount ctS43 g3) (by omega) (by omega) (by omega)
  repeat (first
    | (with_reducible refine Ev.bind e1 ?_; try dsimp only)
    | (with_reducible refine Ev.bind f1 ?_; try dsimp only)
    | (with_reducible refine Ev.bind e2 ?_; try dsimp only)
    | (with_reducible refine Ev.bind e3 ?_; try dsimp only)
    | (with_reducible refine Ev.bind e4 ?_; try dsimp only)
    | (with_reducible refine Ev.bind f4 ?_; try dsimp only)
    | (with_reducible refine Ev.bind e5 ?_; try dsimp only)
    | (with_reducible refine Ev.bind f5 ?_; try dsimp only)
    | (with_reducible refine Ev.bind e6 ?_; try dsimp only)
    | (with_reducible refine Ev.bind f6 ?_; try dsimp only)
    | (with_reducible refine Ev.bind e7 ?_; try dsimp only)
    | (with_reducible refine Ev.bind f7 ?_; try dsimp only)
    | (with_reducible refine Ev.bind e8 ?_; try dsimp only)
    | (with_reducible refine Ev.bind f8 ?_; try dsimp only)
    | (refine Ev.neg (by omega) ?_)
    | (refine Ev.pos (by first | rfl | omega) ?_)
    | (refine Ev.neg (by simp) ?_)
    | exact Ev.now _)
end Go.Proofs.Ytbapmfjdnnajiaa.PFnExactTaken
namespace Go.Proofs.Ytbapmfjdnnajiaa
/-- The given statement. -/
theorem fnExactTaken_holds : Rows.FnExactTakenSaid := AFnExactTaken.row PFnExactTaken.pure
#print axioms fnExactTaken_holds
end Go.Proofs.Ytbapmfjdnnajiaa
