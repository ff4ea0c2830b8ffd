/- laws.FnExactCalmWorld returns true at every input, its arguments as they were. No condition. -/
import Derived.Test.YtkkglhhkpihmgaaGreatExFnExactCalmWorld
import Derived.Test.YtkkglhhkpihmgaaGreatArgFnExactCalmWorld
set_option linter.unusedVariables false
set_option linter.unusedSimpArgs false
namespace Go.Proofs.YtkkglhhkpihmgaaGreat.PFnExactCalmWorld
open Go.RowKit Go.Proofs.YtkkglhhkpihmgaaGreatA Go.Proofs.YtkkglhhkpihmgaaGreatL Go.Proofs.YtkkglhhkpihmgaaGreat.AFnExactCalmWorld
theorem i64_of {x : Int} (h : OkN .i64 x) : -9223372036854775808 ≤ x ∧ x ≤ 9223372036854775807 := bounds_i64 h
theorem spec_l20Copy_of (x0 : List S139) (x1 : List Int) (x2 : List S154) (a : Int) (x4 : List Int) (h0 : x0.length ≤ 1048576) (h1 : x1.length ≤ 1048576) (h2 : x2.length ≤ 1048576) (h4 : x4.length ≤ 1048576) : spec_l20Copy.f x0 x1 x2 a x4 = some (x0, x1, x2, a, x4) := by
  unfold spec_l20Copy.f
  simp only [Option.bind_some, List.length_nil, List.nil_append]
  rw [if_pos (by omega), if_pos (by omega), if_pos (by omega), if_pos (by omega)]
theorem impl_copyInts_of (x : List Int) (h : x.length ≤ 1048576) : impl_copyInts.f x = some x := by
  unfold impl_copyInts.f
  simp only [Option.bind_some, List.length_nil, List.nil_append]
  rw [if_pos (by omega)]
theorem impl_copyKeeper_of (x0 : List S139) (x1 : List Int) (x2 : List S154) (a : Int) (x4 : List Int) (h0 : x0.length ≤ 1048576) (h1 : x1.length ≤ 1048576) (h2 : x2.length ≤ 1048576) (h4 : x4.length ≤ 1048576) : impl_copyKeeper.f x0 x1 x2 a x4 = some (x0, x1, x2, a, x4) := by
  unfold impl_copyKeeper.f
  rw [impl_copyInts_of x1 h1, impl_copyInts_of x4 h4]
  simp only [Option.bind_some, List.length_nil, List.nil_append]
  rw [if_pos (by omega), if_pos (by omega)]
theorem itemok_eq (a b c d : Int) : impl_ItemOk.f a b c d = spec_ItemOk.f a b c d := rfl
def itemOk (x : S63) : Bool := decide ((x.f0 = 1 ∧ (0 ≤ x.f1 ∧ x.f1 ≤ 4294967295) ∧ (0 ≤ x.f2 ∧ x.f2 ≤ 4294967295) ∧ x.f3 = 0) ∨ (x.f0 = 2 ∧ (1 ≤ x.f3 ∧ x.f3 ≤ 1000000000) ∧ x.f1 = 0 ∧ x.f2 = 0))
theorem spec_l01In_of (x lo hi : Int) : spec_l01In.f x lo hi = some (decide (lo ≤ x ∧ x ≤ hi)) := by
  unfold spec_l01In.f
  rw [ite_some]; congr 1; rw [Bool.eq_iff_iff]
  by_cases h : x ≥ lo <;> simp [h] <;> omega
theorem spec_ItemOk_of (x : S63) : spec_ItemOk.f x.f0 x.f1 x.f2 x.f3 = some (itemOk x) := by
  unfold spec_ItemOk.f itemOk spec_HalfOk.f
  simp only [spec_l01In_of, Option.bind_some, ite_some]
  congr 1; rw [Bool.eq_iff_iff]
  by_cases h1 : x.f0 = 1
  · simp [h1]
  · by_cases h2 : x.f0 = 2 <;> simp [h1, h2]
theorem impl_ItemOk_of (x : S63) : impl_ItemOk.f x.f0 x.f1 x.f2 x.f3 = some (itemOk x) := (itemok_eq _ _ _ _).trans (spec_ItemOk_of x)
def senderOk (a b : Int) (l : List S63) (c d : Int) : Bool := l.all itemOk && (decide ((0 ≤ a ∧ a ≤ 2) ∧ (1 ≤ b ∧ b ≤ 1000000000) ∧ l.length ≤ 3 ∧ (0 ≤ c ∧ c ≤ 1000000000) ∧ (d = 1 ∨ d = 2 ∨ d = 4)))
def senderRest (a b : Int) (n : Nat) (c d : Int) : Bool := decide ((0 ≤ a ∧ a ≤ 2) ∧ (1 ≤ b ∧ b ≤ 1000000000) ∧ n ≤ 3 ∧ (0 ≤ c ∧ c ≤ 1000000000) ∧ (d = 1 ∨ d = 2 ∨ d = 4))
theorem spec_SenderOk_ev (a b : Int) (l : List S63) (c d : Int) (hn : l.length ≤ 1048576) : Ev (fun k => spec_SenderOk.f k a b l c d) (senderOk a b l c d) := by
  unfold spec_SenderOk.f
  have := foldE_ev (σ := Unit) (ρ := Bool) (fun k _ i => spec_SenderOk.l0 k a b l c d i) l (fun _ x => if itemOk x then .ok () else .error false) (fun _ => senderRest a b l.length c d) (fun _ _ => True) ?_ ?_ ?_ l.length 0 () rfl (Nat.zero_le _) trivial
  · refine Ev.eq ?_ (by simpa using this)
    unfold senderOk
    rw [show decide _ = senderRest a b l.length c d from rfl]
    generalize senderRest a b l.length c d = z
    clear this hn
    induction l with
    | nil => simp [foldE]
    | cons x r ih =>
      cases h : itemOk x with
      | true => rw [foldE_on r (show (if itemOk x then Except.ok () else Except.error false) = .ok () by simp [h])]; simpa [h] using ih
      | false => rw [foldE_stop r (show (if itemOk x then Except.ok () else Except.error false) = .error false by simp [h])]; simp [h]
  · intro _ _
    refine Ev.step (f := fun _ => some (senderRest a b l.length c d)) (fun k => ?_) (Ev.now _)
    simp only [spec_SenderOk.l0]; rw [if_neg (by omega)]
    unfold senderRest
    simp only [spec_l01In_of, Option.bind_some, ite_some]
    congr 1; rw [Bool.eq_iff_iff]
    by_cases h8 : d = 1 <;> by_cases h9 : d = 2 <;> simp [h8, h9] <;> omega
  · intro i x s e hx hs he
    have hi := lt_of hx
    cases h : itemOk x with
    | true => rw [h] at he; cases he
    | false =>
      rw [h] at he; injection he with he; subst he
      refine Ev.step (f := fun _ => some false) (fun k => ?_) (Ev.now _)
      simp only [spec_SenderOk.l0]
      rw [if_pos (by omega), if_pos (by omega), rd63 hx, spec_ItemOk_of, h]
      rfl
  · intro i x s s' hx hs he
    have hi := lt_of hx
    cases h : itemOk x with
    | false => rw [h] at he; cases he
    | true =>
      refine ⟨trivial, fun r hr => ?_⟩
      refine Ev.step (fun k => ?_) hr
      simp only [spec_SenderOk.l0]
      rw [if_pos (by omega), if_pos (by omega), rd63 hx, spec_ItemOk_of, h, w64 (by omega) (by omega)]
      rfl
theorem impl_areItems_ev (l : List S63) (hn : l.length ≤ 1048576) : Ev (fun k => impl_areItems.f k l) (l.all itemOk) := by
  unfold impl_areItems.f
  refine all_ev (fun k i => impl_areItems.l0 k l i) l itemOk ?_ ?_ ?_
  · refine Ev.step (f := fun _ => some true) (fun k => ?_) (Ev.now _)
    simp only [impl_areItems.l0]; rw [if_neg (by omega)]
  · intro i x hx h
    have hi := lt_of hx
    refine Ev.step (f := fun _ => some false) (fun k => ?_) (Ev.now _)
    simp only [impl_areItems.l0]
    rw [if_pos (by omega), if_pos (by omega), rd63 hx, impl_ItemOk_of, h]
    rfl
  · intro i x r hx h hr
    have hi := lt_of hx
    refine Ev.step (fun k => ?_) hr
    simp only [impl_areItems.l0]
    rw [if_pos (by omega), if_pos (by omega), rd63 hx, impl_ItemOk_of, h, w64 (by omega) (by omega)]
    rfl
theorem impl_SenderOk_ev (a b : Int) (l : List S63) (c d : Int) (hn : l.length ≤ 1048576) : Ev (fun k => impl_SenderOk.f k a b l c d) (senderOk a b l c d) := by
  have e1 := impl_areItems_ev l hn
  unfold impl_SenderOk.f impl_isPid.f senderOk
  have e0 : ∀ x lo hi : Int, impl_within.f x lo hi = some (decide (lo ≤ x ∧ x ≤ hi)) := spec_l01In_of
  simp only [e0, Option.bind_some, decide_eq_true_eq, ite_some]
  refine Ev.both (fun h1 => Ev.both (fun h2 => Ev.both (fun h3 => Ev.bind e1 (Ev.some_ ?_)) (fun h3 => Ev.some_ ?_)) (fun h2 => Ev.some_ ?_)) (fun h1 => Ev.some_ ?_)
  · cases l.all itemOk
    · simp
    · simp only [if_true, Bool.true_and]
      rw [Bool.eq_iff_iff]
      by_cases h8 : d = 1 <;> by_cases h9 : d = 2 <;> simp [h8, h9] <;> omega
  · rw [decide_eq_false (by omega)]; simp
  · rw [decide_eq_false (by omega)]; simp
  · rw [decide_eq_false (by omega)]; simp
theorem senderOk_of {a b : Int} {l : List S63} {c d : Int} (h : senderOk a b l c d = true) : l.all itemOk = true ∧ (0 ≤ a ∧ a ≤ 2) ∧ (1 ≤ b ∧ b ≤ 1000000000) ∧ l.length ≤ 3 ∧ (0 ≤ c ∧ c ≤ 1000000000) ∧ (d = 1 ∨ d = 2 ∨ d = 4) := by
  unfold senderOk at h
  rw [Bool.and_eq_true] at h
  exact ⟨h.1, of_decide_eq_true h.2⟩
theorem spec_l18Copy_of (a b : Int) (l : List S63) (c d : Int) (hn : l.length ≤ 1048576) : spec_l18Copy.f a b l c d = some (a, b, l, c, d) := by
  unfold spec_l18Copy.f
  simp only [Option.bind_some, List.length_nil, List.nil_append]
  rw [if_pos (by omega)]
theorem impl_copyItems_of (l : List S63) (hn : l.length ≤ 1048576) : impl_copyItems.f l = some l := by
  unfold impl_copyItems.f
  simp only [Option.bind_some, List.length_nil, List.nil_append]
  rw [if_pos (by omega)]
theorem impl_copySender_of (a b : Int) (l : List S63) (c d : Int) (hn : l.length ≤ 1048576) : impl_copySender.f a b l c d = some (a, b, l, c, d) := by
  unfold impl_copySender.f
  rw [impl_copyItems_of l hn]; rfl
abbrev It := S63
theorem spec_l16Copy_of (l : List It) (a b c : Int) (hn : l.length ≤ 1048576) : spec_l16Copy.f l a b c = some (l, a, b, c) := by
  unfold spec_l16Copy.f
  simp only [List.length_nil, List.nil_append]
  rw [if_pos (by omega)]
theorem impl_copyRing_of (l : List It) (a b c : Int) (hn : l.length ≤ 1048576) : impl_copyRing.f l a b c = some (l, a, b, c) := by
  unfold impl_copyRing.f
  rw [impl_copyItems_of l hn]; rfl
def drainV (l : List It) (a b c : Int) : List It × Int × Int × Int × Int × Int × Int × Int × Bool :=
  if (l.length : Int) > 0 then (l.drop 1, a, b, c, (rd_T63 l 0).f0, (rd_T63 l 0).f1, (rd_T63 l 0).f2, (rd_T63 l 0).f3, true) else if b = 0 then (l, a, b, c, 0, 0, 0, 0, false) else (l, a, 0, c, 2, 0, 0, b, true)
theorem drainV_len (l : List It) (a b c : Int) : (drainV l a b c).1.length ≤ l.length := by
  unfold drainV
  split
  · simp
  · split <;> exact Nat.le_refl _
theorem spec_Drained_of (l : List It) (a b c : Int) (hn : l.length ≤ 1048576) : spec_Drained.f l a b c = some (drainV l a b c) := by
  unfold spec_Drained.f drainV
  rw [spec_l16Copy_of l a b c hn]
  simp only [Option.bind_some, List.length_nil, List.nil_append]
  by_cases h : (l.length : Int) > 0
  · simp only [if_pos h, if_pos (show (0 : Int) < (l.length : Int) by omega), if_pos (show (1 : Int) ≤ (l.length : Int) by omega), if_pos (show 0 + (l.drop 1).length < 4398046511104 by rw [List.length_drop]; omega)]
  · rw [if_neg h, if_neg h]; split <;> rfl
theorem impl_Drained_of (l : List It) (a b c : Int) (hn : l.length ≤ 1048576) : impl_Drained.f l a b c = some (drainV l a b c) := by
  unfold impl_Drained.f drainV
  rw [impl_copyRing_of l a b c hn]
  simp only [Option.bind_some]
  by_cases h : (l.length : Int) > 0
  · rw [if_pos h, if_pos h, if_pos (by omega), if_pos (by omega), impl_copyItems_of _ (by simp; omega)]; rfl
  · rw [if_neg h, if_neg h]; split <;> rfl
def len16 (x : It) : Int := if x.f0 = 2 then x.f3 else 1
def ringSum (l : List It) (s : Int) : Int := l.foldl (fun s x => wrap64 (s + len16 x)) s
def ringIn (l : List It) (a b c : Int) : Bool := decide (l.length ≤ 4 ∧ (0 ≤ a ∧ a ≤ 5) ∧ (0 ≤ b ∧ b ≤ 1000000000) ∧ (0 ≤ c ∧ c ≤ 1000000000))
def ringOk (l : List It) (a b c : Int) : Bool := ringIn l a b c && (l.all itemOk && decide (ringSum l b ≤ c))
theorem spec_RingOk_loop (l : List It) (a b c : Int) (hn : l.length ≤ 1048576) (s : Int) : Ev (fun k => spec_RingOk.l0 k l a b c s 0) (l.all itemOk && decide (ringSum l s ≤ c)) := by
  have := foldE_ev (σ := Int) (ρ := Bool) (fun k s i => spec_RingOk.l0 k l a b c s i) l (fun s x => if itemOk x then .ok (wrap64 (s + len16 x)) else .error false) (fun s => decide (s ≤ c)) (fun _ _ => True) ?_ ?_ ?_ l.length 0 s rfl (Nat.zero_le _) trivial
  · refine Ev.eq ?_ (by simpa using this)
    clear this hn
    induction l generalizing s with
    | nil => rfl
    | cons x r ih =>
      cases h : itemOk x with
      | true => rw [foldE_on r (show (if itemOk x then Except.ok (wrap64 (s + len16 x)) else Except.error false) = .ok (wrap64 (s + len16 x)) by simp [h])]; rw [ih, List.all_cons, h]; rfl
      | false => rw [foldE_stop r (show (if itemOk x then Except.ok (wrap64 (s + len16 x)) else Except.error false) = .error false by simp [h])]; simp [h]
  · intro s _
    refine Ev.step (f := fun _ => some (decide (s ≤ c))) (fun k => ?_) (Ev.now _)
    simp only [spec_RingOk.l0]; rw [if_neg (by omega)]
  · intro i x s e hx hs he
    have hi := lt_of hx
    cases h : itemOk x with
    | true => rw [h] at he; cases he
    | false =>
      rw [h] at he; injection he with he; subst he
      refine Ev.step (f := fun _ => some false) (fun k => ?_) (Ev.now _)
      simp only [spec_RingOk.l0]
      rw [if_pos (by omega), if_pos (by omega), rd63 hx, spec_ItemOk_of, h]
      rfl
  · intro i x s s' hx hs he
    have hi := lt_of hx
    cases h : itemOk x with
    | false => rw [h] at he; cases he
    | true =>
      rw [h] at he; injection he with he; subst he
      refine ⟨trivial, fun r hr => ?_⟩
      refine Ev.step (fun k => ?_) hr
      simp only [spec_RingOk.l0]
      rw [if_pos (by omega), if_pos (by omega), rd63 hx, spec_ItemOk_of, h, w64 (x := (i : Int) + 1) (by omega) (by omega)]
      simp only [Option.bind_some, if_true]
      have e : spec_l16Length.f x.f0 x.f1 x.f2 x.f3 = some (len16 x) := by unfold spec_l16Length.f len16; split <;> rfl
      rw [e]; rfl
theorem impl_RingOk_loop (l : List It) (a b c : Int) (hn : l.length ≤ 1048576) (ho : l.all itemOk = true) (s : Int) : Ev (fun k => impl_RingOk.l0 k l a b c s 0) (decide (ringSum l s ≤ c)) := by
  have := foldE_ev (σ := Int) (ρ := Bool) (fun k s i => impl_RingOk.l0 k l a b c s i) l (fun s x => .ok (wrap64 (s + len16 x))) (fun s => decide (s ≤ c)) (fun _ _ => True) ?_ ?_ ?_ l.length 0 s rfl (Nat.zero_le _) trivial
  · refine Ev.eq ?_ (by simpa using this)
    clear this hn ho
    induction l generalizing s with
    | nil => rfl
    | cons x r ih => rw [foldE_on r rfl, ih]; rfl
  · intro s _
    refine Ev.step (f := fun _ => some (decide (s ≤ c))) (fun k => ?_) (Ev.now _)
    simp only [impl_RingOk.l0]; rw [if_neg (by omega)]
  · intro i x s e hx hs he; cases he
  · intro i x s s' hx hs he
    have hi := lt_of hx
    injection he with he; subst he
    refine ⟨trivial, fun r hr => ?_⟩
    refine Ev.step (fun k => ?_) hr
    have hx' : itemOk x = true := List.all_eq_true.1 ho x (List.mem_of_getElem? hx)
    simp only [impl_RingOk.l0]
    rw [if_pos (by omega), if_pos (by omega), rd63 hx, w64 (x := (i : Int) + 1) (by omega) (by omega)]
    unfold itemOk at hx'
    rw [decide_eq_true_eq] at hx'
    unfold len16
    rcases hx' with h | h
    · rw [if_pos h.1, if_neg (by omega)]
    · rw [if_neg (by omega), if_pos h.1]
theorem spec_RingOk_ev (l : List It) (a b c : Int) (hn : l.length ≤ 1048576) : Ev (fun k => spec_RingOk.f k l a b c) (ringOk l a b c) := by
  have e1 := spec_RingOk_loop l a b c hn b
  unfold spec_RingOk.f ringOk
  generalize (l.all itemOk && decide (ringSum l b ≤ c)) = z at e1
  have no : ∀ h : ringIn l a b c = false, (ringIn l a b c && z) = false := fun h => by rw [h]; rfl
  have yes : ∀ h : ringIn l a b c = true, (ringIn l a b c && z) = z := fun h => by rw [h]; rfl
  by_cases h0 : (l.length : Int) > 4
  · exact Ev.pos h0 (Ev.some_ (no (decide_eq_false (by omega))).symm)
  refine Ev.neg h0 (Ev.bindc (spec_l01In_of _ _ _) (Ev.both (fun h1 => Ev.bindc (spec_l01In_of _ _ _) (Ev.both (fun h2 => Ev.bindc (spec_l01In_of _ _ _) (Ev.both (fun h3 => Ev.eq (yes ?_).symm e1) (fun h3 => Ev.some_ (no ?_).symm))) (fun h2 => Ev.some_ (no ?_).symm))) (fun h1 => Ev.some_ (no ?_).symm)))
  all_goals simp only [decide_eq_true_eq] at *
  · exact decide_eq_true (by omega)
  · exact decide_eq_false (by omega)
  · exact decide_eq_false (by omega)
  · exact decide_eq_false (by omega)
theorem impl_RingOk_ev (l : List It) (a b c : Int) (hn : l.length ≤ 1048576) : Ev (fun k => impl_RingOk.f k l a b c) (ringOk l a b c) := by
  have e0 := impl_areItems_ev l hn
  have e2 : ∀ x lo hi : Int, impl_within.f x lo hi = some (decide (lo ≤ x ∧ x ≤ hi)) := spec_l01In_of
  unfold impl_RingOk.f ringOk
  by_cases h0 : (l.length : Int) > 4
  · exact Ev.pos h0 (Ev.some_ (by rw [show ringIn l a b c = false from decide_eq_false (by omega)]; rfl))
  refine Ev.neg h0 (Ev.bind e0 ?_)
  cases ho : l.all itemOk with
  | false => exact Ev.neg (by simp) (Ev.some_ (by simp))
  | true =>
    have e1 := impl_RingOk_loop l a b c hn ho b
    generalize decide (ringSum l b ≤ c) = z at e1
    have no : ∀ h : ringIn l a b c = false, (ringIn l a b c && (true && z)) = false := fun h => by rw [h]; rfl
    have yes : ∀ h : ringIn l a b c = true, (ringIn l a b c && (true && z)) = z := fun h => by rw [h]; rfl
    refine Ev.pos rfl (Ev.bindc (e2 _ _ _) (Ev.both (fun h1 => Ev.bindc (e2 _ _ _) (Ev.both (fun h2 => Ev.bindc (e2 _ _ _) (Ev.both (fun h3 => Ev.eq (yes ?_).symm e1) (fun h3 => Ev.some_ (no ?_).symm))) (fun h2 => Ev.some_ (no ?_).symm))) (fun h1 => Ev.some_ (no ?_).symm)))
    all_goals simp only [decide_eq_true_eq] at *
    · exact decide_eq_true (by omega)
    · exact decide_eq_false (by omega)
    · exact decide_eq_false (by omega)
    · exact decide_eq_false (by omega)
/-- What Taken gives. -/
def takenIf (a b : Int) (l : List It) (c d : Int) (R : List It) (ra rb rc now : Int) : Bool := senderOk a b l c d && (ringOk R ra rb rc && ((drainV R ra rb rc).2.2.2.2.2.2.2.2 && decide ((l.length : Int) < 3 ∧ 0 ≤ now ∧ now ≤ 1000000000)))
def takenV (a b : Int) (l : List It) (c d : Int) (R : List It) (ra rb rc now : Int) : Int × Int × List It × Int × Int × List It × Int × Int × Int × Bool :=
  if takenIf a b l c d R ra rb rc now = true then (a, b, l ++ [⟨(drainV R ra rb rc).2.2.2.2.1, (drainV R ra rb rc).2.2.2.2.2.1, (drainV R ra rb rc).2.2.2.2.2.2.1, (drainV R ra rb rc).2.2.2.2.2.2.2.1⟩], now, 1, (drainV R ra rb rc).1, (drainV R ra rb rc).2.1, (drainV R ra rb rc).2.2.1, (drainV R ra rb rc).2.2.2.1, true)
  else (a, b, l, c, d, R, ra, rb, rc, false)
theorem spec_Taken_ev (a b : Int) (l : List It) (c d : Int) (R : List It) (ra rb rc now : Int) (hl : l.length ≤ 1048576) (hR : R.length ≤ 1048576) : Ev (fun k => spec_Taken.f k a b l c d R ra rb rc now) (takenV a b l c d R ra rb rc now) := by
  unfold spec_Taken.f
  have jT : takenIf a b l c d R ra rb rc now = false → Ev (fun k => spec_Taken.j0 k R ra rb rc now (a, b, l, c, d) (drainV R ra rb rc) true) (takenV a b l c d R ra rb rc now) := by
    intro h
    refine Ev.step (fun _ => rfl) ?_
    simp only [spec_Taken.j0]
    refine Ev.pos (by simp) (Ev.bindc (spec_l16Copy_of R ra rb rc hR) (Ev.some_ ?_))
    unfold takenV; rw [if_neg (by rw [h]; simp)]
  have jF : takenIf a b l c d R ra rb rc now = true → Ev (fun k => spec_Taken.j0 k R ra rb rc now (a, b, l, c, d) (drainV R ra rb rc) false) (takenV a b l c d R ra rb rc now) := by
    intro h
    refine Ev.step (fun _ => rfl) ?_
    simp only [spec_Taken.j0]
    refine Ev.neg (by simp) (Ev.pos (by simp; omega) (Ev.some_ ?_))
    unfold takenV; rw [if_pos h]
  refine Ev.bindc (spec_l18Copy_of a b l c d hl) (Ev.bindc (spec_Drained_of R ra rb rc hR) (Ev.bind (spec_SenderOk_ev a b l c d hl) ?_))
  cases h1 : senderOk a b l c d with
  | false => exact Ev.neg (by simp) (jT (by simp [takenIf, h1]))
  | true =>
    refine Ev.pos rfl (Ev.bind (spec_RingOk_ev R ra rb rc hR) ?_)
    cases h2 : ringOk R ra rb rc with
    | false => exact Ev.neg (by simp) (jT (by simp [takenIf, h2]))
    | true =>
      refine Ev.pos rfl ?_
      cases h3 : (drainV R ra rb rc).2.2.2.2.2.2.2.2 with
      | false => exact Ev.neg (by simp) (jT (by simp [takenIf, h3]))
      | true =>
        refine Ev.pos rfl ?_
        by_cases h4 : (l.length : Int) ≥ 3
        · exact Ev.pos h4 (jT (by simp [takenIf]; omega))
        · refine Ev.neg h4 (Ev.bindc (spec_l01In_of _ _ _) ?_)
          by_cases h5 : 0 ≤ now ∧ now ≤ 1000000000
          · rw [decide_eq_true h5]; exact jF (by simp [takenIf, h1, h2, h3]; omega)
          · rw [decide_eq_false h5]; exact jT (by simp [takenIf]; omega)
theorem impl_Taken_ev (a b : Int) (l : List It) (c d : Int) (R : List It) (ra rb rc now : Int) (hl : l.length ≤ 1048576) (hR : R.length ≤ 1048576) : Ev (fun k => impl_Taken.f k a b l c d R ra rb rc now) (takenV a b l c d R ra rb rc now) := by
  have e2 : ∀ x lo hi : Int, impl_within.f x lo hi = some (decide (lo ≤ x ∧ x ≤ hi)) := spec_l01In_of
  unfold impl_Taken.f
  have jT : takenIf a b l c d R ra rb rc now = false → Ev (fun k => impl_Taken.j0 k a b l c d R ra rb rc now (drainV R ra rb rc) true) (takenV a b l c d R ra rb rc now) := by
    intro h
    refine Ev.step (fun _ => rfl) ?_
    simp only [impl_Taken.j0]
    refine Ev.pos (by simp) (Ev.bindc (impl_copySender_of a b l c d hl) (Ev.bindc (impl_copyRing_of R ra rb rc hR) (Ev.some_ ?_)))
    unfold takenV; rw [if_neg (by rw [h]; simp)]
  have jF : takenIf a b l c d R ra rb rc now = true → Ev (fun k => impl_Taken.j0 k a b l c d R ra rb rc now (drainV R ra rb rc) false) (takenV a b l c d R ra rb rc now) := by
    intro h
    refine Ev.step (fun _ => rfl) ?_
    simp only [impl_Taken.j0]
    refine Ev.neg (by simp) (Ev.bindc (impl_copySender_of a b l c d hl) (Ev.pos (by simp; omega) (Ev.some_ ?_)))
    unfold takenV; rw [if_pos h]
  refine Ev.bindc (impl_Drained_of R ra rb rc hR) (Ev.bind (impl_SenderOk_ev a b l c d hl) ?_)
  cases h1 : senderOk a b l c d with
  | false => exact Ev.neg (by simp) (jT (by simp [takenIf, h1]))
  | true =>
    have h0 := (senderOk_of h1).2.2.2.1
    refine Ev.pos rfl (Ev.bind (impl_RingOk_ev R ra rb rc hR) ?_)
    cases h2 : ringOk R ra rb rc with
    | false => exact Ev.neg (by simp) (jT (by simp [takenIf, h2]))
    | true =>
      refine Ev.pos rfl ?_
      by_cases h4 : (l.length : Int) = 3
      · exact Ev.pos h4 (jT (by simp [takenIf]; omega))
      · refine Ev.neg h4 ?_
        cases h3 : (drainV R ra rb rc).2.2.2.2.2.2.2.2 with
        | false => exact Ev.neg (by simp) (jT (by simp [takenIf, h3]))
        | true =>
          refine Ev.pos rfl (Ev.bindc (e2 _ _ _) ?_)
          by_cases h5 : 0 ≤ now ∧ now ≤ 1000000000
          · rw [decide_eq_true h5]; exact jF (by simp [takenIf, h1, h2, h3]; omega)
          · rw [decide_eq_false h5]; exact jT (by simp [takenIf]; omega)
theorem item_ok (a b c d : Int) : ∃ r : Bool, spec_ItemOk.f a b c d = some r ∧ (r = true → 0 ≤ d ∧ d ≤ 1000000000) := by
  unfold spec_ItemOk.f spec_HalfOk.f
  simp only [spec_l01In_of, Option.bind_some]
  by_cases h1 : a = 1
  · rw [if_pos h1]
    by_cases h2 : 0 ≤ b ∧ b ≤ 4294967295
    · rw [if_pos (by simpa using h2)]
      by_cases h3 : 0 ≤ c ∧ c ≤ 4294967295
      · rw [if_pos (by simpa using h3)]; exact ⟨_, rfl, fun h => by have := beq_iff_eq.1 h; omega⟩
      · rw [if_neg (by simpa using h3)]; exact ⟨_, rfl, fun h => by cases h⟩
    · rw [if_neg (by simpa using h2)]; exact ⟨_, rfl, fun h => by cases h⟩
  · rw [if_neg h1]
    by_cases h2 : a = 2
    · rw [if_pos h2]
      by_cases h3 : 1 ≤ d ∧ d ≤ 1000000000
      · rw [if_pos (by simpa using h3)]
        by_cases h4 : b = 0
        · rw [if_pos h4]; exact ⟨_, rfl, fun _ => by omega⟩
        · rw [if_neg h4]; exact ⟨_, rfl, fun h => by cases h⟩
      · rw [if_neg (by simpa using h3)]; exact ⟨_, rfl, fun h => by cases h⟩
    · rw [if_neg h2]; exact ⟨_, rfl, fun h => by cases h⟩
theorem isPid_of (a : Int) : impl_isPid.f a = spec_l01In.f a 0 2 := by
  show (spec_l01In.f a 0 2).bind (fun t => some t) = _
  cases spec_l01In.f a 0 2 <;> rfl
theorem frameOk_eq (x0 x1 x2 x3 x4 x5 x6 : Int) : impl_FrameOk.f x0 x1 x2 x3 x4 x5 x6 = spec_FrameOk.f x0 x1 x2 x3 x4 x5 x6 := by
  unfold impl_FrameOk.f spec_FrameOk.f
  rw [isPid_of]; rfl
theorem frameOk_of (x0 x1 x2 x3 x4 x5 x6 : Int) : ∃ b : Bool, spec_FrameOk.f x0 x1 x2 x3 x4 x5 x6 = some b ∧ (b = true → (0 ≤ x1 ∧ x1 ≤ 2) ∧ (1 ≤ x2 ∧ x2 ≤ 1000000000) ∧ 0 ≤ x6 ∧ x6 ≤ 1000000000) := by
  unfold spec_FrameOk.f
  simp only [spec_l01In_of, Option.bind_some]
  by_cases h1 : 0 ≤ x1 ∧ x1 ≤ 2
  · rw [if_pos (by simpa using h1)]
    by_cases h2 : 1 ≤ x2 ∧ x2 ≤ 1000000000
    · rw [if_pos (by simpa using h2)]
      by_cases h3 : x0 = 1
      · obtain ⟨r, hr, hr'⟩ := item_ok x3 x4 x5 x6
        rw [if_pos h3, hr]
        exact ⟨r, rfl, fun h => ⟨h1, h2, hr' h⟩⟩
      · rw [if_neg h3]
        by_cases h4 : x0 = 2
        · rw [if_pos h4]
          refine ⟨_, rfl, fun h => ⟨h1, h2, ?_⟩⟩
          simp at h; omega
        · rw [if_neg h4]; exact ⟨_, rfl, fun h => by cases h⟩
    · rw [if_neg (by simpa using h2)]; exact ⟨_, rfl, fun h => by cases h⟩
  · rw [if_neg (by simpa using h1)]; exact ⟨_, rfl, fun h => by cases h⟩
theorem rd_set (N : List Int) (p v : Int) (h0 : 0 ≤ p) (h1 : p < (N.length : Int)) : rd (N.set p.toNat v) p = v := by
  unfold rd
  rw [List.getD_eq_getElem?_getD, List.getElem?_set_self (by omega)]; rfl
/-- Where it stands among what came early. -/
theorem early_ev (E : List S154) (hE : E.length ≤ 1048577) (p s : Int) : ∀ (d i : Nat), E.length - i = d → i ≤ E.length → ∃ t : Int, Ev (fun k => spec_l20Early.l0 k E p s (i : Int)) t ∧ Ev (fun k => impl_earlyAt.l0 k E p s (i : Int)) t ∧
    ((t = -1 ∧ ∀ (j : Nat) (x : S154), i ≤ j → E[j]? = some x → ¬ (x.f0 = p ∧ x.f1 = s)) ∨ ∃ (j : Nat) (x : S154), t = j ∧ E[j]? = some x ∧ x.f0 = p ∧ x.f1 = s) := by
  intro d
  induction d with
  | zero =>
    intro i hd hi
    refine ⟨-1, Ev.step (fun _ => rfl) ?_, Ev.step (fun _ => rfl) ?_, .inl ⟨rfl, fun j x hj hx => by have := (List.getElem?_eq_some_iff.1 hx).1; omega⟩⟩
    · simp only [spec_l20Early.l0]; exact Ev.neg (by omega) (Ev.now _)
    · simp only [impl_earlyAt.l0]; exact Ev.neg (by omega) (Ev.now _)
  | succ d ih =>
    intro i hd hi
    have hx : E[i]? = some E[i] := List.getElem?_eq_getElem (by omega)
    by_cases h : E[i].f0 = p ∧ E[i].f1 = s
    · refine ⟨(i : Int), Ev.step (fun _ => rfl) ?_, Ev.step (fun _ => rfl) ?_, .inr ⟨i, E[i], rfl, hx, h.1, h.2⟩⟩
      · simp only [spec_l20Early.l0]; rw [rd154 hx]
        exact Ev.pos (by omega) (Ev.pos (by omega) (Ev.pos h.1 (Ev.pos h.2 (Ev.now _))))
      · simp only [impl_earlyAt.l0]; rw [rd154 hx]
        exact Ev.pos (by omega) (Ev.pos (by omega) (Ev.pos h.1 (Ev.pos h.2 (Ev.now _))))
    · obtain ⟨t, t1, t2, t3⟩ := ih (i + 1) (by omega) (by omega)
      have t4 : (t = -1 ∧ ∀ (j : Nat) (x : S154), i ≤ j → E[j]? = some x → ¬ (x.f0 = p ∧ x.f1 = s)) ∨ ∃ (j : Nat) (x : S154), t = j ∧ E[j]? = some x ∧ x.f0 = p ∧ x.f1 = s := by
        rcases t3 with ⟨h3, h4⟩ | h3
        · refine .inl ⟨h3, fun j x hj hx' => ?_⟩
          by_cases hji : j = i
          · subst hji
            have := hx.symm.trans hx'
            injection this with this
            subst this
            exact h
          · exact h4 j x (by omega) hx'
        · exact .inr h3
      clear t3
      have a1 : (i : Int) < (E.length : Int) := by clear t4; omega
      have a2 : 0 ≤ (i : Int) := by clear t4; omega
      have a3 : wrap64 ((i : Int) + 1) = ((i + 1 : Nat) : Int) := by clear t4; rw [w64 (by omega) (by omega)]; omega
      refine ⟨t, Ev.step (fun _ => rfl) ?_, Ev.step (fun _ => rfl) ?_, t4⟩
      · simp only [spec_l20Early.l0]; rw [rd154 hx, a3]
        exact Ev.pos a1 (Ev.pos a2 (Ev.both (fun h1 => Ev.neg (fun h2 => h ⟨h1, h2⟩) t1) (fun _ => t1)))
      · simp only [impl_earlyAt.l0]; rw [rd154 hx, a3]
        exact Ev.pos a1 (Ev.pos a2 (Ev.both (fun h1 => Ev.neg (fun h2 => h ⟨h1, h2⟩) t2) (fun _ => t2)))
theorem earlyAt_ev (E : List S154) (hE : E.length ≤ 1048577) (p s : Int) : ∃ t : Int, Ev (fun k => spec_l20Early.f k E p s) t ∧ Ev (fun k => impl_earlyAt.f k E p s) t ∧
    ((t = -1 ∧ ∀ (j : Nat) (x : S154), 0 ≤ j → E[j]? = some x → ¬ (x.f0 = p ∧ x.f1 = s)) ∨ ∃ (j : Nat) (x : S154), t = j ∧ E[j]? = some x ∧ x.f0 = p ∧ x.f1 = s) := early_ev E hE p s E.length 0 rfl (by omega)
theorem wrap_rng (x : Int) : -9223372036854775808 ≤ wrap64 x ∧ wrap64 x ≤ 9223372036854775807 := by unfold wrap64; omega
abbrev KR := List S139 × List Int × List S154 × Int × List Int × Bool
def I64s (l : List Int) : Prop := ∀ v ∈ l, -9223372036854775808 ≤ v ∧ v ≤ 9223372036854775807
theorem I64s.set {l : List Int} (h : I64s l) (i : Nat) {v : Int} (hv : -9223372036854775808 ≤ v ∧ v ≤ 9223372036854775807) : I64s (l.set i v) := by
  intro u hu
  rcases List.mem_or_eq_of_mem_set hu with hu | rfl
  · exact h u hu
  · exact hv
/-- How the loop ends. -/
def KE (p : Int) (N : List Int) (a : Int) (A : List Int) (Inv : List S139 → List S154 → Int → Prop) (r : KR) : Prop := ∃ L' E' x', r = (L', N.set p.toNat x', E', a, A, true) ∧ Inv L' E' x' ∧ (200 ≤ L'.length ∨ ∀ y ∈ E', ¬ (y.f0 = p ∧ y.f1 = x'))
/-- The loop: what came early follows. -/
theorem keptLoop (p s q0 q1 q2 q3 kd : Int) (a : Int) (N A : List Int) (c0 : List S139) (c2 : List S154) (h0 : 0 ≤ p) (h1 : p < (N.length : Int)) : ∀ (d : Nat) (L : List S139) (E : List S154) (x : Int), 200 - L.length = d → L.length ≤ 200 → E.length ≤ 1048577 → -9223372036854775808 ≤ x ∧ x ≤ 9223372036854775807 →
    ∃ r : KR, Ev (fun k => spec_Kept.l0 k kd p s q0 q1 q2 q3 (c0, N, c2, a, A) L E x) r ∧ Ev (fun k => impl_Kept.l0 k kd p s q0 q1 q2 q3 (c0, N, c2, a, A) L (N.set p.toNat x) E) r ∧
      r.1.length ≤ 200 ∧ (∃ y, r.2.1 = N.set p.toNat y ∧ -9223372036854775808 ≤ y ∧ y ≤ 9223372036854775807) ∧ r.2.2.1.length ≤ E.length ∧ r.2.2.2.1 = a ∧ r.2.2.2.2.1 = A ∧
      (∀ Inv : List S139 → List S154 → Int → Prop, (∀ L E x (j : Nat) y, L.length < 200 → E[j]? = some y → y.f0 = p → y.f1 = x → Inv L E x → Inv (L ++ [⟨p, x, ⟨y.f2.f0, y.f2.f1, y.f2.f2, y.f2.f3⟩⟩]) (E.eraseIdx j) (wrap64 (x + 1))) → Inv L E x → KE p N a A Inv r) := by
  intro d
  have j1 : ∀ (L : List S139) (E : List S154) (x : Int), Ev (fun k => spec_Kept.j1 k kd p s q0 q1 q2 q3 (c0, N, c2, a, A) L E x) (L, N.set p.toNat x, E, a, A, true) := fun L E x => by
    refine Ev.step (fun _ => rfl) ?_
    simp only [spec_Kept.j1]; exact Ev.pos h1 (Ev.now _)
  induction d with
  | zero =>
    intro L E x hd hl hE hx
    refine ⟨(L, N.set p.toNat x, E, a, A, true), Ev.step (fun _ => rfl) ?_, Ev.step (fun _ => rfl) ?_, by omega, ⟨x, rfl, hx⟩, Nat.le_refl _, rfl, rfl, fun Inv _ h => ⟨L, E, x, rfl, h, .inl (by omega)⟩⟩
    · simp only [spec_Kept.l0]; exact Ev.neg (by omega) (j1 _ _ _)
    · simp only [impl_Kept.l0]; exact Ev.neg (by omega) (Ev.now _)
  | succ d ih =>
    intro L E x hd hl hE hx
    obtain ⟨t, t1, t2, t3⟩ := earlyAt_ev E hE p x
    rcases t3 with ⟨rfl, tn⟩ | ⟨j, y, rfl, hy, hp, hs⟩
    · refine ⟨(L, N.set p.toNat x, E, a, A, true), Ev.step (fun _ => rfl) ?_, Ev.step (fun _ => rfl) ?_, by omega, ⟨x, rfl, hx⟩, Nat.le_refl _, rfl, rfl, fun Inv _ h => ⟨L, E, x, rfl, h, .inr fun y hy => ?_⟩⟩
      rotate_left 2
      · obtain ⟨i, hi, rfl⟩ := List.getElem_of_mem hy
        exact tn i _ (Nat.zero_le _) (List.getElem?_eq_getElem hi)
      · simp only [spec_Kept.l0]; exact Ev.pos (by omega) (Ev.bind t1 (Ev.pos (by omega) (j1 _ _ _)))
      · simp only [impl_Kept.l0]; rw [rd_set N p x h0 h1]
        exact Ev.pos (by omega) (Ev.pos (by simp; omega) (Ev.bind t2 (Ev.pos (by omega) (Ev.now _))))
    · have hj := (List.getElem?_eq_some_iff.1 hy).1
      obtain ⟨r, r1, r2, r3, r4, r5, r6, r7, r8⟩ := ih (L ++ [⟨p, x, ⟨y.f2.f0, y.f2.f1, y.f2.f2, y.f2.f3⟩⟩]) (E.eraseIdx j) (wrap64 (x + 1)) (by simp; omega) (by simp; omega) (by rw [List.length_eraseIdx]; split <;> omega) (wrap_rng _)
      have hlen : (E.eraseIdx j).length ≤ E.length := by rw [List.length_eraseIdx]; split <;> omega
      have e : (E.take j ++ E.drop (j + 1)) = E.eraseIdx j := (List.eraseIdx_eq_take_drop_succ E j).symm
      have l1 : (E.take j).length ≤ E.length := by rw [List.length_take]; omega
      have l2 : (E.drop (j + 1)).length ≤ E.length := by rw [List.length_drop]; omega
      refine ⟨r, Ev.step (fun _ => rfl) ?_, Ev.step (fun _ => rfl) ?_, r3, r4, by omega, r6, r7, fun Inv hs_ h => r8 Inv hs_ (hs_ L E x j y (by omega) hy hp hs h)⟩
      · simp only [spec_Kept.l0]
        refine Ev.pos (by omega) (Ev.bind t1 ?_)
        rw [rd154 hy]
        simp -implicitDefEqProofs only [List.nil_append, Int.toNat_natCast]
        rw [w64 (x := (j : Int) + 1) (by omega) (by omega), show ((j : Int) + 1).toNat = j + 1 by omega, e]
        refine Ev.neg (by omega) (Ev.pos (by omega) (Ev.pos (by omega) (Ev.pos (by simp only [List.length_cons, List.length_nil]; omega) (Ev.pos (by omega) (Ev.pos (by simp only [List.length_nil]; omega) (Ev.pos (by omega) (Ev.pos (by omega) (Ev.pos (by omega) r1))))))))
      · simp only [impl_Kept.l0]
        rw [rd_set N p x h0 h1]
        refine Ev.pos (by omega) (Ev.pos (by simp; omega) (Ev.bind t2 ?_))
        rw [rd154 hy, hp, hs, List.set_set, w64 (x := (j : Int) + 1) (by omega) (by omega), Int.toNat_natCast, show ((j : Int) + 1).toNat = j + 1 by omega, e]
        exact Ev.neg (by omega) (Ev.pos (by omega) (Ev.pos (by omega) (Ev.pos (by omega) (Ev.pos (by omega) (Ev.pos (by omega) (Ev.pos (by omega) (Ev.pos (by simp only [List.length_cons, List.length_nil]; omega) r2)))))))
/-- What the result keeps of the keeper. -/
def KB (x0 : List S139) (x1 : List Int) (x2 : List S154) (x4 : List Int) (r : KR) : Prop := (r.1.length ≤ x0.length ∨ r.1.length ≤ 200) ∧ r.2.1.length = x1.length ∧ I64s r.2.1 ∧ r.2.2.1.length ≤ x2.length + 1 ∧ r.2.2.2.2.1 = x4
/-- What Kept comes to. -/
def KD (x0 : List S139) (x1 : List Int) (x2 : List S154) (a : Int) (x4 : List Int) (kd p s q0 q1 q2 q3 : Int) (r : KR) : Prop :=
  r = (x0, x1, x2, a, x4, false) ∨
  (spec_FrameOk.f kd p s q0 q1 q2 q3 = some true ∧ kd = 1 ∧ p < (x1.length : Int) ∧ s > rd x1 p ∧ (∀ y ∈ x2, ¬ (y.f0 = p ∧ y.f1 = s)) ∧ x2.length < 3 ∧ r = (x0, x1, x2 ++ [⟨p, s, ⟨q0, q1, q2, q3⟩⟩], a, x4, false)) ∨
  (spec_FrameOk.f kd p s q0 q1 q2 q3 = some true ∧ kd = 1 ∧ p < (x1.length : Int) ∧ s = rd x1 p ∧ x0.length < 200 ∧
    ∀ Inv : List S139 → List S154 → Int → Prop, (∀ L E x (j : Nat) y, L.length < 200 → E[j]? = some y → y.f0 = p → y.f1 = x → Inv L E x → Inv (L ++ [⟨p, x, ⟨y.f2.f0, y.f2.f1, y.f2.f2, y.f2.f3⟩⟩]) (E.eraseIdx j) (wrap64 (x + 1))) → Inv (x0 ++ [⟨p, s, ⟨q0, q1, q2, q3⟩⟩]) x2 (wrap64 (s + 1)) → KE p x1 a x4 Inv r)
theorem kept_ev (x0 : List S139) (x1 : List Int) (x2 : List S154) (a : Int) (x4 : List Int) (kd p s q0 q1 q2 q3 : Int) (h0 : x0.length ≤ 1048576) (h1 : x1.length ≤ 1048576) (h2 : x2.length ≤ 1048576) (h4 : x4.length ≤ 1048576)
    (hb : I64s x1) :
    ∃ r : KR, Ev (fun k => spec_Kept.f k x0 x1 x2 a x4 kd p s q0 q1 q2 q3) r ∧ Ev (fun k => impl_Kept.f k x0 x1 x2 a x4 kd p s q0 q1 q2 q3) r ∧ KB x0 x1 x2 x4 r ∧ KD x0 x1 x2 a x4 kd p s q0 q1 q2 q3 r := by
  obtain ⟨b, f1, f2⟩ := frameOk_of kd p s q0 q1 q2 q3
  have f3 : impl_FrameOk.f kd p s q0 q1 q2 q3 = some b := (frameOk_eq kd p s q0 q1 q2 q3).trans f1
  have same : KB x0 x1 x2 x4 (x0, x1, x2, a, x4, false) ∧ KD x0 x1 x2 a x4 kd p s q0 q1 q2 q3 (x0, x1, x2, a, x4, false) := ⟨⟨.inl (Nat.le_refl _), rfl, hb, Nat.le_succ _, rfl⟩, .inl rfl⟩
  have c1 := spec_l20Copy_of x0 x1 x2 a x4 h0 h1 h2 h4
  have c2 := impl_copyKeeper_of x0 x1 x2 a x4 h0 h1 h2 h4
  unfold spec_Kept.f impl_Kept.f
  cases b with
  | false => exact ⟨_, Ev.bindc c1 (Ev.bindc f1 (Ev.neg (by simp) (Ev.now _))), Ev.bindc c2 (Ev.bindc f3 (Ev.neg (by simp) (Ev.now _))), same⟩
  | true =>
    obtain ⟨hp, hs, _⟩ := f2 rfl
    by_cases hk : kd = 1
    · by_cases hq : p ≥ (x1.length : Int)
      · exact ⟨_, Ev.bindc c1 (Ev.bindc f1 (Ev.pos rfl (Ev.pos hk (Ev.pos hq (Ev.now _))))), Ev.bindc c2 (Ev.bindc f3 (Ev.pos rfl (Ev.pos hk (Ev.pos hq (Ev.now _))))), same⟩
      · by_cases h200 : (x0.length : Int) ≥ 200
        · exact ⟨_, Ev.bindc c1 (Ev.bindc f1 (Ev.pos rfl (Ev.pos hk (Ev.neg hq (Ev.pos h200 (Ev.now _)))))), Ev.bindc c2 (Ev.bindc f3 (Ev.pos rfl (Ev.pos hk (Ev.neg hq (Ev.pos h200 (Ev.now _)))))), same⟩
        · have hv : -9223372036854775808 ≤ rd x1 p ∧ rd x1 p ≤ 9223372036854775807 := by
            have hx : x1[p.toNat]? = some x1[p.toNat] := List.getElem?_eq_getElem (by omega)
            have : rd x1 p = x1[p.toNat] := by unfold rd; exact get_of x1 0 hx
            rw [this]; exact hb _ (List.getElem_mem _)
          by_cases hn : s = rd x1 p
          · obtain ⟨r, r1, r2, r3, ⟨y, r4, r4'⟩, r5, r6, r7, r8⟩ := keptLoop p s q0 q1 q2 q3 kd a x1 x4 x0 x2 hp.1 (by omega) _ (x0 ++ [⟨p, s, ⟨q0, q1, q2, q3⟩⟩]) x2 (wrap64 (rd x1 p + 1)) rfl (by simp; omega) (by omega) (wrap_rng _)
            refine ⟨r, Ev.bindc c1 (Ev.bindc f1 (Ev.pos rfl (Ev.pos hk (Ev.neg hq (Ev.neg h200 (Ev.pos hp.1 (Ev.pos (by omega) (Ev.pos hn (Ev.pos (by simp only [List.length_cons, List.length_nil]; omega) r1))))))))), Ev.bindc c2 (Ev.bindc f3 (Ev.pos rfl (Ev.pos hk (Ev.neg hq (Ev.neg h200 (Ev.pos hp.1 (Ev.pos (by omega) (Ev.pos hn (Ev.pos (by simp only [List.length_cons, List.length_nil]; omega) (Ev.pos (by dsimp only; omega) r2)))))))))), ⟨.inr r3, by rw [r4, List.length_set], by rw [r4]; exact hb.set _ r4', by omega, r7⟩, .inr (.inr ⟨f1, hk, by omega, hn, by omega, by rw [hn]; rw [hn] at r8; exact r8⟩)⟩
          · obtain ⟨t, t1, t2, t3⟩ := earlyAt_ev x2 (by omega) p s
            have w1 : wrap64 (s - 3) = s - 3 := w64 (by omega) (by omega)
            have jF : Ev (fun k => spec_Kept.j0 k kd p s q0 q1 q2 q3 (x0, x1, x2, a, x4) false) (x0, x1, x2, a, x4, false) ∧ Ev (fun k => impl_Kept.j0 k kd p s q0 q1 q2 q3 (x0, x1, x2, a, x4) false) (x0, x1, x2, a, x4, false) :=
              ⟨Ev.step (fun _ => rfl) (by simp only [spec_Kept.j0]; exact Ev.neg (by simp) (Ev.now _)), Ev.step (fun _ => rfl) (by simp only [impl_Kept.j0]; exact Ev.neg (by simp) (Ev.now _))⟩
            have jb : ∀ b : Bool, (b = true → s > rd x1 p ∧ (∀ y ∈ x2, ¬ (y.f0 = p ∧ y.f1 = s)) ∧ (x2.length : Int) < 3) → ∃ r : KR, Ev (fun k => spec_Kept.j0 k kd p s q0 q1 q2 q3 (x0, x1, x2, a, x4) b) r ∧ Ev (fun k => impl_Kept.j0 k kd p s q0 q1 q2 q3 (x0, x1, x2, a, x4) b) r ∧ KB x0 x1 x2 x4 r ∧ KD x0 x1 x2 a x4 kd p s q0 q1 q2 q3 r := by
              intro b hbt
              cases b with
              | false => exact ⟨_, jF.1, jF.2, same⟩
              | true =>
                exact ⟨(x0, x1, x2 ++ [⟨p, s, ⟨q0, q1, q2, q3⟩⟩], a, x4, false), Ev.step (fun _ => rfl) (by simp only [spec_Kept.j0]; exact Ev.pos (by first | trivial | rfl) (Ev.pos (by simp only [List.length_cons, List.length_nil]; omega) (Ev.now _))), Ev.step (fun _ => rfl) (by simp only [impl_Kept.j0]; exact Ev.pos (by first | trivial | rfl) (Ev.pos (by simp only [List.length_cons, List.length_nil]; omega) (Ev.now _))), ⟨.inl (Nat.le_refl _), rfl, hb, by simp, rfl⟩, .inr (.inl ⟨f1, hk, by omega, (hbt rfl).1, (hbt rfl).2.1, by have := (hbt rfl).2.2; omega, rfl⟩)⟩
            by_cases hg : s > rd x1 p
            · have w2 : wrap64 (rd x1 p + 3) = rd x1 p + 3 := w64 (by omega) (by omega)
              by_cases hl : s - 3 ≤ rd x1 p
              · by_cases ht : t < 0
                · obtain ⟨r, r1, r2, r3⟩ := jb (decide ((x2.length : Int) < 3)) (fun hd => ⟨hg, by
                    rcases t3 with ⟨_, tn⟩ | ⟨j, y, rfl, _⟩
                    · intro y hy
                      obtain ⟨i, hi, rfl⟩ := List.getElem_of_mem hy
                      exact tn i _ (Nat.zero_le _) (List.getElem?_eq_getElem hi)
                    · omega, of_decide_eq_true hd⟩)
                  exact ⟨r, Ev.bindc c1 (Ev.bindc f1 (Ev.pos rfl (Ev.pos hk (Ev.neg hq (Ev.neg h200 (Ev.pos hp.1 (Ev.pos (by omega) (Ev.neg hn (Ev.pos hg (Ev.pos (by rw [w1]; exact hl) (Ev.bind t1 (Ev.pos ht r1)))))))))))), Ev.bindc c2 (Ev.bindc f3 (Ev.pos rfl (Ev.pos hk (Ev.neg hq (Ev.neg h200 (Ev.pos hp.1 (Ev.pos (by omega) (Ev.neg hn (Ev.pos hg (Ev.pos (by rw [w2]; omega) (Ev.bind t2 (Ev.pos ht r2)))))))))))), r3⟩
                · exact ⟨_, Ev.bindc c1 (Ev.bindc f1 (Ev.pos rfl (Ev.pos hk (Ev.neg hq (Ev.neg h200 (Ev.pos hp.1 (Ev.pos (by omega) (Ev.neg hn (Ev.pos hg (Ev.pos (by rw [w1]; exact hl) (Ev.bind t1 (Ev.neg ht jF.1)))))))))))), Ev.bindc c2 (Ev.bindc f3 (Ev.pos rfl (Ev.pos hk (Ev.neg hq (Ev.neg h200 (Ev.pos hp.1 (Ev.pos (by omega) (Ev.neg hn (Ev.pos hg (Ev.pos (by rw [w2]; omega) (Ev.bind t2 (Ev.neg ht jF.2)))))))))))), same⟩
              · exact ⟨_, Ev.bindc c1 (Ev.bindc f1 (Ev.pos rfl (Ev.pos hk (Ev.neg hq (Ev.neg h200 (Ev.pos hp.1 (Ev.pos (by omega) (Ev.neg hn (Ev.pos hg (Ev.neg (by rw [w1]; exact hl) jF.1)))))))))), Ev.bindc c2 (Ev.bindc f3 (Ev.pos rfl (Ev.pos hk (Ev.neg hq (Ev.neg h200 (Ev.pos hp.1 (Ev.pos (by omega) (Ev.neg hn (Ev.pos hg (Ev.neg (by rw [w2]; omega) jF.2)))))))))), same⟩
            · exact ⟨_, Ev.bindc c1 (Ev.bindc f1 (Ev.pos rfl (Ev.pos hk (Ev.neg hq (Ev.neg h200 (Ev.pos hp.1 (Ev.pos (by omega) (Ev.neg hn (Ev.neg hg jF.1))))))))), Ev.bindc c2 (Ev.bindc f3 (Ev.pos rfl (Ev.pos hk (Ev.neg hq (Ev.neg h200 (Ev.pos hp.1 (Ev.pos (by omega) (Ev.neg hn (Ev.neg hg jF.2))))))))), same⟩
    · exact ⟨_, Ev.bindc c1 (Ev.bindc f1 (Ev.pos rfl (Ev.neg hk (Ev.now _)))), Ev.bindc c2 (Ev.bindc f3 (Ev.pos rfl (Ev.neg hk (Ev.now _)))), same⟩
def againV (a b : Int) (l : List S63) (c d now : Int) : Int × Int × (List S63) × Int × Int × Bool := if senderOk a b l c d = true ∧ l.length ≠ 0 ∧ c + d ≤ now then (a, b, l, now, min 4 (2 * d), true) else (a, b, l, c, d, false)
theorem againV_no {a b : Int} {l : List S63} {c d now : Int} (h : ¬ (senderOk a b l c d = true ∧ l.length ≠ 0 ∧ c + d ≤ now)) : (a, b, l, c, d, false) = againV a b l c d now := by unfold againV; rw [if_neg h]
theorem againV_yes {a b : Int} {l : List S63} {c d now : Int} (h : senderOk a b l c d = true ∧ l.length ≠ 0 ∧ c + d ≤ now) : (a, b, l, now, min 4 (2 * d), true) = againV a b l c d now := by unfold againV; rw [if_pos h]
theorem spec_Again_ev (a b : Int) (l : List S63) (c d now : Int) (hn : l.length ≤ 1048576) (hw : -9223372036854775808 ≤ now ∧ now ≤ 9223372036854775807) : Ev (fun k => spec_Again.f k a b l c d now) (againV a b l c d now) := by
  unfold spec_Again.f
  refine Ev.bindc (spec_l18Copy_of a b l c d hn) (Ev.bind (spec_SenderOk_ev a b l c d hn) ?_)
  cases hs : senderOk a b l c d with
  | false => exact Ev.eq (againV_no (fun x => by rw [hs] at x; exact absurd x.1 (by simp))) (Ev.neg (by simp) (Ev.now _))
  | true =>
    obtain ⟨_, ha, hb, hl, hc, hd⟩ := senderOk_of hs
    refine Ev.pos rfl ?_
    by_cases h0 : l.length = 0
    · exact Ev.eq (againV_no (fun x => x.2.1 h0)) (Ev.pos (by omega) (Ev.now _))
    · refine Ev.neg (by omega) ?_
      by_cases h1 : now < 0
      · exact Ev.eq (againV_no (fun x => by omega)) (Ev.pos h1 (Ev.now _))
      · refine Ev.neg h1 ?_
        rw [w64 (x := now - d) (by omega) (by omega)]
        by_cases h2 : now - d < c
        · exact Ev.eq (againV_no (fun x => by omega)) (Ev.pos h2 (Ev.now _))
        · refine Ev.eq (againV_yes ⟨hs, h0, by omega⟩) (Ev.neg h2 ?_)
          rw [w64 (x := 2 * d) (by omega) (by omega)]
          by_cases h3 : 2 * d > 4
          · refine Ev.pos h3 (Ev.some_ ?_); rw [Int.min_eq_left (by omega)]
          · refine Ev.neg h3 (Ev.some_ ?_); rw [Int.min_eq_right (by omega)]
theorem impl_Again_ev (a b : Int) (l : List S63) (c d now : Int) (hn : l.length ≤ 1048576) (hw : -9223372036854775808 ≤ now ∧ now ≤ 9223372036854775807) : Ev (fun k => impl_Again.f k a b l c d now) (againV a b l c d now) := by
  unfold impl_Again.f
  refine Ev.bindc (impl_copySender_of a b l c d hn) (Ev.bind (impl_SenderOk_ev a b l c d hn) ?_)
  cases hs : senderOk a b l c d with
  | false => exact Ev.eq (againV_no (fun x => by rw [hs] at x; exact absurd x.1 (by simp))) (Ev.neg (by simp) (Ev.now _))
  | true =>
    obtain ⟨_, ha, hb, hl, hc, hd⟩ := senderOk_of hs
    refine Ev.pos rfl ?_
    by_cases h0 : l.length = 0
    · exact Ev.eq (againV_no (fun x => x.2.1 h0)) (Ev.pos (by omega) (Ev.now _))
    · refine Ev.neg (by omega) ?_
      rw [w64 (x := c + d) (by omega) (by omega)]
      by_cases h1 : c + d > now
      · exact Ev.eq (againV_no (fun x => by omega)) (Ev.pos h1 (Ev.now _))
      · refine Ev.eq (againV_yes ⟨hs, h0, by omega⟩) (Ev.neg h1 (Ev.some_ ?_))
        rw [w64 (x := 2 * d) (by omega) (by omega)]
theorem againV_len (a b : Int) (l : List S63) (c d now : Int) : (againV a b l c d now).2.2.1 = l := by unfold againV; split <;> rfl
def ackedV (a b : Int) (l : List S63) (c d q : Int) : Int × Int × (List S63) × Int × Int := if senderOk a b l c d = true ∧ b + 1 ≤ q ∧ q ≤ b + l.length then (a, q, l.drop (q - b).toNat, c, 1) else (a, b, l, c, d)
theorem spec_loop (a b : Int) (l : List S63) (c d q : Int) (hn : l.length ≤ 3) (hb : 1 ≤ b ∧ b ≤ 1000000000) (hs : senderOk a b l c d = true) : ∀ (m i : Nat), l.length - i = m → i ≤ l.length → (∀ j : Nat, j < i → b + j ≠ q) →
    Ev (fun k => spec_Acked.l0 k a b l c d q (a, b, l, c, d) (i : Int)) (ackedV a b l c d q) := by
  have hend : ∀ i : Nat, i ≤ l.length → b + (i : Int) = q → Ev (fun k => spec_Acked.j0 k a b l c d q (a, b, l, c, d) (i : Int)) (ackedV a b l c d q) := by
    intro i hi hq
    refine Ev.step (fun _ => rfl) ?_
    simp only [spec_Acked.j0]
    refine Ev.pos (by rw [w64 (by omega) (by omega)]; exact hq) ?_
    unfold ackedV
    by_cases h0 : (i : Int) = 0
    · refine Ev.pos h0 (Ev.some_ ?_); rw [if_neg (by omega)]
    · refine Ev.neg h0 (Ev.pos (by omega) (Ev.pos (by omega) (Ev.pos ?_ (Ev.some_ ?_))))
      · simp only [List.length_nil, List.length_drop]; omega
      · rw [if_pos ⟨hs, by omega, by omega⟩, show (q - b).toNat = ((i : Int)).toNat by omega]; rfl
  intro m
  induction m with
  | zero =>
    intro i hm hi hj
    have : i = l.length := by omega
    subst this
    refine Ev.step (fun _ => rfl) ?_
    simp only [spec_Acked.l0]
    refine Ev.neg (by omega) ?_
    by_cases hq : b + (l.length : Int) = q
    · exact hend l.length hi hq
    · refine Ev.step (fun _ => rfl) ?_
      simp only [spec_Acked.j0]
      refine Ev.neg (by rw [w64 (by omega) (by omega)]; exact hq) (Ev.some_ ?_)
      unfold ackedV
      rw [if_neg ?_]
      rintro ⟨_, h1, h2⟩
      by_cases h3 : q = b + l.length
      · omega
      · exact hj (q - b).toNat (by omega) (by omega)
  | succ m ih =>
    intro i hm hi hj
    refine Ev.step (fun _ => rfl) ?_
    simp only [spec_Acked.l0]
    refine Ev.pos (by omega) ?_
    by_cases hq : b + (i : Int) = q
    · exact Ev.pos (by rw [w64 (by omega) (by omega)]; exact hq) (hend i hi hq)
    · have h := ih (i + 1) (by omega) (by omega) (fun j hj' => by
        rcases Nat.lt_or_ge j i with h | h
        · exact hj j h
        · have : j = i := by omega
          subst this; exact hq)
      rw [w64 (x := b + (i : Int)) (by omega) (by omega), w64 (x := (i : Int) + 1) (by omega) (by omega)]
      exact Ev.neg hq h
theorem spec_Acked_ev (a b : Int) (l : List S63) (c d q : Int) (hn : l.length ≤ 1048576) : Ev (fun k => spec_Acked.f k a b l c d q) (ackedV a b l c d q) := by
  unfold spec_Acked.f
  refine Ev.bindc (spec_l18Copy_of a b l c d hn) (Ev.bind (spec_SenderOk_ev a b l c d hn) ?_)
  dsimp only
  cases hs : senderOk a b l c d with
  | false => refine Ev.neg (by simp) (Ev.some_ ?_); unfold ackedV; rw [hs, if_neg (by simp)]
  | true =>
    obtain ⟨_, ha, hb, hl, hc, hd⟩ := senderOk_of hs
    refine Ev.pos rfl ?_
    exact spec_loop a b l c d q hl hb hs l.length 0 rfl (Nat.zero_le _) (fun j hj => absurd hj (Nat.not_lt_zero _))
theorem impl_Acked_ev (a b : Int) (l : List S63) (c d q : Int) (hn : l.length ≤ 1048576) : Ev (fun k => impl_Acked.f k a b l c d q) (ackedV a b l c d q) := by
  unfold impl_Acked.f
  refine Ev.bindc (impl_copySender_of a b l c d hn) (Ev.bind (impl_SenderOk_ev a b l c d hn) ?_)
  dsimp only
  cases hs : senderOk a b l c d with
  | false => refine Ev.neg (by simp) (Ev.some_ ?_); unfold ackedV; rw [hs, if_neg (by simp)]
  | true =>
    obtain ⟨_, ha, hb, hl, hc, hd⟩ := senderOk_of hs
    refine Ev.pos rfl ?_
    have e0 : ∀ x lo hi : Int, impl_within.f x lo hi = some (decide (lo ≤ x ∧ x ≤ hi)) := spec_l01In_of
    rw [e0, w64 (x := b + 1) (by omega) (by omega), w64 (x := b + (l.length : Int)) (by omega) (by omega)]
    refine Ev.bindc rfl ?_
    unfold ackedV
    by_cases h : b + 1 ≤ q ∧ q ≤ b + (l.length : Int)
    · refine Ev.pos (by simpa using h) ?_
      rw [w64 (x := q - b) (by omega) (by omega)]
      refine Ev.pos (by omega) (Ev.pos (by omega) ?_)
      refine Ev.bindc (impl_copyItems_of _ (by rw [List.length_drop]; omega)) (Ev.some_ ?_)
      rw [if_pos ⟨hs, h.1, h.2⟩]
    · refine Ev.neg (by simpa using h) (Ev.some_ ?_)
      rw [if_neg (fun x => h ⟨x.2.1, x.2.2⟩)]
def sayOne (p n : Int) (s : List S109) (x : S63) : Except (List S109) (List S109) := .ok (s ++ [⟨1, p, n + (s.length : Int), x⟩])
def saysV (a b : Int) (l : List S63) (c d : Int) : List S109 := if senderOk a b l c d = true then foldE (sayOne a b) id l [] else []
theorem says_length (p n : Int) : ∀ (l : List S63) (s : List S109), (foldE (sayOne p n) id l s).length = s.length + l.length
  | [], s => by simp [foldE]
  | x :: r, s => by
    rw [foldE_on r (show sayOne p n s x = .ok _ from rfl), says_length p n r]
    simp; omega
theorem saysV_length (a b : Int) (l : List S63) (c d : Int) : (saysV a b l c d).length ≤ l.length := by
  unfold saysV
  split
  · rw [says_length]; simp
  · simp
theorem spec_Says_ev (a b : Int) (l : List S63) (c d : Int) (hn : l.length ≤ 1048576) : Ev (fun k => spec_Says.f k a b l c d) (saysV a b l c d) := by
  unfold spec_Says.f saysV
  have e0 := spec_SenderOk_ev a b l c d hn
  cases hs : senderOk a b l c d with
  | false =>
    rw [hs] at e0
    rw [if_neg (by simp)]
    by_cases h0 : (0 : Int) < (l.length : Int)
    · refine Ev.step (fun _ => rfl) ?_
      simp only [spec_Says.l0]; exact Ev.pos h0 (Ev.bind e0 (Ev.neg (by simp) (Ev.now _)))
    · refine Ev.step (f := fun _ => some []) (fun k => ?_) (Ev.now _)
      simp only [spec_Says.l0]; rw [if_neg h0]
  | true =>
    rw [hs] at e0
    rw [if_pos rfl]
    obtain ⟨_, ha, hb, hl, _⟩ := senderOk_of hs
    have := foldE_ev (fun k s i => spec_Says.l0 k a b l c d s i) l (sayOne a b) id (fun i s => s.length = i) ?_ ?_ ?_ l.length 0 [] rfl (Nat.zero_le _) rfl
    · simpa using this
    · intro s hs
      refine Ev.step (f := fun _ => some s) (fun k => ?_) (Ev.now _)
      simp only [spec_Says.l0]; rw [if_neg (by omega)]
    · intro i x s e hx hs he; cases he
    · intro i x s s' hx hs he
      have hi := lt_of hx
      obtain rfl : s ++ [⟨1, a, b + (s.length : Int), x⟩] = s' := by injection he
      refine ⟨by simp; omega, fun r h => ?_⟩
      refine Ev.step (f := fun k => (spec_SenderOk.f k a b l c d).bind fun t => if t = true then spec_Says.l0 k a b l c d (s ++ [⟨1, a, b + (s.length : Int), x⟩]) ((i : Int) + 1) else some s) (fun k => ?_) ?_
      · simp only [spec_Says.l0]
        rw [if_pos (by omega), rd63 hx, w64 (x := (i : Int) + 1) (by omega) (by omega), w64 (x := b + (i : Int)) (by omega) (by omega), hs]
        congr 1; funext t
        by_cases ht : t = true
        · rw [if_pos ht, if_pos ht, if_pos (by omega), if_pos (by simp only [List.length_cons, List.length_nil]; omega)]
        · rw [if_neg ht, if_neg ht]
      · exact Ev.bind e0 (Ev.pos rfl h)
theorem impl_Says_ev (a b : Int) (l : List S63) (c d : Int) (hn : l.length ≤ 1048576) : Ev (fun k => impl_Says.f k a b l c d) (saysV a b l c d) := by
  unfold impl_Says.f saysV
  have e0 := impl_SenderOk_ev a b l c d hn
  refine Ev.bind e0 ?_
  cases hs : senderOk a b l c d with
  | false => rw [if_neg (by simp)]; exact Ev.neg (by simp) (Ev.now _)
  | true =>
    rw [if_pos rfl]
    refine Ev.pos rfl ?_
    obtain ⟨_, ha, hb, hl, _⟩ := senderOk_of hs
    have := foldE_ev (fun k s i => impl_Says.l0 k a b l c d s i) l (sayOne a b) id (fun i s => s.length = i) ?_ ?_ ?_ l.length 0 [] rfl (Nat.zero_le _) rfl
    · simpa using this
    · intro s hs
      refine Ev.step (f := fun _ => some s) (fun k => ?_) (Ev.now _)
      simp only [impl_Says.l0]; rw [if_neg (by omega)]
    · intro i x s e hx hs he; cases he
    · intro i x s s' hx hs he
      have hi := lt_of hx
      obtain rfl : s ++ [⟨1, a, b + (s.length : Int), x⟩] = s' := by injection he
      refine ⟨by simp; omega, fun r h => ?_⟩
      refine Ev.step (fun k => ?_) h
      simp only [impl_Says.l0]
      rw [if_pos (by omega), if_pos (by omega), if_pos (by simp; omega), rd63 hx, w64 (x := (i : Int) + 1) (by omega) (by omega), w64 (x := b + (i : Int)) (by omega) (by omega), hs]
theorem world_count (x0 : List (List (List S234))) (x1 : List S67) (x2 : List S65) (x3 : List S139) (x4 : List Int) (x5 : List S154) (x7 : List Int) (x8 : List S151) (x10 : List Int) (x11 : List S59)
    (c0 : FitL (FitL (FitL FitA)) x0) (c1 : FitL Fit67 x1) (c2 : FitL Fit65 x2) (c3 : FitL FitA x3) (c4 : FitL FitA x4) (c5 : FitL FitA x5) (c7 : FitL FitA x7) (c8 : FitL Fit151 x8) (c10 : FitL FitA x10) (c11 : FitL FitA x11) :
    mcount ctLLS234 x0 ≤ 4611686018427387904 ∧ mcount ctS67 x1 ≤ 4398049656832 ∧ mcount ctS65 x2 ≤ 4398050705408 ∧ mcount ctS139 x3 ≤ 6291456 ∧ mcount ctInt x4 ≤ 1048576 ∧ mcount ctS154 x5 ≤ 7340032 ∧ mcount ctInt x7 ≤ 1048576 ∧ mcount ctS151 x8 ≤ 3145728 ∧ mcount ctInt x10 ≤ 1048576 ∧ mcount ctS59 x11 ≤ 4194304 :=
  ⟨mc_le c0 (fun y hy => ctLLS234_le y hy), mc_le c1 (fun y hy => ctS67_le y hy), mc_le c2 (fun y hy => ctS65_le y hy), mc_le c3 (fun y hy => ctS139_le y hy), mc_le c4 (fun y hy => ctInt_le y hy), (Nat.le_trans (mc_le c5 (fun y hy => ctS154_le y hy)) (by decide)), mc_le c7 (fun y hy => ctInt_le y hy), mc_le c8 (fun y hy => ctS151_le y hy), mc_le c10 (fun y hy => ctInt_le y hy), mc_le c11 (fun y hy => ctS59_le y hy)⟩
theorem app_ev {α ρ : Type} (F : Nat → List α → Int → Option ρ) (l : List α) {X : ρ} (stop : Ev (fun k => F k l (l.length : Int)) X)
    (step : ∀ (i : Nat) x out r, l[i]? = some x → out.length = i → Ev (fun k => F k (out ++ [x]) ((i : Int) + 1)) r → Ev (fun k => F k out (i : Int)) r) : Ev (fun k => F k [] 0) X := by
  have key : ∀ (d i : Nat), l.length - i = d → i ≤ l.length → Ev (fun k => F k (l.take i) (i : Int)) X := by
    intro d
    induction d with
    | zero =>
      intro i hd hi
      have : i = l.length := by omega
      subst this
      rw [List.take_length]; exact stop
    | succ d ih =>
      intro i hd hi
      have hlt : i < l.length := by omega
      have hx : l[i]? = some l[i] := List.getElem?_eq_getElem hlt
      refine step i _ _ X hx (by rw [List.length_take]; omega) ?_
      have := ih (i + 1) (by omega) (by omega)
      rw [List.take_add_one, hx] at this
      exact this
  exact key _ 0 rfl (Nat.zero_le _)
abbrev Ins := S234
abbrev Rg := S67
abbrev Sd := S65
abbrev Lt := S151
abbrev Sn := S59
abbrev Enn := S139
abbrev Err := S154
theorem rdOf_of {α : Type} {l : List α} {z : α} {i : Nat} {x : α} (h : l[i]? = some x) : rdOf z l (i : Int) = x := by unfold rdOf; exact get_of l z h
theorem copyStack_ev (l : List (List Ins)) (h : FitL (FitL FitA) l) : Ev (fun k => spec_l15Copy.f k l) l ∧ Ev (fun k => impl_copyStack.f k l) l := by
  have hl := h.1
  unfold spec_l15Copy.f impl_copyStack.f
  refine ⟨app_ev (fun k out i => spec_l15Copy.l0 k l out i) l ?_ ?_, app_ev (fun k out i => impl_copyStack.l0 k l out i) l ?_ ?_⟩
  · refine Ev.step (fun _ => rfl) ?_
    simp only [spec_l15Copy.l0]; exact Ev.neg (by omega) (Ev.now _)
  · intro i x out r hx ho hh
    have hi := lt_of hx
    have hf := (h.2 x (List.mem_of_getElem? hx)).1
    refine Ev.step (fun _ => rfl) ?_
    simp only [spec_l15Copy.l0, rdOf_of hx, List.nil_append, List.length_nil, List.length_cons]
    rw [w64 (x := (i : Int) + 1) (by omega) (by omega)]
    exact Ev.pos (by omega) (Ev.pos (by omega) (Ev.pos (by omega) (Ev.pos (by omega) hh)))
  · refine Ev.step (fun _ => rfl) ?_
    simp only [impl_copyStack.l0]; exact Ev.neg (by omega) (Ev.now _)
  · intro i x out r hx ho hh
    have hi := lt_of hx
    have hf := (h.2 x (List.mem_of_getElem? hx)).1
    refine Ev.step (fun _ => rfl) ?_
    simp only [impl_copyStack.l0, rdOf_of hx, List.nil_append, List.length_nil, List.length_cons]
    rw [w64 (x := (i : Int) + 1) (by omega) (by omega)]
    exact Ev.pos (by omega) (Ev.pos (by omega) (Ev.pos (by omega) (Ev.pos (by omega) hh)))
theorem copyWorld_ev (x0 : List (List (List Ins))) (x1 : List Rg) (x2 : List Sd) (x3 : List Enn) (x4 : List Int) (x5 : List Err) (x6 : Int) (x7 : List Int) (x8 : List Lt) (x9 : Int) (x10 : List Int) (x11 : List Sn)
    (c0 : FitL (FitL (FitL FitA)) x0) (c1 : FitL Fit67 x1) (c2 : FitL Fit65 x2) (c3 : x3.length ≤ 1048576) (c4 : x4.length ≤ 1048576) (c5 : x5.length ≤ 1048576) (c7 : x7.length ≤ 1048576) (c8 : x8.length ≤ 1048576) (c10 : x10.length ≤ 1048576) (c11 : x11.length ≤ 1048576) :
    Ev (fun k => spec_l21Copy.f k x0 x1 x2 x3 x4 x5 x6 x7 x8 x9 x10 x11) (x0, x1, x2, x3, x4, x5, x6, x7, x8, x9, x10, x11) ∧ Ev (fun k => impl_copyWorld.f k x0 x1 x2 x3 x4 x5 x6 x7 x8 x9 x10 x11) (x0, x1, x2, x3, x4, x5, x6, x7, x8, x9, x10, x11) := by
  have d0 := c0.1
  have d1 := c1.1
  have d2 := c2.1
  unfold spec_l21Copy.f impl_copyWorld.f
  constructor
  · refine Ev.bindc (spec_l20Copy_of x3 x4 x5 x6 x7 c3 c4 c5 c7) ?_
    simp only [List.nil_append, List.length_nil]
    refine Ev.pos (by omega) (Ev.pos (by omega) (Ev.pos (by omega) ?_))
    refine app_ev (fun k out i => spec_l21Copy.l0 k x0 x1 x2 x3 x4 x5 x6 x7 x8 x9 x10 x11 (x3, x4, x5, x6, x7) out i) x0 ?_ ?_
    · refine Ev.step (fun _ => rfl) ?_
      simp only [spec_l21Copy.l0]
      refine Ev.neg (by omega) ?_
      refine app_ev (fun k out i => spec_l21Copy.l1 k x0 x1 x2 x3 x4 x5 x6 x7 x8 x9 x10 x11 (x3, x4, x5, x6, x7) x0 out i) x1 ?_ ?_
      · refine Ev.step (fun _ => rfl) ?_
        simp only [spec_l21Copy.l1]
        refine Ev.neg (by omega) ?_
        refine app_ev (fun k out i => spec_l21Copy.l2 k x0 x1 x2 x3 x4 x5 x6 x7 x8 x9 x10 x11 (x3, x4, x5, x6, x7) x0 x1 out i) x2 ?_ ?_
        · refine Ev.step (fun _ => rfl) ?_
          simp only [spec_l21Copy.l2]
          exact Ev.neg (by omega) (Ev.now _)
        · intro i x out r hx ho hh
          have hi := lt_of hx
          have hf := (c2.2 x (List.mem_of_getElem? hx)).1
          refine Ev.step (fun _ => rfl) ?_
          simp only [spec_l21Copy.l2, rd65 hx, List.length_cons, List.length_nil]
          rw [w64 (x := (i : Int) + 1) (by omega) (by omega)]
          exact Ev.pos (by omega) (Ev.pos (by omega) (Ev.bindc (spec_l18Copy_of x.f0 x.f1 x.f2 x.f3 x.f4 hf) (Ev.pos (by omega) hh)))
      · intro i x out r hx ho hh
        have hi := lt_of hx
        have hf := (c1.2 x (List.mem_of_getElem? hx)).1
        refine Ev.step (fun _ => rfl) ?_
        simp only [spec_l21Copy.l1, rd67 hx, List.length_cons, List.length_nil]
        rw [w64 (x := (i : Int) + 1) (by omega) (by omega)]
        exact Ev.pos (by omega) (Ev.pos (by omega) (Ev.bindc (spec_l16Copy_of x.f0 x.f1 x.f2 x.f3 hf) (Ev.pos (by omega) hh)))
    · intro i x out r hx ho hh
      have hi := lt_of hx
      refine Ev.step (fun _ => rfl) ?_
      simp only [spec_l21Copy.l0, rdOf_of hx, List.length_cons, List.length_nil]
      rw [w64 (x := (i : Int) + 1) (by omega) (by omega)]
      exact Ev.pos (by omega) (Ev.pos (by omega) (Ev.bind (copyStack_ev x (c0.2 x (List.mem_of_getElem? hx))).1 (Ev.pos (by omega) hh)))
  · refine Ev.bindc (impl_copyKeeper_of x3 x4 x5 x6 x7 c3 c4 c5 c7) ?_
    simp only [List.nil_append, List.length_nil]
    refine Ev.pos (by omega) (Ev.bindc (impl_copyInts_of x10 c10) (Ev.pos (by omega) ?_))
    refine app_ev (fun k out i => impl_copyWorld.l0 k x0 x1 x2 x3 x4 x5 x6 x7 x8 x9 x10 x11 (x3, x4, x5, x6, x7) x10 out i) x0 ?_ ?_
    · refine Ev.step (fun _ => rfl) ?_
      simp only [impl_copyWorld.l0]
      refine Ev.neg (by omega) ?_
      refine app_ev (fun k out i => impl_copyWorld.l1 k x0 x1 x2 x3 x4 x5 x6 x7 x8 x9 x10 x11 (x3, x4, x5, x6, x7) x10 x0 out i) x1 ?_ ?_
      · refine Ev.step (fun _ => rfl) ?_
        simp only [impl_copyWorld.l1]
        refine Ev.neg (by omega) ?_
        refine app_ev (fun k out i => impl_copyWorld.l2 k x2 x8 x9 x11 (x3, x4, x5, x6, x7) x10 x0 x1 out i) x2 ?_ ?_
        · refine Ev.step (fun _ => rfl) ?_
          simp only [impl_copyWorld.l2]
          exact Ev.neg (by omega) (Ev.now _)
        · intro i x out r hx ho hh
          have hi := lt_of hx
          have hf := (c2.2 x (List.mem_of_getElem? hx)).1
          refine Ev.step (fun _ => rfl) ?_
          simp only [impl_copyWorld.l2, rd65 hx]
          rw [w64 (x := (i : Int) + 1) (by omega) (by omega)]
          exact Ev.pos (by omega) (Ev.pos (by omega) (Ev.bindc (impl_copySender_of x.f0 x.f1 x.f2 x.f3 x.f4 hf) (Ev.pos (by omega) hh)))
      · intro i x out r hx ho hh
        have hi := lt_of hx
        have hf := (c1.2 x (List.mem_of_getElem? hx)).1
        refine Ev.step (fun _ => rfl) ?_
        simp only [impl_copyWorld.l1, rd67 hx]
        rw [w64 (x := (i : Int) + 1) (by omega) (by omega)]
        exact Ev.pos (by omega) (Ev.pos (by omega) (Ev.bindc (impl_copyRing_of x.f0 x.f1 x.f2 x.f3 hf) (Ev.pos (by omega) hh)))
    · intro i x out r hx ho hh
      have hi := lt_of hx
      refine Ev.step (fun _ => rfl) ?_
      simp only [impl_copyWorld.l0, rdOf_of hx]
      rw [w64 (x := (i : Int) + 1) (by omega) (by omega)]
      exact Ev.pos (by omega) (Ev.pos (by omega) (Ev.bind (copyStack_ev x (c0.2 x (List.mem_of_getElem? hx))).2 (Ev.pos (by omega) hh)))
theorem getD_set_self {α : Type} {l : List α} {z : α} {i : Nat} (h : i < l.length) : l.set i (l.getD i z) = l := by
  rw [List.getD_eq_getElem?_getD, List.getElem?_eq_getElem h, Option.getD_some, List.set_getElem_self]
theorem getD_set {α : Type} {l : List α} {z x : α} {i : Nat} (h : i < l.length) : (l.set i x).getD i z = x := by
  rw [List.getD_eq_getElem?_getD, List.getElem?_set_self h]; rfl
theorem getD_all {α : Type} {P : α → Prop} {l : List α} {z : α} {i : Nat} (h : i < l.length) (a : ∀ y ∈ l, P y) : P (l.getD i z) := by
  rw [List.getD_eq_getElem?_getD, List.getElem?_eq_getElem h]; exact a _ (List.getElem_mem h)
theorem set_all {α : Type} {P : α → Prop} {l : List α} {x : α} {i : Nat} (a : ∀ y ∈ l, P y) (hx : P x) : ∀ y ∈ l.set i x, P y := fun y hy => by
  rcases List.mem_or_eq_of_mem_set hy with hy | rfl
  · exact a y hy
  · exact hx
def RI (y : Rg) : Prop := y.f0.length ≤ 1048576 ∧ -9223372036854775808 ≤ y.f1 ∧ y.f1 ≤ 9223372036854775807
def SI (y : Sd) : Prop := y.f2.length ≤ 1048576
def refT (a : Int) : Int := if a > 0 then 5 else a + 5
def refR (y : Rg) : Rg := ⟨y.f0, refT y.f1, y.f2, y.f3⟩
theorem refR_RI {y : Rg} (h : RI y) : RI (refR y) := by
  refine ⟨h.1, ?_⟩
  have := h.2
  show -9223372036854775808 ≤ refT y.f1 ∧ refT y.f1 ≤ 9223372036854775807
  unfold refT; split <;> omega
theorem spec_Refilled_of (y : Rg) (h : RI y) : spec_Refilled.f y.f0 y.f1 y.f2 y.f3 5 = some (y.f0, refT y.f1, y.f2, y.f3) := by
  have := h.2
  unfold spec_Refilled.f refT
  rw [spec_l16Copy_of _ _ _ _ h.1]
  simp only [Option.bind_some]
  rw [if_neg (by omega), if_neg (by omega), show wrap64 (5 - 5) = 0 from (w64 (by omega) (by omega)).trans (by omega)]
  by_cases h0 : y.f1 > 0
  · rw [if_pos h0, if_pos h0]
  · rw [if_neg h0, if_neg h0, w64 (by omega) (by omega)]
theorem impl_Refilled_ev (y : Rg) (h : RI y) : Ev (fun k => impl_Refilled.f k y.f0 y.f1 y.f2 y.f3 5) (y.f0, refT y.f1, y.f2, y.f3) := by
  have hr := h.2
  unfold impl_Refilled.f
  refine Ev.bindc (impl_copyRing_of _ _ _ _ h.1) (Ev.neg (by omega) ?_)
  by_cases h5 : y.f1 ≥ 5
  · refine Ev.pos h5 (Ev.step (fun _ => rfl) ?_)
    simp only [impl_Refilled.j0]
    have e : refT y.f1 = 5 := by unfold refT; split <;> omega
    rw [e]; exact Ev.pos (by trivial) (Ev.now _)
  · refine Ev.neg h5 (Ev.neg (by omega) ?_)
    by_cases h0 : y.f1 ≥ 0
    · refine Ev.pos h0 (Ev.step (fun _ => rfl) ?_)
      simp only [impl_Refilled.j0]
      have e : refT y.f1 = 5 := by unfold refT; split <;> omega
      rw [e]; exact Ev.pos (by decide) (Ev.now _)
    · refine Ev.neg h0 (Ev.step (fun _ => rfl) ?_)
      simp only [impl_Refilled.j0]
      have e : refT y.f1 = min 5 (wrap64 (y.f1 + 5)) := by unfold refT; rw [w64 (by omega) (by omega)]; split <;> omega
      rw [e]; exact Ev.neg (by simp) (Ev.now _)
section
variable (x0 : List (List (List Ins)))
theorem specRefill_ev (r0 r1 r2 : Rg) (x2 : List Sd) (L : List Enn) (N : List Int) (E : List Err) (a : Int) (A : List Int) (x8 : List Lt) (now : Int) (x10 : List Int) (x11 : List Sn) (h0 : RI r0) (h1 : RI r1) (h2 : RI r2) (hn : 0 ≤ now ∧ now ≤ 1000000000) :
    Ev (fun k => spec_l21Refill.f k x0 [r0, r1, r2] x2 L N E a A x8 now x10 x11 5) (x0, [refR r0, refR r1, refR r2], x2, L, N, E, a, A, x8, now + 5, x10, x11) := by
  unfold spec_l21Refill.f
  refine Ev.step (fun _ => rfl) ?_
  simp only [spec_l21Refill.l0]
  refine Ev.pos (by simp) (Ev.pos (by omega) (Ev.bindc (spec_Refilled_of r0 h0) ?_))
  rw [show wrap64 (0 + 1) = 1 from (w64 (by omega) (by omega)).trans (by omega)]
  show Ev (fun k => spec_l21Refill.l0 k x0 x2 L N E a A x8 now x10 x11 5 [refR r0, r1, r2] 1) _
  refine Ev.step (fun _ => rfl) ?_
  simp only [spec_l21Refill.l0]
  refine Ev.pos (by simp) (Ev.pos (by omega) (Ev.bindc (spec_Refilled_of r1 h1) ?_))
  rw [show wrap64 (1 + 1) = 2 from (w64 (by omega) (by omega)).trans (by omega)]
  show Ev (fun k => spec_l21Refill.l0 k x0 x2 L N E a A x8 now x10 x11 5 [refR r0, refR r1, r2] 2) _
  refine Ev.step (fun _ => rfl) ?_
  simp only [spec_l21Refill.l0]
  refine Ev.pos (by simp) (Ev.pos (by omega) (Ev.bindc (spec_Refilled_of r2 h2) ?_))
  rw [show wrap64 (2 + 1) = 3 from (w64 (by omega) (by omega)).trans (by omega)]
  show Ev (fun k => spec_l21Refill.l0 k x0 x2 L N E a A x8 now x10 x11 5 [refR r0, refR r1, refR r2] 3) _
  refine Ev.step (fun _ => rfl) ?_
  simp only [spec_l21Refill.l0]
  rw [w64 (x := now + 5) (by omega) (by omega)]
  exact Ev.neg (by simp) (Ev.now _)
theorem implLater_ev (r0 r1 r2 : Rg) (x2 : List Sd) (L : List Enn) (N : List Int) (E : List Err) (a : Int) (A : List Int) (x8 : List Lt) (now : Int) (x10 : List Int) (x11 : List Sn) (h0 : RI r0) (h1 : RI r1) (h2 : RI r2) (hn : 0 ≤ now ∧ now ≤ 1000000000) :
    Ev (fun k => impl_World_later.f k x0 [r0, r1, r2] x2 L N E a A x8 now x10 x11 5) (x0, [refR r0, refR r1, refR r2], x2, L, N, E, a, A, x8, now + 5, x10, x11) := by
  unfold impl_World_later.f
  refine Ev.step (fun _ => rfl) ?_
  simp only [impl_World_later.l0]
  refine Ev.pos (by simp) (Ev.pos (by omega) (Ev.pos (by simp) (Ev.bind (impl_Refilled_ev r0 h0) ?_)))
  rw [show wrap64 (0 + 1) = 1 from (w64 (by omega) (by omega)).trans (by omega)]
  show Ev (fun k => impl_World_later.l0 k x0 [r0, r1, r2] x2 L N E a A x8 now x10 x11 5 [refR r0, r1, r2] 1) _
  refine Ev.step (fun _ => rfl) ?_
  simp only [impl_World_later.l0]
  refine Ev.pos (by simp) (Ev.pos (by omega) (Ev.pos (by simp) (Ev.bind (impl_Refilled_ev r1 h1) ?_)))
  rw [show wrap64 (1 + 1) = 2 from (w64 (by omega) (by omega)).trans (by omega)]
  show Ev (fun k => impl_World_later.l0 k x0 [r0, r1, r2] x2 L N E a A x8 now x10 x11 5 [refR r0, refR r1, r2] 2) _
  refine Ev.step (fun _ => rfl) ?_
  simp only [impl_World_later.l0]
  refine Ev.pos (by simp) (Ev.pos (by omega) (Ev.pos (by simp) (Ev.bind (impl_Refilled_ev r2 h2) ?_)))
  rw [show wrap64 (2 + 1) = 3 from (w64 (by omega) (by omega)).trans (by omega)]
  show Ev (fun k => impl_World_later.l0 k x0 [r0, r1, r2] x2 L N E a A x8 now x10 x11 5 [refR r0, refR r1, refR r2] 3) _
  refine Ev.step (fun _ => rfl) ?_
  simp only [impl_World_later.l0]
  rw [w64 (x := now + 5) (by omega) (by omega)]
  exact Ev.neg (by simp) (Ev.now _)
end
def tk (s : Sd) (r : Rg) (now : Int) : Bool := takenIf s.f0 s.f1 s.f2 s.f3 s.f4 r.f0 r.f1 r.f2 r.f3 now
def tv (s : Sd) (r : Rg) (now : Int) : Int × Int × List It × Int × Int × List It × Int × Int × Int × Bool := takenV s.f0 s.f1 s.f2 s.f3 s.f4 r.f0 r.f1 r.f2 r.f3 now
def tS (t : Int × Int × List It × Int × Int × List It × Int × Int × Int × Bool) : Sd := ⟨t.1, t.2.1, t.2.2.1, t.2.2.2.1, t.2.2.2.2.1⟩
def tR (t : Int × Int × List It × Int × Int × List It × Int × Int × Int × Bool) : Rg := ⟨t.2.2.2.2.2.1, t.2.2.2.2.2.2.1, t.2.2.2.2.2.2.2.1, t.2.2.2.2.2.2.2.2.1⟩
theorem drainV_tok (l : List It) (a b c : Int) : (drainV l a b c).2.1 = a := by
  unfold drainV
  split
  · rfl
  · split <;> rfl
theorem tv_no {s : Sd} {r : Rg} {now : Int} (h : tk s r now = false) : tv s r now = (s.f0, s.f1, s.f2, s.f3, s.f4, r.f0, r.f1, r.f2, r.f3, false) := by
  unfold tk at h
  unfold tv takenV
  rw [if_neg (by rw [h]; simp)]
theorem tv_yes {s : Sd} {r : Rg} {now : Int} (h : tk s r now = true) (hr : RI r) : (tv s r now).2.2.2.2.2.2.2.2.2 = true ∧ s.f2.length < 3 ∧ (tS (tv s r now)).f2.length = s.f2.length + 1 ∧ RI (tR (tv s r now)) := by
  unfold tk at h
  have h' := h
  unfold takenIf at h'
  simp only [Bool.and_eq_true, decide_eq_true_eq] at h'
  have := drainV_len r.f0 r.f1 r.f2 r.f3
  have := drainV_tok r.f0 r.f1 r.f2 r.f3
  have hr1 := hr.1
  have hr2 := hr.2
  unfold tv takenV
  rw [if_pos h]
  refine ⟨rfl, by omega, by simp [tS], ?_⟩
  refine ⟨?_, ?_⟩
  · show (drainV r.f0 r.f1 r.f2 r.f3).1.length ≤ _
    omega
  · show _ ≤ (drainV r.f0 r.f1 r.f2 r.f3).2.1 ∧ (drainV r.f0 r.f1 r.f2 r.f3).2.1 ≤ _
    omega
/-- What a keeper has while the world calms down. -/
def KIn (L : List Enn) (N : List Int) (E : List Err) (A : List Int) : Prop := L.length ≤ 1048576 ∧ N.length ≤ 1048576 ∧ I64s N ∧ E.length ≤ 1048576 ∧ A.length ≤ 1048576
theorem kd_early {x0 : List Enn} {x1 : List Int} {x2 : List Err} {a : Int} {x4 : List Int} {kd p s q0 q1 q2 q3 : Int} {r : KR} (h : KD x0 x1 x2 a x4 kd p s q0 q1 q2 q3 r) (hE : x2.length ≤ 1048576) : r.2.2.1.length ≤ 1048576 := by
  rcases h with rfl | ⟨_, _, _, _, _, hl, rfl⟩ | ⟨_, _, _, _, _, h⟩
  · exact hE
  · simp; omega
  · obtain ⟨L', E', x', rfl, h', _⟩ := h (fun _ E _ => E.length ≤ 1048576) (fun L E x j y _ _ _ _ hh => by
      have : (E.eraseIdx j).length ≤ E.length := List.length_eraseIdx_le E j
      exact Nat.le_trans this hh) hE
    exact h'
theorem kept_step {L : List Enn} {N : List Int} {E : List Err} (a : Int) {A : List Int} (K : KIn L N E A) (kd p s q0 q1 q2 q3 : Int) : ∃ L' N' E' a' o, KIn L' N' E' A ∧ Ev (fun k => spec_Kept.f k L N E a A kd p s q0 q1 q2 q3) (L', N', E', a', A, o) ∧ Ev (fun k => impl_Kept.f k L N E a A kd p s q0 q1 q2 q3) (L', N', E', a', A, o) := by
  obtain ⟨k0, k1, k2, k3, k4⟩ := K
  obtain ⟨⟨rL, rN, rE, ra, rA, rb⟩, e1, e2, ⟨b0, b1, b2, b3, b4⟩, d⟩ := kept_ev L N E a A kd p s q0 q1 q2 q3 k0 k1 k3 k4 k2
  have hE := kd_early d k3
  obtain rfl : rA = A := b4
  replace b0 : rL.length ≤ L.length ∨ rL.length ≤ 200 := b0
  replace b1 : rN.length = N.length := b1
  exact ⟨rL, rN, rE, ra, rb, ⟨by omega, by omega, b2, hE, k4⟩, e1, e2⟩
section
variable (x0 : List (List (List Ins))) (x8 y8 : List Lt) (x10 : List Int) (x11 : List Sn) (a1 c p now : Int)
theorem hearK_ev (x1 : List Rg) (x2 : List Sd) {L : List Enn} {N : List Int} {E : List Err} {a : Int} {A : List Int} {kd q s q0 q1 q2 q3 : Int} {L' : List Enn} {N' : List Int} {E' : List Err} {a' : Int} {A' : List Int} {o : Bool} (h : Ev (fun k => spec_Kept.f k L N E a A kd q s q0 q1 q2 q3) (L', N', E', a', A', o)) :
    Ev (fun k => spec_l21Hear.f k x0 x1 x2 L N E a A x8 now x10 x11 kd q s q0 q1 q2 q3 false) (x0, x1, x2, L', N', E', a', A', x8, now, x10, x11) := by
  unfold spec_l21Hear.f
  refine Ev.neg (by simp) (Ev.step (fun _ => rfl) ?_)
  simp only [spec_l21Hear.j0]
  refine Ev.neg (by simp) (Ev.step (fun _ => rfl) ?_)
  simp only [spec_l21Hear.j1]
  exact Ev.neg (by simp) (Ev.bind h (Ev.now _))
theorem hearA_ev (x1 : List Rg) (x2 : List Sd) (L : List Enn) (N : List Int) (E : List Err) (a : Int) (A : List Int) (q s : Int) (h0 : 0 ≤ q) (h1 : q < (x2.length : Int)) (hs : SI (rd_T65 x2 q)) :
    Ev (fun k => spec_l21Hear.f k x0 x1 x2 L N E a A x8 now x10 x11 2 q s 0 0 0 0 true) (x0, x1, x2.set q.toNat ⟨(ackedV (rd_T65 x2 q).f0 (rd_T65 x2 q).f1 (rd_T65 x2 q).f2 (rd_T65 x2 q).f3 (rd_T65 x2 q).f4 s).1, (ackedV (rd_T65 x2 q).f0 (rd_T65 x2 q).f1 (rd_T65 x2 q).f2 (rd_T65 x2 q).f3 (rd_T65 x2 q).f4 s).2.1, (ackedV (rd_T65 x2 q).f0 (rd_T65 x2 q).f1 (rd_T65 x2 q).f2 (rd_T65 x2 q).f3 (rd_T65 x2 q).f4 s).2.2.1, (ackedV (rd_T65 x2 q).f0 (rd_T65 x2 q).f1 (rd_T65 x2 q).f2 (rd_T65 x2 q).f3 (rd_T65 x2 q).f4 s).2.2.2.1, (ackedV (rd_T65 x2 q).f0 (rd_T65 x2 q).f1 (rd_T65 x2 q).f2 (rd_T65 x2 q).f3 (rd_T65 x2 q).f4 s).2.2.2.2⟩, L, N, E, a, A, x8, now, x10, x11) := by
  unfold spec_l21Hear.f
  refine Ev.pos rfl (Ev.step (fun _ => rfl) ?_)
  simp only [spec_l21Hear.j0]
  refine Ev.pos (by rfl) (Ev.pos h0 (Ev.pos h1 (Ev.bind (spec_Acked_ev _ _ _ _ _ s hs) (Ev.step (fun _ => rfl) ?_))))
  simp only [spec_l21Hear.j1]
  exact Ev.pos (by trivial) (Ev.now _)
theorem heardLoop (fs : List S109) (hf : fs.length ≤ 1048577) (x1 : List Rg) (x2 : List Sd) (t238 : Bool × List (List (List Ins)) × List Rg × List Sd × List Enn × List Int × List Err × Int × List Int × List Lt × Int × List Int × List Sn) (t245 : Int × Int × List It × Int × Int × Bool) (A : List Int) : ∀ (d i : Nat) (L : List Enn) (N : List Int) (E : List Err) (a : Int), fs.length - i = d → i ≤ fs.length → KIn L N E A →
    ∃ L' N' E' a', KIn L' N' E' A ∧ (∀ X, Ev (fun k => spec_CalmWorld.l1 k a1 c p fs x0 x1 x2 L' N' E' a' A x8 now x10 x11 (fs.length : Int)) X → Ev (fun k => spec_CalmWorld.l1 k a1 c p fs x0 x1 x2 L N E a A x8 now x10 x11 (i : Int)) X) ∧
      (∀ X, Ev (fun k => impl_CalmWorld.l1 k a1 c p t238 t245 fs L' N' E' a' A (fs.length : Int)) X → Ev (fun k => impl_CalmWorld.l1 k a1 c p t238 t245 fs L N E a A (i : Int)) X) := by
  intro d
  induction d with
  | zero =>
    intro i L N E a hd hi K
    obtain rfl : i = fs.length := by omega
    exact ⟨L, N, E, a, K, fun _ h => h, fun _ h => h⟩
  | succ d ih =>
    intro i L N E a hd hi K
    obtain ⟨L1, N1, E1, a1', o, K1, e1, e2⟩ := kept_step a K (rd_T109 fs i).f0 (rd_T109 fs i).f1 (rd_T109 fs i).f2 (rd_T109 fs i).f3.f0 (rd_T109 fs i).f3.f1 (rd_T109 fs i).f3.f2 (rd_T109 fs i).f3.f3
    obtain ⟨L2, N2, E2, a2, K2, g1, g2⟩ := ih (i + 1) L1 N1 E1 a1' (by omega) (by omega) K1
    refine ⟨L2, N2, E2, a2, K2, fun X h => ?_, fun X h => ?_⟩
    · have g := g1 X h
      refine Ev.step (fun _ => rfl) ?_
      simp only [spec_CalmWorld.l1]
      rw [w64 (x := (i : Int) + 1) (by omega) (by omega)]
      exact Ev.pos (by omega) (Ev.pos (by omega) (Ev.bind (hearK_ev x0 x8 x10 x11 now x1 x2 e1) g))
    · have g := g2 X h
      refine Ev.step (fun _ => rfl) ?_
      simp only [impl_CalmWorld.l1]
      rw [w64 (x := (i : Int) + 1) (by omega) (by omega)]
      exact Ev.pos (by omega) (Ev.pos (by omega) (Ev.bind e2 g))
theorem implDrain_ev (x1 : List Rg) (x2 : List Sd) (L : List Enn) (N : List Int) (E : List Err) (a : Int) (A : List Int) (h0 : 0 ≤ p) (h1 : p < (x1.length : Int)) (h2 : p < (x2.length : Int)) (hs : SI (rd_T65 x2 p)) (hr : RI (rd_T67 x1 p)) :
    Ev (fun k => impl_World_drain.f k x0 x1 x2 L N E a A y8 now x10 x11 p) ((tv (rd_T65 x2 p) (rd_T67 x1 p) now).2.2.2.2.2.2.2.2.2, x0, x1.set p.toNat (tR (tv (rd_T65 x2 p) (rd_T67 x1 p) now)), x2.set p.toNat (tS (tv (rd_T65 x2 p) (rd_T67 x1 p) now)), L, N, E, a, A, y8, now, x10, x11) := by
  unfold impl_World_drain.f
  exact Ev.pos h0 (Ev.pos h2 (Ev.pos h1 (Ev.bind (impl_Taken_ev _ _ _ _ _ _ _ _ _ now hs hr.1) (Ev.now _))))
theorem same_sets {x1 : List Rg} {x2 : List Sd} (h0 : 0 ≤ p) (h1 : p < (x1.length : Int)) (h2 : p < (x2.length : Int)) (ht : tk (rd_T65 x2 p) (rd_T67 x1 p) now = false) :
    x1.set p.toNat (tR (tv (rd_T65 x2 p) (rd_T67 x1 p) now)) = x1 ∧ x2.set p.toNat (tS (tv (rd_T65 x2 p) (rd_T67 x1 p) now)) = x2 := by
  rw [tv_no ht]
  exact ⟨getD_set_self (z := z67) (by omega), getD_set_self (z := z65) (by omega)⟩
theorem specStay (x1 : List Rg) (x2 : List Sd) (L : List Enn) (N : List Int) (E : List Err) (a : Int) (A : List Int) (h0 : 0 ≤ p) (h1 : p < (x1.length : Int)) (h2 : p < (x2.length : Int)) (hs : SI (rd_T65 x2 p)) (hr : RI (rd_T67 x1 p)) (ht : tk (rd_T65 x2 p) (rd_T67 x1 p) now = false) {X} : ∀ (d i : Nat), i + d = 3 →
    Ev (fun k => spec_CalmWorld.l0 k a1 c x0 L N E a A x8 now x10 x11 p x1 x2 ((3 : Nat) : Int)) X → Ev (fun k => spec_CalmWorld.l0 k a1 c x0 L N E a A x8 now x10 x11 p x1 x2 (i : Int)) X := by
  intro d
  induction d with
  | zero => intro i hi h; obtain rfl : i = 3 := by omega
            exact h
  | succ d ih =>
    intro i hi h
    have g := ih (i + 1) (by omega) h
    obtain ⟨q1, q2⟩ := same_sets p now h0 h1 h2 ht
    refine Ev.step (fun _ => rfl) ?_
    simp only [spec_CalmWorld.l0]
    rw [w64 (x := (i : Int) + 1) (by omega) (by omega)]
    refine Ev.pos (by omega) (Ev.pos h0 (Ev.pos h2 (Ev.pos h1 (Ev.bind (spec_Taken_ev _ _ _ _ _ _ _ _ _ now hs hr.1) ?_))))
    show Ev (fun k => spec_CalmWorld.l0 k a1 c x0 L N E a A x8 now x10 x11 p (x1.set p.toNat (tR (tv (rd_T65 x2 p) (rd_T67 x1 p) now))) (x2.set p.toNat (tS (tv (rd_T65 x2 p) (rd_T67 x1 p) now))) ((i : Int) + 1)) X
    rw [q1, q2]; exact g
theorem drainLoop (L : List Enn) (N : List Int) (E : List Err) (a : Int) (A : List Int) (h0 : 0 ≤ p) (hp : p < 3) : ∀ (d i : Nat) (x1 : List Rg) (x2 : List Sd), i + d = 3 → x1.length = 3 → x2.length = 3 → (∀ y ∈ x1, RI y) → (∀ y ∈ x2, SI y) → 3 ≤ (rd_T65 x2 p).f2.length + d →
    ∃ y1 y2, y1.length = 3 ∧ y2.length = 3 ∧ (∀ y ∈ y1, RI y) ∧ (∀ y ∈ y2, SI y) ∧ tk (rd_T65 y2 p) (rd_T67 y1 p) now = false ∧
      (∀ X, Ev (fun k => spec_CalmWorld.l0 k a1 c x0 L N E a A x8 now x10 x11 p y1 y2 ((3 : Nat) : Int)) X → Ev (fun k => spec_CalmWorld.l0 k a1 c x0 L N E a A x8 now x10 x11 p x1 x2 (i : Int)) X) ∧
      (∀ X, Ev (fun k => impl_CalmWorld.l0 k a1 c p x0 y1 y2 L N E a A y8 now x10 x11) X → Ev (fun k => impl_CalmWorld.l0 k a1 c p x0 x1 x2 L N E a A y8 now x10 x11) X) := by
  intro d
  induction d with
  | zero =>
    intro i x1 x2 hi l1 l2 i1 i2 hw
    have hr : RI (rd_T67 x1 p) := getD_all (by omega) i1
    obtain rfl : i = 3 := by omega
    cases ht : tk (rd_T65 x2 p) (rd_T67 x1 p) now with
    | false => exact ⟨x1, x2, l1, l2, i1, i2, ht, fun _ h => h, fun _ h => h⟩
    | true => have := (tv_yes ht hr).2.1; omega
  | succ d ih =>
    intro i x1 x2 hi l1 l2 i1 i2 hw
    have hr : RI (rd_T67 x1 p) := getD_all (by omega) i1
    have hs : SI (rd_T65 x2 p) := getD_all (by omega) i2
    cases ht : tk (rd_T65 x2 p) (rd_T67 x1 p) now with
    | false => exact ⟨x1, x2, l1, l2, i1, i2, ht, fun X h => specStay x0 x8 x10 x11 a1 c p now x1 x2 L N E a A h0 (by omega) (by omega) hs hr ht (d + 1) i hi h, fun _ h => h⟩
    | true =>
      obtain ⟨t1, t2, t3, t4⟩ := tv_yes ht hr
      have n1 : (x1.set p.toNat (tR (tv (rd_T65 x2 p) (rd_T67 x1 p) now))).length = 3 := by rw [List.length_set]; exact l1
      have n2 : (x2.set p.toNat (tS (tv (rd_T65 x2 p) (rd_T67 x1 p) now))).length = 3 := by rw [List.length_set]; exact l2
      have e : rd_T65 (x2.set p.toNat (tS (tv (rd_T65 x2 p) (rd_T67 x1 p) now))) p = tS (tv (rd_T65 x2 p) (rd_T67 x1 p) now) := getD_set (by omega)
      obtain ⟨y1, y2, m1, m2, j1, j2, hk, g1, g2⟩ := ih (i + 1) (x1.set p.toNat (tR (tv (rd_T65 x2 p) (rd_T67 x1 p) now))) (x2.set p.toNat (tS (tv (rd_T65 x2 p) (rd_T67 x1 p) now))) (by omega) n1 n2 (set_all i1 t4) (set_all i2 (by unfold SI; rw [t3]; omega)) (by rw [e, t3]; omega)
      refine ⟨y1, y2, m1, m2, j1, j2, hk, fun X h => ?_, fun X h => ?_⟩
      · have g := g1 X h
        refine Ev.step (fun _ => rfl) ?_
        simp only [spec_CalmWorld.l0]
        rw [w64 (x := (i : Int) + 1) (by omega) (by omega)]
        exact Ev.pos (by omega) (Ev.pos h0 (Ev.pos (by omega) (Ev.pos (by omega) (Ev.bind (spec_Taken_ev _ _ _ _ _ _ _ _ _ now hs hr.1) g))))
      · have g := g2 X h
        refine Ev.step (fun _ => rfl) ?_
        simp only [impl_CalmWorld.l0]
        exact Ev.bind (implDrain_ev x0 y8 x10 x11 p now x1 x2 L N E a A h0 (by omega) (by omega) hs hr) (Ev.pos t1 g)
theorem ackedV_len (a b : Int) (l : List It) (c d q : Int) : (ackedV a b l c d q).2.2.1.length ≤ l.length := by
  unfold ackedV
  split
  · simp
  · exact Nat.le_refl _
theorem ackOf_val (L : List Enn) (N : List Int) (E : List Err) (a : Int) (A : List Int) (q : Int) (hA : A.length ≤ 1048576) : spec_AckOf.f L N E a A q = if 0 ≤ q ∧ q < (A.length : Int) then some (2, q, rd A q, 0, 0, 0, 0, true) else some (0, 0, 0, 0, 0, 0, 0, false) := by
  unfold spec_AckOf.f
  rw [spec_l01In_of]
  simp only [Option.bind_some]
  rw [w64 (by omega) (by omega)]
  by_cases h : 0 ≤ q ∧ q < (A.length : Int)
  · rw [if_pos (by rw [decide_eq_true_eq]; omega), if_pos h.1, if_pos h.2, if_pos h]
  · rw [if_neg (by rw [decide_eq_true_eq]; omega), if_neg h]
theorem spec_SaveKeeper_of {L : List Enn} {N : List Int} {E : List Err} (a : Int) {A : List Int} (K : KIn L N E A) : spec_SaveKeeper.f L N E a A = some (L, N, E, (L.length : Int), N) := by
  obtain ⟨h0, h1, _, h2, h4⟩ := K
  unfold spec_SaveKeeper.f
  rw [spec_l20Copy_of L N E a A h0 h1 h2 h4]
  simp only [Option.bind_some, List.length_nil, List.nil_append]
  rw [if_pos (by omega)]
theorem impl_SaveKeeper_of {L : List Enn} {N : List Int} {E : List Err} (a : Int) {A : List Int} (K : KIn L N E A) : impl_SaveKeeper.f L N E a A = some (L, N, E, (L.length : Int), N) := by
  obtain ⟨h0, h1, _, h2, h4⟩ := K
  unfold impl_SaveKeeper.f
  rw [impl_copyKeeper_of L N E a A h0 h1 h2 h4]
  simp only [Option.bind_some]
  rw [impl_copyInts_of N h1]; rfl
def aS (t : Int × Int × List It × Int × Int) : Sd := ⟨t.1, t.2.1, t.2.2.1, t.2.2.2.1, t.2.2.2.2⟩
theorem pidStep (h0 : 0 ≤ p) (hp : p < 3) (hn : 0 ≤ now ∧ now ≤ 1000000000) (x1 : List Rg) (x2 : List Sd) (L : List Enn) (N : List Int) (E : List Err) (a : Int) (A : List Int) (l1 : x1.length = 3) (l2 : x2.length = 3) (i1 : ∀ y ∈ x1, RI y) (i2 : ∀ y ∈ x2, SI y) (K : KIn L N E A) :
    ∃ y1 y2 L' N' E' a' A', y1.length = 3 ∧ y2.length = 3 ∧ (∀ y ∈ y1, RI y) ∧ (∀ y ∈ y2, SI y) ∧ KIn L' N' E' A' ∧
      (∀ X, Ev (fun k => spec_CalmWorld.l2 k a1 c x0 y1 y2 L' N' E' a' A' x8 now x10 x11 (p + 1)) X → Ev (fun k => spec_CalmWorld.l2 k a1 c x0 x1 x2 L N E a A x8 now x10 x11 p) X) ∧
      (∀ X, Ev (fun k => impl_CalmWorld.l2 k a1 c x0 y1 y2 L' N' E' a' A' y8 now x10 x11 (p + 1)) X → Ev (fun k => impl_CalmWorld.l2 k a1 c x0 x1 x2 L N E a A y8 now x10 x11 p) X) := by
  obtain ⟨y1, y2, m1, m2, j1, j2, ht, g1, g2⟩ := drainLoop x0 x8 y8 x10 x11 a1 c p now L N E a A h0 hp 3 0 x1 x2 rfl l1 l2 i1 i2 (by omega)
  have hr : RI (rd_T67 y1 p) := getD_all (by omega) j1
  have hs : SI (rd_T65 y2 p) := getD_all (by omega) j2
  have e1 := spec_Again_ev (rd_T65 y2 p).f0 (rd_T65 y2 p).f1 (rd_T65 y2 p).f2 (rd_T65 y2 p).f3 (rd_T65 y2 p).f4 now hs (by omega)
  have e2 := impl_Again_ev (rd_T65 y2 p).f0 (rd_T65 y2 p).f1 (rd_T65 y2 p).f2 (rd_T65 y2 p).f3 (rd_T65 y2 p).f4 now hs (by omega)
  have ha : (againV (rd_T65 y2 p).f0 (rd_T65 y2 p).f1 (rd_T65 y2 p).f2 (rd_T65 y2 p).f3 (rd_T65 y2 p).f4 now).2.2.1.length ≤ 1048576 := by rw [againV_len]; exact hs
  have e0 := implDrain_ev x0 y8 x10 x11 p now y1 y2 L N E a A h0 (by omega) (by omega) hs hr
  obtain ⟨q1, q2⟩ := same_sets p now h0 (by omega : p < (y1.length : Int)) (by omega : p < (y2.length : Int)) ht
  rw [q1, q2, tv_no ht] at e0
  generalize againV (rd_T65 y2 p).f0 (rd_T65 y2 p).f1 (rd_T65 y2 p).f2 (rd_T65 y2 p).f3 (rd_T65 y2 p).f4 now = ag at e1 e2 ha
  obtain ⟨b0, b1, b2, b3, b4, b5⟩ := ag
  replace ha : b2.length ≤ 1048576 := ha
  have e3 := spec_Says_ev b0 b1 b2 b3 b4 ha
  have e4 := impl_Says_ev b0 b1 b2 b3 b4 ha
  have hf := saysV_length b0 b1 b2 b3 b4
  generalize saysV b0 b1 b2 b3 b4 = fs at e3 e4 hf
  obtain ⟨L1, N1, E1, a1', K1, g3, g4⟩ := heardLoop x0 x8 x10 x11 a1 c p now fs (by omega) y1 (y2.set p.toNat ⟨b0, b1, b2, b3, b4⟩) (false, x0, y1, y2, L, N, E, a, A, y8, now, x10, x11) (b0, b1, b2, b3, b4, b5) A fs.length 0 L N E a rfl (by omega) K
  have z1 := spec_SaveKeeper_of a1' K1
  have z2 := impl_SaveKeeper_of a1' K1
  obtain ⟨c0, c1, c2, c3, c4⟩ := K1
  have z3 := ackOf_val L1 N1 E1 (L1.length : Int) N1 p c1
  have n2 : (y2.set p.toNat ⟨b0, b1, b2, b3, b4⟩).length = 3 := by rw [List.length_set]; exact m2
  have j3 : ∀ y ∈ y2.set p.toNat (⟨b0, b1, b2, b3, b4⟩ : Sd), SI y := set_all j2 ha
  have hs' : SI (rd_T65 (y2.set p.toNat ⟨b0, b1, b2, b3, b4⟩) p) := getD_all (by omega) j3
  by_cases hA : 0 ≤ p ∧ p < (N1.length : Int)
  · rw [if_pos hA] at z3
    have l5 := ackedV_len (rd_T65 (y2.set p.toNat ⟨b0, b1, b2, b3, b4⟩) p).f0 (rd_T65 (y2.set p.toNat ⟨b0, b1, b2, b3, b4⟩) p).f1 (rd_T65 (y2.set p.toNat ⟨b0, b1, b2, b3, b4⟩) p).f2 (rd_T65 (y2.set p.toNat ⟨b0, b1, b2, b3, b4⟩) p).f3 (rd_T65 (y2.set p.toNat ⟨b0, b1, b2, b3, b4⟩) p).f4 (rd N1 p)
    have e6 := impl_Acked_ev (rd_T65 (y2.set p.toNat ⟨b0, b1, b2, b3, b4⟩) p).f0 (rd_T65 (y2.set p.toNat ⟨b0, b1, b2, b3, b4⟩) p).f1 (rd_T65 (y2.set p.toNat ⟨b0, b1, b2, b3, b4⟩) p).f2 (rd_T65 (y2.set p.toNat ⟨b0, b1, b2, b3, b4⟩) p).f3 (rd_T65 (y2.set p.toNat ⟨b0, b1, b2, b3, b4⟩) p).f4 (rd N1 p) hs'
    have e5 := hearA_ev x0 x8 x10 x11 now y1 (y2.set p.toNat ⟨b0, b1, b2, b3, b4⟩) L1 N1 E1 (L1.length : Int) N1 p (rd N1 p) h0 (by omega) hs'
    refine ⟨y1, (y2.set p.toNat ⟨b0, b1, b2, b3, b4⟩).set p.toNat (aS (ackedV (rd_T65 (y2.set p.toNat ⟨b0, b1, b2, b3, b4⟩) p).f0 (rd_T65 (y2.set p.toNat ⟨b0, b1, b2, b3, b4⟩) p).f1 (rd_T65 (y2.set p.toNat ⟨b0, b1, b2, b3, b4⟩) p).f2 (rd_T65 (y2.set p.toNat ⟨b0, b1, b2, b3, b4⟩) p).f3 (rd_T65 (y2.set p.toNat ⟨b0, b1, b2, b3, b4⟩) p).f4 (rd N1 p))), L1, N1, E1, (L1.length : Int), N1, m1, by rw [List.length_set]; exact n2, j1, set_all j3 (Nat.le_trans l5 hs'), ⟨c0, c1, c2, c3, c1⟩, fun X h => ?_, fun X h => ?_⟩
    · refine Ev.step (fun _ => rfl) ?_
      simp only [spec_CalmWorld.l2]
      refine Ev.pos hp (g1 X ?_)
      refine Ev.step (fun _ => rfl) ?_
      simp only [spec_CalmWorld.l0]
      refine Ev.neg (by omega) (Ev.pos h0 (Ev.pos (by omega) (Ev.bind e1 (Ev.bind e3 (g3 X ?_)))))
      refine Ev.step (fun _ => rfl) ?_
      simp only [spec_CalmWorld.l1]
      rw [w64 (x := p + 1) (by omega) (by omega)]
      exact Ev.neg (by omega) (Ev.bindc z1 (Ev.bindc z3 (Ev.pos rfl (Ev.bind e5 h))))
    · refine Ev.step (fun _ => rfl) ?_
      simp only [impl_CalmWorld.l2]
      refine Ev.pos hp (g2 X ?_)
      refine Ev.step (fun _ => rfl) ?_
      simp only [impl_CalmWorld.l0]
      refine Ev.bind e0 (Ev.neg (by simp) (Ev.pos h0 (Ev.pos (by dsimp only; omega) (Ev.bind e2 (Ev.bind e4 (g4 X ?_))))))
      refine Ev.step (fun _ => rfl) ?_
      simp only [impl_CalmWorld.l1]
      rw [w64 (x := p + 1) (by omega) (by omega)]
      exact Ev.neg (by omega) (Ev.bindc z2 (Ev.bindc z3 (Ev.pos rfl (Ev.pos (by omega) (Ev.bind e6 h)))))
  · rw [if_neg hA] at z3
    refine ⟨y1, y2.set p.toNat ⟨b0, b1, b2, b3, b4⟩, L1, N1, E1, (L1.length : Int), N1, m1, n2, j1, j3, ⟨c0, c1, c2, c3, c1⟩, fun X h => ?_, fun X h => ?_⟩
    · refine Ev.step (fun _ => rfl) ?_
      simp only [spec_CalmWorld.l2]
      refine Ev.pos hp (g1 X ?_)
      refine Ev.step (fun _ => rfl) ?_
      simp only [spec_CalmWorld.l0]
      refine Ev.neg (by omega) (Ev.pos h0 (Ev.pos (by omega) (Ev.bind e1 (Ev.bind e3 (g3 X ?_)))))
      refine Ev.step (fun _ => rfl) ?_
      simp only [spec_CalmWorld.l1]
      rw [w64 (x := p + 1) (by omega) (by omega)]
      exact Ev.neg (by omega) (Ev.bindc z1 (Ev.bindc z3 (Ev.neg (by simp) h)))
    · refine Ev.step (fun _ => rfl) ?_
      simp only [impl_CalmWorld.l2]
      refine Ev.pos hp (g2 X ?_)
      refine Ev.step (fun _ => rfl) ?_
      simp only [impl_CalmWorld.l0]
      refine Ev.bind e0 (Ev.neg (by simp) (Ev.pos h0 (Ev.pos (by dsimp only; omega) (Ev.bind e2 (Ev.bind e4 (g4 X ?_))))))
      refine Ev.step (fun _ => rfl) ?_
      simp only [impl_CalmWorld.l1]
      rw [w64 (x := p + 1) (by omega) (by omega)]
      exact Ev.neg (by omega) (Ev.bindc z2 (Ev.bindc z3 (Ev.neg (by simp) h)))
theorem threeSteps (hc : 0 ≤ c ∧ c ≤ 1000) (hn : 0 ≤ now ∧ now ≤ 1000000000) (x1 : List Rg) (x2 : List Sd) (L : List Enn) (N : List Int) (E : List Err) (a : Int) (A : List Int) (l1 : x1.length = 3) (l2 : x2.length = 3) (i1 : ∀ y ∈ x1, RI y) (i2 : ∀ y ∈ x2, SI y) (K : KIn L N E A) :
    ∃ y1 y2 L' N' E' a' A', y1.length = 3 ∧ y2.length = 3 ∧ (∀ y ∈ y1, RI y) ∧ (∀ y ∈ y2, SI y) ∧ KIn L' N' E' A' ∧
      (∀ X, Ev (fun k => spec_CalmWorld.l3 k a1 x0 y1 y2 L' N' E' a' A' x8 now x10 x11 (c + 1)) X → Ev (fun k => spec_CalmWorld.l2 k a1 c x0 x1 x2 L N E a A x8 now x10 x11 0) X) ∧
      (∀ X, Ev (fun k => impl_CalmWorld.l3 k a1 x0 y1 y2 L' N' E' a' A' y8 now x10 x11 (c + 1)) X → Ev (fun k => impl_CalmWorld.l2 k a1 c x0 x1 x2 L N E a A y8 now x10 x11 0) X) := by
  obtain ⟨y1, y2, L1, N1, E1, b1, A1, m1, m2, j1, j2, K1, g1, h1⟩ := pidStep x0 x8 y8 x10 x11 a1 c 0 now (by omega) (by omega) hn x1 x2 L N E a A l1 l2 i1 i2 K
  obtain ⟨z1, z2, L2, N2, E2, b2, A2, n1, n2, k1, k2, K2, g2, h2⟩ := pidStep x0 x8 y8 x10 x11 a1 c 1 now (by omega) (by omega) hn y1 y2 L1 N1 E1 b1 A1 m1 m2 j1 j2 K1
  obtain ⟨u1, u2, L3, N3, E3, b3, A3, o1, o2, p1, p2, K3, g3, h3⟩ := pidStep x0 x8 y8 x10 x11 a1 c 2 now (by omega) (by omega) hn z1 z2 L2 N2 E2 b2 A2 n1 n2 k1 k2 K2
  refine ⟨u1, u2, L3, N3, E3, b3, A3, o1, o2, p1, p2, K3, fun X h => g1 X (g2 X (g3 X ?_)), fun X h => h1 X (h2 X (h3 X ?_))⟩
  · refine Ev.step (fun _ => rfl) ?_
    simp only [spec_CalmWorld.l2]
    rw [w64 (x := c + 1) (by omega) (by omega)]
    exact Ev.neg (by omega) h
  · refine Ev.step (fun _ => rfl) ?_
    simp only [impl_CalmWorld.l2]
    rw [w64 (x := c + 1) (by omega) (by omega)]
    exact Ev.neg (by omega) h
end
theorem calmRounds (x0 : List (List (List Ins))) (y8 : List Lt) (x10 : List Int) (x11 : List Sn) (a1 : Int) : ∀ (m : Nat) (c now : Int) (x1 : List Rg) (x2 : List Sd) (L : List Enn) (N : List Int) (E : List Err) (a : Int) (A : List Int), 0 ≤ c → c + m = max 0 (min a1 40) → 0 ≤ now → now + 5 * m ≤ 1000000 → x1.length = 3 → x2.length = 3 → (∀ y ∈ x1, RI y) → (∀ y ∈ x2, SI y) → KIn L N E A →
    ∃ z1 z2 L' N' E' a' A' now', z1.length = 3 ∧ z2.length = 3 ∧ (∀ y ∈ z1, RI y) ∧ (∀ y ∈ z2, SI y) ∧ KIn L' N' E' A' ∧
      Ev (fun k => spec_CalmWorld.l3 k a1 x0 x1 x2 L N E a A [] now x10 x11 c) (x0, z1, z2, L', N', E', a', A', [], now', x10, x11) ∧
      Ev (fun k => impl_CalmWorld.l3 k a1 x0 x1 x2 L N E a A y8 now x10 x11 c) (x0, z1, z2, L', N', E', a', A', [], now', x10, x11) := by
  intro m
  induction m with
  | zero =>
    intro c now x1 x2 L N E a A h0 hm hn hn' l1 l2 i1 i2 K
    refine ⟨x1, x2, L, N, E, a, A, now, l1, l2, i1, i2, K, ?_, ?_⟩
    · refine Ev.step (fun _ => rfl) ?_
      simp only [spec_CalmWorld.l3]
      by_cases h : c < a1
      · exact Ev.pos h (Ev.neg (by omega) (Ev.now _))
      · exact Ev.neg h (Ev.now _)
    · refine Ev.step (fun _ => rfl) ?_
      simp only [impl_CalmWorld.l3]
      exact Ev.neg (by omega) (Ev.now _)
  | succ m ih =>
    intro c now x1 x2 L N E a A h0 hm hn hn' l1 l2 i1 i2 K
    obtain ⟨r0, r1, r2, rfl⟩ : ∃ r0 r1 r2, x1 = [r0, r1, r2] := by
      match x1, l1 with
      | [r0, r1, r2], _ => exact ⟨r0, r1, r2, rfl⟩
    have q0 : RI r0 := i1 r0 (by simp)
    have q1 : RI r1 := i1 r1 (by simp)
    have q2 : RI r2 := i1 r2 (by simp)
    have e1 := specRefill_ev x0 r0 r1 r2 x2 L N E a A [] now x10 x11 q0 q1 q2 (by omega)
    have e2 := implLater_ev x0 r0 r1 r2 x2 L N E a A y8 now x10 x11 q0 q1 q2 (by omega)
    obtain ⟨y1, y2, L1, N1, E1, b1, A1, m1, m2, j1, j2, K1, g1, g2⟩ := threeSteps x0 [] y8 x10 x11 a1 c (now + 5) (by omega) (by omega) [refR r0, refR r1, refR r2] x2 L N E a A rfl l2 (fun y hy => by
      simp only [List.mem_cons, List.not_mem_nil, or_false] at hy
      rcases hy with rfl | rfl | rfl
      · exact refR_RI q0
      · exact refR_RI q1
      · exact refR_RI q2) i2 K
    obtain ⟨z1, z2, L2, N2, E2, b2, A2, now2, n1, n2, k1, k2, K2, f1, f2⟩ := ih (c + 1) (now + 5) y1 y2 L1 N1 E1 b1 A1 (by omega) (by omega) (by omega) (by omega) m1 m2 j1 j2 K1
    refine ⟨z1, z2, L2, N2, E2, b2, A2, now2, n1, n2, k1, k2, K2, ?_, ?_⟩
    · refine Ev.step (fun _ => rfl) ?_
      simp only [spec_CalmWorld.l3]
      exact Ev.pos (by omega) (Ev.pos (by omega) (Ev.bind e1 (g1 _ f1)))
    · refine Ev.step (fun _ => rfl) ?_
      simp only [impl_CalmWorld.l3]
      exact Ev.pos (by omega) (Ev.bind e2 (g2 _ f2))
theorem calmWorld_ev (x0 : List (List (List Ins))) (x1 : List Rg) (x2 : List Sd) (x3 : List Enn) (x4 : List Int) (x5 : List Err) (x6 : Int) (x7 : List Int) (x8 : List Lt) (x9 : Int) (x10 : List Int) (x11 : List Sn) (n : Int)
    (c0 : FitL (FitL (FitL FitA)) x0) (c1 : FitL Fit67 x1) (c2 : FitL Fit65 x2) (c3 : FitL FitA x3) (c4 : FitL FitA x4) (c5 : FitL FitA x5) (c7 : FitL FitA x7) (c8 : FitL Fit151 x8) (c10 : FitL FitA x10) (c11 : FitL FitA x11)
    (ht : ∀ y ∈ x1, -9223372036854775808 ≤ y.f1 ∧ y.f1 ≤ 9223372036854775807) (hb : I64s x4) :
    ∃ g1 g2 g3 g4 g5 g6 g7 g8 g9, FitL Fit67 g1 ∧ FitL Fit65 g2 ∧ FitL FitA g3 ∧ FitL FitA g4 ∧ FitL FitA g5 ∧ FitL FitA g7 ∧ FitL Fit151 g8 ∧
      Ev (fun k => spec_CalmWorld.f k x0 x1 x2 x3 x4 x5 x6 x7 x8 x9 x10 x11 n) (x0, g1, g2, g3, g4, g5, g6, g7, g8, g9, x10, x11) ∧
      Ev (fun k => impl_CalmWorld.f k x0 x1 x2 x3 x4 x5 x6 x7 x8 x9 x10 x11 n) (x0, g1, g2, g3, g4, g5, g6, g7, g8, g9, x10, x11) := by
  obtain ⟨e1, e2⟩ := copyWorld_ev x0 x1 x2 x3 x4 x5 x6 x7 x8 x9 x10 x11 c0 c1 c2 c3.1 c4.1 c5.1 c7.1 c8.1 c10.1 c11.1
  have w1 : spec_l21Whole.f x0 x1 x2 x3 x4 x5 x6 x7 x8 x9 x10 x11 = some (decide (x0.length = 3 ∧ x1.length = 3 ∧ x2.length = 3)) := by
    unfold spec_l21Whole.f
    by_cases h0 : x0.length = 3
    · by_cases h1 : x1.length = 3
      · rw [if_pos (by omega), if_pos (by omega)]
        by_cases h2 : x2.length = 3
        · simp [h0, h1, h2]
        · simp [h0, h1, h2]; omega
      · rw [if_pos (by omega), if_neg (by omega)]; simp [h1]
    · rw [if_neg (by omega)]; simp [h0]
  have w2 : impl_World_hasPids.f x0 x1 x2 x3 x4 x5 x6 x7 x8 x9 x10 x11 = some (decide (x0.length = 3 ∧ x1.length = 3 ∧ x2.length = 3)) := w1
  have w3 : impl_within.f x9 0 100000 = some (decide (0 ≤ x9 ∧ x9 ≤ 100000)) := spec_l01In_of _ _ _
  unfold spec_CalmWorld.f impl_CalmWorld.f
  by_cases hw : x0.length = 3 ∧ x1.length = 3 ∧ x2.length = 3
  · by_cases hn : 0 ≤ x9 ∧ x9 ≤ 100000
    · obtain ⟨_, h1, h2⟩ := id hw
      obtain ⟨z1, z2, L', N', E', a', A', now', n1, n2, k1, k2, ⟨d0, d1, d2, d3, d4⟩, f1, f2⟩ := calmRounds x0 x8 x10 x11 n (max 0 (min n 40)).toNat 0 x9 x1 x2 x3 x4 x5 x6 x7 (by omega) (by omega) hn.1 (by omega) h1 h2 (fun y hy => ⟨(c1.2 y hy).1, ht y hy⟩) (fun y hy => (c2.2 y hy).1) ⟨c3.1, c4.1, hb, c5.1, c7.1⟩
      refine ⟨z1, z2, L', N', E', a', A', [], now', ⟨by omega, fun y hy => ⟨(k1 y hy).1, fun _ _ => trivial⟩⟩, ⟨by omega, fun y hy => ⟨k2 y hy, fun _ _ => trivial⟩⟩, ⟨d0, fun _ _ => trivial⟩, ⟨d1, fun _ _ => trivial⟩, ⟨d3, fun _ _ => trivial⟩, ⟨d4, fun _ _ => trivial⟩, ⟨by simp, fun y hy => by simp at hy⟩, ?_, ?_⟩
      · exact Ev.bind e1 (Ev.bindc w1 (Ev.pos (by simpa using hw) (Ev.bindc (spec_l01In_of _ _ _) (Ev.pos (by simpa using hn) f1))))
      · exact Ev.bind e2 (Ev.bindc w3 (Ev.pos (by simpa using hn) (Ev.bindc w2 (Ev.pos (by simpa using hw) f2))))
    · refine ⟨x1, x2, x3, x4, x5, x6, x7, x8, x9, c1, c2, c3, c4, c5, c7, c8, ?_, ?_⟩
      · exact Ev.bind e1 (Ev.bindc w1 (Ev.pos (by simpa using hw) (Ev.bindc (spec_l01In_of _ _ _) (Ev.neg (by simpa using hn) (Ev.now _)))))
      · exact Ev.bind e2 (Ev.bindc w3 (Ev.neg (by simpa using hn) (Ev.now _)))
  · refine ⟨x1, x2, x3, x4, x5, x6, x7, x8, x9, c1, c2, c3, c4, c5, c7, c8, ?_, ?_⟩
    · exact Ev.bind e1 (Ev.bindc w1 (Ev.neg (by simpa using hw) (Ev.now _)))
    · by_cases hn : 0 ≤ x9 ∧ x9 ≤ 100000
      · exact Ev.bind e2 (Ev.bindc w3 (Ev.pos (by simpa using hn) (Ev.bindc w2 (Ev.neg (by simpa using hw) (Ev.now _)))))
      · exact Ev.bind e2 (Ev.bindc w3 (Ev.neg (by simpa using hn) (Ev.now _)))
theorem pure : Pure := by
  intro w0 w1 w2 w3 w4 w5 w6 w7 w8 w9 w10 w11 nn h0 h1 h2 h3 h4 h5 h6 h7 h8 h9 h10 h11 hp
  refine Ev.rounds ?_
  unfold laws_FnExactCalmWorld.f
  obtain ⟨v, hv, h⟩ := szWorld_ev w0 w1 w2 w3 w4 w5 w6 w7 w8 w9 w10 w11 1048576 h0 h1 h2 h3 h4 h5 h7 h8 h10 h11 (by omega) (by omega)
  refine Ev.bind hv ?_
  rcases h with h | ⟨_, _, n0, n1, n2, n3, n4, n5, n7, n8, n10, n11⟩
  · exact Ev.pos h (Ev.now _)
  refine Ev.neg (by omega) ?_
  have ht : ∀ y ∈ w1.map cvS187_S67, -9223372036854775808 ≤ y.f1 ∧ y.f1 ≤ 9223372036854775807 := fun y hy => by
    obtain ⟨x, hx, rfl⟩ := List.mem_map.1 hy
    exact i64_of (h1.2 x hx).2.1
  have hb : I64s w4 := fun v hv => i64_of (h4.2 v hv)
  have e1 := toWorld_ev w0 w1 w2 w3 w4 w5 w6 w7 w8 w9 w10 w11 n0 n1 n2 n3 n4 n5 n7 n8 n10 n11
  have c0 : FitL (FitL (FitL FitA)) (w0.map (List.map (List.map cvS308_S234))) := ⟨by rw [List.length_map]; exact n0.1, fun x hx => by
    obtain ⟨y, hy, rfl⟩ := List.mem_map.1 hx
    have := n0.2 y hy
    exact ⟨by rw [List.length_map]; exact this.1, fun x hx => by
      obtain ⟨z, hz, rfl⟩ := List.mem_map.1 hx
      exact ⟨by rw [List.length_map]; exact (this.2 z hz).1, fun _ _ => trivial⟩⟩⟩
  have c1 : FitL Fit67 (w1.map cvS187_S67) := ⟨by rw [List.length_map]; exact n1.1, fun x hx => by
    obtain ⟨y, hy, rfl⟩ := List.mem_map.1 hx
    exact ⟨by show (List.map _ _).length ≤ _; rw [List.length_map]; exact (n1.2 y hy).1, fun _ _ => trivial⟩⟩
  have c2 : FitL Fit65 (w2.map cvS190_S65) := ⟨by rw [List.length_map]; exact n2.1, fun x hx => by
    obtain ⟨y, hy, rfl⟩ := List.mem_map.1 hx
    exact ⟨by show (List.map _ _).length ≤ _; rw [List.length_map]; exact (n2.2 y hy).1, fun _ _ => trivial⟩⟩
  have c3 : FitL FitA (w3.map cvS268_S139) := ⟨by rw [List.length_map]; exact n3.1, fun _ _ => trivial⟩
  have c5 : FitL FitA (w5.map cvS270_S154) := ⟨by rw [List.length_map]; exact n5.1, fun _ _ => trivial⟩
  have c8 : FitL Fit151 (w8.map cvS194_S151) := ⟨by rw [List.length_map]; exact n8.1, fun x hx => by
    obtain ⟨y, hy, rfl⟩ := List.mem_map.1 hx
    exact n8.2 y hy⟩
  have c11 : FitL FitA (w11.map cvS210_S59) := ⟨by rw [List.length_map]; exact n11.1, fun _ _ => trivial⟩
  generalize w0.map (List.map (List.map cvS308_S234)) = x0 at e1 c0
  generalize w1.map cvS187_S67 = x1 at e1 c1 ht
  generalize w2.map cvS190_S65 = x2 at e1 c2
  generalize w3.map cvS268_S139 = x3 at e1 c3
  generalize w5.map cvS270_S154 = x5 at e1 c5
  generalize w8.map cvS194_S151 = x8 at e1 c8
  generalize w11.map cvS210_S59 = x11 at e1 c11
  obtain ⟨g1, g2, g3, g4, g5, g6, g7, g8, g9, d1, d2, d3, d4, d5, d7, d8, f3, f4⟩ := calmWorld_ev x0 x1 x2 x3 w4 x5 w6 w7 x8 w9 w10 x11 nn c0 c1 c2 c3 n4 c5 n7 c8 n10 c11 ht hb
  obtain ⟨m0, m1, m2, m3, m4, m5, m7, m8, m10, m11⟩ := world_count x0 x1 x2 x3 w4 x5 w7 x8 w10 x11 c0 c1 c2 c3 n4 c5 n7 c8 n10 c11
  have e2 := eqWorld_ev x0 x1 x2 x3 w4 x5 w6 w7 x8 w9 w10 x11 c0 c1 c2 c3 n4 c5 n7 c8 n10 c11
  have e3 := markWorld_ev x0 x1 x2 x3 w4 x5 w6 w7 x8 w9 w10 x11 1 c0 c1 c2 c3 n4 c5 n7 c8 n10 c11 (by omega) (by omega)
  obtain ⟨u0, u1, u2, u3, u4, u5, u7, u8, u10, u11⟩ := world_count x0 g1 g2 g3 g4 g5 g7 g8 w10 x11 c0 d1 d2 d3 d4 d5 d7 d8 n10 c11
  have e4 := eqWorld_ev x0 g1 g2 g3 g4 g5 g6 g7 g8 g9 w10 x11 c0 d1 d2 d3 d4 d5 d7 d8 n10 c11
  have e5 := markWorld_ev x0 g1 g2 g3 g4 g5 g6 g7 g8 g9 w10 x11 1 c0 d1 d2 d3 d4 d5 d7 d8 n10 c11 (by omega) (by omega)
  have e6 := heldWorld_ev x0 g1 g2 g3 g4 g5 g6 g7 g8 g9 w10 x11 1 c0 d1 d2 d3 d4 d5 d7 d8 n10 c11 (by omega) (by omega)
  repeat (first
    | (with_reducible refine Ev.bind e1 ?_; try dsimp only)
    | (with_reducible refine Ev.bind e2 ?_; try dsimp only)
    | (with_reducible refine Ev.bind e3 ?_; try dsimp only)
    | (with_reducible refine Ev.bind f3 ?_; try dsimp only)
    | (with_reducible refine Ev.bind f4 ?_; try dsimp only)
    | (with_reducible refine Ev.bind e4 ?_; try dsimp only)
    | (with_reducible refine Ev.bind e5 ?_; try dsimp only)
    | (with_reducible refine Ev.bind e6 ?_; try dsimp only)
    | (refine Ev.neg (by omega) ?_)
    | (refine Ev.pos (by first | rfl | omega) ?_)
    | (refine Ev.neg (by simp) ?_)
    | exact Ev.now _)
end Go.Proofs.YtkkglhhkpihmgaaGreat.PFnExactCalmWorld
namespace Go.Proofs.YtkkglhhkpihmgaaGreat
/-- The given statement. -/
theorem fnExactCalmWorld_holds : Rows.FnExactCalmWorldSaid := AFnExactCalmWorld.row PFnExactCalmWorld.pure
#print axioms fnExactCalmWorld_holds
end Go.Proofs.YtkkglhhkpihmgaaGreat
