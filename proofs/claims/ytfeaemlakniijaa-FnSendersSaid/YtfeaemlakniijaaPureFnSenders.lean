/- laws.FnSenders returns true at every input. No condition. -/
import Derived.Test.YtfeaemlakniijaaExFnSenders
import Derived.Test.YtfeaemlakniijaaArgFnSenders
set_option linter.unusedVariables false
set_option linter.unusedSimpArgs false
namespace Go.Proofs.Ytfeaemlakniijaa.PFnSenders
open Go.RowKit Go.Proofs.YtfeaemlakniijaaA Go.Proofs.YtfeaemlakniijaaL Go.Proofs.Ytfeaemlakniijaa.AFnSenders
theorem i64_of {x : Int} (h : OkN .i64 x) : -9223372036854775808 ≤ x ∧ x ≤ 9223372036854775807 := bounds_i64 h
theorem rd34 {l : List S34} {i : Nat} {x : S34} (h : l[i]? = some x) : rd_T34 l (i : Int) = x := by
  unfold rd_T34; simpa using get_of l z34 h
theorem rd36 {l : List S36} {i : Nat} {x : S36} (h : l[i]? = some x) : rd_T36 l (i : Int) = x := by
  unfold rd_T36; simpa using get_of l z36 h
theorem itemok_eq (a b c d : Int) : impl_ItemOk.f a b c d = spec_ItemOk.f a b c d := rfl
def itemOk (x : S34) : Bool := decide ((x.f0 = 1 ∧ (0 ≤ x.f1 ∧ x.f1 ≤ 4294967295) ∧ (0 ≤ x.f2 ∧ x.f2 ≤ 4294967295) ∧ x.f3 = 0) ∨ (x.f0 = 2 ∧ (1 ≤ x.f3 ∧ x.f3 ≤ 1000000000) ∧ x.f1 = 0 ∧ x.f2 = 0))
theorem spec_l01In_of (x lo hi : Int) : spec_l01In.f x lo hi = some (decide (lo ≤ x ∧ x ≤ hi)) := by
  unfold spec_l01In.f
  rw [ite_some]; congr 1; rw [Bool.eq_iff_iff]
  by_cases h : x ≥ lo <;> simp [h] <;> omega
theorem spec_ItemOk_of (x : S34) : spec_ItemOk.f x.f0 x.f1 x.f2 x.f3 = some (itemOk x) := by
  unfold spec_ItemOk.f itemOk spec_HalfOk.f
  simp only [spec_l01In_of, Option.bind_some, ite_some]
  congr 1; rw [Bool.eq_iff_iff]
  by_cases h1 : x.f0 = 1
  · simp [h1]
  · by_cases h2 : x.f0 = 2 <;> simp [h1, h2]
theorem impl_ItemOk_of (x : S34) : impl_ItemOk.f x.f0 x.f1 x.f2 x.f3 = some (itemOk x) := (itemok_eq _ _ _ _).trans (spec_ItemOk_of x)
def senderOk (a b : Int) (l : List S34) (c d : Int) : Bool := l.all itemOk && (decide ((0 ≤ a ∧ a ≤ 2) ∧ (1 ≤ b ∧ b ≤ 1000000000) ∧ l.length ≤ 3 ∧ (0 ≤ c ∧ c ≤ 1000000000) ∧ (d = 1 ∨ d = 2 ∨ d = 4)))
def senderRest (a b : Int) (n : Nat) (c d : Int) : Bool := decide ((0 ≤ a ∧ a ≤ 2) ∧ (1 ≤ b ∧ b ≤ 1000000000) ∧ n ≤ 3 ∧ (0 ≤ c ∧ c ≤ 1000000000) ∧ (d = 1 ∨ d = 2 ∨ d = 4))
theorem spec_SenderOk_ev (a b : Int) (l : List S34) (c d : Int) (hn : l.length ≤ 1048576) : Ev (fun k => spec_SenderOk.f k a b l c d) (senderOk a b l c d) := by
  unfold spec_SenderOk.f
  have := foldE_ev (σ := Unit) (ρ := Bool) (fun k _ i => spec_SenderOk.l0 k a b l c d i) l (fun _ x => if itemOk x then .ok () else .error false) (fun _ => senderRest a b l.length c d) (fun _ _ => True) ?_ ?_ ?_ l.length 0 () rfl (Nat.zero_le _) trivial
  · refine Ev.eq ?_ (by simpa using this)
    unfold senderOk
    rw [show decide _ = senderRest a b l.length c d from rfl]
    generalize senderRest a b l.length c d = z
    clear this hn
    induction l with
    | nil => simp [foldE]
    | cons x r ih =>
      cases h : itemOk x with
      | true => rw [foldE_on r (show (if itemOk x then Except.ok () else Except.error false) = .ok () by simp [h])]; simpa [h] using ih
      | false => rw [foldE_stop r (show (if itemOk x then Except.ok () else Except.error false) = .error false by simp [h])]; simp [h]
  · intro _ _
    refine Ev.step (f := fun _ => some (senderRest a b l.length c d)) (fun k => ?_) (Ev.now _)
    simp only [spec_SenderOk.l0]; rw [if_neg (by omega)]
    unfold senderRest
    simp only [spec_l01In_of, Option.bind_some, ite_some]
    congr 1; rw [Bool.eq_iff_iff]
    by_cases h8 : d = 1 <;> by_cases h9 : d = 2 <;> simp [h8, h9] <;> omega
  · intro i x s e hx hs he
    have hi := lt_of hx
    cases h : itemOk x with
    | true => rw [h] at he; cases he
    | false =>
      rw [h] at he; injection he with he; subst he
      refine Ev.step (f := fun _ => some false) (fun k => ?_) (Ev.now _)
      simp only [spec_SenderOk.l0]
      rw [if_pos (by omega), if_pos (by omega), rd34 hx, spec_ItemOk_of, h]
      rfl
  · intro i x s s' hx hs he
    have hi := lt_of hx
    cases h : itemOk x with
    | false => rw [h] at he; cases he
    | true =>
      refine ⟨trivial, fun r hr => ?_⟩
      refine Ev.step (fun k => ?_) hr
      simp only [spec_SenderOk.l0]
      rw [if_pos (by omega), if_pos (by omega), rd34 hx, spec_ItemOk_of, h, w64 (by omega) (by omega)]
      rfl
theorem impl_areItems_ev (l : List S34) (hn : l.length ≤ 1048576) : Ev (fun k => impl_areItems.f k l) (l.all itemOk) := by
  unfold impl_areItems.f
  refine all_ev (fun k i => impl_areItems.l0 k l i) l itemOk ?_ ?_ ?_
  · refine Ev.step (f := fun _ => some true) (fun k => ?_) (Ev.now _)
    simp only [impl_areItems.l0]; rw [if_neg (by omega)]
  · intro i x hx h
    have hi := lt_of hx
    refine Ev.step (f := fun _ => some false) (fun k => ?_) (Ev.now _)
    simp only [impl_areItems.l0]
    rw [if_pos (by omega), if_pos (by omega), rd34 hx, impl_ItemOk_of, h]
    rfl
  · intro i x r hx h hr
    have hi := lt_of hx
    refine Ev.step (fun k => ?_) hr
    simp only [impl_areItems.l0]
    rw [if_pos (by omega), if_pos (by omega), rd34 hx, impl_ItemOk_of, h, w64 (by omega) (by omega)]
    rfl
theorem impl_SenderOk_ev (a b : Int) (l : List S34) (c d : Int) (hn : l.length ≤ 1048576) : Ev (fun k => impl_SenderOk.f k a b l c d) (senderOk a b l c d) := by
  have e1 := impl_areItems_ev l hn
  unfold impl_SenderOk.f impl_isPid.f senderOk
  have e0 : ∀ x lo hi : Int, impl_within.f x lo hi = some (decide (lo ≤ x ∧ x ≤ hi)) := spec_l01In_of
  simp only [e0, Option.bind_some, decide_eq_true_eq, ite_some]
  refine Ev.both (fun h1 => Ev.both (fun h2 => Ev.both (fun h3 => Ev.bind e1 (Ev.some_ ?_)) (fun h3 => Ev.some_ ?_)) (fun h2 => Ev.some_ ?_)) (fun h1 => Ev.some_ ?_)
  · cases l.all itemOk
    · simp
    · simp only [if_true, Bool.true_and]
      rw [Bool.eq_iff_iff]
      by_cases h8 : d = 1 <;> by_cases h9 : d = 2 <;> simp [h8, h9] <;> omega
  · rw [decide_eq_false (by omega)]; simp
  · rw [decide_eq_false (by omega)]; simp
  · rw [decide_eq_false (by omega)]; simp
theorem senderOk_of {a b : Int} {l : List S34} {c d : Int} (h : senderOk a b l c d = true) : l.all itemOk = true ∧ (0 ≤ a ∧ a ≤ 2) ∧ (1 ≤ b ∧ b ≤ 1000000000) ∧ l.length ≤ 3 ∧ (0 ≤ c ∧ c ≤ 1000000000) ∧ (d = 1 ∨ d = 2 ∨ d = 4) := by
  unfold senderOk at h
  rw [Bool.and_eq_true] at h
  exact ⟨h.1, of_decide_eq_true h.2⟩
theorem spec_l18Copy_of (a b : Int) (l : List S34) (c d : Int) (hn : l.length ≤ 1048576) : spec_l18Copy.f a b l c d = some (a, b, l, c, d) := by
  unfold spec_l18Copy.f
  simp only [Option.bind_some, List.length_nil, List.nil_append]
  rw [if_pos (by omega)]
theorem impl_copyItems_of (l : List S34) (hn : l.length ≤ 1048576) : impl_copyItems.f l = some l := by
  unfold impl_copyItems.f
  simp only [Option.bind_some, List.length_nil, List.nil_append]
  rw [if_pos (by omega)]
theorem impl_copySender_of (a b : Int) (l : List S34) (c d : Int) (hn : l.length ≤ 1048576) : impl_copySender.f a b l c d = some (a, b, l, c, d) := by
  unfold impl_copySender.f
  rw [impl_copyItems_of l hn]; rfl
abbrev It := S34
theorem spec_l16Copy_of (l : List It) (a b c : Int) (hn : l.length ≤ 1048576) : spec_l16Copy.f l a b c = some (l, a, b, c) := by
  unfold spec_l16Copy.f
  simp only [List.length_nil, List.nil_append]
  rw [if_pos (by omega)]
def drainV (l : List It) (a b c : Int) : List It × Int × Int × Int × Int × Int × Int × Int × Bool :=
  if (l.length : Int) > 0 then (l.drop 1, a, b, c, (rd_T34 l 0).f0, (rd_T34 l 0).f1, (rd_T34 l 0).f2, (rd_T34 l 0).f3, true) else if b = 0 then (l, a, b, c, 0, 0, 0, 0, false) else (l, a, 0, c, 2, 0, 0, b, true)
theorem drainV_len (l : List It) (a b c : Int) : (drainV l a b c).1.length ≤ l.length := by
  unfold drainV
  split
  · simp
  · split <;> exact Nat.le_refl _
theorem spec_Drained_of (l : List It) (a b c : Int) (hn : l.length ≤ 1048576) : spec_Drained.f l a b c = some (drainV l a b c) := by
  unfold spec_Drained.f drainV
  rw [spec_l16Copy_of l a b c hn]
  simp only [Option.bind_some, List.length_nil, List.nil_append]
  by_cases h : (l.length : Int) > 0
  · simp only [if_pos h, if_pos (show (0 : Int) < (l.length : Int) by omega), if_pos (show (1 : Int) ≤ (l.length : Int) by omega), if_pos (show 0 + (l.drop 1).length < 4398046511104 by rw [List.length_drop]; omega)]
  · rw [if_neg h, if_neg h]; split <;> rfl
def len16 (x : It) : Int := if x.f0 = 2 then x.f3 else 1
def ringSum (l : List It) (s : Int) : Int := l.foldl (fun s x => wrap64 (s + len16 x)) s
def ringIn (l : List It) (a b c : Int) : Bool := decide (l.length ≤ 4 ∧ (0 ≤ a ∧ a ≤ 5) ∧ (0 ≤ b ∧ b ≤ 1000000000) ∧ (0 ≤ c ∧ c ≤ 1000000000))
def ringOk (l : List It) (a b c : Int) : Bool := ringIn l a b c && (l.all itemOk && decide (ringSum l b ≤ c))
theorem spec_RingOk_loop (l : List It) (a b c : Int) (hn : l.length ≤ 1048576) (s : Int) : Ev (fun k => spec_RingOk.l0 k l a b c s 0) (l.all itemOk && decide (ringSum l s ≤ c)) := by
  have := foldE_ev (σ := Int) (ρ := Bool) (fun k s i => spec_RingOk.l0 k l a b c s i) l (fun s x => if itemOk x then .ok (wrap64 (s + len16 x)) else .error false) (fun s => decide (s ≤ c)) (fun _ _ => True) ?_ ?_ ?_ l.length 0 s rfl (Nat.zero_le _) trivial
  · refine Ev.eq ?_ (by simpa using this)
    clear this hn
    induction l generalizing s with
    | nil => rfl
    | cons x r ih =>
      cases h : itemOk x with
      | true => rw [foldE_on r (show (if itemOk x then Except.ok (wrap64 (s + len16 x)) else Except.error false) = .ok (wrap64 (s + len16 x)) by simp [h])]; rw [ih, List.all_cons, h]; rfl
      | false => rw [foldE_stop r (show (if itemOk x then Except.ok (wrap64 (s + len16 x)) else Except.error false) = .error false by simp [h])]; simp [h]
  · intro s _
    refine Ev.step (f := fun _ => some (decide (s ≤ c))) (fun k => ?_) (Ev.now _)
    simp only [spec_RingOk.l0]; rw [if_neg (by omega)]
  · intro i x s e hx hs he
    have hi := lt_of hx
    cases h : itemOk x with
    | true => rw [h] at he; cases he
    | false =>
      rw [h] at he; injection he with he; subst he
      refine Ev.step (f := fun _ => some false) (fun k => ?_) (Ev.now _)
      simp only [spec_RingOk.l0]
      rw [if_pos (by omega), if_pos (by omega), rd34 hx, spec_ItemOk_of, h]
      rfl
  · intro i x s s' hx hs he
    have hi := lt_of hx
    cases h : itemOk x with
    | false => rw [h] at he; cases he
    | true =>
      rw [h] at he; injection he with he; subst he
      refine ⟨trivial, fun r hr => ?_⟩
      refine Ev.step (fun k => ?_) hr
      simp only [spec_RingOk.l0]
      rw [if_pos (by omega), if_pos (by omega), rd34 hx, spec_ItemOk_of, h, w64 (x := (i : Int) + 1) (by omega) (by omega)]
      simp only [Option.bind_some, if_true]
      have e : spec_l16Length.f x.f0 x.f1 x.f2 x.f3 = some (len16 x) := by unfold spec_l16Length.f len16; split <;> rfl
      rw [e]; rfl
theorem spec_RingOk_ev (l : List It) (a b c : Int) (hn : l.length ≤ 1048576) : Ev (fun k => spec_RingOk.f k l a b c) (ringOk l a b c) := by
  have e1 := spec_RingOk_loop l a b c hn b
  unfold spec_RingOk.f ringOk
  generalize (l.all itemOk && decide (ringSum l b ≤ c)) = z at e1
  have no : ∀ h : ringIn l a b c = false, (ringIn l a b c && z) = false := fun h => by rw [h]; rfl
  have yes : ∀ h : ringIn l a b c = true, (ringIn l a b c && z) = z := fun h => by rw [h]; rfl
  by_cases h0 : (l.length : Int) > 4
  · exact Ev.pos h0 (Ev.some_ (no (decide_eq_false (by omega))).symm)
  refine Ev.neg h0 (Ev.bindc (spec_l01In_of _ _ _) (Ev.both (fun h1 => Ev.bindc (spec_l01In_of _ _ _) (Ev.both (fun h2 => Ev.bindc (spec_l01In_of _ _ _) (Ev.both (fun h3 => Ev.eq (yes ?_).symm e1) (fun h3 => Ev.some_ (no ?_).symm))) (fun h2 => Ev.some_ (no ?_).symm))) (fun h1 => Ev.some_ (no ?_).symm)))
  all_goals simp only [decide_eq_true_eq] at *
  · exact decide_eq_true (by omega)
  · exact decide_eq_false (by omega)
  · exact decide_eq_false (by omega)
  · exact decide_eq_false (by omega)
/-- What Taken gives. -/
def takenIf (a b : Int) (l : List It) (c d : Int) (R : List It) (ra rb rc now : Int) : Bool := senderOk a b l c d && (ringOk R ra rb rc && ((drainV R ra rb rc).2.2.2.2.2.2.2.2 && decide ((l.length : Int) < 3 ∧ 0 ≤ now ∧ now ≤ 1000000000)))
def takenV (a b : Int) (l : List It) (c d : Int) (R : List It) (ra rb rc now : Int) : Int × Int × List It × Int × Int × List It × Int × Int × Int × Bool :=
  if takenIf a b l c d R ra rb rc now = true then (a, b, l ++ [⟨(drainV R ra rb rc).2.2.2.2.1, (drainV R ra rb rc).2.2.2.2.2.1, (drainV R ra rb rc).2.2.2.2.2.2.1, (drainV R ra rb rc).2.2.2.2.2.2.2.1⟩], now, 1, (drainV R ra rb rc).1, (drainV R ra rb rc).2.1, (drainV R ra rb rc).2.2.1, (drainV R ra rb rc).2.2.2.1, true)
  else (a, b, l, c, d, R, ra, rb, rc, false)
theorem takenV_len (a b : Int) (l : List It) (c d : Int) (R : List It) (ra rb rc now : Int) (hl : l.length ≤ 1048576) (hR : R.length ≤ 1048576) : (takenV a b l c d R ra rb rc now).2.2.1.length ≤ 1048577 ∧ (takenV a b l c d R ra rb rc now).2.2.2.2.2.1.length ≤ 1048576 := by
  unfold takenV
  split
  · have := drainV_len R ra rb rc
    constructor
    · simp; omega
    · show (drainV R ra rb rc).1.length ≤ _; omega
  · exact ⟨by show l.length ≤ _; omega, hR⟩
theorem spec_Taken_ev (a b : Int) (l : List It) (c d : Int) (R : List It) (ra rb rc now : Int) (hl : l.length ≤ 1048576) (hR : R.length ≤ 1048576) : Ev (fun k => spec_Taken.f k a b l c d R ra rb rc now) (takenV a b l c d R ra rb rc now) := by
  unfold spec_Taken.f
  have jT : takenIf a b l c d R ra rb rc now = false → Ev (fun k => spec_Taken.j0 k R ra rb rc now (a, b, l, c, d) (drainV R ra rb rc) true) (takenV a b l c d R ra rb rc now) := by
    intro h
    refine Ev.step (fun _ => rfl) ?_
    simp only [spec_Taken.j0]
    refine Ev.pos (by simp) (Ev.bindc (spec_l16Copy_of R ra rb rc hR) (Ev.some_ ?_))
    unfold takenV; rw [if_neg (by rw [h]; simp)]
  have jF : takenIf a b l c d R ra rb rc now = true → Ev (fun k => spec_Taken.j0 k R ra rb rc now (a, b, l, c, d) (drainV R ra rb rc) false) (takenV a b l c d R ra rb rc now) := by
    intro h
    refine Ev.step (fun _ => rfl) ?_
    simp only [spec_Taken.j0]
    refine Ev.neg (by simp) (Ev.pos (by simp; omega) (Ev.some_ ?_))
    unfold takenV; rw [if_pos h]
  refine Ev.bindc (spec_l18Copy_of a b l c d hl) (Ev.bindc (spec_Drained_of R ra rb rc hR) (Ev.bind (spec_SenderOk_ev a b l c d hl) ?_))
  cases h1 : senderOk a b l c d with
  | false => exact Ev.neg (by simp) (jT (by simp [takenIf, h1]))
  | true =>
    refine Ev.pos rfl (Ev.bind (spec_RingOk_ev R ra rb rc hR) ?_)
    cases h2 : ringOk R ra rb rc with
    | false => exact Ev.neg (by simp) (jT (by simp [takenIf, h2]))
    | true =>
      refine Ev.pos rfl ?_
      cases h3 : (drainV R ra rb rc).2.2.2.2.2.2.2.2 with
      | false => exact Ev.neg (by simp) (jT (by simp [takenIf, h3]))
      | true =>
        refine Ev.pos rfl ?_
        by_cases h4 : (l.length : Int) ≥ 3
        · exact Ev.pos h4 (jT (by simp [takenIf]; omega))
        · refine Ev.neg h4 (Ev.bindc (spec_l01In_of _ _ _) ?_)
          by_cases h5 : 0 ≤ now ∧ now ≤ 1000000000
          · rw [decide_eq_true h5]; exact jF (by simp [takenIf, h1, h2, h3]; omega)
          · rw [decide_eq_false h5]; exact jT (by simp [takenIf]; omega)
def againV (a b : Int) (l : List S34) (c d now : Int) : Int × Int × (List S34) × Int × Int × Bool := if senderOk a b l c d = true ∧ l.length ≠ 0 ∧ c + d ≤ now then (a, b, l, now, min 4 (2 * d), true) else (a, b, l, c, d, false)
theorem againV_no {a b : Int} {l : List S34} {c d now : Int} (h : ¬ (senderOk a b l c d = true ∧ l.length ≠ 0 ∧ c + d ≤ now)) : (a, b, l, c, d, false) = againV a b l c d now := by unfold againV; rw [if_neg h]
theorem againV_yes {a b : Int} {l : List S34} {c d now : Int} (h : senderOk a b l c d = true ∧ l.length ≠ 0 ∧ c + d ≤ now) : (a, b, l, now, min 4 (2 * d), true) = againV a b l c d now := by unfold againV; rw [if_pos h]
theorem spec_Again_ev (a b : Int) (l : List S34) (c d now : Int) (hn : l.length ≤ 1048576) (hw : -9223372036854775808 ≤ now ∧ now ≤ 9223372036854775807) : Ev (fun k => spec_Again.f k a b l c d now) (againV a b l c d now) := by
  unfold spec_Again.f
  refine Ev.bindc (spec_l18Copy_of a b l c d hn) (Ev.bind (spec_SenderOk_ev a b l c d hn) ?_)
  cases hs : senderOk a b l c d with
  | false => exact Ev.eq (againV_no (fun x => by rw [hs] at x; exact absurd x.1 (by simp))) (Ev.neg (by simp) (Ev.now _))
  | true =>
    obtain ⟨_, ha, hb, hl, hc, hd⟩ := senderOk_of hs
    refine Ev.pos rfl ?_
    by_cases h0 : l.length = 0
    · exact Ev.eq (againV_no (fun x => x.2.1 h0)) (Ev.pos (by omega) (Ev.now _))
    · refine Ev.neg (by omega) ?_
      by_cases h1 : now < 0
      · exact Ev.eq (againV_no (fun x => by omega)) (Ev.pos h1 (Ev.now _))
      · refine Ev.neg h1 ?_
        rw [w64 (x := now - d) (by omega) (by omega)]
        by_cases h2 : now - d < c
        · exact Ev.eq (againV_no (fun x => by omega)) (Ev.pos h2 (Ev.now _))
        · refine Ev.eq (againV_yes ⟨hs, h0, by omega⟩) (Ev.neg h2 ?_)
          rw [w64 (x := 2 * d) (by omega) (by omega)]
          by_cases h3 : 2 * d > 4
          · refine Ev.pos h3 (Ev.some_ ?_); rw [Int.min_eq_left (by omega)]
          · refine Ev.neg h3 (Ev.some_ ?_); rw [Int.min_eq_right (by omega)]
theorem impl_Again_ev (a b : Int) (l : List S34) (c d now : Int) (hn : l.length ≤ 1048576) (hw : -9223372036854775808 ≤ now ∧ now ≤ 9223372036854775807) : Ev (fun k => impl_Again.f k a b l c d now) (againV a b l c d now) := by
  unfold impl_Again.f
  refine Ev.bindc (impl_copySender_of a b l c d hn) (Ev.bind (impl_SenderOk_ev a b l c d hn) ?_)
  cases hs : senderOk a b l c d with
  | false => exact Ev.eq (againV_no (fun x => by rw [hs] at x; exact absurd x.1 (by simp))) (Ev.neg (by simp) (Ev.now _))
  | true =>
    obtain ⟨_, ha, hb, hl, hc, hd⟩ := senderOk_of hs
    refine Ev.pos rfl ?_
    by_cases h0 : l.length = 0
    · exact Ev.eq (againV_no (fun x => x.2.1 h0)) (Ev.pos (by omega) (Ev.now _))
    · refine Ev.neg (by omega) ?_
      rw [w64 (x := c + d) (by omega) (by omega)]
      by_cases h1 : c + d > now
      · exact Ev.eq (againV_no (fun x => by omega)) (Ev.pos h1 (Ev.now _))
      · refine Ev.eq (againV_yes ⟨hs, h0, by omega⟩) (Ev.neg h1 (Ev.some_ ?_))
        rw [w64 (x := 2 * d) (by omega) (by omega)]
theorem againV_len (a b : Int) (l : List S34) (c d now : Int) : (againV a b l c d now).2.2.1 = l := by unfold againV; split <;> rfl
def ackedV (a b : Int) (l : List S34) (c d q : Int) : Int × Int × (List S34) × Int × Int := if senderOk a b l c d = true ∧ b + 1 ≤ q ∧ q ≤ b + l.length then (a, q, l.drop (q - b).toNat, c, 1) else (a, b, l, c, d)
theorem spec_loop (a b : Int) (l : List S34) (c d q : Int) (hn : l.length ≤ 3) (hb : 1 ≤ b ∧ b ≤ 1000000000) (hs : senderOk a b l c d = true) : ∀ (m i : Nat), l.length - i = m → i ≤ l.length → (∀ j : Nat, j < i → b + j ≠ q) →
    Ev (fun k => spec_Acked.l0 k a b l c d q (a, b, l, c, d) (i : Int)) (ackedV a b l c d q) := by
  have hend : ∀ i : Nat, i ≤ l.length → b + (i : Int) = q → Ev (fun k => spec_Acked.j0 k a b l c d q (a, b, l, c, d) (i : Int)) (ackedV a b l c d q) := by
    intro i hi hq
    refine Ev.step (fun _ => rfl) ?_
    simp only [spec_Acked.j0]
    refine Ev.pos (by rw [w64 (by omega) (by omega)]; exact hq) ?_
    unfold ackedV
    by_cases h0 : (i : Int) = 0
    · refine Ev.pos h0 (Ev.some_ ?_); rw [if_neg (by omega)]
    · refine Ev.neg h0 (Ev.pos (by omega) (Ev.pos (by omega) (Ev.pos ?_ (Ev.some_ ?_))))
      · simp only [List.length_nil, List.length_drop]; omega
      · rw [if_pos ⟨hs, by omega, by omega⟩, show (q - b).toNat = ((i : Int)).toNat by omega]; rfl
  intro m
  induction m with
  | zero =>
    intro i hm hi hj
    have : i = l.length := by omega
    subst this
    refine Ev.step (fun _ => rfl) ?_
    simp only [spec_Acked.l0]
    refine Ev.neg (by omega) ?_
    by_cases hq : b + (l.length : Int) = q
    · exact hend l.length hi hq
    · refine Ev.step (fun _ => rfl) ?_
      simp only [spec_Acked.j0]
      refine Ev.neg (by rw [w64 (by omega) (by omega)]; exact hq) (Ev.some_ ?_)
      unfold ackedV
      rw [if_neg ?_]
      rintro ⟨_, h1, h2⟩
      by_cases h3 : q = b + l.length
      · omega
      · exact hj (q - b).toNat (by omega) (by omega)
  | succ m ih =>
    intro i hm hi hj
    refine Ev.step (fun _ => rfl) ?_
    simp only [spec_Acked.l0]
    refine Ev.pos (by omega) ?_
    by_cases hq : b + (i : Int) = q
    · exact Ev.pos (by rw [w64 (by omega) (by omega)]; exact hq) (hend i hi hq)
    · have h := ih (i + 1) (by omega) (by omega) (fun j hj' => by
        rcases Nat.lt_or_ge j i with h | h
        · exact hj j h
        · have : j = i := by omega
          subst this; exact hq)
      rw [w64 (x := b + (i : Int)) (by omega) (by omega), w64 (x := (i : Int) + 1) (by omega) (by omega)]
      exact Ev.neg hq h
theorem spec_Acked_ev (a b : Int) (l : List S34) (c d q : Int) (hn : l.length ≤ 1048576) : Ev (fun k => spec_Acked.f k a b l c d q) (ackedV a b l c d q) := by
  unfold spec_Acked.f
  refine Ev.bindc (spec_l18Copy_of a b l c d hn) (Ev.bind (spec_SenderOk_ev a b l c d hn) ?_)
  dsimp only
  cases hs : senderOk a b l c d with
  | false => refine Ev.neg (by simp) (Ev.some_ ?_); unfold ackedV; rw [hs, if_neg (by simp)]
  | true =>
    obtain ⟨_, ha, hb, hl, hc, hd⟩ := senderOk_of hs
    refine Ev.pos rfl ?_
    exact spec_loop a b l c d q hl hb hs l.length 0 rfl (Nat.zero_le _) (fun j hj => absurd hj (Nat.not_lt_zero _))
theorem impl_Acked_ev (a b : Int) (l : List S34) (c d q : Int) (hn : l.length ≤ 1048576) : Ev (fun k => impl_Acked.f k a b l c d q) (ackedV a b l c d q) := by
  unfold impl_Acked.f
  refine Ev.bindc (impl_copySender_of a b l c d hn) (Ev.bind (impl_SenderOk_ev a b l c d hn) ?_)
  dsimp only
  cases hs : senderOk a b l c d with
  | false => refine Ev.neg (by simp) (Ev.some_ ?_); unfold ackedV; rw [hs, if_neg (by simp)]
  | true =>
    obtain ⟨_, ha, hb, hl, hc, hd⟩ := senderOk_of hs
    refine Ev.pos rfl ?_
    have e0 : ∀ x lo hi : Int, impl_within.f x lo hi = some (decide (lo ≤ x ∧ x ≤ hi)) := spec_l01In_of
    rw [e0, w64 (x := b + 1) (by omega) (by omega), w64 (x := b + (l.length : Int)) (by omega) (by omega)]
    refine Ev.bindc rfl ?_
    unfold ackedV
    by_cases h : b + 1 ≤ q ∧ q ≤ b + (l.length : Int)
    · refine Ev.pos (by simpa using h) ?_
      rw [w64 (x := q - b) (by omega) (by omega)]
      refine Ev.pos (by omega) (Ev.pos (by omega) ?_)
      refine Ev.bindc (impl_copyItems_of _ (by rw [List.length_drop]; omega)) (Ev.some_ ?_)
      rw [if_pos ⟨hs, h.1, h.2⟩]
    · refine Ev.neg (by simpa using h) (Ev.some_ ?_)
      rw [if_neg (fun x => h ⟨x.2.1, x.2.2⟩)]
def sayOne (p n : Int) (s : List S36) (x : S34) : Except (List S36) (List S36) := .ok (s ++ [⟨1, p, n + (s.length : Int), x⟩])
def saysV (a b : Int) (l : List S34) (c d : Int) : List S36 := if senderOk a b l c d = true then foldE (sayOne a b) id l [] else []
theorem says_length (p n : Int) : ∀ (l : List S34) (s : List S36), (foldE (sayOne p n) id l s).length = s.length + l.length
  | [], s => by simp [foldE]
  | x :: r, s => by
    rw [foldE_on r (show sayOne p n s x = .ok _ from rfl), says_length p n r]
    simp; omega
theorem saysV_length (a b : Int) (l : List S34) (c d : Int) : (saysV a b l c d).length ≤ l.length := by
  unfold saysV
  split
  · rw [says_length]; simp
  · simp
theorem impl_Says_ev (a b : Int) (l : List S34) (c d : Int) (hn : l.length ≤ 1048576) : Ev (fun k => impl_Says.f k a b l c d) (saysV a b l c d) := by
  unfold impl_Says.f saysV
  have e0 := impl_SenderOk_ev a b l c d hn
  refine Ev.bind e0 ?_
  cases hs : senderOk a b l c d with
  | false => rw [if_neg (by simp)]; exact Ev.neg (by simp) (Ev.now _)
  | true =>
    rw [if_pos rfl]
    refine Ev.pos rfl ?_
    obtain ⟨_, ha, hb, hl, _⟩ := senderOk_of hs
    have := foldE_ev (fun k s i => impl_Says.l0 k a b l c d s i) l (sayOne a b) id (fun i s => s.length = i) ?_ ?_ ?_ l.length 0 [] rfl (Nat.zero_le _) rfl
    · simpa using this
    · intro s hs
      refine Ev.step (f := fun _ => some s) (fun k => ?_) (Ev.now _)
      simp only [impl_Says.l0]; rw [if_neg (by omega)]
    · intro i x s e hx hs he; cases he
    · intro i x s s' hx hs he
      have hi := lt_of hx
      obtain rfl : s ++ [⟨1, a, b + (s.length : Int), x⟩] = s' := by injection he
      refine ⟨by simp; omega, fun r h => ?_⟩
      refine Ev.step (fun k => ?_) h
      simp only [impl_Says.l0]
      rw [if_pos (by omega), if_pos (by omega), if_pos (by simp; omega), rd34 hx, w64 (x := (i : Int) + 1) (by omega) (by omega), w64 (x := b + (i : Int)) (by omega) (by omega), hs]
theorem ackedV_len (a b : Int) (l : List It) (c d q : Int) : (ackedV a b l c d q).2.2.1.length ≤ l.length := by
  unfold ackedV
  split
  · simp
  · exact Nat.le_refl _
theorem takenV_len' (a b : Int) (l : List It) (c d : Int) (R : List It) (ra rb rc now : Int) : (takenV a b l c d R ra rb rc now).2.2.1.length ≤ l.length + 1 ∧ (takenV a b l c d R ra rb rc now).2.2.2.2.2.1.length ≤ R.length := by
  unfold takenV
  split
  · exact ⟨by simp, drainV_len R ra rb rc⟩
  · exact ⟨Nat.le_succ _, Nat.le_refl _⟩
theorem and255 (x : Int) : 0 ≤ bits .and .i64 x 255 ∧ bits .and .i64 x 255 ≤ 255 := by
  have h : bits .and .i64 x 255 = (((BitVec.ofInt 64 x).toNat &&& 255 : Nat) : Int) := by
    show IntKind.i64.wrap (((BitVec.ofInt 64 x) &&& (BitVec.ofInt 64 255)).toNat : Int) = _
    rw [BitVec.toNat_and]
    have : (BitVec.ofInt 64 255).toNat = 255 := by decide
    rw [this, IntKind.wrap_i64]
    have h2 : (BitVec.ofInt 64 x).toNat &&& 255 ≤ 255 := Nat.and_le_right
    omega
  rw [h]
  have h2 : (BitVec.ofInt 64 x).toNat &&& 255 ≤ 255 := Nat.and_le_right
  omega
/-- A reader's place. -/
def Rd (b : List Int) (i : Int) : Prop := b.length ≤ 1048576 ∧ 0 ≤ i ∧ i ≤ (b.length : Int)
theorem l01New_ev (b : List Int) (hb : b.length ≤ 1048576) : ∃ s, Ev (fun k => spec_l01New.f k b) (b, 0, s) := by
  have key : ∀ (d i : Nat) (s : Int), b.length - i = d → i ≤ b.length → ∃ s', Ev (fun k => spec_l01New.l0 k b s (i : Int)) (b, 0, s') := by
    intro d
    induction d with
    | zero =>
      intro i s hd hi
      refine ⟨s, Ev.step (fun _ => rfl) ?_⟩
      simp only [spec_l01New.l0]; exact Ev.neg (by omega) (Ev.now _)
    | succ d ih =>
      intro i s hd hi
      by_cases h : (i : Int) < 4000
      · obtain ⟨s', h'⟩ := ih (i + 1) (bits .and .i64 (wrap64 ((wrap64 ((wrap64 (s * 131)) + (wrap64 (rd b i)))) + 7)) 1073741823) (by omega) (by omega)
        refine ⟨s', Ev.step (fun _ => rfl) ?_⟩
        simp only [spec_l01New.l0]; rw [w64 (x := (i : Int) + 1) (by omega) (by omega)]
        exact Ev.pos (by omega) (Ev.pos h (Ev.pos (by omega) h'))
      · refine ⟨s, Ev.step (fun _ => rfl) ?_⟩
        simp only [spec_l01New.l0]; exact Ev.pos (by omega) (Ev.neg h (Ev.now _))
  exact key b.length 0 _ rfl (Nat.zero_le _)
theorem l01Byte_of (b : List Int) (i s : Int) (h : Rd b i) : ∃ v i' s', spec_l01Byte.f b i s = some (v, b, i', s') ∧ Rd b i' ∧ 0 ≤ v ∧ v ≤ 255 := by
  unfold spec_l01Byte.f
  by_cases hi : i < (b.length : Int)
  · rw [if_pos hi, if_pos h.2.1]
    exact ⟨_, _, _, rfl, ⟨h.1, by rw [w64 (by have := h.1; have := h.2.1; omega) (by have := h.1; omega)]; have := h.2.1; omega, by rw [w64 (by have := h.1; have := h.2.1; omega) (by have := h.1; omega)]; omega⟩, and255 _⟩
  · rw [if_neg hi]
    exact ⟨_, _, _, rfl, h, and255 _⟩
theorem tmod_of {v n : Int} (h : 0 ≤ v) (hn : 0 < n) : 0 ≤ v.tmod n ∧ v.tmod n < n := ⟨Int.tmod_nonneg _ h, Int.tmod_lt_of_pos _ hn⟩
theorem l01Below_of (b : List Int) (i s n : Int) (h : Rd b i) (hn : 0 < n) : ∃ v i' s', spec_l01Below.f b i s n = some (v, b, i', s') ∧ Rd b i' ∧ 0 ≤ v ∧ v < n := by
  unfold spec_l01Below.f
  rw [if_neg (by omega)]
  obtain ⟨v1, i1, s1, e1, h1, b1⟩ := l01Byte_of b i s h
  obtain ⟨v2, i2, s2, e2, h2, b2⟩ := l01Byte_of b i1 s1 h1
  obtain ⟨v3, i3, s3, e3, h3, b3⟩ := l01Byte_of b i2 s2 h2
  obtain ⟨v4, i4, s4, e4, h4, b4⟩ := l01Byte_of b i3 s3 h3
  by_cases hn2 : n ≤ 256
  · rw [if_pos hn2, e1]
    simp only [Option.bind_some]
    rw [if_pos (by omega)]
    exact ⟨_, _, _, rfl, h1, tmod_of b1.1 hn⟩
  · rw [if_neg hn2, e1]
    simp only [Option.bind_some, e2, e3, e4]
    rw [if_pos (by omega)]
    refine ⟨_, _, _, rfl, h4, tmod_of ?_ hn⟩
    rw [w64 (x := v1 * 16777216) (by omega) (by omega), w64 (x := v2 * 65536) (by omega) (by omega), w64 (x := v1 * 16777216 + v2 * 65536) (by omega) (by omega), w64 (x := v3 * 256) (by omega) (by omega), w64 (x := v1 * 16777216 + v2 * 65536 + v3 * 256) (by omega) (by omega), w64 (by omega) (by omega)]
    omega
theorem refilled_of (l : List It) (a b c n : Int) (hl : l.length ≤ 1048576) : ∃ a' b' c', spec_Refilled.f l a b c n = some (l, a', b', c') := by
  unfold spec_Refilled.f
  rw [spec_l16Copy_of l a b c hl]
  simp only [Option.bind_some]
  split
  · exact ⟨_, _, _, rfl⟩
  · split
    · exact ⟨_, _, _, rfl⟩
    · split <;> exact ⟨_, _, _, rfl⟩
theorem drained_of (l : List It) (a b c : Int) (hl : l.length ≤ 1048576) : ∃ l' a' b' c' x0 x1 x2 x3 ok, spec_Drained.f l a b c = some (l', a', b', c', x0, x1, x2, x3, ok) ∧ l'.length ≤ l.length :=
  ⟨_, _, _, _, _, _, _, _, _, spec_Drained_of l a b c hl, drainV_len l a b c⟩
theorem spec_HalfOk_of (a : Int) : spec_HalfOk.f a = some (decide (0 ≤ a ∧ a ≤ 4294967295)) := by
  unfold spec_HalfOk.f; rw [spec_l01In_of]; rfl
theorem offered_ev (l : List It) (a b c u v : Int) (hl : l.length ≤ 1048570) : ∃ l' a' b' c' ok, Ev (fun k => spec_Offered.f k l a b c u v) (l', a', b', c', ok) ∧ l'.length ≤ l.length + 2 := by
  unfold spec_Offered.f
  have j2 : ∀ (q : List It) (p : Int), q.length ≤ l.length + 1 → ∃ l' a' b' c' ok, Ev (fun k => spec_Offered.j2 k a c u v q p) (l', a', b', c', ok) ∧ l'.length ≤ l.length + 2 := by
    intro q p hq
    refine ⟨_, _, _, _, _, Ev.step (fun _ => rfl) (by simp only [spec_Offered.j2]; exact Ev.pos (by simp; omega) (Ev.now _)), by simp; omega⟩
  have j1 : ∀ p : Bool, ∃ l' a' b' c' ok, Ev (fun k => spec_Offered.j1 k l a b c u v (l, a, b, c) p) (l', a', b', c', ok) ∧ l'.length ≤ l.length + 2 := by
    intro p
    by_cases hp : p = true
    · exact ⟨_, _, _, _, _, Ev.step (fun _ => rfl) (by simp only [spec_Offered.j1]; exact Ev.pos hp (Ev.now _)), by first | omega | (dsimp only; omega)⟩
    · by_cases hb : b > 0
      · obtain ⟨l', a', b', c', ok, e, h⟩ := j2 (l ++ [⟨2, 0, 0, b⟩]) 0 (by simp)
        exact ⟨l', a', b', c', ok, Ev.step (fun _ => rfl) (by simp only [spec_Offered.j1]; exact Ev.neg hp (Ev.pos hb (Ev.pos (by simp; omega) e))), h⟩
      · obtain ⟨l', a', b', c', ok, e, h⟩ := j2 l b (by omega)
        exact ⟨l', a', b', c', ok, Ev.step (fun _ => rfl) (by simp only [spec_Offered.j1]; exact Ev.neg hp (Ev.neg hb e)), h⟩
  have j0 : ∀ p : Int, ∃ l' a' b' c' ok, Ev (fun k => spec_Offered.j0 k l a b c u v (l, a, b, c) p) (l', a', b', c', ok) ∧ l'.length ≤ l.length + 2 := by
    intro p
    by_cases ha : a = 0
    · obtain ⟨l', a', b', c', ok, e, h⟩ := j1 true
      exact ⟨l', a', b', c', ok, Ev.step (fun _ => rfl) (by simp only [spec_Offered.j0]; exact Ev.pos ha e), h⟩
    · obtain ⟨l', a', b', c', ok, e, h⟩ := j1 (decide ((wrap64 ((l.length : Int) + p)) > 4))
      exact ⟨l', a', b', c', ok, Ev.step (fun _ => rfl) (by simp only [spec_Offered.j0]; exact Ev.neg ha e), h⟩
  have no : ∃ l' a' b' c' ok, Ev (fun _ => some ((l, a, b, c, false) : List It × Int × Int × Int × Bool)) (l', a', b', c', ok) ∧ l'.length ≤ l.length + 2 := ⟨_, _, _, _, _, Ev.now _, by omega⟩
  have hr := spec_RingOk_ev l a b c (by omega)
  cases h1 : ringOk l a b c with
  | false =>
    rw [h1] at hr
    exact ⟨_, _, _, _, _, Ev.bindc (spec_l16Copy_of l a b c (by omega)) (Ev.bind hr (Ev.neg (by simp) (Ev.now _))), by first | omega | (dsimp only; omega)⟩
  | true =>
    rw [h1] at hr
    by_cases h2 : 0 ≤ u ∧ u ≤ 4294967295
    · by_cases h3 : 0 ≤ v ∧ v ≤ 4294967295
      · by_cases h4 : c ≥ 1000000000
        · exact ⟨_, _, _, _, _, Ev.bindc (spec_l16Copy_of l a b c (by omega)) (Ev.bind hr (Ev.pos rfl (Ev.bindc (spec_HalfOk_of u) (Ev.pos (by simpa using h2) (Ev.bindc (spec_HalfOk_of v) (Ev.pos (by simpa using h3) (Ev.pos h4 (Ev.now _)))))))), by first | omega | (dsimp only; omega)⟩
        · by_cases h5 : b > 0
          · obtain ⟨l', a', b', c', ok, e, h⟩ := j0 2
            exact ⟨l', a', b', c', ok, Ev.bindc (spec_l16Copy_of l a b c (by omega)) (Ev.bind hr (Ev.pos rfl (Ev.bindc (spec_HalfOk_of u) (Ev.pos (by simpa using h2) (Ev.bindc (spec_HalfOk_of v) (Ev.pos (by simpa using h3) (Ev.neg h4 (Ev.pos h5 e)))))))), h⟩
          · obtain ⟨l', a', b', c', ok, e, h⟩ := j0 1
            exact ⟨l', a', b', c', ok, Ev.bindc (spec_l16Copy_of l a b c (by omega)) (Ev.bind hr (Ev.pos rfl (Ev.bindc (spec_HalfOk_of u) (Ev.pos (by simpa using h2) (Ev.bindc (spec_HalfOk_of v) (Ev.pos (by simpa using h3) (Ev.neg h4 (Ev.neg h5 e)))))))), h⟩
      · exact ⟨_, _, _, _, _, Ev.bindc (spec_l16Copy_of l a b c (by omega)) (Ev.bind hr (Ev.pos rfl (Ev.bindc (spec_HalfOk_of u) (Ev.pos (by simpa using h2) (Ev.bindc (spec_HalfOk_of v) (Ev.neg (by simpa using h3) (Ev.now _))))))), by first | omega | (dsimp only; omega)⟩
    · exact ⟨_, _, _, _, _, Ev.bindc (spec_l16Copy_of l a b c (by omega)) (Ev.bind hr (Ev.pos rfl (Ev.bindc (spec_HalfOk_of u) (Ev.neg (by simpa using h2) (Ev.now _))))), by first | omega | (dsimp only; omega)⟩
theorem l16Ring_ev (b : List Int) (i s : Int) (h : Rd b i) : ∃ (l : List It) (x0 x1 x2 i' s' : Int), Ev (fun k => spec_l16Ring.f k b i s) (l, x0, x1, x2, b, i', s') ∧ Rd b i' ∧ l.length ≤ 64 := by
  have key : ∀ (d j : Nat) (i s : Int) (l : List It) (x0 x1 x2 : Int), 14 - j = d → j ≤ 14 → Rd b i → l.length ≤ 2 * j → ∃ (l' : List It) (y0 y1 y2 i' s' : Int), Ev (fun k => spec_l16Ring.l0 k b i s l x0 x1 x2 (j : Int)) (l', y0, y1, y2, b, i', s') ∧ Rd b i' ∧ l'.length ≤ 64 := by
    intro d
    induction d with
    | zero =>
      intro j i s l x0 x1 x2 hd hj h hl
      obtain ⟨v, i1, s1, e1, h1, b1⟩ := l01Below_of b i s 14 h (by omega)
      exact ⟨l, x0, x1, x2, i1, s1, Ev.step (fun _ => rfl) (by simp only [spec_l16Ring.l0]; exact Ev.bindc e1 (Ev.neg (by first | omega | (dsimp only; omega)) (Ev.now _))), h1, by omega⟩
    | succ d ih =>
      intro j i s l x0 x1 x2 hd hj h hl
      obtain ⟨v, i1, s1, e1, h1, b1⟩ := l01Below_of b i s 14 h (by omega)
      by_cases hv : (j : Int) < v
      · have hj1 : wrap64 ((j : Int) + 1) = ((j + 1 : Nat) : Int) := by rw [w64 (by omega) (by omega)]; omega
        obtain ⟨v2, i2, s2, e2, h2, b2⟩ := l01Below_of b i1 s1 6 h1 (by omega)
        by_cases h0 : v2 = 0
        · obtain ⟨v3, i3, s3, e3, h3, b3⟩ := l01Below_of b i2 s2 3 h2 (by omega)
          obtain ⟨a', b', c', e4⟩ := refilled_of l x0 x1 x2 v3 (by omega)
          obtain ⟨l', y0, y1, y2, i', s', e5, h5, hl5⟩ := ih (j + 1) i3 s3 l a' b' c' (by omega) (by omega) h3 (by omega)
          exact ⟨l', y0, y1, y2, i', s', Ev.step (fun _ => rfl) (by simp only [spec_l16Ring.l0]; rw [hj1]; exact Ev.bindc e1 (Ev.pos hv (Ev.bindc e2 (Ev.pos h0 (Ev.bindc e3 (Ev.bindc e4 e5)))))), h5, hl5⟩
        · by_cases h1' : v2 = 1
          · obtain ⟨l2, a', b', c', z0, z1, z2, z3, ok, e4, hl2⟩ := drained_of l x0 x1 x2 (by omega)
            obtain ⟨l', y0, y1, y2, i', s', e5, h5, hl5⟩ := ih (j + 1) i2 s2 l2 a' b' c' (by omega) (by omega) h2 (by omega)
            exact ⟨l', y0, y1, y2, i', s', Ev.step (fun _ => rfl) (by simp only [spec_l16Ring.l0]; rw [hj1]; exact Ev.bindc e1 (Ev.pos hv (Ev.bindc e2 (Ev.neg h0 (Ev.pos h1' (Ev.bindc e4 e5)))))), h5, hl5⟩
          · obtain ⟨v3, i3, s3, e3, h3, b3⟩ := l01Below_of b i2 s2 9 h2 (by omega)
            obtain ⟨v4, i4, s4, e4, h4, b4⟩ := l01Below_of b i3 s3 9 h3 (by omega)
            obtain ⟨l2, a', b', c', ok, e6, hl2⟩ := offered_ev l x0 x1 x2 v3 v4 (by omega)
            obtain ⟨l', y0, y1, y2, i', s', e5, h5, hl5⟩ := ih (j + 1) i4 s4 l2 a' b' c' (by omega) (by omega) h4 (by omega)
            exact ⟨l', y0, y1, y2, i', s', Ev.step (fun _ => rfl) (by simp only [spec_l16Ring.l0]; rw [hj1]; exact Ev.bindc e1 (Ev.pos hv (Ev.bindc e2 (Ev.neg h0 (Ev.neg h1' (Ev.bindc e3 (Ev.bindc e4 (Ev.bind e6 e5)))))))), h5, hl5⟩
      · exact ⟨l, x0, x1, x2, i1, s1, Ev.step (fun _ => rfl) (by simp only [spec_l16Ring.l0]; exact Ev.bindc e1 (Ev.neg hv (Ev.now _))), h1, by omega⟩
  obtain ⟨l', y0, y1, y2, i', s', e, h', hl⟩ := key 14 0 i s [] 5 0 0 rfl (by omega) h (by simp)
  exact ⟨l', y0, y1, y2, i', s', by unfold spec_l16Ring.f; exact Ev.bindc rfl e, h', hl⟩
/-- Ends with enough rounds, and what comes out is so. -/
def Tot {α : Type} (g : Nat → Option α) (P : α → Prop) : Prop := ∃ r, Ev g r ∧ P r
section
variable {α β : Type} {P Q : α → Prop} {R : β → Prop}
theorem Tot.now {r : α} (h : P r) : Tot (fun _ => some r) P := ⟨r, Ev.now r, h⟩
theorem Tot.bind {g : Nat → Option α} {f : Nat → α → Option β} (h : Tot g P) (k : ∀ a, P a → Tot (fun n => f n a) R) : Tot (fun n => (g n).bind (f n)) R := by
  obtain ⟨a, ha, hp⟩ := h
  obtain ⟨r, hr, h⟩ := k a hp
  exact ⟨r, Ev.bind ha hr, h⟩
theorem Tot.bindc {a : Option α} {f : Nat → α → Option β} (h : ∃ x, a = some x ∧ P x) (k : ∀ x, P x → Tot (fun n => f n x) R) : Tot (fun n => a.bind (f n)) R := by
  obtain ⟨a, ha, hp⟩ := h
  obtain ⟨r, hr, h⟩ := k a hp
  exact ⟨r, Ev.bindc ha hr, h⟩
theorem Tot.bind1 {g : Nat → Option α} {f : Nat → α → Option β} {a : α} (h : Ev g a) (k : Tot (fun n => f n a) R) : Tot (fun n => (g n).bind (f n)) R := by
  obtain ⟨r, hr, k⟩ := k
  exact ⟨r, Ev.bind h hr, k⟩
theorem Tot.bindc1 {a : Option α} {f : Nat → α → Option β} {x : α} (h : a = some x) (k : Tot (fun n => f n x) R) : Tot (fun n => a.bind (f n)) R := by
  obtain ⟨r, hr, k⟩ := k
  exact ⟨r, Ev.bindc h hr, k⟩
theorem Tot.pos {c : Prop} [Decidable c] {f g : Nat → Option α} (h : c) (k : Tot f P) : Tot (fun n => if c then f n else g n) P := by
  obtain ⟨r, hr, k⟩ := k
  exact ⟨r, Ev.pos h hr, k⟩
theorem Tot.neg {c : Prop} [Decidable c] {f g : Nat → Option α} (h : ¬ c) (k : Tot g P) : Tot (fun n => if c then f n else g n) P := by
  obtain ⟨r, hr, k⟩ := k
  exact ⟨r, Ev.neg h hr, k⟩
theorem Tot.grd {c : Prop} [Decidable c] {f : Nat → Option α} (h : c) (k : Tot f P) : Tot (fun n => if c then f n else none) P := Tot.pos h k
theorem Tot.both {c : Prop} [Decidable c] {f g : Nat → Option α} (h : c → Tot f P) (k : ¬ c → Tot g P) : Tot (fun n => if c then f n else g n) P := by
  by_cases hc : c
  · exact Tot.pos hc (h hc)
  · exact Tot.neg hc (k hc)
theorem Tot.step {g f : Nat → Option α} (h : ∀ k, g (k + 1) = f k) (k : Tot f P) : Tot g P := by
  obtain ⟨r, hr, k⟩ := k
  exact ⟨r, Ev.step h hr, k⟩
theorem Tot.mono {g : Nat → Option α} (h : Tot g P) (k : ∀ r, P r → Q r) : Tot g Q := by
  obtain ⟨r, hr, h⟩ := h
  exact ⟨r, hr, k r h⟩
theorem Tot.one {g : Nat → Option α} {r : α} (h : Ev g r) (k : P r) : Tot g P := ⟨r, h, k⟩
/-- A loop of at most m rounds that keeps Inv. -/
theorem Tot.up {σ : Type} (L : Nat → σ → Int → Option α) (m : Nat) (Inv : Nat → σ → Prop)
    (step : ∀ (j : Nat) s, j ≤ m → Inv j s → (∀ s', j < m → Inv (j + 1) s' → Tot (fun k => L k s' ((j : Int) + 1)) P) → Tot (fun k => L k s (j : Int)) P) :
    ∀ s, Inv 0 s → Tot (fun k => L k s 0) P := by
  have key : ∀ (d j : Nat) s, m - j = d → j ≤ m → Inv j s → Tot (fun k => L k s (j : Int)) P := by
    intro d
    induction d with
    | zero => intro j s hd hj hi; exact step j s hj hi (fun s' h _ => by omega)
    | succ d ih => intro j s hd hj hi; exact step j s hj hi (fun s' h hi' => by have := ih (j + 1) s' (by omega) (by omega) hi'; simpa using this)
  intro s hs
  exact key _ 0 s rfl (Nat.zero_le _) hs
end
section
variable {α : Type} {P : α → Prop} {b : List Int} {i s n : Int}
theorem Tot.below {f : Nat → (Int × List Int × Int × Int) → Option α} (h : Rd b i) (hn : 0 < n) (k : ∀ v i' s', Rd b i' → 0 ≤ v → v < n → Tot (fun m => f m (v, b, i', s')) P) : Tot (fun m => (spec_l01Below.f b i s n).bind (f m)) P := by
  obtain ⟨v, i', s', e, h', h0, h1⟩ := l01Below_of b i s n h hn
  exact Tot.bindc1 e (k v i' s' h' h0 h1)
end
theorem senderOk_iff (a b : Int) (l : List It) (c d : Int) : senderOk a b l c d = true ↔ (∀ x ∈ l, itemOk x = true) ∧ (0 ≤ a ∧ a ≤ 2) ∧ (1 ≤ b ∧ b ≤ 1000000000) ∧ l.length ≤ 3 ∧ (0 ≤ c ∧ c ≤ 1000000000) ∧ (d = 1 ∨ d = 2 ∨ d = 4) := by
  unfold senderOk
  rw [Bool.and_eq_true, List.all_eq_true, decide_eq_true_eq]
theorem again_inv (a b : Int) (l : List It) (c d now : Int) (h : senderOk a b l c d = true) (hn : 0 ≤ now ∧ now ≤ 1000000000) : ∃ c' d' o, againV a b l c d now = (a, b, l, c', d', o) ∧ senderOk a b l c' d' = true := by
  obtain ⟨h1, h2, h3, h4, h5, h6⟩ := (senderOk_iff _ _ _ _ _).1 h
  unfold againV
  split
  · exact ⟨_, _, _, rfl, (senderOk_iff _ _ _ _ _).2 ⟨h1, h2, h3, h4, hn, by omega⟩⟩
  · exact ⟨_, _, _, rfl, h⟩
theorem acked_inv (a b : Int) (l : List It) (c d q : Int) (h : senderOk a b l c d = true) (hb : b ≤ 1000) : ∃ b' l' d', ackedV a b l c d q = (a, b', l', c, d') ∧ senderOk a b' l' c d' = true ∧ b' ≤ b + 3 := by
  obtain ⟨h1, h2, h3, h4, h5, h6⟩ := (senderOk_iff _ _ _ _ _).1 h
  unfold ackedV
  split
  · next hc =>
    exact ⟨_, _, _, rfl, (senderOk_iff _ _ _ _ _).2 ⟨fun x hx => h1 x (List.mem_of_mem_drop hx), h2, by omega, by rw [List.length_drop]; omega, h5, .inl rfl⟩, by omega⟩
  · exact ⟨_, _, _, rfl, h, by omega⟩
theorem drain_item (R : List It) (ra rb rc : Int) (h : ringOk R ra rb rc = true) (hd : (drainV R ra rb rc).2.2.2.2.2.2.2.2 = true) : itemOk ⟨(drainV R ra rb rc).2.2.2.2.1, (drainV R ra rb rc).2.2.2.2.2.1, (drainV R ra rb rc).2.2.2.2.2.2.1, (drainV R ra rb rc).2.2.2.2.2.2.2.1⟩ = true := by
  unfold ringOk at h
  rw [Bool.and_eq_true, Bool.and_eq_true] at h
  obtain ⟨h1, h2, _⟩ := h
  unfold ringIn at h1
  have h1 := of_decide_eq_true h1
  unfold drainV at hd ⊢
  split
  · next hl =>
    have hx : R[0]? = some R[0] := List.getElem?_eq_getElem (by omega)
    have e : rd_T34 R 0 = R[0] := rd34 (i := 0) hx
    rw [e]
    exact List.all_eq_true.1 h2 _ (List.getElem_mem _)
  · next hl =>
    rw [if_neg hl] at hd
    split
    · next hb => rw [if_pos hb] at hd; cases hd
    · next hb =>
      unfold itemOk
      exact decide_eq_true (.inr ⟨rfl, by dsimp only; omega, rfl, rfl⟩)
theorem taken_inv (a b : Int) (l : List It) (c d : Int) (R : List It) (ra rb rc now : Int) (h : senderOk a b l c d = true) : ∃ l' c' d' R' ra' rb' rc' o, takenV a b l c d R ra rb rc now = (a, b, l', c', d', R', ra', rb', rc', o) ∧ senderOk a b l' c' d' = true ∧ R'.length ≤ R.length := by
  obtain ⟨h1, h2, h3, h4, h5, h6⟩ := (senderOk_iff _ _ _ _ _).1 h
  unfold takenV
  split
  · next hc =>
    unfold takenIf at hc
    rw [Bool.and_eq_true, Bool.and_eq_true, Bool.and_eq_true, decide_eq_true_eq] at hc
    obtain ⟨_, k2, k3, k4⟩ := hc
    refine ⟨_, _, _, _, _, _, _, _, rfl, (senderOk_iff _ _ _ _ _).2 ⟨?_, h2, h3, by simp; omega, by omega, .inl rfl⟩, drainV_len R ra rb rc⟩
    intro x hx
    rcases List.mem_append.1 hx with hx | hx
    · exact h1 x hx
    · rw [List.mem_singleton] at hx
      rw [hx]
      exact drain_item R ra rb rc k2 k3
  · exact ⟨_, _, _, _, _, _, _, _, rfl, h, Nat.le_refl _⟩
theorem l18Sender_tot (b : List Int) (i s : Int) (h : Rd b i) : Tot (fun k => spec_l18Sender.f k b i s) (fun r => ∃ (p n : Int) (l : List It) (c d i' s' : Int), r = (p, n, l, c, d, b, i', s') ∧ Rd b i' ∧ senderOk p n l c d = true ∧ n ≤ 100) := by
  unfold spec_l18Sender.f
  refine Tot.below h (by omega) (fun v i1 s1 h1 v0 v1 => ?_)
  obtain ⟨R, x0, x1, x2, i2, s2, e2, h2, hR⟩ := l16Ring_ev b i1 s1 h1
  refine Tot.bindc1 (x := (v, 1, 0, 1)) rfl (Tot.bind1 e2 ?_)
  refine Tot.up (fun k (t : Int × Int × Int × Int × List It × Int × Int × List It × Int × Int × Int) j => spec_l18Sender.l0 k b t.1 t.2.1 t.2.2.1 t.2.2.2.1 t.2.2.2.2.1 t.2.2.2.2.2.1 t.2.2.2.2.2.2.1 t.2.2.2.2.2.2.2.1 t.2.2.2.2.2.2.2.2.1 t.2.2.2.2.2.2.2.2.2.1 t.2.2.2.2.2.2.2.2.2.2 j) 8
    (fun j t => Rd b t.1 ∧ senderOk t.2.2.1 t.2.2.2.1 t.2.2.2.2.1 t.2.2.2.2.2.1 t.2.2.2.2.2.2.1 = true ∧ t.2.2.2.1 ≤ 1 + 3 * j ∧ t.2.2.2.2.2.2.2.1.length ≤ 64) ?_ (i2, s2, v, 1, [], 0, 1, R, x0, x1, x2)
    ⟨h2, (senderOk_iff _ _ _ _ _).2 ⟨fun x hx => by simp at hx, by dsimp only; omega, by dsimp only; omega, Nat.zero_le _, by dsimp only; omega, .inl rfl⟩, by dsimp only; omega, hR⟩
  rintro j ⟨i, s, p, n, l, c, d, R, x0, x1, x2⟩ hj ⟨hr, ho, hn, hR⟩ next
  replace hr : Rd b i := hr
  replace ho : senderOk p n l c d = true := ho
  replace hn : n ≤ 1 + 3 * (j : Int) := hn
  replace hR : R.length ≤ 64 := hR
  have hl : l.length ≤ 3 := ((senderOk_iff _ _ _ _ _).1 ho).2.2.2.1
  refine Tot.step (fun _ => rfl) ?_
  simp only [spec_l18Sender.l0]
  refine Tot.below hr (by omega) (fun v i1 s1 h1 v0 v1 => ?_)
  refine Tot.both (fun hv => ?_) (fun _ => Tot.now ⟨p, n, l, c, d, _, _, rfl, h1, ho, by omega⟩)
  have hv' : (j : Int) < v := hv
  have e1 : wrap64 ((j : Int) + 1) = (j : Int) + 1 := w64 (by omega) (by omega)
  rw [e1]
  refine Tot.below h1 (by omega) (fun v2 i2 s2 h2 _ _ => ?_)
  refine Tot.both (fun _ => ?_) (fun _ => Tot.both (fun _ => ?_) (fun _ => ?_))
  · have g := spec_Again_ev p n l c d (j : Int) (by omega) (by omega)
    obtain ⟨c', d', o, e, ho'⟩ := again_inv p n l c d (j : Int) ho (by omega)
    rw [e] at g
    refine Tot.bind1 g ?_
    exact next (i2, s2, p, n, l, c', d', R, x0, x1, x2) (by omega) ⟨h2, ho', by dsimp only; omega, hR⟩
  · refine Tot.below h2 (by omega) (fun v3 i3 s3 h3 _ _ => ?_)
    have g := spec_Acked_ev p n l c d (wrap64 (n + v3)) (by omega)
    obtain ⟨n', l', d', e, ho', hn'⟩ := acked_inv p n l c d (wrap64 (n + v3)) ho (by omega)
    rw [e] at g
    refine Tot.bind1 g ?_
    exact next (i3, s3, p, n', l', c, d', R, x0, x1, x2) (by omega) ⟨h3, ho', by dsimp only; omega, hR⟩
  · have g := spec_Taken_ev p n l c d R x0 x1 x2 (j : Int) (by omega) (by omega)
    obtain ⟨l', c', d', R', a', b', c'', o, e, ho', hR'⟩ := taken_inv p n l c d R x0 x1 x2 (j : Int) ho
    rw [e] at g
    refine Tot.bind1 g ?_
    exact next (i2, s2, p, n, l', c', d', R', a', b', c'') (by omega) ⟨h2, ho', by dsimp only; omega, by dsimp only; omega⟩
theorem places_tot (b : List Int) (hb : b.length ≤ 1048576) : Tot (fun k => spec_DrawPlaces.f k b) (fun r => r.length = 12 ∧ ∀ v ∈ r, 0 ≤ v ∧ v < 10000) := by
  have hr : Rd b 0 := ⟨by omega, by omega, by omega⟩
  obtain ⟨s0, n0⟩ := l01New_ev b hb
  unfold spec_DrawPlaces.f
  refine Tot.bind1 n0 ?_
  obtain ⟨v, i1, s1, e1, h1, _⟩ := l01Byte_of b 0 s0 hr
  refine Tot.bindc1 e1 ?_
  refine Tot.up (fun k (t : Int × Int × List Int) j => spec_DrawPlaces.l0 k b t.1 t.2.1 t.2.2 j) 12 (fun j t => Rd b t.1 ∧ t.2.2.length = j ∧ ∀ v ∈ t.2.2, 0 ≤ v ∧ v < 10000) ?_ (i1, s1, []) ⟨h1, rfl, fun v hv => by simp at hv⟩
  rintro j ⟨i, s, q⟩ hj ⟨hr, hl, hv⟩ next
  replace hr : Rd b i := hr
  replace hl : q.length = j := hl
  replace hv : ∀ v ∈ q, 0 ≤ v ∧ v < 10000 := hv
  refine Tot.step (fun _ => rfl) ?_
  simp only [spec_DrawPlaces.l0]
  rw [w64 (x := (j : Int) + 1) (by omega) (by omega)]
  refine Tot.both (fun hlt => ?_) (fun hge => Tot.now ⟨by omega, hv⟩)
  refine Tot.below hr (by omega) (fun v2 i2 s2 h2 v20 v21 => Tot.grd (by simp; omega) ?_)
  refine next (i2, s2, q ++ [v2]) (by omega) ⟨h2, by simp; omega, fun v hv' => ?_⟩
  rcases List.mem_append.1 hv' with h | h
  · exact hv v h
  · rw [List.mem_singleton] at h; omega
theorem sameItems_ev (l : List It) (hl : l.length ≤ 4611686018427387904) : Ev (fun k => laws_sameItems.f k l l) true := by
  unfold laws_sameItems.f
  refine Ev.pos rfl ?_
  refine same_ev (fun k i => laws_sameItems.l0 k l l i) l ?_ ?_
  · refine Ev.step (f := fun _ => some true) (fun k => ?_) (Ev.now _)
    simp only [laws_sameItems.l0]; rw [if_neg (by omega)]
  · intro i x hx h
    have hi := lt_of hx
    refine Ev.step (fun _ => rfl) ?_
    simp only [laws_sameItems.l0]; rw [w64 (x := (i : Int) + 1) (by omega) (by omega)]
    exact Ev.pos (by omega) (Ev.pos (by omega) (Ev.pos (by omega) (Ev.pos (by simp) h)))
theorem sameSender_ev (a b : Int) (l : List It) (c d : Int) (hl : l.length ≤ 4611686018427387904) : Ev (fun k => laws_sameSender.f k a b l c d a b l c d) true := by
  unfold laws_sameSender.f
  exact Ev.pos rfl (Ev.pos rfl (Ev.bind (sameItems_ev l hl) (Ev.pos rfl (Ev.pos rfl (Ev.some_ (by simp))))))
def sayL (p : Int) : Int → List It → List S36
  | _, [] => []
  | n, x :: r => ⟨1, p, n, x⟩ :: sayL p (n + 1) r
theorem say_eq (p n : Int) : ∀ (l : List It) (s : List S36), foldE (sayOne p n) id l s = s ++ sayL p (n + (s.length : Int)) l
  | [], s => by simp [foldE, sayL]
  | x :: r, s => by
    rw [foldE_on r (show sayOne p n s x = .ok _ from rfl), say_eq p n r]
    simp [sayL, Int.add_assoc]
theorem sayL_get (p : Int) : ∀ (l : List It) (n : Int) (i : Nat) (x : It), l[i]? = some x → (sayL p n l)[i]? = some ⟨1, p, n + (i : Int), x⟩
  | [], _, i, x, h => by simp at h
  | y :: r, n, 0, x, h => by simp at h; subst h; simp [sayL]
  | y :: r, n, i + 1, x, h => by
    have := sayL_get p r (n + 1) i x (by simpa using h)
    simp only [sayL, List.getElem?_cons_succ]
    rw [this, show n + 1 + (i : Int) = n + ((i + 1 : Nat) : Int) by omega]
theorem sayL_length (p : Int) : ∀ (l : List It) (n : Int), (sayL p n l).length = l.length
  | [], _ => rfl
  | y :: r, n => by simp [sayL, sayL_length p r]
theorem acked_at (a b : Int) (l : List It) (c d n : Int) (h : senderOk a b l c d = true) (hb : b ≤ 1000) (hn : 0 ≤ n ∧ n ≤ (l.length : Int)) : ∃ d', ackedV a b l c d (b + n) = (a, b + n, l.drop n.toNat, c, d') ∧ senderOk a (b + n) (l.drop n.toNat) c d' = true := by
  obtain ⟨h1, h2, h3, h4, h5, h6⟩ := (senderOk_iff _ _ _ _ _).1 h
  unfold ackedV
  by_cases h0 : n = 0
  · subst h0
    refine ⟨d, ?_, by simpa using h⟩
    rw [if_neg (by omega)]
    simp
  · refine ⟨1, ?_, (senderOk_iff _ _ _ _ _).2 ⟨fun x hx => h1 x (List.mem_of_mem_drop hx), h2, by omega, by rw [List.length_drop]; omega, h5, .inl rfl⟩⟩
    rw [if_pos ⟨h, by omega, by omega⟩, show b + n - b = n by omega]
theorem pure : Pure := by
  intro l hl
  refine Ev.rounds ?_
  unfold laws_FnSenders.f
  refine Ev.bindc rfl ?_
  by_cases hbig : (l.length : Int) > 1048576
  · exact Ev.pos (by simpa using hbig) (Ev.now _)
  refine Ev.neg (by simpa using hbig) ?_
  have hr : Rd l 0 := ⟨by omega, by omega, by omega⟩
  obtain ⟨s0, n0⟩ := l01New_ev l (by omega)
  have d1 : Tot (fun k => spec_DrawSender.f k l) (fun r => ∃ (p n : Int) (l : List It) (c d : Int), r = (p, n, l, c, d) ∧ senderOk p n l c d = true ∧ n ≤ 100) := by
    unfold spec_DrawSender.f
    refine Tot.bind1 n0 ?_
    refine Tot.bind (l18Sender_tot l 0 s0 hr) ?_
    rintro _ ⟨p, n, m, c, d, i', s', rfl, h1, h2, h3⟩
    exact Tot.now ⟨p, n, m, c, d, rfl, h2, h3⟩
  obtain ⟨_, e1, p, n, m, c, d, rfl, ho, hn⟩ := d1
  obtain ⟨P, e2, hP, hv⟩ := places_tot l (by omega)
  obtain ⟨h1, h2, h3, h4, h5, h6⟩ := (senderOk_iff _ _ _ _ _).1 ho
  have hq : 0 ≤ (rd P 0).tmod ((m.length : Int) + 1) ∧ (rd P 0).tmod ((m.length : Int) + 1) ≤ (m.length : Int) := by
    have hx : P[0]? = some P[0] := List.getElem?_eq_getElem (by omega)
    have e : rd P 0 = P[0] := by unfold rd; exact get_of P 0 hx
    have := tmod_of (v := rd P 0) (by rw [e]; exact (hv _ (List.getElem_mem _)).1) (show (0 : Int) < (m.length : Int) + 1 by omega)
    omega
  have hw : wrap64 ((m.length : Int) + 1) = (m.length : Int) + 1 := w64 (by omega) (by omega)
  generalize hqe : (rd P 0).tmod ((m.length : Int) + 1) = q at hq
  obtain ⟨d', ea, hoa⟩ := acked_at p n m c d q ho (by omega) hq
  obtain ⟨k1, k2, k3, k4, k5, k6⟩ := (senderOk_iff _ _ _ _ _).1 hoa
  have g1 := impl_Says_ev p n m c d (by omega)
  have hs : saysV p n m c d = sayL p n m := by unfold saysV; rw [if_pos ho, say_eq]; simp
  rw [hs] at g1
  have g2 := impl_Acked_ev p n m c d (n + q) (by omega)
  rw [ea] at g2
  have hwq : wrap64 (n + q) = n + q := w64 (by omega) (by omega)
  refine Ev.bind e1 (Ev.bind g1 (Ev.bind e2 (Ev.pos (by first | omega | (dsimp only; omega)) (Ev.pos (by dsimp only; rw [hw]; omega) ?_))))
  dsimp only
  rw [hw, hqe, hwq]
  refine Ev.bind g2 ?_
  refine same_ev (fun k i => laws_FnSenders.l0 k (p, n, m, c, d) (sayL p n m) P (p, n + q, List.drop q.toNat m, c, d') i) m ?_ ?_
  · refine Ev.step (fun _ => rfl) ?_
    simp only [laws_FnSenders.l0]
    rw [sayL_length, hw, hqe, hwq]
    have g3 := impl_Acked_ev p (n + q) (m.drop q.toNat) c d' (n + q) (by omega)
    have e3 : ackedV p (n + q) (m.drop q.toNat) c d' (n + q) = (p, n + q, m.drop q.toNat, c, d') := by unfold ackedV; rw [if_neg (by omega)]
    rw [e3] at g3
    have g4 := impl_Again_ev p n m c d (c + d) (by omega) (by omega)
    have g5 := impl_Again_ev p n m c d (c + d - 1) (by omega) (by omega)
    have e5 : againV p n m c d (c + d - 1) = (p, n, m, c, d, false) := by unfold againV; rw [if_neg (by omega)]
    rw [e5] at g5
    obtain ⟨c4, d4, e4⟩ : ∃ c4 d4, againV p n m c d (c + d) = (p, n, m, c4, d4, decide ((m.length : Int) > 0)) := by
      unfold againV
      by_cases hm : m.length = 0
      · rw [if_neg (by omega)]; exact ⟨_, _, by rw [decide_eq_false (by omega)]⟩
      · rw [if_pos ⟨ho, hm, by omega⟩]; exact ⟨_, _, by rw [decide_eq_true (by omega)]⟩
    rw [e4] at g4
    have g6 := impl_Acked_ev p n m c d (n + (m.length : Int) + 1) (by omega)
    have e6 : ackedV p n m c d (n + (m.length : Int) + 1) = (p, n, m, c, d) := by unfold ackedV; rw [if_neg (by omega)]
    rw [e6] at g6
    have g7 := impl_SenderOk_ev p n m c d (by omega)
    have g8 := impl_SenderOk_ev p (n + q) (m.drop q.toNat) c d' (by omega)
    rw [ho] at g7
    rw [hoa] at g8
    have w1 : wrap64 (c + d) = c + d := w64 (by omega) (by omega)
    have w2 : wrap64 (c + d - 1) = c + d - 1 := w64 (by omega) (by omega)
    have w3 : wrap64 (n + (m.length : Int)) = n + (m.length : Int) := w64 (by omega) (by omega)
    have w4 : wrap64 (n + (m.length : Int) + 1) = n + (m.length : Int) + 1 := w64 (by omega) (by omega)
    rw [w1, w2, w3, w4]
    refine Ev.neg (by omega) (Ev.bind g3 (Ev.bind g4 (Ev.bind g5 (Ev.pos rfl (Ev.pos hq.1 (Ev.pos hq.2 (Ev.bind (sameItems_ev _ (by first | omega | (dsimp only; omega))) (Ev.pos rfl (Ev.pos rfl ?_)))))))))
    refine Ev.bind (sameSender_ev _ _ _ _ _ (by first | omega | (dsimp only; omega))) (Ev.pos rfl (Ev.pos rfl (Ev.neg (by simp) ?_)))
    exact Ev.bind (sameItems_ev _ (by first | omega | (dsimp only; omega))) (Ev.pos rfl (Ev.bind g7 (Ev.pos rfl (Ev.bind g8 (Ev.pos rfl (Ev.bind g6 (Ev.bind (sameSender_ev _ _ _ _ _ (by first | omega | (dsimp only; omega))) (Ev.now _))))))))
  · intro i x hx h
    have hi := lt_of hx
    refine Ev.step (fun _ => rfl) ?_
    simp only [laws_FnSenders.l0]
    have hy := sayL_get p m n i x hx
    rw [sayL_length, w64 (x := (i : Int) + 1) (by omega) (by omega), rd36 hy, rd34 hx, w64 (x := n + (i : Int)) (by omega) (by omega)]
    exact Ev.pos (by omega) (Ev.pos (by omega) (Ev.pos rfl (Ev.pos (by omega) (Ev.pos (by simp) (Ev.pos rfl (Ev.pos rfl h))))))
end Go.Proofs.Ytfeaemlakniijaa.PFnSenders
namespace Go.Proofs.Ytfeaemlakniijaa
/-- The given statement. -/
theorem fnSenders_holds : Rows.FnSendersSaid := AFnSenders.row PFnSenders.pure
#print axioms fnSenders_holds
end Go.Proofs.Ytfeaemlakniijaa
