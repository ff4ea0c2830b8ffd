/- laws.FnExactAgain returns true at every input, its arguments as they were. No condition. -/
import Derived.Test.YtkbabldehmgmaaaExFnExactAgain
import Derived.Test.YtkbabldehmgmaaaArgFnExactAgain
set_option linter.unusedVariables false
set_option linter.unusedSimpArgs false
namespace Go.Proofs.Ytkbabldehmgmaaa.PFnExactAgain
open Go.RowKit Go.Proofs.YtkbabldehmgmaaaW.PrintWords Go.Proofs.YtkbabldehmgmaaaW.PrintLast Go.Proofs.YtkbabldehmgmaaaL Go.Proofs.YtkbabldehmgmaaaO Go.Proofs.Ytkbabldehmgmaaa.AFnExactAgain
theorem i64_of {x : Int} (h : OkN .i64 x) : -9223372036854775808 ≤ x ∧ x ≤ 9223372036854775807 := bounds_i64 h
theorem itemok_eq (a b c d : Int) : impl_ItemOk.f a b c d = spec_ItemOk.f a b c d := rfl
def itemOk (x : S47) : Bool := decide ((x.f0 = 1 ∧ (0 ≤ x.f1 ∧ x.f1 ≤ 4294967295) ∧ (0 ≤ x.f2 ∧ x.f2 ≤ 4294967295) ∧ x.f3 = 0) ∨ (x.f0 = 2 ∧ (1 ≤ x.f3 ∧ x.f3 ≤ 1000000000) ∧ x.f1 = 0 ∧ x.f2 = 0))
theorem spec_l01In_of (x lo hi : Int) : spec_l01In.f x lo hi = some (decide (lo ≤ x ∧ x ≤ hi)) := by
  unfold spec_l01In.f
  rw [ite_some]; congr 1; rw [Bool.eq_iff_iff]
  by_cases h : x ≥ lo <;> simp [h] <;> omega
theorem spec_ItemOk_of (x : S47) : spec_ItemOk.f x.f0 x.f1 x.f2 x.f3 = some (itemOk x) := by
  unfold spec_ItemOk.f itemOk spec_HalfOk.f
  simp only [spec_l01In_of, Option.bind_some, ite_some]
  congr 1; rw [Bool.eq_iff_iff]
  by_cases h1 : x.f0 = 1
  · simp [h1]
  · by_cases h2 : x.f0 = 2 <;> simp [h1, h2]
theorem impl_ItemOk_of (x : S47) : impl_ItemOk.f x.f0 x.f1 x.f2 x.f3 = some (itemOk x) := (itemok_eq _ _ _ _).trans (spec_ItemOk_of x)
def senderOk (a b : Int) (l : List S47) (c d : Int) : Bool := l.all itemOk && (decide ((0 ≤ a ∧ a ≤ 2) ∧ (1 ≤ b ∧ b ≤ 1000000000) ∧ l.length ≤ 3 ∧ (0 ≤ c ∧ c ≤ 1000000000) ∧ (d = 1 ∨ d = 2 ∨ d = 4)))
def senderRest (a b : Int) (n : Nat) (c d : Int) : Bool := decide ((0 ≤ a ∧ a ≤ 2) ∧ (1 ≤ b ∧ b ≤ 1000000000) ∧ n ≤ 3 ∧ (0 ≤ c ∧ c ≤ 1000000000) ∧ (d = 1 ∨ d = 2 ∨ d = 4))
theorem spec_SenderOk_ev (a b : Int) (l : List S47) (c d : Int) (hn : l.length ≤ 1048576) : Ev (fun k => spec_SenderOk.f k a b l c d) (senderOk a b l c d) := by
  unfold spec_SenderOk.f
  have := foldE_ev (σ := Unit) (ρ := Bool) (fun k _ i => spec_SenderOk.l0 k i a b l c d) l (fun _ x => if itemOk x then .ok () else .error false) (fun _ => senderRest a b l.length c d) (fun _ _ => True) ?_ ?_ ?_ l.length 0 () rfl (Nat.zero_le _) trivial
  · refine Ev.eq ?_ (by simpa using this)
    unfold senderOk
    rw [show decide _ = senderRest a b l.length c d from rfl]
    generalize senderRest a b l.length c d = z
    clear this hn
    induction l with
    | nil => simp [foldE]
    | cons x r ih =>
      cases h : itemOk x with
      | true => rw [foldE_on r (show (if itemOk x then Except.ok () else Except.error false) = .ok () by simp [h])]; simpa [h] using ih
      | false => rw [foldE_stop r (show (if itemOk x then Except.ok () else Except.error false) = .error false by simp [h])]; simp [h]
  · intro _ _
    refine Ev.step (f := fun _ => some (senderRest a b l.length c d)) (fun k => ?_) (Ev.now _)
    simp only [spec_SenderOk.l0]; rw [if_neg (by omega)]
    unfold senderRest
    simp only [spec_l01In_of, Option.bind_some, ite_some]
    congr 1; rw [Bool.eq_iff_iff]
    by_cases h8 : d = 1 <;> by_cases h9 : d = 2 <;> simp [h8, h9] <;> omega
  · intro i x s e hx hs he
    have hi := lt_of hx
    cases h : itemOk x with
    | true => rw [h] at he; cases he
    | false =>
      rw [h] at he; injection he with he; subst he
      refine Ev.step (f := fun _ => some false) (fun k => ?_) (Ev.now _)
      simp only [spec_SenderOk.l0]
      rw [if_pos (by omega), if_pos (by omega), rd47 hx, spec_ItemOk_of, h]
      rfl
  · intro i x s s' hx hs he
    have hi := lt_of hx
    cases h : itemOk x with
    | false => rw [h] at he; cases he
    | true =>
      refine ⟨trivial, fun r hr => ?_⟩
      refine Ev.step (fun k => ?_) hr
      simp only [spec_SenderOk.l0]
      rw [if_pos (by omega), if_pos (by omega), rd47 hx, spec_ItemOk_of, h, w64 (by omega) (by omega)]
      rfl
theorem impl_areItems_ev (l : List S47) (hn : l.length ≤ 1048576) : Ev (fun k => impl_areItems.f k l) (l.all itemOk) := by
  unfold impl_areItems.f
  refine all_ev (fun k i => impl_areItems.l0 k l (l.length : Int) i) l itemOk ?_ ?_ ?_
  · refine Ev.step (f := fun _ => some true) (fun k => ?_) (Ev.now _)
    simp only [impl_areItems.l0]; rw [if_neg (by omega)]
  · intro i x hx h
    have hi := lt_of hx
    refine Ev.step (f := fun _ => some false) (fun k => ?_) (Ev.now _)
    simp only [impl_areItems.l0]
    rw [if_pos (by omega), if_pos (by omega), if_pos (by omega), rd47 hx, impl_ItemOk_of, h]
    rfl
  · intro i x r hx h hr
    have hi := lt_of hx
    refine Ev.step (fun k => ?_) hr
    simp only [impl_areItems.l0]
    rw [if_pos (by omega), if_pos (by omega), if_pos (by omega), rd47 hx, impl_ItemOk_of, h, w64 (by omega) (by omega)]
    rfl
theorem impl_SenderOk_ev (a b : Int) (l : List S47) (c d : Int) (hn : l.length ≤ 1048576) : Ev (fun k => impl_SenderOk.f k a b l c d) (senderOk a b l c d) := by
  have e1 := impl_areItems_ev l hn
  unfold impl_SenderOk.f impl_isPid.f senderOk
  have e0 : ∀ x lo hi : Int, impl_within.f x lo hi = some (decide (lo ≤ x ∧ x ≤ hi)) := spec_l01In_of
  simp only [e0, Option.bind_some, decide_eq_true_eq, ite_some]
  refine Ev.both (fun h1 => Ev.both (fun h2 => Ev.both (fun h3 => Ev.bind e1 (Ev.some_ ?_)) (fun h3 => Ev.some_ ?_)) (fun h2 => Ev.some_ ?_)) (fun h1 => Ev.some_ ?_)
  · cases l.all itemOk
    · simp
    · simp only [if_true, Bool.true_and]
      rw [Bool.eq_iff_iff]
      by_cases h8 : d = 1 <;> by_cases h9 : d = 2 <;> simp [h8, h9] <;> omega
  · rw [decide_eq_false (by omega)]; simp
  · rw [decide_eq_false (by omega)]; simp
  · rw [decide_eq_false (by omega)]; simp
theorem senderOk_of {a b : Int} {l : List S47} {c d : Int} (h : senderOk a b l c d = true) : l.all itemOk = true ∧ (0 ≤ a ∧ a ≤ 2) ∧ (1 ≤ b ∧ b ≤ 1000000000) ∧ l.length ≤ 3 ∧ (0 ≤ c ∧ c ≤ 1000000000) ∧ (d = 1 ∨ d = 2 ∨ d = 4) := by
  unfold senderOk at h
  rw [Bool.and_eq_true] at h
  exact ⟨h.1, of_decide_eq_true h.2⟩
theorem spec_l18Copy_of (a b : Int) (l : List S47) (c d : Int) (hn : l.length ≤ 1048576) : spec_l18Copy.f a b l c d = some (a, b, l, c, d) := by
  unfold spec_l18Copy.f
  simp only [Option.bind_some, List.length_nil, List.nil_append]
  rw [if_pos (by omega)]
theorem impl_copyItems_of (l : List S47) (hn : l.length ≤ 1048576) : impl_copyItems.f l = some l := by
  unfold impl_copyItems.f
  simp only [Option.bind_some, List.length_nil, List.nil_append]
  rw [if_pos (by omega)]
theorem impl_copySender_of (a b : Int) (l : List S47) (c d : Int) (hn : l.length ≤ 1048576) : impl_copySender.f a b l c d = some (a, b, l, c, d) := by
  unfold impl_copySender.f
  rw [impl_copyItems_of l hn]; rfl
theorem mn_of (a b : Int) : mn a b = min a b := by unfold mn; omega
def againV (a b : Int) (l : List S47) (c d now : Int) : Int × Int × (List S47) × Int × Int × Bool := if senderOk a b l c d = true ∧ l.length ≠ 0 ∧ c + d ≤ now then (a, b, l, now, min 4 (2 * d), true) else (a, b, l, c, d, false)
theorem againV_no {a b : Int} {l : List S47} {c d now : Int} (h : ¬ (senderOk a b l c d = true ∧ l.length ≠ 0 ∧ c + d ≤ now)) : (a, b, l, c, d, false) = againV a b l c d now := by unfold againV; rw [if_neg h]
theorem againV_yes {a b : Int} {l : List S47} {c d now : Int} (h : senderOk a b l c d = true ∧ l.length ≠ 0 ∧ c + d ≤ now) : (a, b, l, now, min 4 (2 * d), true) = againV a b l c d now := by unfold againV; rw [if_pos h]
theorem spec_Again_ev (a b : Int) (l : List S47) (c d now : Int) (hn : l.length ≤ 1048576) (hw : -9223372036854775808 ≤ now ∧ now ≤ 9223372036854775807) : Ev (fun k => spec_Again.f k a b l c d now) (againV a b l c d now) := by
  unfold spec_Again.f
  have hj : Ev (fun k => spec_Again.j0 k now true a b l c d a b l c d) (a, b, l, c, d, false) := by
    refine Ev.step (fun _ => rfl) ?_; simp only [spec_Again.j0]; exact Ev.pos (by simp) (Ev.now _)
  refine Ev.bindc (spec_l18Copy_of a b l c d hn) (Ev.bind (spec_SenderOk_ev a b l c d hn) ?_)
  dsimp only
  cases hs : senderOk a b l c d with
  | false => exact Ev.eq (againV_no (fun x => by rw [hs] at x; exact absurd x.1 (by simp))) (Ev.neg (by simp) hj)
  | true =>
    obtain ⟨_, ha, hb, hl, hc, hd⟩ := senderOk_of hs
    refine Ev.pos rfl ?_
    by_cases h0 : l.length = 0
    · exact Ev.eq (againV_no (fun x => x.2.1 h0)) (Ev.pos (by omega) hj)
    · refine Ev.neg (by omega) ?_
      by_cases h1 : now < 0
      · exact Ev.eq (againV_no (fun x => by omega)) (Ev.pos h1 hj)
      · refine Ev.neg h1 ?_
        rw [w64 (x := now - d) (by omega) (by omega)]
        by_cases h2 : now - d < c
        · rw [decide_eq_true h2]; exact Ev.eq (againV_no (fun x => by omega)) hj
        · rw [decide_eq_false h2]
          refine Ev.eq (againV_yes ⟨hs, h0, by omega⟩) ?_
          refine Ev.step (fun _ => rfl) ?_; simp only [spec_Again.j0]
          refine Ev.neg (by simp) ?_
          rw [w64 (x := 2 * d) (by omega) (by omega)]
          by_cases h3 : 2 * d > 4
          · refine Ev.pos h3 (Ev.some_ ?_); rw [Int.min_eq_left (by omega)]
          · refine Ev.neg h3 (Ev.some_ ?_); rw [Int.min_eq_right (by omega)]
theorem impl_Again_ev (a b : Int) (l : List S47) (c d now : Int) (hn : l.length ≤ 1048576) (hw : -9223372036854775808 ≤ now ∧ now ≤ 9223372036854775807) : Ev (fun k => impl_Again.f k a b l c d now) (againV a b l c d now) := by
  unfold impl_Again.f
  refine Ev.bindc (impl_copySender_of a b l c d hn) (Ev.bind (impl_SenderOk_ev a b l c d hn) ?_)
  dsimp only
  cases hs : senderOk a b l c d with
  | false => exact Ev.eq (againV_no (fun x => by rw [hs] at x; exact absurd x.1 (by simp))) (Ev.neg (by simp) (Ev.now _))
  | true =>
    obtain ⟨_, ha, hb, hl, hc, hd⟩ := senderOk_of hs
    refine Ev.pos rfl ?_
    by_cases h0 : l.length = 0
    · exact Ev.eq (againV_no (fun x => x.2.1 h0)) (Ev.pos (by omega) (Ev.now _))
    · refine Ev.neg (by omega) ?_
      rw [w64 (x := c + d) (by omega) (by omega)]
      by_cases h1 : c + d > now
      · exact Ev.eq (againV_no (fun x => by omega)) (Ev.pos h1 (Ev.now _))
      · refine Ev.eq (againV_yes ⟨hs, h0, by omega⟩) (Ev.neg h1 (Ev.some_ ?_))
        rw [mn_of, w64 (x := 2 * d) (by omega) (by omega)]
theorem pure : Pure := by
  intro a b l0 c d now ha hb hl hc hd hw
  have hw' := i64_of hw
  refine Ev.rounds ?_
  unfold laws_FnExactAgain.f
  obtain ⟨v, hv, h⟩ := szSender_of a b l0 c d 1048576 hl.1 (by omega) (by omega)
  refine Ev.bind (Ev.const hv) ?_
  rcases h with h | ⟨h0, h1, h2⟩
  · exact Ev.pos h (Ev.now _)
  have e1 := toSender_ev a b l0 c d h2
  have hm : (l0.map cvS43_S47).length ≤ 1048576 := by simpa using h2
  generalize l0.map cvS43_S47 = xs at e1 hm
  have e2 := spec_Again_ev a b xs c d now hm hw'
  have e3 := impl_Again_ev a b xs c d now hm hw'
  have hg : (againV a b xs c d now).2.2.1.length ≤ 1048576 := by unfold againV; split <;> exact hm
  generalize againV a b xs c d now = g at e2 e3 hg
  obtain ⟨g1, g2, g3, g4, g5, g6⟩ := g
  replace hg : g3.length ≤ 1048576 := hg
  have e4 := eqSender_ev a b xs c d (by omega)
  have e5 := eqSender_ev g1 g2 g3 g4 g5 (by omega)
  have hc1 : mcount ctS47 xs ≤ 4194304 := by rw [mcount_const ctS47 4 (fun _ => rfl)]; omega
  have hc2 : mcount ctS47 g3 ≤ 4194304 := by rw [mcount_const ctS47 4 (fun _ => rfl)]; omega
  have e6 := markSender_ev a b xs c d 1 (by omega) (by omega) (by omega)
  have e7 := markSender_ev g1 g2 g3 g4 g5 1 (by omega) (by omega) (by omega)
  have e8 := heldSender_ev g1 g2 g3 g4 g5 1 (by omega) (by omega) (by omega)
  repeat (first
    | (with_reducible refine Ev.bind e1 ?_; try dsimp only)
    | (with_reducible refine Ev.bind e2 ?_; try dsimp only)
    | (with_reducible refine Ev.bind e3 ?_; try dsimp only)
    | (with_reducible refine Ev.bind e4 ?_; try dsimp only)
    | (with_reducible refine Ev.bind e5 ?_; try dsimp only)
    | (with_reducible refine Ev.bind e6 ?_; try dsimp only)
    | (with_reducible refine Ev.bind e7 ?_; try dsimp only)
    | (with_reducible refine Ev.bind e8 ?_; try dsimp only)
    | (refine Ev.neg (by omega) ?_)
    | (refine Ev.pos (by first | rfl | omega) ?_)
    | (refine Ev.neg (by simp) ?_)
    | (refine Ev.step (fun _ => rfl) ?_; simp only [laws_FnExactAgain.j0])
    | (refine Ev.step (fun _ => rfl) ?_; simp only [laws_FnExactAgain.j1])
    | (refine Ev.step (fun _ => rfl) ?_; simp only [laws_FnExactAgain.j2])
    | exact Ev.now _)
end Go.Proofs.Ytkbabldehmgmaaa.PFnExactAgain
namespace Go.Proofs.Ytkbabldehmgmaaa
/-- The given statement. -/
theorem fnExactAgain_holds : Rows.FnExactAgainSaid := AFnExactAgain.row PFnExactAgain.pure
#print axioms fnExactAgain_holds
end Go.Proofs.Ytkbabldehmgmaaa
