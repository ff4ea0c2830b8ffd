/- laws.FnExactSenderOk returns true at every input, its argument as it was. No condition. -/
import Derived.Test.YtkbabldehmgmaaaExFnExactSenderOk
import Derived.Test.YtkbabldehmgmaaaArgFnExactSenderOk
set_option linter.unusedVariables false
set_option linter.unusedSimpArgs false
namespace Go.Proofs.Ytkbabldehmgmaaa.PFnExactSenderOk
open Go.RowKit Go.Proofs.YtkbabldehmgmaaaW.PrintWords Go.Proofs.YtkbabldehmgmaaaW.PrintLast Go.Proofs.YtkbabldehmgmaaaL Go.Proofs.YtkbabldehmgmaaaO Go.Proofs.Ytkbabldehmgmaaa.AFnExactSenderOk
theorem i64_of {x : Int} (h : OkN .i64 x) : -9223372036854775808 ≤ x ∧ x ≤ 9223372036854775807 := bounds_i64 h
theorem itemok_eq (a b c d : Int) : impl_ItemOk.f a b c d = spec_ItemOk.f a b c d := rfl
def itemOk (x : S47) : Bool := decide ((x.f0 = 1 ∧ (0 ≤ x.f1 ∧ x.f1 ≤ 4294967295) ∧ (0 ≤ x.f2 ∧ x.f2 ≤ 4294967295) ∧ x.f3 = 0) ∨ (x.f0 = 2 ∧ (1 ≤ x.f3 ∧ x.f3 ≤ 1000000000) ∧ x.f1 = 0 ∧ x.f2 = 0))
theorem spec_l01In_of (x lo hi : Int) : spec_l01In.f x lo hi = some (decide (lo ≤ x ∧ x ≤ hi)) := by
  unfold spec_l01In.f
  rw [ite_some]; congr 1; rw [Bool.eq_iff_iff]
  by_cases h : x ≥ lo <;> simp [h] <;> omega
theorem spec_ItemOk_of (x : S47) : spec_ItemOk.f x.f0 x.f1 x.f2 x.f3 = some (itemOk x) := by
  unfold spec_ItemOk.f itemOk spec_HalfOk.f
  simp only [spec_l01In_of, Option.bind_some, ite_some]
  congr 1; rw [Bool.eq_iff_iff]
  by_cases h1 : x.f0 = 1
  · simp [h1]
  · by_cases h2 : x.f0 = 2 <;> simp [h1, h2]
theorem impl_ItemOk_of (x : S47) : impl_ItemOk.f x.f0 x.f1 x.f2 x.f3 = some (itemOk x) := (itemok_eq _ _ _ _).trans (spec_ItemOk_of x)
def senderOk (a b : Int) (l : List S47) (c d : Int) : Bool := l.all itemOk && (decide ((0 ≤ a ∧ a ≤ 2) ∧ (1 ≤ b ∧ b ≤ 1000000000) ∧ l.length ≤ 3 ∧ (0 ≤ c ∧ c ≤ 1000000000) ∧ (d = 1 ∨ d = 2 ∨ d = 4)))
def senderRest (a b : Int) (n : Nat) (c d : Int) : Bool := decide ((0 ≤ a ∧ a ≤ 2) ∧ (1 ≤ b ∧ b ≤ 1000000000) ∧ n ≤ 3 ∧ (0 ≤ c ∧ c ≤ 1000000000) ∧ (d = 1 ∨ d = 2 ∨ d = 4))
theorem spec_SenderOk_ev (a b : Int) (l : List S47) (c d : Int) (hn : l.length ≤ 1048576) : Ev (fun k => spec_SenderOk.f k a b l c d) (senderOk a b l c d) := by
  unfold spec_SenderOk.f
  have := foldE_ev (σ := Unit) (ρ := Bool) (fun k _ i => spec_SenderOk.l0 k i a b l c d) l (fun _ x => if itemOk x then .ok () else .error false) (fun _ => senderRest a b l.length c d) (fun _ _ => True) ?_ ?_ ?_ l.length 0 () rfl (Nat.zero_le _) trivial
  · refine Ev.eq ?_ (by simpa using this)
    unfold senderOk
    rw [show decide _ = senderRest a b l.length c d from rfl]
    generalize senderRest a b l.length c d = z
    clear this hn
    induction l with
    | nil => simp [foldE]
    | cons x r ih =>
      cases h : itemOk x with
      | true => rw [foldE_on r (show (if itemOk x then Except.ok () else Except.error false) = .ok () by simp [h])]; simpa [h] using ih
      | false => rw [foldE_stop r (show (if itemOk x then Except.ok () else Except.error false) = .error false by simp [h])]; simp [h]
  · intro _ _
    refine Ev.step (f := fun _ => some (senderRest a b l.length c d)) (fun k => ?_) (Ev.now _)
    simp only [spec_SenderOk.l0]; rw [if_neg (by omega)]
    unfold senderRest
    simp only [spec_l01In_of, Option.bind_some, ite_some]
    congr 1; rw [Bool.eq_iff_iff]
    by_cases h8 : d = 1 <;> by_cases h9 : d = 2 <;> simp [h8, h9] <;> omega
  · intro i x s e hx hs he
    have hi := lt_of hx
    cases h : itemOk x with
    | true => rw [h] at he; cases he
    | false =>
      rw [h] at he; injection he with he; subst he
      refine Ev.step (f := fun _ => some false) (fun k => ?_) (Ev.now _)
      simp only [spec_SenderOk.l0]
      rw [if_pos (by omega), if_pos (by omega), rd47 hx, spec_ItemOk_of, h]
      rfl
  · intro i x s s' hx hs he
    have hi := lt_of hx
    cases h : itemOk x with
    | false => rw [h] at he; cases he
    | true =>
      refine ⟨trivial, fun r hr => ?_⟩
      refine Ev.step (fun k => ?_) hr
      simp only [spec_SenderOk.l0]
      rw [if_pos (by omega), if_pos (by omega), rd47 hx, spec_ItemOk_of, h, w64 (by omega) (by omega)]
      rfl
theorem impl_areItems_ev (l : List S47) (hn : l.length ≤ 1048576) : Ev (fun k => impl_areItems.f k l) (l.all itemOk) := by
  unfold impl_areItems.f
  refine all_ev (fun k i => impl_areItems.l0 k l (l.length : Int) i) l itemOk ?_ ?_ ?_
  · refine Ev.step (f := fun _ => some true) (fun k => ?_) (Ev.now _)
    simp only [impl_areItems.l0]; rw [if_neg (by omega)]
  · intro i x hx h
    have hi := lt_of hx
    refine Ev.step (f := fun _ => some false) (fun k => ?_) (Ev.now _)
    simp only [impl_areItems.l0]
    rw [if_pos (by omega), if_pos (by omega), if_pos (by omega), rd47 hx, impl_ItemOk_of, h]
    rfl
  · intro i x r hx h hr
    have hi := lt_of hx
    refine Ev.step (fun k => ?_) hr
    simp only [impl_areItems.l0]
    rw [if_pos (by omega), if_pos (by omega), if_pos (by omega), rd47 hx, impl_ItemOk_of, h, w64 (by omega) (by omega)]
    rfl
theorem impl_SenderOk_ev (a b : Int) (l : List S47) (c d : Int) (hn : l.length ≤ 1048576) : Ev (fun k => impl_SenderOk.f k a b l c d) (senderOk a b l c d) := by
  have e1 := impl_areItems_ev l hn
  unfold impl_SenderOk.f impl_isPid.f senderOk
  have e0 : ∀ x lo hi : Int, impl_within.f x lo hi = some (decide (lo ≤ x ∧ x ≤ hi)) := spec_l01In_of
  simp only [e0, Option.bind_some, decide_eq_true_eq, ite_some]
  refine Ev.both (fun h1 => Ev.both (fun h2 => Ev.both (fun h3 => Ev.bind e1 (Ev.some_ ?_)) (fun h3 => Ev.some_ ?_)) (fun h2 => Ev.some_ ?_)) (fun h1 => Ev.some_ ?_)
  · cases l.all itemOk
    · simp
    · simp only [if_true, Bool.true_and]
      rw [Bool.eq_iff_iff]
      by_cases h8 : d = 1 <;> by_cases h9 : d = 2 <;> simp [h8, h9] <;> omega
  · rw [decide_eq_false (by omega)]; simp
  · rw [decide_eq_false (by omega)]; simp
  · rw [decide_eq_false (by omega)]; simp
theorem pure : Pure := by
  intro a b l0 c d ha hb hl hc hd
  refine Ev.rounds ?_
  unfold laws_FnExactSenderOk.f
  obtain ⟨v, hv, h⟩ := szSender_of a b l0 c d 1048576 hl.1 (by omega) (by omega)
  refine Ev.bind (Ev.const hv) ?_
  rcases h with h | ⟨h0, h1, h2⟩
  · exact Ev.pos h (Ev.now _)
  have e1 := toSender_ev a b l0 c d h2
  have hm : (l0.map cvS43_S47).length ≤ 1048576 := by simpa using h2
  generalize l0.map cvS43_S47 = xs at e1 hm
  have e2 := spec_SenderOk_ev a b xs c d hm
  have e3 := impl_SenderOk_ev a b xs c d hm
  have e4 := eqSender_ev a b xs c d (by omega)
  generalize senderOk a b xs c d = z at e2 e3
  repeat (first
    | (with_reducible refine Ev.bind e1 ?_; try dsimp only)
    | (with_reducible refine Ev.bind e2 ?_; try dsimp only)
    | (with_reducible refine Ev.bind e3 ?_; try dsimp only)
    | (with_reducible refine Ev.bind e4 ?_; try dsimp only)
    | (refine Ev.neg (by omega) ?_)
    | (refine Ev.pos (by rfl) ?_)
    | (refine Ev.neg (by simp) ?_)
    | exact Ev.now _)
end Go.Proofs.Ytkbabldehmgmaaa.PFnExactSenderOk
namespace Go.Proofs.Ytkbabldehmgmaaa
/-- The given statement. -/
theorem fnExactSenderOk_holds : Rows.FnExactSenderOkSaid := AFnExactSenderOk.row PFnExactSenderOk.pure
#print axioms fnExactSenderOk_holds
end Go.Proofs.Ytkbabldehmgmaaa
