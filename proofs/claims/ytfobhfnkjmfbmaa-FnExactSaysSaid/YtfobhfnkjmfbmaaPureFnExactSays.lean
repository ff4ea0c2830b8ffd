/- laws.FnExactSays returns true at every input, its argument as it was. No condition. -/
import Derived.Test.YtfobhfnkjmfbmaaExFnExactSays
import Derived.Test.YtfobhfnkjmfbmaaArgFnExactSays
set_option linter.unusedVariables false
set_option linter.unusedSimpArgs false
namespace Go.Proofs.Ytfobhfnkjmfbmaa.PFnExactSays
open Go.RowKit Go.Proofs.YtfobhfnkjmfbmaaW.PrintWords Go.Proofs.YtfobhfnkjmfbmaaW.PrintLast Go.Proofs.YtfobhfnkjmfbmaaL Go.Proofs.YtfobhfnkjmfbmaaO Go.Proofs.Ytfobhfnkjmfbmaa.AFnExactSays
theorem i64_of {x : Int} (h : OkN .i64 x) : -9223372036854775808 ≤ x ∧ x ≤ 9223372036854775807 := bounds_i64 h
theorem itemok_eq (a b c d : Int) : impl_ItemOk.f a b c d = spec_ItemOk.f a b c d := rfl
def itemOk (x : S29) : Bool := decide ((x.f0 = 1 ∧ (0 ≤ x.f1 ∧ x.f1 ≤ 4294967295) ∧ (0 ≤ x.f2 ∧ x.f2 ≤ 4294967295) ∧ x.f3 = 0) ∨ (x.f0 = 2 ∧ (1 ≤ x.f3 ∧ x.f3 ≤ 1000000000) ∧ x.f1 = 0 ∧ x.f2 = 0))
theorem spec_l01In_of (x lo hi : Int) : spec_l01In.f x lo hi = some (decide (lo ≤ x ∧ x ≤ hi)) := by
  unfold spec_l01In.f
  rw [ite_some]; congr 1; rw [Bool.eq_iff_iff]
  by_cases h : x ≥ lo <;> simp [h] <;> omega
theorem spec_ItemOk_of (x : S29) : spec_ItemOk.f x.f0 x.f1 x.f2 x.f3 = some (itemOk x) := by
  unfold spec_ItemOk.f itemOk spec_HalfOk.f
  simp only [spec_l01In_of, Option.bind_some, ite_some]
  congr 1; rw [Bool.eq_iff_iff]
  by_cases h1 : x.f0 = 1
  · simp [h1]
  · by_cases h2 : x.f0 = 2 <;> simp [h1, h2]
theorem impl_ItemOk_of (x : S29) : impl_ItemOk.f x.f0 x.f1 x.f2 x.f3 = some (itemOk x) := (itemok_eq _ _ _ _).trans (spec_ItemOk_of x)
def senderOk (a b : Int) (l : List S29) (c d : Int) : Bool := l.all itemOk && (decide ((0 ≤ a ∧ a ≤ 2) ∧ (1 ≤ b ∧ b ≤ 1000000000) ∧ l.length ≤ 3 ∧ (0 ≤ c ∧ c ≤ 1000000000) ∧ (d = 1 ∨ d = 2 ∨ d = 4)))
def senderRest (a b : Int) (n : Nat) (c d : Int) : Bool := decide ((0 ≤ a ∧ a ≤ 2) ∧ (1 ≤ b ∧ b ≤ 1000000000) ∧ n ≤ 3 ∧ (0 ≤ c ∧ c ≤ 1000000000) ∧ (d = 1 ∨ d = 2 ∨ d = 4))
theorem spec_SenderOk_ev (a b : Int) (l : List S29) (c d : Int) (hn : l.length ≤ 1048576) : Ev (fun k => spec_SenderOk.f k a b l c d) (senderOk a b l c d) := by
  unfold spec_SenderOk.f
  have := foldE_ev (σ := Unit) (ρ := Bool) (fun k _ i => spec_SenderOk.l0 k i a b l c d) l (fun _ x => if itemOk x then .ok () else .error false) (fun _ => senderRest a b l.length c d) (fun _ _ => True) ?_ ?_ ?_ l.length 0 () rfl (Nat.zero_le _) trivial
  · refine Ev.eq ?_ (by simpa using this)
    unfold senderOk
    rw [show decide _ = senderRest a b l.length c d from rfl]
    generalize senderRest a b l.length c d = z
    clear this hn
    induction l with
    | nil => simp [foldE]
    | cons x r ih =>
      cases h : itemOk x with
      | true => rw [foldE_on r (show (if itemOk x then Except.ok () else Except.error false) = .ok () by simp [h])]; simpa [h] using ih
      | false => rw [foldE_stop r (show (if itemOk x then Except.ok () else Except.error false) = .error false by simp [h])]; simp [h]
  · intro _ _
    refine Ev.step (f := fun _ => some (senderRest a b l.length c d)) (fun k => ?_) (Ev.now _)
    simp only [spec_SenderOk.l0]; rw [if_neg (by omega)]
    unfold senderRest
    simp only [spec_l01In_of, Option.bind_some, ite_some]
    congr 1; rw [Bool.eq_iff_iff]
    by_cases h8 : d = 1 <;> by_cases h9 : d = 2 <;> simp [h8, h9] <;> omega
  · intro i x s e hx hs he
    have hi := lt_of hx
    cases h : itemOk x with
    | true => rw [h] at he; cases he
    | false =>
      rw [h] at he; injection he with he; subst he
      refine Ev.step (f := fun _ => some false) (fun k => ?_) (Ev.now _)
      simp only [spec_SenderOk.l0]
      rw [if_pos (by omega), if_pos (by omega), rd29 hx, spec_ItemOk_of, h]
      rfl
  · intro i x s s' hx hs he
    have hi := lt_of hx
    cases h : itemOk x with
    | false => rw [h] at he; cases he
    | true =>
      refine ⟨trivial, fun r hr => ?_⟩
      refine Ev.step (fun k => ?_) hr
      simp only [spec_SenderOk.l0]
      rw [if_pos (by omega), if_pos (by omega), rd29 hx, spec_ItemOk_of, h, w64 (by omega) (by omega)]
      rfl
theorem impl_areItems_ev (l : List S29) (hn : l.length ≤ 1048576) : Ev (fun k => impl_areItems.f k l) (l.all itemOk) := by
  unfold impl_areItems.f
  refine all_ev (fun k i => impl_areItems.l0 k l (l.length : Int) i) l itemOk ?_ ?_ ?_
  · refine Ev.step (f := fun _ => some true) (fun k => ?_) (Ev.now _)
    simp only [impl_areItems.l0]; rw [if_neg (by omega)]
  · intro i x hx h
    have hi := lt_of hx
    refine Ev.step (f := fun _ => some false) (fun k => ?_) (Ev.now _)
    simp only [impl_areItems.l0]
    rw [if_pos (by omega), if_pos (by omega), if_pos (by omega), rd29 hx, impl_ItemOk_of, h]
    rfl
  · intro i x r hx h hr
    have hi := lt_of hx
    refine Ev.step (fun k => ?_) hr
    simp only [impl_areItems.l0]
    rw [if_pos (by omega), if_pos (by omega), if_pos (by omega), rd29 hx, impl_ItemOk_of, h, w64 (by omega) (by omega)]
    rfl
theorem impl_SenderOk_ev (a b : Int) (l : List S29) (c d : Int) (hn : l.length ≤ 1048576) : Ev (fun k => impl_SenderOk.f k a b l c d) (senderOk a b l c d) := by
  have e1 := impl_areItems_ev l hn
  unfold impl_SenderOk.f impl_isPid.f senderOk
  have e0 : ∀ x lo hi : Int, impl_within.f x lo hi = some (decide (lo ≤ x ∧ x ≤ hi)) := spec_l01In_of
  simp only [e0, Option.bind_some, decide_eq_true_eq, ite_some]
  refine Ev.both (fun h1 => Ev.both (fun h2 => Ev.both (fun h3 => Ev.bind e1 (Ev.some_ ?_)) (fun h3 => Ev.some_ ?_)) (fun h2 => Ev.some_ ?_)) (fun h1 => Ev.some_ ?_)
  · cases l.all itemOk
    · simp
    · simp only [if_true, Bool.true_and]
      rw [Bool.eq_iff_iff]
      by_cases h8 : d = 1 <;> by_cases h9 : d = 2 <;> simp [h8, h9] <;> omega
  · rw [decide_eq_false (by omega)]; simp
  · rw [decide_eq_false (by omega)]; simp
  · rw [decide_eq_false (by omega)]; simp
def sayOne (p n : Int) (s : List S31) (x : S29) : Except (List S31) (List S31) := .ok (s ++ [⟨1, p, n + (s.length : Int), x⟩])
def saysV (a b : Int) (l : List S29) (c d : Int) : List S31 := if senderOk a b l c d = true then foldE (sayOne a b) id l [] else []
theorem says_length (p n : Int) : ∀ (l : List S29) (s : List S31), (foldE (sayOne p n) id l s).length = s.length + l.length
  | [], s => by simp [foldE]
  | x :: r, s => by
    rw [foldE_on r (show sayOne p n s x = .ok _ from rfl), says_length p n r]
    simp; omega
theorem saysV_length (a b : Int) (l : List S29) (c d : Int) : (saysV a b l c d).length ≤ l.length := by
  unfold saysV
  split
  · rw [says_length]; simp
  · simp
theorem senderOk_of {a b : Int} {l : List S29} {c d : Int} (h : senderOk a b l c d = true) : l.all itemOk = true ∧ (0 ≤ a ∧ a ≤ 2) ∧ (1 ≤ b ∧ b ≤ 1000000000) ∧ l.length ≤ 3 ∧ (0 ≤ c ∧ c ≤ 1000000000) ∧ (d = 1 ∨ d = 2 ∨ d = 4) := by
  unfold senderOk at h
  rw [Bool.and_eq_true] at h
  exact ⟨h.1, of_decide_eq_true h.2⟩
theorem spec_Says_ev (a b : Int) (l : List S29) (c d : Int) (hn : l.length ≤ 1048576) : Ev (fun k => spec_Says.f k a b l c d) (saysV a b l c d) := by
  unfold spec_Says.f saysV
  have e0 := spec_SenderOk_ev a b l c d hn
  cases hs : senderOk a b l c d with
  | false =>
    rw [hs] at e0
    rw [if_neg (by simp)]
    by_cases h0 : (0 : Int) < (l.length : Int)
    · refine Ev.step (f := fun k => (spec_SenderOk.f k a b l c d).bind fun t => if t = true then (if (0 : Int) ≤ 0 then (if ([] : List S31).length < 2513169434916 then spec_Says.l0 k ([] ++ [(⟨1, a, wrap64 (b + 0), (⟨(rd_T29 l 0).f0, (rd_T29 l 0).f1, (rd_T29 l 0).f2, (rd_T29 l 0).f3⟩ : S29)⟩ : S31)]) (wrap64 (0 + 1)) a b l c d else none) else none) else some []) (fun k => ?_) ?_
      · simp only [spec_Says.l0]; rw [if_pos h0]
      · exact Ev.bind e0 (Ev.neg (by simp) (Ev.now _))
    · refine Ev.step (f := fun _ => some []) (fun k => ?_) (Ev.now _)
      simp only [spec_Says.l0]; rw [if_neg h0]
  | true =>
    rw [hs] at e0
    rw [if_pos rfl]
    obtain ⟨_, ha, hb, hl, _⟩ := senderOk_of hs
    have := foldE_ev (fun k s i => spec_Says.l0 k s i a b l c d) l (sayOne a b) id (fun i s => s.length = i) ?_ ?_ ?_ l.length 0 [] rfl (Nat.zero_le _) rfl
    · simpa using this
    · intro s hs
      refine Ev.step (f := fun _ => some s) (fun k => ?_) (Ev.now _)
      simp only [spec_Says.l0]; rw [if_neg (by omega)]
    · intro i x s e hx hs he; cases he
    · intro i x s s' hx hs he
      have hi := lt_of hx
      obtain rfl : s ++ [⟨1, a, b + (s.length : Int), x⟩] = s' := by injection he
      refine ⟨by simp; omega, fun r h => ?_⟩
      refine Ev.step (f := fun k => (spec_SenderOk.f k a b l c d).bind fun t => if t = true then spec_Says.l0 k (s ++ [⟨1, a, b + (s.length : Int), x⟩]) ((i : Int) + 1) a b l c d else some s) (fun k => ?_) ?_
      · simp only [spec_Says.l0]
        rw [if_pos (by omega), rd29 hx, w64 (x := (i : Int) + 1) (by omega) (by omega), w64 (x := b + (i : Int)) (by omega) (by omega), hs]
        congr 1; funext t
        by_cases ht : t = true
        · rw [if_pos ht, if_pos ht, if_pos (by omega), if_pos (by omega)]
        · rw [if_neg ht, if_neg ht]
      · exact Ev.bind e0 (Ev.pos rfl h)
theorem impl_Says_ev (a b : Int) (l : List S29) (c d : Int) (hn : l.length ≤ 1048576) : Ev (fun k => impl_Says.f k a b l c d) (saysV a b l c d) := by
  unfold impl_Says.f saysV
  have e0 := impl_SenderOk_ev a b l c d hn
  refine Ev.bindc rfl (Ev.bind e0 ?_)
  cases hs : senderOk a b l c d with
  | false => rw [if_neg (by simp)]; exact Ev.neg (by simp) (Ev.now _)
  | true =>
    rw [if_pos rfl]
    refine Ev.pos rfl ?_
    obtain ⟨_, ha, hb, hl, _⟩ := senderOk_of hs
    have := foldE_ev (fun k s i => impl_Says.l0 k s l (l.length : Int) i a b l c d) l (sayOne a b) id (fun i s => s.length = i) ?_ ?_ ?_ l.length 0 [] rfl (Nat.zero_le _) rfl
    · simpa using this
    · intro s hs
      refine Ev.step (f := fun _ => some s) (fun k => ?_) (Ev.now _)
      simp only [impl_Says.l0]; rw [if_neg (by omega)]
    · intro i x s e hx hs he; cases he
    · intro i x s s' hx hs he
      have hi := lt_of hx
      obtain rfl : s ++ [⟨1, a, b + (s.length : Int), x⟩] = s' := by injection he
      refine ⟨by simp; omega, fun r h => ?_⟩
      refine Ev.step (fun k => ?_) h
      simp only [impl_Says.l0]
      rw [if_pos (by omega), if_pos (by omega), if_pos (by omega), if_pos (by omega), rd29 hx, w64 (x := (i : Int) + 1) (by omega) (by omega), w64 (x := b + (i : Int)) (by omega) (by omega), hs]
theorem pure : Pure := by
  intro a b l0 c d ha hb hl hc hd
  refine Ev.rounds ?_
  unfold laws_FnExactSays.f
  obtain ⟨v, hv, h⟩ := szSender_of a b l0 c d 1048576 hl.1 (by omega) (by omega)
  refine Ev.bind (Ev.const hv) ?_
  rcases h with h | ⟨h0, h1, h2⟩
  · exact Ev.pos h (Ev.now _)
  have e1 := toSender_ev a b l0 c d h2
  have hm : (l0.map cvS175_S29).length ≤ 1048576 := by simpa using h2
  generalize l0.map cvS175_S29 = xs at e1 hm
  have e2 := spec_Says_ev a b xs c d hm
  have e3 := impl_Says_ev a b xs c d hm
  have hg := saysV_length a b xs c d
  generalize saysV a b xs c d = g at e2 e3 hg
  have e4 := eqSender_ev a b xs c d (by omega)
  have e5 := eqFrameS_ev g (by omega)
  have hc1 : mcount ctS29 xs ≤ 4194304 := by rw [mcount_const ctS29 4 (fun _ => rfl)]; omega
  have hc2 : mcount ctS31 g ≤ 12000000 := by rw [mcount_const ctS31 7 (fun _ => rfl)]; omega
  have e6 := markSender_ev a b xs c d 1 (by omega) (by omega) (by omega)
  have e7 := markFrameS_ev g 1 (by omega) (by omega) (by omega)
  have e8 := heldFrameS_ev g 1 (by omega) (by omega) (by omega)
  repeat (first
    | (with_reducible refine Ev.bind e1 ?_; try dsimp only)
    | (with_reducible refine Ev.bind e2 ?_; try dsimp only)
    | (with_reducible refine Ev.bind e3 ?_; try dsimp only)
    | (with_reducible refine Ev.bind e4 ?_; try dsimp only)
    | (with_reducible refine Ev.bind e5 ?_; try dsimp only)
    | (with_reducible refine Ev.bind e6 ?_; try dsimp only)
    | (with_reducible refine Ev.bind e7 ?_; try dsimp only)
    | (with_reducible refine Ev.bind e8 ?_; try dsimp only)
    | (refine Ev.neg (by omega) ?_)
    | (refine Ev.pos (by first | rfl | omega) ?_)
    | (refine Ev.neg (by simp) ?_)
    | (refine Ev.step (fun _ => rfl) ?_; simp only [laws_FnExactSays.j0])
    | exact Ev.now _)
end Go.Proofs.Ytfobhfnkjmfbmaa.PFnExactSays
namespace Go.Proofs.Ytfobhfnkjmfbmaa
/-- The given statement. -/
theorem fnExactSays_holds : Rows.FnExactSaysSaid := AFnExactSays.row PFnExactSays.pure
#print axioms fnExactSays_holds
end Go.Proofs.Ytfobhfnkjmfbmaa
