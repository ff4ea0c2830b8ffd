/- laws.FnExactEventOk returns true at every input, its argument as it was. No condition. -/
import Derived.Test.YtkbabldehmgmaaaExFnExactEventOk
import Derived.Test.YtkbabldehmgmaaaArgFnExactEventOk
set_option linter.unusedVariables false
set_option linter.unusedSimpArgs false
namespace Go.Proofs.Ytkbabldehmgmaaa.PFnExactEventOk
open Go.RowKit Go.Proofs.YtkbabldehmgmaaaW.PrintWords Go.Proofs.YtkbabldehmgmaaaW.PrintLast Go.Proofs.YtkbabldehmgmaaaL Go.Proofs.YtkbabldehmgmaaaO Go.Proofs.Ytkbabldehmgmaaa.AFnExactEventOk
theorem i64_of {x : Int} (h : OkN .i64 x) : -9223372036854775808 ≤ x ∧ x ≤ 9223372036854775807 := bounds_i64 h
def wideOk (x : S131) : Bool := decide ((0 ≤ x.f0 ∧ x.f0 ≤ 4294967295) ∧ (0 ≤ x.f1 ∧ x.f1 ≤ 4294967295))
def callOk (a b : Int) (l : List S131) : Bool := l.all wideOk && decide ((0 ≤ a ∧ a ≤ 4294967295) ∧ (0 ≤ b ∧ b ≤ 4294967295) ∧ l.length = 3)
theorem spec_l01In_of (x lo hi : Int) : spec_l01In.f x lo hi = some (decide (lo ≤ x ∧ x ≤ hi)) := by
  unfold spec_l01In.f
  rw [ite_some]; congr 1; rw [Bool.eq_iff_iff]
  by_cases h : x ≥ lo <;> simp [h] <;> omega
theorem impl_within_of (x lo hi : Int) : impl_within.f x lo hi = some (decide (lo ≤ x ∧ x ≤ hi)) := spec_l01In_of x lo hi
theorem spec_WideOk_of (x : S131) : spec_WideOk.f x.f0 x.f1 = some (wideOk x) := by
  unfold spec_WideOk.f wideOk spec_HalfOk.f
  simp only [spec_l01In_of, Option.bind_some, ite_some]
  congr 1; rw [Bool.eq_iff_iff]; simp
theorem impl_WideOk_of (x : S131) : impl_WideOk.f x.f0 x.f1 = some (wideOk x) := spec_WideOk_of x
def callRest (a b : Int) (n : Nat) : Bool := decide ((0 ≤ a ∧ a ≤ 4294967295) ∧ (0 ≤ b ∧ b ≤ 4294967295) ∧ n = 3)
theorem all_fold {α : Type} (p : α → Bool) (z : Bool) : ∀ l : List α, foldE (σ := Unit) (ρ := Bool) (fun _ x => if p x then .ok () else .error false) (fun _ => z) l () = (l.all p && z)
  | [] => by simp [foldE]
  | x :: r => by
    cases h : p x with
    | true => rw [foldE_on r (show (if p x then Except.ok () else Except.error false) = .ok () by simp [h]), all_fold p z r]; simp [h]
    | false => rw [foldE_stop r (show (if p x then Except.ok () else Except.error false) = .error false by simp [h])]; simp [h]
theorem spec_CallOk_ev (a b : Int) (l : List S131) (hn : l.length ≤ 1048576) : Ev (fun k => spec_CallOk.f k a b l) (callOk a b l) := by
  unfold spec_CallOk.f
  have := foldE_ev (σ := Unit) (ρ := Bool) (fun k _ i => spec_CallOk.l0 k i a b l) l (fun _ x => if wideOk x then .ok () else .error false) (fun _ => callRest a b l.length) (fun _ _ => True) ?_ ?_ ?_ l.length 0 () rfl (Nat.zero_le _) trivial
  · rw [List.drop_zero, all_fold] at this
    exact this
  · intro _ _
    refine Ev.step (f := fun _ => some (callRest a b l.length)) (fun k => ?_) (Ev.now _)
    simp only [spec_CallOk.l0]; rw [if_neg (by omega)]
    unfold spec_HalfOk.f callRest
    simp only [spec_l01In_of, Option.bind_some, ite_some]
    congr 1; rw [Bool.eq_iff_iff]; simp; omega
  · intro i x s e hx hs he
    have hi := lt_of hx
    cases h : wideOk x with
    | true => rw [h] at he; cases he
    | false =>
      rw [h] at he; injection he with he; subst he
      refine Ev.step (f := fun _ => some false) (fun k => ?_) (Ev.now _)
      simp only [spec_CallOk.l0]
      rw [if_pos (by omega), if_pos (by omega), rd131 hx, spec_WideOk_of, h]
      rfl
  · intro i x s s' hx hs he
    have hi := lt_of hx
    cases h : wideOk x with
    | false => rw [h] at he; cases he
    | true =>
      refine ⟨trivial, fun r hr => ?_⟩
      refine Ev.step (fun k => ?_) hr
      simp only [spec_CallOk.l0]
      rw [if_pos (by omega), if_pos (by omega), rd131 hx, spec_WideOk_of, h, w64 (by omega) (by omega)]
      rfl
theorem impl_CallOk_ev (a b : Int) (l : List S131) (hn : l.length ≤ 1048576) : Ev (fun k => impl_CallOk.f k a b l) (callOk a b l) := by
  unfold impl_CallOk.f
  have := foldE_ev (σ := Unit) (ρ := Bool) (fun k _ i => impl_CallOk.l0 k l (l.length : Int) i a b l) l (fun _ x => if wideOk x then .ok () else .error false) (fun _ => callRest a b l.length) (fun _ _ => True) ?_ ?_ ?_ l.length 0 () rfl (Nat.zero_le _) trivial
  · rw [List.drop_zero, all_fold] at this
    exact this
  · intro _ _
    refine Ev.step (f := fun _ => some (callRest a b l.length)) (fun k => ?_) (Ev.now _)
    simp only [impl_CallOk.l0]; rw [if_neg (by omega)]
    unfold impl_HalfOk.f callRest
    simp only [impl_within_of, Option.bind_some, ite_some]
    congr 1; rw [Bool.eq_iff_iff]; simp; omega
  · intro i x s e hx hs he
    have hi := lt_of hx
    cases h : wideOk x with
    | true => rw [h] at he; cases he
    | false =>
      rw [h] at he; injection he with he; subst he
      refine Ev.step (f := fun _ => some false) (fun k => ?_) (Ev.now _)
      simp only [impl_CallOk.l0]
      rw [if_pos (by omega), if_pos (by omega), if_pos (by omega), rd131 hx, impl_WideOk_of, h]
      rfl
  · intro i x s s' hx hs he
    have hi := lt_of hx
    cases h : wideOk x with
    | false => rw [h] at he; cases he
    | true =>
      refine ⟨trivial, fun r hr => ?_⟩
      refine Ev.step (fun k => ?_) hr
      simp only [impl_CallOk.l0]
      rw [if_pos (by omega), if_pos (by omega), if_pos (by omega), rd131 hx, impl_WideOk_of, h, w64 (by omega) (by omega)]
      rfl
def noCall (a b : Int) (l : List S131) : Bool := decide (a = 0 ∧ b = 0 ∧ l.length = 0)
def eventOk (kd at_ num a b : Int) (l : List S131) (t : ByteArray) : Bool :=
  decide ((1 ≤ kd ∧ kd ≤ 12) ∧ 0 ≤ at_ ∧ 0 ≤ num) && (if kd = 1 then callOk a b l else noCall a b l) && (if kd = 2 then decide (t.size ≤ 1200) else decide (t.toList = []))
theorem empty_size (t : ByteArray) (h : t.toList = []) : t.size = 0 := by
  have := congrArg List.length h
  simpa [ByteArray.toList_eq] using this
theorem spec_EventOk_ev (kd at_ num a b : Int) (l : List S131) (t : ByteArray) (hn : l.length ≤ 1048576) : Ev (fun k => spec_EventOk.f k kd at_ num a b l t) (eventOk kd at_ num a b l t) := by
  have e1 := spec_CallOk_ev a b l hn
  unfold spec_EventOk.f spec_l01In.f eventOk
  have hbad : ∀ z, Ev (fun k => spec_EventOk.j0 k true kd at_ num a b l t) (false && z) := fun z => by
    refine Ev.step (fun _ => rfl) ?_; simp only [spec_EventOk.j0]; exact Ev.pos (by simp) (Ev.now _)
  have hj1 : ∀ z : Bool, Ev (fun k => spec_EventOk.j1 k (!z) kd at_ num a b l t) (z && (if kd = 2 then decide (t.size ≤ 1200) else decide (t.toList = []))) := fun z => by
    refine Ev.step (fun _ => rfl) ?_; simp only [spec_EventOk.j1]
    cases z with
    | false => exact Ev.pos (by simp) (Ev.now _)
    | true =>
      refine Ev.neg (by simp) ?_
      by_cases h : kd = 2
      · refine Ev.pos h (Ev.some_ ?_); simp only [h, if_true, Bool.true_and]; rw [Bool.eq_iff_iff]; simp; omega
      · refine Ev.neg h (Ev.some_ ?_); simp only [h, if_false, Bool.true_and]; rw [Bool.eq_iff_iff]; simp
  by_cases h1 : kd ≥ 1 ∧ kd ≤ 12
  · rw [if_pos h1.1]
    refine Ev.bindc rfl ?_
    refine Ev.pos (by simpa using h1.2) ?_
    by_cases h2 : at_ < 0
    · rw [decide_eq_false (p := (1 ≤ kd ∧ kd ≤ 12) ∧ 0 ≤ at_ ∧ 0 ≤ num) (by omega)]; simp only [Bool.false_and]
      exact Ev.pos h2 (by simpa using hbad true)
    · refine Ev.neg h2 ?_
      by_cases h3 : num < 0
      · rw [decide_eq_true h3, decide_eq_false (p := (1 ≤ kd ∧ kd ≤ 12) ∧ 0 ≤ at_ ∧ 0 ≤ num) (by omega)]; simp only [Bool.false_and]
        simpa using hbad true
      · rw [decide_eq_false h3, decide_eq_true (p := (1 ≤ kd ∧ kd ≤ 12) ∧ 0 ≤ at_ ∧ 0 ≤ num) (by omega), Bool.true_and]
        refine Ev.step (fun _ => rfl) ?_; simp only [spec_EventOk.j0]
        refine Ev.neg (by simp) ?_
        by_cases h4 : kd = 1
        · refine Ev.pos h4 (Ev.bind e1 ?_)
          rw [if_pos h4]
          have := hj1 (callOk a b l)
          generalize callOk a b l = z at this ⊢
          cases z with
          | true => exact Ev.pos rfl this
          | false => exact Ev.neg (by simp) this
        · refine Ev.neg h4 ?_
          rw [if_neg h4]
          have e2 : spec_l21Nothing.f a b l = some (noCall a b l) := by
            unfold spec_l21Nothing.f noCall
            by_cases ha : a = 0 <;> by_cases hb : b = 0 <;> simp_all
            rw [Bool.eq_iff_iff]; simp
          exact Ev.bindc e2 (hj1 _)
  · have hz : decide ((1 ≤ kd ∧ kd ≤ 12) ∧ 0 ≤ at_ ∧ 0 ≤ num) = false := decide_eq_false (by omega)
    rw [hz]; simp only [Bool.false_and]
    by_cases h : kd ≥ 1
    · rw [if_pos h]
      refine Ev.bindc rfl (Ev.neg (by simp; omega) (by simpa using hbad true))
    · rw [if_neg h]
      refine Ev.bindc rfl (Ev.neg (by simp) (by simpa using hbad true))
theorem impl_EventOk_ev (kd at_ num a b : Int) (l : List S131) (t : ByteArray) (hn : l.length ≤ 1048576) : Ev (fun k => impl_EventOk.f k kd at_ num a b l t) (eventOk kd at_ num a b l t) := by
  have e1 := impl_CallOk_ev a b l hn
  unfold impl_EventOk.f impl_within.f eventOk
  have hbad : ∀ z, Ev (fun k => impl_EventOk.j0 k true kd at_ num a b l t) (false && z) := fun z => by
    refine Ev.step (fun _ => rfl) ?_; simp only [impl_EventOk.j0]; exact Ev.pos (by simp) (Ev.now _)
  have htail : Ev (fun _ : Nat => (if t.toList = ([] : List UInt8) then (some true) else (if kd = 2 then (some (decide ((t.size : Int) ≤ 1200))) else (some false)) : Option Bool)) (if kd = 2 then decide (t.size ≤ 1200) else decide (t.toList = [])) := by
    by_cases ht : t.toList = []
    · have := empty_size t ht
      refine Ev.pos ht (Ev.some_ ?_)
      by_cases h : kd = 2
      · rw [if_pos h, decide_eq_true (by omega)]
      · rw [if_neg h, decide_eq_true ht]
    · refine Ev.neg ht ?_
      by_cases h : kd = 2
      · refine Ev.pos h (Ev.some_ ?_); rw [if_pos h, Bool.eq_iff_iff]; simp; omega
      · refine Ev.neg h (Ev.some_ ?_); rw [if_neg h, decide_eq_false ht]
  by_cases h1 : kd ≥ 1 ∧ kd ≤ 12
  · rw [if_pos h1.1]
    refine Ev.bindc rfl ?_
    refine Ev.pos (by simpa using h1.2) ?_
    by_cases h2 : at_ < 0
    · rw [decide_eq_false (p := (1 ≤ kd ∧ kd ≤ 12) ∧ 0 ≤ at_ ∧ 0 ≤ num) (by omega)]; simp only [Bool.false_and]
      exact Ev.pos h2 (by simpa using hbad true)
    · refine Ev.neg h2 ?_
      by_cases h3 : num < 0
      · rw [decide_eq_true h3, decide_eq_false (p := (1 ≤ kd ∧ kd ≤ 12) ∧ 0 ≤ at_ ∧ 0 ≤ num) (by omega)]; simp only [Bool.false_and]
        simpa using hbad true
      · rw [decide_eq_false h3, decide_eq_true (p := (1 ≤ kd ∧ kd ≤ 12) ∧ 0 ≤ at_ ∧ 0 ≤ num) (by omega), Bool.true_and]
        refine Ev.step (fun _ => rfl) ?_; simp only [impl_EventOk.j0]
        refine Ev.neg (by simp) ?_
        by_cases h4 : kd = 1
        · refine Ev.pos h4 (Ev.bind e1 ?_)
          rw [if_pos h4]
          cases callOk a b l with
          | true => refine Ev.pos rfl ?_; simpa using htail
          | false => refine Ev.neg (by simp) (Ev.now _)
        · refine Ev.neg h4 ?_
          rw [if_neg h4]
          unfold noCall
          by_cases ha : a = 0
          · refine Ev.pos ha ?_
            by_cases hb : b = 0
            · refine Ev.pos hb ?_
              by_cases hl : l.length = 0
              · refine Ev.neg (by omega) ?_
                rw [decide_eq_true (p := a = 0 ∧ b = 0 ∧ l.length = 0) ⟨ha, hb, hl⟩, Bool.true_and]; exact htail
              · refine Ev.pos (by omega) ?_
                rw [decide_eq_false (p := a = 0 ∧ b = 0 ∧ l.length = 0) (fun h => hl h.2.2), Bool.false_and]; exact Ev.now _
            · refine Ev.neg hb ?_
              rw [decide_eq_false (p := a = 0 ∧ b = 0 ∧ l.length = 0) (fun h => hb h.2.1), Bool.false_and]; exact Ev.now _
          · refine Ev.neg ha ?_
            rw [decide_eq_false (p := a = 0 ∧ b = 0 ∧ l.length = 0) (fun h => ha h.1), Bool.false_and]; exact Ev.now _
  · have hz : decide ((1 ≤ kd ∧ kd ≤ 12) ∧ 0 ≤ at_ ∧ 0 ≤ num) = false := decide_eq_false (by omega)
    rw [hz]; simp only [Bool.false_and]
    by_cases h : kd ≥ 1
    · rw [if_pos h]
      refine Ev.bindc rfl (Ev.neg (by simp; omega) (by simpa using hbad true))
    · rw [if_neg h]
      refine Ev.bindc rfl (Ev.neg (by simp) (by simpa using hbad true))
theorem pure : Pure := by
  intro kd at_ num a b l0 t _ _ _ _ _ hl ht
  refine Ev.rounds ?_
  unfold laws_FnExactEventOk.f
  obtain ⟨v, hv, h⟩ := szEvent_of kd at_ num a b l0 t 1048576 hl.1 ht (by omega) (by omega)
  refine Ev.bind (Ev.const hv) ?_
  rcases h with h | ⟨h0, h1, h2, h3⟩
  · exact Ev.pos h (Ev.now _)
  have e1 := toEvent_ev kd at_ num a b l0 t h2
  have hm : (l0.map cvS177_S131).length ≤ 1048576 := by simpa using h2
  generalize l0.map cvS177_S131 = xs at e1 hm
  have e2 := spec_EventOk_ev kd at_ num a b xs t hm
  have e3 := impl_EventOk_ev kd at_ num a b xs t hm
  have e4 := eqEvent_ev kd at_ num a b xs t (by omega)
  generalize eventOk kd at_ num a b xs t = z at e2 e3
  repeat (first
    | (with_reducible refine Ev.bind e1 ?_; try dsimp only)
    | (with_reducible refine Ev.bind e2 ?_; try dsimp only)
    | (with_reducible refine Ev.bind e3 ?_; try dsimp only)
    | (with_reducible refine Ev.bind e4 ?_; try dsimp only)
    | (refine Ev.neg (by omega) ?_)
    | (refine Ev.pos (by rfl) ?_)
    | (refine Ev.neg (by simp) ?_)
    | exact Ev.now _)
end Go.Proofs.Ytkbabldehmgmaaa.PFnExactEventOk
namespace Go.Proofs.Ytkbabldehmgmaaa
/-- The given statement. -/
theorem fnExactEventOk_holds : Rows.FnExactEventOkSaid := AFnExactEventOk.row PFnExactEventOk.pure
#print axioms fnExactEventOk_holds
end Go.Proofs.Ytkbabldehmgmaaa
