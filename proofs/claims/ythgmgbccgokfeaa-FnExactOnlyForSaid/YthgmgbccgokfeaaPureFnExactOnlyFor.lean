/- laws.FnExactOnlyFor returns true at every input, its arguments as they were. No condition. -/
import Derived.Test.YthgmgbccgokfeaaExFnExactOnlyFor
import Derived.Test.YthgmgbccgokfeaaArgFnExactOnlyFor
set_option linter.unusedVariables false
set_option linter.unusedSimpArgs false
namespace Go.Proofs.Ythgmgbccgokfeaa.PFnExactOnlyFor
open Go.RowKit Go.Proofs.YthgmgbccgokfeaaA Go.Proofs.YthgmgbccgokfeaaL Go.Proofs.Ythgmgbccgokfeaa.AFnExactOnlyFor
theorem i64_of {x : Int} (h : OkN .i64 x) : -9223372036854775808 ≤ x ∧ x ≤ 9223372036854775807 := bounds_i64 h
theorem allI_const {α : Type} (p : α → Bool) : ∀ (xs : List α) (i : Nat), allI (fun _ x => p x) i xs = xs.all p
  | [], _ => rfl
  | x :: r, i => by simp only [allI, List.all_cons, allI_const p r (i + 1)]
theorem allz_ev {α : Type} (L : Nat → Int → Option Bool) (xs : List α) (p : α → Bool) (z : Bool)
    (stop : Ev (fun k => L k (xs.length : Int)) z)
    (bad : ∀ (i : Nat) x, xs[i]? = some x → p x = false → Ev (fun k => L k (i : Int)) false)
    (step : ∀ (i : Nat) x r, xs[i]? = some x → p x = true → Ev (fun k => L k ((i : Int) + 1)) r → Ev (fun k => L k (i : Int)) r) :
    Ev (fun k => L k 0) (xs.all p && z) := by
  rw [← allI_const p xs 0]; exact allI_ev L xs (fun _ x => p x) z stop bad step
/-- The first that holds. -/
def findV {α ρ : Type} (p : α → Bool) (res : Nat → ρ) (z : ρ) : Nat → List α → ρ
  | _, [] => z
  | i, x :: r => if p x then res i else findV p res z (i + 1) r
theorem find_ev {α ρ : Type} (L : Nat → Int → Option ρ) (xs : List α) (p : α → Bool) (res : Nat → ρ) (z : ρ)
    (stop : Ev (fun k => L k (xs.length : Int)) z)
    (hit : ∀ (i : Nat) x, xs[i]? = some x → p x = true → Ev (fun k => L k (i : Int)) (res i))
    (step : ∀ (i : Nat) x r, xs[i]? = some x → p x = false → Ev (fun k => L k ((i : Int) + 1)) r → Ev (fun k => L k (i : Int)) r) :
    Ev (fun k => L k 0) (findV p res z 0 xs) := by
  have key : ∀ (d i : Nat), xs.length - i = d → i ≤ xs.length → Ev (fun k => L k (i : Int)) (findV p res z i (xs.drop i)) := by
    intro d
    induction d with
    | zero =>
      intro i hd hi
      have : i = xs.length := by omega
      subst this
      rw [List.drop_length]
      exact stop
    | succ d ih =>
      intro i hd hi
      have hlt : i < xs.length := by omega
      have hx : xs[i]? = some xs[i] := List.getElem?_eq_getElem hlt
      rw [List.drop_eq_getElem_cons hlt]
      simp only [findV]
      cases hp : p xs[i] with
      | true => exact hit i _ hx hp
      | false => exact step i _ _ hx hp (by have := ih (i + 1) (by omega) (by omega); simpa using this)
  exact key _ 0 rfl (Nat.zero_le _)
theorem findV_spec {α ρ : Type} (p : α → Bool) (res : Nat → ρ) (z : ρ) : ∀ (xs : List α) (i : Nat), (xs.any p = true ∧ ∃ j x, xs[j]? = some x ∧ p x = true ∧ (∀ y ∈ xs.take j, p y = false) ∧ findV p res z i xs = res (i + j)) ∨ ((∀ y ∈ xs, p y = false) ∧ findV p res z i xs = z)
  | [], i => .inr ⟨fun y hy => by simp at hy, rfl⟩
  | x :: r, i => by
    simp only [findV]
    cases hp : p x with
    | true => exact .inl ⟨by simp [hp], 0, x, rfl, hp, fun y hy => by simp at hy, rfl⟩
    | false =>
      rcases findV_spec p res z r (i + 1) with ⟨h1, j, y, h2, h3, h4, h5⟩ | ⟨h1, h2⟩
      · refine .inl ⟨by simp only [List.any_cons, h1, Bool.or_true], j + 1, y, by simpa using h2, h3, fun u hu => ?_, by rw [show i + (j + 1) = i + 1 + j by omega]; exact h5⟩
        rw [List.take_succ_cons] at hu
        rcases List.mem_cons.1 hu with rfl | hu
        · exact hp
        · exact h4 u hu
      · refine .inr ⟨fun u hu => ?_, h2⟩
        rcases List.mem_cons.1 hu with rfl | hu
        · exact hp
        · exact h1 u hu
theorem any_none {α : Type} {p : α → Bool} {xs : List α} (h : ∀ y ∈ xs, p y = false) : xs.any p = false := by
  rw [List.any_eq_false]
  intro y hy; rw [h y hy]; simp
theorem find_any {α : Type} (p : α → Bool) (xs : List α) (i : Nat) : decide (findV p (fun j => (j : Int)) (-1) i xs ≥ 0) = xs.any p := by
  rcases findV_spec p (fun j => (j : Int)) (-1) xs i with ⟨h1, j, x, _, _, _, h5⟩ | ⟨h1, h2⟩
  · rw [h1, h5]; simp; omega
  · rw [h2, any_none h1]; rfl
theorem rdI_of {l : List Int} {i : Nat} {x : Int} (h : l[i]? = some x) : rd l (i : Int) = x := by unfold rd; exact get_of l 0 h
theorem take_snoc {α : Type} {l : List α} {i : Nat} {x : α} (h : l[i]? = some x) : l.take i ++ [x] = l.take (i + 1) := by rw [List.take_add_one, h]; rfl
theorem and_if (a x : Bool) : (if a = true then some x else some false) = some (a && x) := by cases a <;> rfl
theorem spec_l01In_of (x lo hi : Int) : spec_l01In.f x lo hi = some (decide (lo ≤ x ∧ x ≤ hi)) := by
  unfold spec_l01In.f
  rw [ite_some]; congr 1; rw [Bool.eq_iff_iff]
  by_cases h : x ≥ lo <;> simp [h] <;> omega
theorem spec_HalfOk_of (a : Int) : spec_HalfOk.f a = some (decide (0 ≤ a ∧ a ≤ 4294967295)) := by
  unfold spec_HalfOk.f; rw [spec_l01In_of]; rfl
def wideV (w : S90) : Bool := decide (0 ≤ w.f0 ∧ w.f0 ≤ 4294967295) && decide (0 ≤ w.f1 ∧ w.f1 ≤ 4294967295)
theorem spec_WideOk_of (w : S90) : spec_WideOk.f w.f0 w.f1 = some (wideV w) := by
  unfold spec_WideOk.f wideV
  simp only [spec_HalfOk_of, Option.bind_some, and_if]
def callRest (a n : Int) (m : Nat) : Bool := decide (0 ≤ a ∧ a ≤ 4294967295) && (decide (0 ≤ n ∧ n ≤ 4294967295) && ((m : Int) == 3))
def callOkV (a n : Int) (l : List S90) : Bool := l.all wideV && callRest a n l.length
def condOkV (c : S92) : Bool := decide (0 ≤ c.f0 ∧ c.f0 ≤ 2) && (wideV c.f1 && (wideV c.f3 && decide (1 ≤ c.f2 ∧ c.f2 ≤ 6)))
theorem spec_CondOk_of (c : S92) : spec_CondOk.f c.f0 c.f1.f0 c.f1.f1 c.f2 c.f3.f0 c.f3.f1 = some (condOkV c) := by
  unfold spec_CondOk.f condOkV
  simp only [spec_l01In_of, spec_WideOk_of, Option.bind_some, and_if]
def actV (a d : Int) : Bool := decide (0 ≤ a ∧ a ≤ 5) && decide (0 ≤ d ∧ d ≤ 65535)
theorem spec_l09Act_of (a d : Int) : spec_l09Act.f a d = some (actV a d) := by
  unfold spec_l09Act.f actV
  simp only [spec_l01In_of, Option.bind_some, and_if]
def numP (l : List Int) (i : Nat) (x : Int) : Bool := decide (0 ≤ x ∧ x ≤ 4294967295) && (decide (i = 0) || decide (l.getD (i - 1) 0 < x))
def ruleRest (n c : Nat) (a d : Int) : Bool := decide (n ≤ 4) && (decide (c ≤ 3) && actV a d)
def ruleV (r : S60) : Bool := allI (numP r.f0) 0 r.f0 && (r.f1.all condOkV && ruleRest r.f0.length r.f1.length r.f2 r.f3)
def polRest (a c d : Int) (n : Nat) : Bool := decide (0 ≤ a ∧ a ≤ 4294967295) && (actV c d && decide (n ≤ 10))
def polV (a c d : Int) (l : List S60) : Bool := l.all ruleV && polRest a c d l.length
/-- Of a size that goes through. -/
def Sm (l : List S60) : Prop := l.length ≤ 1048576 ∧ ∀ r ∈ l, r.f0.length ≤ 1048576 ∧ r.f1.length ≤ 1048576
theorem Sm.get {l : List S60} (h : Sm l) {i : Nat} {r : S60} (hr : l[i]? = some r) : r.f0.length ≤ 1048576 ∧ r.f1.length ≤ 1048576 := h.2 r (List.mem_of_getElem? hr)
theorem spec_l09Rule_ev (r : S60) (hn : r.f0.length ≤ 1048576) (hc : r.f1.length ≤ 1048576) : Ev (fun k => spec_l09Rule.f k r.f0 r.f1 r.f2 r.f3) (ruleV r) := by
  unfold spec_l09Rule.f
  refine allI_ev (fun k i => spec_l09Rule.l0 k r.f0 r.f1 r.f2 r.f3 i) r.f0 (numP r.f0) _ ?_ ?_ ?_
  · refine Ev.step (fun _ => rfl) ?_
    simp only [spec_l09Rule.l0]
    refine Ev.neg (by omega) (allz_ev (fun k i => spec_l09Rule.l1 k r.f0 r.f1 r.f2 r.f3 i) r.f1 condOkV _ ?_ ?_ ?_)
    · refine Ev.step (fun _ => rfl) ?_
      simp only [spec_l09Rule.l1]
      refine Ev.neg (by omega) (Ev.const ?_)
      rw [spec_l09Act_of]
      unfold ruleRest
      by_cases h1 : r.f0.length ≤ 4
      · rw [if_pos (by omega), decide_eq_true h1]
        by_cases h2 : r.f1.length ≤ 3
        · rw [if_pos (by omega), decide_eq_true h2]; simp
        · rw [if_neg (by omega), decide_eq_false h2]; simp
      · rw [if_neg (by omega), decide_eq_false h1]; simp
    · intro i x hx hp
      have hi := lt_of hx
      refine Ev.step (fun _ => rfl) ?_
      simp only [spec_l09Rule.l1]
      rw [rd92 hx]
      exact Ev.pos (by omega) (Ev.pos (by omega) (Ev.bindc (spec_CondOk_of x) (Ev.neg (by rw [hp]; simp) (Ev.now _))))
    · intro i x q hx hp h
      have hi := lt_of hx
      refine Ev.step (fun _ => rfl) ?_
      simp only [spec_l09Rule.l1]
      rw [rd92 hx, w64 (x := (i : Int) + 1) (by omega) (by omega)]
      exact Ev.pos (by omega) (Ev.pos (by omega) (Ev.bindc (spec_CondOk_of x) (Ev.pos hp h)))
  · intro i x hx hp
    have hi := lt_of hx
    refine Ev.step (fun _ => rfl) ?_
    simp only [spec_l09Rule.l0]
    rw [rdI_of hx]
    refine Ev.pos (by omega) (Ev.pos (by omega) (Ev.bindc (spec_HalfOk_of x) ?_))
    by_cases hh : 0 ≤ x ∧ x ≤ 4294967295
    · unfold numP at hp
      rw [decide_eq_true hh, Bool.true_and, Bool.or_eq_false_iff] at hp
      have h0 : i ≠ 0 := of_decide_eq_false hp.1
      have h1 := of_decide_eq_false hp.2
      rw [w64 (x := (i : Int) - 1) (by omega) (by omega)]
      have e : rd r.f0 ((i : Int) - 1) = r.f0.getD (i - 1) 0 := by unfold rd; rw [show ((i : Int) - 1).toNat = i - 1 by omega]
      exact Ev.pos (decide_eq_true hh) (Ev.pos (by omega) (Ev.pos (by omega) (Ev.pos (by omega) (Ev.pos (by rw [e]; omega) (Ev.now _)))))
    · exact Ev.neg (by simpa using hh) (Ev.now _)
  · intro i x q hx hp h
    have hi := lt_of hx
    refine Ev.step (fun _ => rfl) ?_
    simp only [spec_l09Rule.l0]
    rw [rdI_of hx, w64 (x := (i : Int) + 1) (by omega) (by omega)]
    unfold numP at hp
    rw [Bool.and_eq_true] at hp
    have hh := of_decide_eq_true hp.1
    refine Ev.pos (by omega) (Ev.pos (by omega) (Ev.bindc (spec_HalfOk_of x) (Ev.pos hp.1 ?_)))
    by_cases h0 : i = 0
    · exact Ev.neg (by omega) h
    · have h1 : r.f0.getD (i - 1) 0 < x := by
        rcases Bool.or_eq_true .. ▸ hp.2 with h1 | h1
        · exact absurd (of_decide_eq_true h1) h0
        · exact of_decide_eq_true h1
      rw [w64 (x := (i : Int) - 1) (by omega) (by omega)]
      have e : rd r.f0 ((i : Int) - 1) = r.f0.getD (i - 1) 0 := by unfold rd; rw [show ((i : Int) - 1).toNat = i - 1 by omega]
      exact Ev.pos (by omega) (Ev.pos (by omega) (Ev.pos (by omega) (Ev.neg (by rw [e]; omega) h)))
theorem spec_PolicyOk_ev (a c d : Int) (l : List S60) (hl : Sm l) : Ev (fun k => spec_PolicyOk.f k a c d l) (polV a c d l) := by
  obtain ⟨hn, hr⟩ := hl
  unfold spec_PolicyOk.f
  refine allz_ev (fun k i => spec_PolicyOk.l0 k a c d l i) l ruleV (polRest a c d l.length) ?_ ?_ ?_
  · refine Ev.step (fun _ => rfl) ?_
    simp only [spec_PolicyOk.l0]
    refine Ev.neg (by omega) (Ev.const ?_)
    unfold polRest
    simp only [spec_HalfOk_of, spec_l09Act_of, Option.bind_some, and_if]
    congr 3
    simp; omega
  · intro i x hx hp
    have hi := lt_of hx
    have hb := hr x (List.mem_of_getElem? hx)
    refine Ev.step (fun _ => rfl) ?_
    simp only [spec_PolicyOk.l0]
    rw [rd60 hx]
    exact Ev.pos (by omega) (Ev.pos (by omega) (Ev.bind (spec_l09Rule_ev x (by omega) (by omega)) (Ev.neg (by rw [hp]; simp) (Ev.now _))))
  · intro i x q hx hp h
    have hi := lt_of hx
    have hb := hr x (List.mem_of_getElem? hx)
    refine Ev.step (fun _ => rfl) ?_
    simp only [spec_PolicyOk.l0]
    rw [rd60 hx, w64 (x := (i : Int) + 1) (by omega) (by omega)]
    exact Ev.pos (by omega) (Ev.pos (by omega) (Ev.bind (spec_l09Rule_ev x (by omega) (by omega)) (Ev.pos hp h)))
theorem impl_PolicyOk_eq : impl_PolicyOk.f = spec_PolicyOk.f := by kernel_rfl
theorem impl_PolicyOk_ev (a c d : Int) (l : List S60) (hl : Sm l) : Ev (fun k => impl_PolicyOk.f k a c d l) (polV a c d l) := by
  rw [impl_PolicyOk_eq]; exact spec_PolicyOk_ev a c d l hl
theorem spec_l09In_ev (l : List Int) (n : Int) (hl : l.length ≤ 1048576) : Ev (fun k => spec_l09In.f k l n) (l.any (fun x => decide (x = n))) := by
  have e : l.any (fun x => decide (x = n)) = findV (fun x => decide (x = n)) (fun _ => true) false 0 l := by
    rcases findV_spec (fun x => decide (x = n)) (fun _ => true) false l 0 with ⟨h1, j, x, _, _, _, h5⟩ | ⟨h1, h2⟩
    · rw [h1, h5]
    · rw [h2, any_none h1]
  rw [e]
  unfold spec_l09In.f
  refine find_ev (fun k i => spec_l09In.l0 k l n i) l _ _ _ ?_ ?_ ?_
  · refine Ev.step (fun _ => rfl) ?_
    simp only [spec_l09In.l0]; exact Ev.neg (by omega) (Ev.now _)
  · intro i x hx hp
    have hi := lt_of hx
    refine Ev.step (fun _ => rfl) ?_
    simp only [spec_l09In.l0]
    rw [rdI_of hx]
    exact Ev.pos (by omega) (Ev.pos (by omega) (Ev.pos (of_decide_eq_true hp) (Ev.now _)))
  · intro i x r hx hp h
    have hi := lt_of hx
    refine Ev.step (fun _ => rfl) ?_
    simp only [spec_l09In.l0]
    rw [rdI_of hx, w64 (x := (i : Int) + 1) (by omega) (by omega)]
    exact Ev.pos (by omega) (Ev.pos (by omega) (Ev.neg (of_decide_eq_false hp) h))
def ceq (c y : S92) : Bool := (c.f0 == y.f0 && ((c.f1.f0 == y.f1.f0 && (c.f1.f1 == y.f1.f1)) && (c.f2 == y.f2 && ((c.f3.f0 == y.f3.f0 && (c.f3.f1 == y.f3.f1))))))
theorem ceq_eq {c y : S92} (h : ceq c y = true) : c = y := by
  obtain ⟨a, ⟨b, c⟩, d, ⟨e, f⟩⟩ := c
  obtain ⟨a', ⟨b', c'⟩, d', ⟨e', f'⟩⟩ := y
  simp only [ceq, Bool.and_eq_true, beq_iff_eq] at h
  obtain ⟨rfl, ⟨rfl, rfl⟩, rfl, rfl, rfl⟩ := h
  rfl
theorem intIndex_ev (l : List Int) (n : Int) (hl : l.length ≤ 1048576) : Ev (fun k => slices_Index_int_int.f k l n) (findV (fun x => decide (n = x)) (fun j => (j : Int)) (-1) 0 l) := by
  unfold slices_Index_int_int.f
  refine find_ev (fun k i => slices_Index_int_int.l0 k l n i) l _ _ _ ?_ ?_ ?_
  · refine Ev.step (fun _ => rfl) ?_
    simp only [slices_Index_int_int.l0]; exact Ev.neg (by omega) (Ev.now _)
  · intro i x hx hp
    have hi := lt_of hx
    refine Ev.step (fun _ => rfl) ?_
    simp only [slices_Index_int_int.l0]
    rw [rdI_of hx]
    exact Ev.pos (by omega) (Ev.pos (by omega) (Ev.pos (of_decide_eq_true hp) (Ev.now _)))
  · intro i x r hx hp h
    have hi := lt_of hx
    refine Ev.step (fun _ => rfl) ?_
    simp only [slices_Index_int_int.l0]
    rw [rdI_of hx, w64 (x := (i : Int) + 1) (by omega) (by omega)]
    exact Ev.pos (by omega) (Ev.pos (by omega) (Ev.neg (of_decide_eq_false hp) h))
theorem intHas_ev (l : List Int) (n : Int) (hl : l.length ≤ 1048576) : Ev (fun k => slices_Contains_int_int.f k l n) (l.any (fun x => decide (n = x))) := by
  unfold slices_Contains_int_int.f
  exact Ev.bind (intIndex_ev l n hl) (Ev.some_ (find_any _ _ _))
def coversV (a b : S60) : Bool := a.f1.all (fun c => b.f1.any (ceq c)) && (decide (a.f0 = []) || (b.f0.all (fun n => a.f0.any (fun x => decide (n = x))) && decide (b.f0 ≠ [])))
/-- The places of those that an earlier one covers. -/
def shadF : List S60 → Nat → List S60 → List Int
  | _, _, [] => []
  | pre, i, r :: t => if pre.any (fun x => coversV x r) then (i : Int) :: shadF (pre ++ [r]) (i + 1) t else shadF (pre ++ [r]) (i + 1) t
/-- What no earlier one covers. -/
def unshF : List S60 → List S60 → List S60
  | _, [] => []
  | pre, r :: t => if pre.any (fun x => coversV x r) then unshF (pre ++ [r]) t else r :: unshF (pre ++ [r]) t
theorem shadF_len : ∀ (t pre : List S60) (i : Nat), (unshF pre t).length + (shadF pre i t).length = t.length
  | [], _, _ => rfl
  | r :: t, pre, i => by
    simp only [shadF, unshF]
    have := shadF_len t (pre ++ [r]) (i + 1)
    split <;> simp only [List.length_cons] <;> omega
theorem unshF_sub : ∀ (t pre : List S60), (unshF pre t).Sublist t
  | [], _ => List.Sublist.refl _
  | r :: t, pre => by
    simp only [unshF]
    split
    · exact (unshF_sub t _).cons r
    · exact (unshF_sub t _).cons_cons r
theorem shadF_ge : ∀ (t pre : List S60) (i : Nat) (y : Int), y ∈ shadF pre i t → (i : Int) ≤ y
  | [], _, _, y, h => by simp [shadF] at h
  | r :: t, pre, i, y, h => by
    simp only [shadF] at h
    split at h
    · rcases List.mem_cons.1 h with rfl | h
      · exact Int.le_refl _
      · have := shadF_ge t _ _ _ h; omega
    · have := shadF_ge t _ _ _ h; omega
theorem shadF_mem : ∀ (t pre : List S60) (i m : Nat) (x : S60), t[m]? = some x → ((shadF pre i t).any (fun y => decide (((i + m : Nat) : Int) = y)) = (pre ++ t.take m).any (fun y => coversV y x))
  | [], _, _, m, x, h => by simp at h
  | r :: t, pre, i, 0, x, h => by
    have hx : r = x := by simpa using h
    subst hx
    simp only [shadF, List.take_zero, List.append_nil, Nat.add_zero]
    cases hc : pre.any (fun y => coversV y r) with
    | true => simp
    | false =>
      rw [if_neg (by simp)]
      refine any_none fun y hy => decide_eq_false fun e => ?_
      have := shadF_ge t _ _ _ hy
      omega
  | r :: t, pre, i, m + 1, x, h => by
    have ih := shadF_mem t (pre ++ [r]) (i + 1) m x (by simpa using h)
    rw [show i + 1 + m = i + (m + 1) by omega, List.append_assoc] at ih
    rw [List.take_succ_cons]
    show _ = (pre ++ ([r] ++ t.take m)).any _
    rw [← ih]
    simp only [shadF]
    split
    · rw [List.any_cons, decide_eq_false (by omega), Bool.false_or]
    · rfl
theorem impl_copyPolicy_ev (a c d : Int) (l : List S60) (hl : Sm l) : Ev (fun k => impl_copyPolicy.f k a c d l) (a, c, d, l) := by
  unfold impl_copyPolicy.f
  have key : ∀ (m i : Nat), l.length - i = m → i ≤ l.length → Ev (fun k => impl_copyPolicy.l0 k a c d l (l.take i) (i : Int)) (a, c, d, l) := by
    obtain ⟨hn, hr⟩ := hl
    intro m
    induction m with
    | zero =>
      intro i hm hi
      refine Ev.step (fun _ => rfl) ?_
      simp only [impl_copyPolicy.l0]
      rw [List.take_of_length_le (by omega)]
      exact Ev.neg (by omega) (Ev.now _)
    | succ m ih =>
      intro i hm hi
      have hx : l[i]? = some l[i] := List.getElem?_eq_getElem (by omega)
      generalize l[i] = x at hx
      have hb := hr x (List.mem_of_getElem? hx)
      refine Ev.step (fun _ => rfl) ?_
      simp only [impl_copyPolicy.l0, impl_copyRule.f]
      rw [rd60 hx, w64 (x := (i : Int) + 1) (by omega) (by omega)]
      refine Ev.pos (by omega) (Ev.pos (by omega) (Ev.bindc (x := (x.f0, x.f1, x.f2, x.f3)) (by rw [if_pos (by first | omega | (simp; omega)), if_pos (by first | omega | (simp; omega))]; rfl) (Ev.pos (by first | omega | (simp; omega)) ?_)))
      have := ih (i + 1) (by omega) (by omega)
      rw [← take_snoc hx] at this
      simpa using this
  have := key l.length 0 rfl (Nat.zero_le _)
  simpa using this
/-- How many are left when those go from the end that do what else holds. -/
def lessN (c d : Int) (l : List S60) : Nat → Nat
  | 0 => 0
  | n + 1 => if (l.getD n z60).f2 = c ∧ (l.getD n z60).f3 = d then lessN c d l n else n + 1
theorem lessN_le (c d : Int) (l : List S60) : ∀ n, lessN c d l n ≤ n
  | 0 => Nat.le_refl _
  | n + 1 => by
    simp only [lessN]
    split
    · have := lessN_le c d l n; omega
    · exact Nat.le_refl _
theorem ceq_comm (c y : S92) : ceq y c = ceq c y := by
  have key : ∀ {a b : S92}, ceq a b = true → ceq b a = true := fun {a b} h => by have e := ceq_eq h; subst e; exact h
  cases h : ceq c y with
  | true => exact key h
  | false =>
    cases h2 : ceq y c with
    | false => rfl
    | true => rw [key h2] at h; cases h
theorem int_comm (l : List Int) (n : Int) : l.any (fun x => decide (x = n)) = l.any (fun x => decide (n = x)) := by
  congr 1; funext x; exact decide_eq_decide.2 ⟨fun h => h.symm, fun h => h.symm⟩
def shadV (a c d : Int) (l : List S60) : List Int := if polV a c d l = true then shadF [] 0 l else []
theorem spec_l09Copy_ev (a c d : Int) (l : List S60) (hl : Sm l) : Ev (fun k => spec_l09Copy.f k a c d l) (a, c, d, l) := by
  unfold spec_l09Copy.f
  have key : ∀ (m i : Nat), l.length - i = m → i ≤ l.length → Ev (fun k => spec_l09Copy.l0 k a c d l (l.take i) (i : Int)) (a, c, d, l) := by
    obtain ⟨hn, hr⟩ := hl
    intro m
    induction m with
    | zero =>
      intro i hm hi
      refine Ev.step (fun _ => rfl) ?_
      simp only [spec_l09Copy.l0]
      rw [List.take_of_length_le (by omega)]
      exact Ev.neg (by omega) (Ev.now _)
    | succ m ih =>
      intro i hm hi
      have hx : l[i]? = some l[i] := List.getElem?_eq_getElem (by omega)
      generalize l[i] = x at hx
      have hb := hr x (List.mem_of_getElem? hx)
      refine Ev.step (fun _ => rfl) ?_
      simp only [spec_l09Copy.l0]
      rw [rd60 hx, w64 (x := (i : Int) + 1) (by omega) (by omega)]
      refine Ev.pos (by omega) (Ev.pos (by omega) (Ev.pos (by first | omega | (simp; omega)) (Ev.pos (by first | omega | (simp; omega)) (Ev.pos (by first | omega | (simp; omega)) ?_))))
      have := ih (i + 1) (by omega) (by omega)
      rw [← take_snoc hx] at this
      simpa using this
  have := key l.length 0 rfl (Nat.zero_le _)
  simpa using this
def keepV (n : Int) (r : S60) : Bool := !(decide (r.f0 ≠ []) && !(r.f0.any (fun x => decide (n = x))))
theorem onlyClo_ev (r : S60) (n : Int) (h : r.f0.length ≤ 1048576) : Ev (fun k => impl_OnlyFor_1.f k r.f0 r.f1 r.f2 r.f3 n) (!keepV n r, n) := by
  unfold impl_OnlyFor_1.f keepV
  rw [Bool.not_not]
  by_cases hz : r.f0 = []
  · exact Ev.neg (by rw [hz]; simp) (Ev.some_ (by rw [hz]; rfl))
  · have hp : 0 < r.f0.length := List.length_pos_iff.2 hz
    exact Ev.pos (by omega) (Ev.bind (intHas_ev r.f0 n (by omega)) (Ev.some_ (by rw [decide_eq_true hz, Bool.true_and])))
theorem delIndex_ev (l : List S60) (n : Int) (hl : Sm l) : Ev (fun k => impl_Rule_83_w49.f k l n) (findV (fun r => !keepV n r) (fun j => ((j : Int), n)) (-1, n) 0 l) := by
  obtain ⟨hn, hr⟩ := hl
  unfold impl_Rule_83_w49.f
  refine find_ev (fun k i => impl_Rule_83_w49.l0 k l n i) l _ _ _ ?_ ?_ ?_
  · refine Ev.step (fun _ => rfl) ?_
    simp only [impl_Rule_83_w49.l0]; exact Ev.neg (by omega) (Ev.now _)
  · intro i x hx hp
    have hi := lt_of hx
    refine Ev.step (fun _ => rfl) ?_
    simp only [impl_Rule_83_w49.l0]
    rw [rd60 hx]
    exact Ev.pos (by omega) (Ev.pos (by omega) (Ev.bind (onlyClo_ev x n (hr x (List.mem_of_getElem? hx)).1) (Ev.pos hp (Ev.now _))))
  · intro i x r hx hp h
    have hi := lt_of hx
    refine Ev.step (fun _ => rfl) ?_
    simp only [impl_Rule_83_w49.l0]
    rw [rd60 hx, w64 (x := (i : Int) + 1) (by omega) (by omega)]
    exact Ev.pos (by omega) (Ev.pos (by omega) (Ev.bind (onlyClo_ev x n (hr x (List.mem_of_getElem? hx)).1) (Ev.neg (fun hh => by rw [hp] at hh; cases hh) h)))
theorem filter_none {α : Type} {p : α → Bool} {l : List α} (h : ∀ y ∈ l, (!p y) = false) : l.filter p = l := List.filter_eq_self.2 fun y hy => by have := h y hy; simpa using this
theorem deleted_ev (l : List S60) (n : Int) (hl : Sm l) : Ev (fun k => impl_Rule_48_w49.f k l n) (l.filter (keepV n), n) := by
  unfold impl_Rule_48_w49.f
  have e1 := delIndex_ev l n hl
  rcases findV_spec (fun r => !keepV n r) (fun j => ((j : Int), n)) (-1, n) l 0 with ⟨_, j, x, h2, h3, h4, h5⟩ | ⟨h1, h2⟩
  · rw [h5, Nat.zero_add] at e1
    refine Ev.bind e1 (Ev.neg (by show ¬ (j : Int) = -1; omega) ?_)
    obtain ⟨hn, hr⟩ := hl
    have hj := lt_of h2
    have key : ∀ (m i p : Nat) (q : List S60), l.length - i = m → i ≤ l.length → p ≤ i → q.length = l.length → q.take p = (l.take i).filter (keepV n) → q.drop i = l.drop i → Ev (fun k => impl_Rule_48_w49.l0 k q n (p : Int) (i : Int)) (l.filter (keepV n), n) := by
      intro m
      induction m with
      | zero =>
        intro i p q hm hi hp hq ht hd
        refine Ev.step (fun _ => rfl) ?_
        simp only [impl_Rule_48_w49.l0]
        rw [Int.toNat_natCast]
        refine Ev.neg (by omega) (Ev.pos (by omega) (Ev.pos (by omega) (Ev.pos (by first | omega | (simp; omega)) (Ev.some_ ?_))))
        rw [List.take_append_of_le_length (by first | omega | (simp; omega)), List.take_take, Nat.min_self, ht, List.take_of_length_le (by omega)]
      | succ m ih =>
        intro i p q hm hi hp hq ht hd
        have hx : l[i]? = some l[i] := List.getElem?_eq_getElem (by omega)
        have hqx : q[i]? = l[i]? := by
          have := congrArg (fun u : List S60 => u[0]?) hd
          simpa using this
        generalize l[i] = x at hx
        rw [hx] at hqx
        have hb := hr x (List.mem_of_getElem? hx)
        have hdd : q.drop (i + 1) = l.drop (i + 1) := by
          have := congrArg (fun u : List S60 => u.drop 1) hd
          simpa [Nat.add_comm] using this
        refine Ev.step (fun _ => rfl) ?_
        simp only [impl_Rule_48_w49.l0]
        rw [rd60 hqx, w64 (x := (i : Int) + 1) (by omega) (by omega), w64 (x := (p : Int) + 1) (by omega) (by omega), Int.toNat_natCast]
        refine Ev.pos (by omega) (Ev.pos (by omega) (Ev.pos (by omega) (Ev.bind (onlyClo_ev x n hb.1) ?_)))
        cases hk : keepV n x with
        | false =>
          refine Ev.pos rfl ?_
          have := ih (i + 1) p q (by omega) (by omega) (by omega) hq (by rw [← take_snoc hx, List.filter_append, ht]; simp [hk]) hdd
          simpa using this
        | true =>
          refine Ev.neg (by simp) (Ev.pos (by omega) (Ev.pos (by omega) ?_))
          have := ih (i + 1) (p + 1) (q.set p x) (by omega) (by omega) (by omega) (by simpa using hq) ?_ ?_
          · simpa using this
          · rw [← take_snoc hx, List.filter_append, ← ht, ← take_snoc (x := x) (by rw [List.getElem?_set, if_pos rfl, if_pos (by omega)]), List.take_set_of_le (by omega)]
            simp [hk]
          · rw [List.drop_set_of_lt (by omega)]; exact hdd
    have := key _ (j + 1) j l rfl (by omega) (by omega) rfl (by rw [← take_snoc h2, List.filter_append, filter_none h4]; simp at h3; simp [h3]) rfl
    show Ev (fun k => impl_Rule_48_w49.l0 k l n (j : Int) (wrap64 ((j : Int) + 1))) _
    rw [w64 (x := (j : Int) + 1) (by omega) (by omega)]
    simpa using this
  · rw [h2] at e1
    exact Ev.bind e1 (Ev.pos rfl (Ev.some_ (by rw [filter_none h1])))
theorem impl_OnlyFor_ok (a c d n : Int) (l : List S60) (hl : Sm l) (hp : polV a c d l = true) : Ev (fun k => impl_OnlyFor.f k a c d l n) (a, c, d, l.filter (keepV n)) := by
  unfold impl_OnlyFor.f
  have e1 := impl_PolicyOk_ev a c d l hl
  rw [hp] at e1
  exact Ev.bind (impl_copyPolicy_ev a c d l hl) (Ev.bind e1 (Ev.pos rfl (Ev.bind (deleted_ev l n hl) (Ev.now _))))
def onlyV (a c d n : Int) (l : List S60) : List S60 := if polV a c d l = true then l.filter (keepV n) else l
theorem impl_OnlyFor_ev (a c d n : Int) (l : List S60) (hl : Sm l) : Ev (fun k => impl_OnlyFor.f k a c d l n) (a, c, d, onlyV a c d n l) := by
  unfold onlyV
  by_cases hp : polV a c d l = true
  · rw [if_pos hp]; exact impl_OnlyFor_ok a c d n l hl hp
  · rw [if_neg hp]
    unfold impl_OnlyFor.f
    exact Ev.bind (impl_copyPolicy_ev a c d l hl) (Ev.bind (impl_PolicyOk_ev a c d l hl) (Ev.neg hp (Ev.now _)))
theorem spec_OnlyFor_ev (a c d n : Int) (l : List S60) (hl : Sm l) : Ev (fun k => spec_OnlyFor.f k a c d l n) (a, c, d, onlyV a c d n l) := by
  unfold onlyV spec_OnlyFor.f
  refine Ev.bind (spec_l09Copy_ev a c d l hl) (Ev.bind (spec_PolicyOk_ev a c d l hl) ?_)
  by_cases hp : polV a c d l = true
  · rw [if_pos hp]
    refine Ev.pos hp ?_
    have key : ∀ (m i : Nat) (q : List S60), l.length - i = m → i ≤ l.length → q.length ≤ i → Ev (fun k => spec_OnlyFor.l0 k n (a, c, d, l) q (i : Int)) (a, c, d, q ++ (l.drop i).filter (keepV n)) := by
      obtain ⟨hn, hr⟩ := hl
      intro m
      induction m with
      | zero =>
        intro i q hm hi hq
        rw [List.drop_eq_nil_of_le (by omega)]
        refine Ev.step (fun _ => rfl) ?_
        simp only [spec_OnlyFor.l0, List.filter_nil, List.append_nil]
        exact Ev.neg (by omega) (Ev.now _)
      | succ m ih =>
        intro i q hm hi hq
        have hx : l[i]? = some l[i] := List.getElem?_eq_getElem (by omega)
        rw [List.drop_eq_getElem_cons (by omega)]
        generalize l[i] = x at hx
        have hb := hr x (List.mem_of_getElem? hx)
        have join : ∀ b : Bool, keepV n x = b → Ev (fun k => spec_OnlyFor.j0 k n (a, c, d, l) q (i : Int) b) (a, c, d, q ++ (x :: l.drop (i + 1)).filter (keepV n)) := fun b hk => by
          refine Ev.step (fun _ => rfl) ?_
          simp only [spec_OnlyFor.j0]
          rw [rd60 hx, w64 (x := (i : Int) + 1) (by omega) (by omega), List.filter_cons, hk]
          cases b with
          | true =>
            refine Ev.pos rfl (Ev.pos (by omega) (Ev.pos (by first | omega | (simp; omega)) ?_))
            have := ih (i + 1) (q ++ [x]) (by omega) (by omega) (by simp; omega)
            rw [if_pos rfl, List.append_cons]
            simpa using this
          | false =>
            refine Ev.neg (by simp) ?_
            have := ih (i + 1) q (by omega) (by omega) (by omega)
            simpa using this
        refine Ev.step (fun _ => rfl) ?_
        simp only [spec_OnlyFor.l0]
        rw [rd60 hx]
        refine Ev.pos (by omega) (Ev.pos (by omega) ?_)
        by_cases hz : x.f0 = []
        · refine Ev.pos (by rw [hz]; rfl) (join true ?_)
          unfold keepV
          rw [decide_eq_false (by simpa using hz)]; rfl
        · have hp0 := List.length_pos_iff.2 hz
          refine Ev.neg (by omega) (Ev.bind (spec_l09In_ev x.f0 n (by omega)) (join _ ?_))
          unfold keepV
          rw [decide_eq_true hz, int_comm]; simp
    have := key l.length 0 [] rfl (Nat.zero_le _) (Nat.le_refl _)
    simpa using this
  · rw [if_neg hp]
    exact Ev.neg hp (Ev.now _)
theorem onlyV_sub (a c d n : Int) (l : List S60) : (onlyV a c d n l).Sublist l := by
  unfold onlyV
  split
  · exact List.filter_sublist
  · exact List.Sublist.refl _
theorem FitL.sub {α : Type} {p : α → Prop} {l m : List α} (h : FitL p l) (s : m.Sublist l) : FitL p m := ⟨Nat.le_trans s.length_le h.1, fun x hx => h.2 x (s.subset hx)⟩
theorem pure : Pure := by
  intro a c d l n _ _ _ hl _
  refine Ev.rounds ?_
  unfold laws_FnExactOnlyFor.f
  obtain ⟨v, hv, h⟩ := szPolicy_ev a c d l 1048576 hl (by omega) (by omega)
  refine Ev.bind hv ?_
  rcases h with h | ⟨_, _, n0⟩
  · exact Ev.pos h (Ev.now _)
  refine Ev.neg (by omega) ?_
  have e1 := toPolicy_ev a c d l n0
  have c0 : FitL Fit60 (l.map cvS86_S60) := ⟨by rw [List.length_map]; exact n0.1, fun x hx => by
    obtain ⟨y, hy, rfl⟩ := List.mem_map.1 hx
    exact ⟨(n0.2 y hy).1, by show (List.map _ _).length ≤ _; rw [List.length_map]; exact (n0.2 y hy).2.1, fun _ _ => trivial⟩⟩
  generalize l.map cvS86_S60 = x at e1 c0
  have hs : Sm x := ⟨c0.1, fun r hr => ⟨(c0.2 r hr).1.1, (c0.2 r hr).2.1⟩⟩
  have m0 : mcount ctS60 x ≤ 1048576 * 7340034 := mc_le c0 (fun y hy => ctS60_le y hy)
  have e2 := eqPolicy_ev a c d x c0
  have e3 := markPolicy_ev a c d x 1 c0 (by omega) (by omega)
  have f3 := spec_OnlyFor_ev a c d n x hs
  have f4 := impl_OnlyFor_ev a c d n x hs
  have hg := c0.sub (onlyV_sub a c d n x)
  generalize onlyV a c d n x = g at f3 f4 hg
  have mg : mcount ctS60 g ≤ 1048576 * 7340034 := mc_le hg (fun y hy => ctS60_le y hy)
  have e4 := eqPolicy_ev a c d g hg
  have e5 := markPolicy_ev a c d g 1 hg (by omega) (by omega)
  have e6 := heldPolicy_ev a c d g 1 hg (by omega) (by omega)
  repeat (first
    | (with_reducible refine Ev.bind e1 ?_; try dsimp only)
    | (with_reducible refine Ev.bind e2 ?_; try dsimp only)
    | (with_reducible refine Ev.bind e3 ?_; try dsimp only)
    | (with_reducible refine Ev.bind f3 ?_; try dsimp only)
    | (with_reducible refine Ev.bind f4 ?_; try dsimp only)
    | (with_reducible refine Ev.bind e4 ?_; try dsimp only)
    | (with_reducible refine Ev.bind e5 ?_; try dsimp only)
    | (with_reducible refine Ev.bind e6 ?_; try dsimp only)
    | (refine Ev.neg (by omega) ?_)
    | (refine Ev.pos (by first | rfl | omega) ?_)
    | (refine Ev.neg (by simp) ?_)
    | exact Ev.now _)
end Go.Proofs.Ythgmgbccgokfeaa.PFnExactOnlyFor
namespace Go.Proofs.Ythgmgbccgokfeaa
/-- The given statement. -/
theorem fnExactOnlyFor_holds : Rows.FnExactOnlyForSaid := AFnExactOnlyFor.row PFnExactOnlyFor.pure
#print axioms fnExactOnlyFor_holds
end Go.Proofs.Ythgmgbccgokfeaa
