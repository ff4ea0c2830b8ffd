/- laws.FnExactLessened returns true at every input, its arguments as they were. No condition. -/
import Derived.Test.YthgmgbccgokfeaaExFnExactLessened
import Derived.Test.YthgmgbccgokfeaaArgFnExactLessened
set_option linter.unusedVariables false
set_option linter.unusedSimpArgs false
namespace Go.Proofs.Ythgmgbccgokfeaa.PFnExactLessened
open Go.RowKit Go.Proofs.YthgmgbccgokfeaaA Go.Proofs.YthgmgbccgokfeaaL Go.Proofs.Ythgmgbccgokfeaa.AFnExactLessened
theorem i64_of {x : Int} (h : OkN .i64 x) : -9223372036854775808 ≤ x ∧ x ≤ 9223372036854775807 := bounds_i64 h
theorem allI_const {α : Type} (p : α → Bool) : ∀ (xs : List α) (i : Nat), allI (fun _ x => p x) i xs = xs.all p
  | [], _ => rfl
  | x :: r, i => by simp only [allI, List.all_cons, allI_const p r (i + 1)]
theorem allz_ev {α : Type} (L : Nat → Int → Option Bool) (xs : List α) (p : α → Bool) (z : Bool)
    (stop : Ev (fun k => L k (xs.length : Int)) z)
    (bad : ∀ (i : Nat) x, xs[i]? = some x → p x = false → Ev (fun k => L k (i : Int)) false)
    (step : ∀ (i : Nat) x r, xs[i]? = some x → p x = true → Ev (fun k => L k ((i : Int) + 1)) r → Ev (fun k => L k (i : Int)) r) :
    Ev (fun k => L k 0) (xs.all p && z) := by
  rw [← allI_const p xs 0]; exact allI_ev L xs (fun _ x => p x) z stop bad step
/-- The first that holds. -/
def findV {α ρ : Type} (p : α → Bool) (res : Nat → ρ) (z : ρ) : Nat → List α → ρ
  | _, [] => z
  | i, x :: r => if p x then res i else findV p res z (i + 1) r
theorem find_ev {α ρ : Type} (L : Nat → Int → Option ρ) (xs : List α) (p : α → Bool) (res : Nat → ρ) (z : ρ)
    (stop : Ev (fun k => L k (xs.length : Int)) z)
    (hit : ∀ (i : Nat) x, xs[i]? = some x → p x = true → Ev (fun k => L k (i : Int)) (res i))
    (step : ∀ (i : Nat) x r, xs[i]? = some x → p x = false → Ev (fun k => L k ((i : Int) + 1)) r → Ev (fun k => L k (i : Int)) r) :
    Ev (fun k => L k 0) (findV p res z 0 xs) := by
  have key : ∀ (d i : Nat), xs.length - i = d → i ≤ xs.length → Ev (fun k => L k (i : Int)) (findV p res z i (xs.drop i)) := by
    intro d
    induction d with
    | zero =>
      intro i hd hi
      have : i = xs.length := by omega
      subst this
      rw [List.drop_length]
      exact stop
    | succ d ih =>
      intro i hd hi
      have hlt : i < xs.length := by omega
      have hx : xs[i]? = some xs[i] := List.getElem?_eq_getElem hlt
      rw [List.drop_eq_getElem_cons hlt]
      simp only [findV]
      cases hp : p xs[i] with
      | true => exact hit i _ hx hp
      | false => exact step i _ _ hx hp (by have := ih (i + 1) (by omega) (by omega); simpa using this)
  exact key _ 0 rfl (Nat.zero_le _)
theorem findV_spec {α ρ : Type} (p : α → Bool) (res : Nat → ρ) (z : ρ) : ∀ (xs : List α) (i : Nat), (xs.any p = true ∧ ∃ j x, xs[j]? = some x ∧ p x = true ∧ (∀ y ∈ xs.take j, p y = false) ∧ findV p res z i xs = res (i + j)) ∨ ((∀ y ∈ xs, p y = false) ∧ findV p res z i xs = z)
  | [], i => .inr ⟨fun y hy => by simp at hy, rfl⟩
  | x :: r, i => by
    simp only [findV]
    cases hp : p x with
    | true => exact .inl ⟨by simp [hp], 0, x, rfl, hp, fun y hy => by simp at hy, rfl⟩
    | false =>
      rcases findV_spec p res z r (i + 1) with ⟨h1, j, y, h2, h3, h4, h5⟩ | ⟨h1, h2⟩
      · refine .inl ⟨by simp only [List.any_cons, h1, Bool.or_true], j + 1, y, by simpa using h2, h3, fun u hu => ?_, by rw [show i + (j + 1) = i + 1 + j by omega]; exact h5⟩
        rw [List.take_succ_cons] at hu
        rcases List.mem_cons.1 hu with rfl | hu
        · exact hp
        · exact h4 u hu
      · refine .inr ⟨fun u hu => ?_, h2⟩
        rcases List.mem_cons.1 hu with rfl | hu
        · exact hp
        · exact h1 u hu
theorem any_none {α : Type} {p : α → Bool} {xs : List α} (h : ∀ y ∈ xs, p y = false) : xs.any p = false := by
  rw [List.any_eq_false]
  intro y hy; rw [h y hy]; simp
theorem find_any {α : Type} (p : α → Bool) (xs : List α) (i : Nat) : decide (findV p (fun j => (j : Int)) (-1) i xs ≥ 0) = xs.any p := by
  rcases findV_spec p (fun j => (j : Int)) (-1) xs i with ⟨h1, j, x, _, _, _, h5⟩ | ⟨h1, h2⟩
  · rw [h1, h5]; simp; omega
  · rw [h2, any_none h1]; rfl
theorem rdI_of {l : List Int} {i : Nat} {x : Int} (h : l[i]? = some x) : rd l (i : Int) = x := by unfold rd; exact get_of l 0 h
theorem take_snoc {α : Type} {l : List α} {i : Nat} {x : α} (h : l[i]? = some x) : l.take i ++ [x] = l.take (i + 1) := by rw [List.take_add_one, h]; rfl
theorem and_if (a x : Bool) : (if a = true then some x else some false) = some (a && x) := by cases a <;> rfl
theorem spec_l01In_of (x lo hi : Int) : spec_l01In.f x lo hi = some (decide (lo ≤ x ∧ x ≤ hi)) := by
  unfold spec_l01In.f
  rw [ite_some]; congr 1; rw [Bool.eq_iff_iff]
  by_cases h : x ≥ lo <;> simp [h] <;> omega
theorem spec_HalfOk_of (a : Int) : spec_HalfOk.f a = some (decide (0 ≤ a ∧ a ≤ 4294967295)) := by
  unfold spec_HalfOk.f; rw [spec_l01In_of]; rfl
def wideV (w : S90) : Bool := decide (0 ≤ w.f0 ∧ w.f0 ≤ 4294967295) && decide (0 ≤ w.f1 ∧ w.f1 ≤ 4294967295)
theorem spec_WideOk_of (w : S90) : spec_WideOk.f w.f0 w.f1 = some (wideV w) := by
  unfold spec_WideOk.f wideV
  simp only [spec_HalfOk_of, Option.bind_some, and_if]
def callRest (a n : Int) (m : Nat) : Bool := decide (0 ≤ a ∧ a ≤ 4294967295) && (decide (0 ≤ n ∧ n ≤ 4294967295) && ((m : Int) == 3))
def callOkV (a n : Int) (l : List S90) : Bool := l.all wideV && callRest a n l.length
def condOkV (c : S92) : Bool := decide (0 ≤ c.f0 ∧ c.f0 ≤ 2) && (wideV c.f1 && (wideV c.f3 && decide (1 ≤ c.f2 ∧ c.f2 ≤ 6)))
theorem spec_CondOk_of (c : S92) : spec_CondOk.f c.f0 c.f1.f0 c.f1.f1 c.f2 c.f3.f0 c.f3.f1 = some (condOkV c) := by
  unfold spec_CondOk.f condOkV
  simp only [spec_l01In_of, spec_WideOk_of, Option.bind_some, and_if]
def actV (a d : Int) : Bool := decide (0 ≤ a ∧ a ≤ 5) && decide (0 ≤ d ∧ d ≤ 65535)
theorem spec_l09Act_of (a d : Int) : spec_l09Act.f a d = some (actV a d) := by
  unfold spec_l09Act.f actV
  simp only [spec_l01In_of, Option.bind_some, and_if]
def numP (l : List Int) (i : Nat) (x : Int) : Bool := decide (0 ≤ x ∧ x ≤ 4294967295) && (decide (i = 0) || decide (l.getD (i - 1) 0 < x))
def ruleRest (n c : Nat) (a d : Int) : Bool := decide (n ≤ 4) && (decide (c ≤ 3) && actV a d)
def ruleV (r : S60) : Bool := allI (numP r.f0) 0 r.f0 && (r.f1.all condOkV && ruleRest r.f0.length r.f1.length r.f2 r.f3)
def polRest (a c d : Int) (n : Nat) : Bool := decide (0 ≤ a ∧ a ≤ 4294967295) && (actV c d && decide (n ≤ 10))
def polV (a c d : Int) (l : List S60) : Bool := l.all ruleV && polRest a c d l.length
/-- Of a size that goes through. -/
def Sm (l : List S60) : Prop := l.length ≤ 1048576 ∧ ∀ r ∈ l, r.f0.length ≤ 1048576 ∧ r.f1.length ≤ 1048576
theorem Sm.get {l : List S60} (h : Sm l) {i : Nat} {r : S60} (hr : l[i]? = some r) : r.f0.length ≤ 1048576 ∧ r.f1.length ≤ 1048576 := h.2 r (List.mem_of_getElem? hr)
theorem spec_l09Rule_ev (r : S60) (hn : r.f0.length ≤ 1048576) (hc : r.f1.length ≤ 1048576) : Ev (fun k => spec_l09Rule.f k r.f0 r.f1 r.f2 r.f3) (ruleV r) := by
  unfold spec_l09Rule.f
  refine allI_ev (fun k i => spec_l09Rule.l0 k r.f0 r.f1 r.f2 r.f3 i) r.f0 (numP r.f0) _ ?_ ?_ ?_
  · refine Ev.step (fun _ => rfl) ?_
    simp only [spec_l09Rule.l0]
    refine Ev.neg (by omega) (allz_ev (fun k i => spec_l09Rule.l1 k r.f0 r.f1 r.f2 r.f3 i) r.f1 condOkV _ ?_ ?_ ?_)
    · refine Ev.step (fun _ => rfl) ?_
      simp only [spec_l09Rule.l1]
      refine Ev.neg (by omega) (Ev.const ?_)
      rw [spec_l09Act_of]
      unfold ruleRest
      by_cases h1 : r.f0.length ≤ 4
      · rw [if_pos (by omega), decide_eq_true h1]
        by_cases h2 : r.f1.length ≤ 3
        · rw [if_pos (by omega), decide_eq_true h2]; simp
        · rw [if_neg (by omega), decide_eq_false h2]; simp
      · rw [if_neg (by omega), decide_eq_false h1]; simp
    · intro i x hx hp
      have hi := lt_of hx
      refine Ev.step (fun _ => rfl) ?_
      simp only [spec_l09Rule.l1]
      rw [rd92 hx]
      exact Ev.pos (by omega) (Ev.pos (by omega) (Ev.bindc (spec_CondOk_of x) (Ev.neg (by rw [hp]; simp) (Ev.now _))))
    · intro i x q hx hp h
      have hi := lt_of hx
      refine Ev.step (fun _ => rfl) ?_
      simp only [spec_l09Rule.l1]
      rw [rd92 hx, w64 (x := (i : Int) + 1) (by omega) (by omega)]
      exact Ev.pos (by omega) (Ev.pos (by omega) (Ev.bindc (spec_CondOk_of x) (Ev.pos hp h)))
  · intro i x hx hp
    have hi := lt_of hx
    refine Ev.step (fun _ => rfl) ?_
    simp only [spec_l09Rule.l0]
    rw [rdI_of hx]
    refine Ev.pos (by omega) (Ev.pos (by omega) (Ev.bindc (spec_HalfOk_of x) ?_))
    by_cases hh : 0 ≤ x ∧ x ≤ 4294967295
    · unfold numP at hp
      rw [decide_eq_true hh, Bool.true_and, Bool.or_eq_false_iff] at hp
      have h0 : i ≠ 0 := of_decide_eq_false hp.1
      have h1 := of_decide_eq_false hp.2
      rw [w64 (x := (i : Int) - 1) (by omega) (by omega)]
      have e : rd r.f0 ((i : Int) - 1) = r.f0.getD (i - 1) 0 := by unfold rd; rw [show ((i : Int) - 1).toNat = i - 1 by omega]
      exact Ev.pos (decide_eq_true hh) (Ev.pos (by omega) (Ev.pos (by omega) (Ev.pos (by omega) (Ev.pos (by rw [e]; omega) (Ev.now _)))))
    · exact Ev.neg (by simpa using hh) (Ev.now _)
  · intro i x q hx hp h
    have hi := lt_of hx
    refine Ev.step (fun _ => rfl) ?_
    simp only [spec_l09Rule.l0]
    rw [rdI_of hx, w64 (x := (i : Int) + 1) (by omega) (by omega)]
    unfold numP at hp
    rw [Bool.and_eq_true] at hp
    have hh := of_decide_eq_true hp.1
    refine Ev.pos (by omega) (Ev.pos (by omega) (Ev.bindc (spec_HalfOk_of x) (Ev.pos hp.1 ?_)))
    by_cases h0 : i = 0
    · exact Ev.neg (by omega) h
    · have h1 : r.f0.getD (i - 1) 0 < x := by
        rcases Bool.or_eq_true .. ▸ hp.2 with h1 | h1
        · exact absurd (of_decide_eq_true h1) h0
        · exact of_decide_eq_true h1
      rw [w64 (x := (i : Int) - 1) (by omega) (by omega)]
      have e : rd r.f0 ((i : Int) - 1) = r.f0.getD (i - 1) 0 := by unfold rd; rw [show ((i : Int) - 1).toNat = i - 1 by omega]
      exact Ev.pos (by omega) (Ev.pos (by omega) (Ev.pos (by omega) (Ev.neg (by rw [e]; omega) h)))
theorem spec_PolicyOk_ev (a c d : Int) (l : List S60) (hl : Sm l) : Ev (fun k => spec_PolicyOk.f k a c d l) (polV a c d l) := by
  obtain ⟨hn, hr⟩ := hl
  unfold spec_PolicyOk.f
  refine allz_ev (fun k i => spec_PolicyOk.l0 k a c d l i) l ruleV (polRest a c d l.length) ?_ ?_ ?_
  · refine Ev.step (fun _ => rfl) ?_
    simp only [spec_PolicyOk.l0]
    refine Ev.neg (by omega) (Ev.const ?_)
    unfold polRest
    simp only [spec_HalfOk_of, spec_l09Act_of, Option.bind_some, and_if]
    congr 3
    simp; omega
  · intro i x hx hp
    have hi := lt_of hx
    have hb := hr x (List.mem_of_getElem? hx)
    refine Ev.step (fun _ => rfl) ?_
    simp only [spec_PolicyOk.l0]
    rw [rd60 hx]
    exact Ev.pos (by omega) (Ev.pos (by omega) (Ev.bind (spec_l09Rule_ev x (by omega) (by omega)) (Ev.neg (by rw [hp]; simp) (Ev.now _))))
  · intro i x q hx hp h
    have hi := lt_of hx
    have hb := hr x (List.mem_of_getElem? hx)
    refine Ev.step (fun _ => rfl) ?_
    simp only [spec_PolicyOk.l0]
    rw [rd60 hx, w64 (x := (i : Int) + 1) (by omega) (by omega)]
    exact Ev.pos (by omega) (Ev.pos (by omega) (Ev.bind (spec_l09Rule_ev x (by omega) (by omega)) (Ev.pos hp h)))
theorem impl_PolicyOk_eq : impl_PolicyOk.f = spec_PolicyOk.f := by kernel_rfl
theorem impl_PolicyOk_ev (a c d : Int) (l : List S60) (hl : Sm l) : Ev (fun k => impl_PolicyOk.f k a c d l) (polV a c d l) := by
  rw [impl_PolicyOk_eq]; exact spec_PolicyOk_ev a c d l hl
theorem spec_l09In_ev (l : List Int) (n : Int) (hl : l.length ≤ 1048576) : Ev (fun k => spec_l09In.f k l n) (l.any (fun x => decide (x = n))) := by
  have e : l.any (fun x => decide (x = n)) = findV (fun x => decide (x = n)) (fun _ => true) false 0 l := by
    rcases findV_spec (fun x => decide (x = n)) (fun _ => true) false l 0 with ⟨h1, j, x, _, _, _, h5⟩ | ⟨h1, h2⟩
    · rw [h1, h5]
    · rw [h2, any_none h1]
  rw [e]
  unfold spec_l09In.f
  refine find_ev (fun k i => spec_l09In.l0 k l n i) l _ _ _ ?_ ?_ ?_
  · refine Ev.step (fun _ => rfl) ?_
    simp only [spec_l09In.l0]; exact Ev.neg (by omega) (Ev.now _)
  · intro i x hx hp
    have hi := lt_of hx
    refine Ev.step (fun _ => rfl) ?_
    simp only [spec_l09In.l0]
    rw [rdI_of hx]
    exact Ev.pos (by omega) (Ev.pos (by omega) (Ev.pos (of_decide_eq_true hp) (Ev.now _)))
  · intro i x r hx hp h
    have hi := lt_of hx
    refine Ev.step (fun _ => rfl) ?_
    simp only [spec_l09In.l0]
    rw [rdI_of hx, w64 (x := (i : Int) + 1) (by omega) (by omega)]
    exact Ev.pos (by omega) (Ev.pos (by omega) (Ev.neg (of_decide_eq_false hp) h))
def ceq (c y : S92) : Bool := (c.f0 == y.f0 && ((c.f1.f0 == y.f1.f0 && (c.f1.f1 == y.f1.f1)) && (c.f2 == y.f2 && ((c.f3.f0 == y.f3.f0 && (c.f3.f1 == y.f3.f1))))))
theorem ceq_eq {c y : S92} (h : ceq c y = true) : c = y := by
  obtain ⟨a, ⟨b, c⟩, d, ⟨e, f⟩⟩ := c
  obtain ⟨a', ⟨b', c'⟩, d', ⟨e', f'⟩⟩ := y
  simp only [ceq, Bool.and_eq_true, beq_iff_eq] at h
  obtain ⟨rfl, ⟨rfl, rfl⟩, rfl, rfl, rfl⟩ := h
  rfl
theorem condIndex_ev (l : List S92) (c : S92) (hl : l.length ≤ 1048576) : Ev (fun k => impl_Cond_104.f k l c.f0 c.f1.f0 c.f1.f1 c.f2 c.f3.f0 c.f3.f1) (findV (ceq c) (fun j => (j : Int)) (-1) 0 l) := by
  unfold impl_Cond_104.f
  refine find_ev (fun k i => impl_Cond_104.l0 k l c.f0 c.f1.f0 c.f1.f1 c.f2 c.f3.f0 c.f3.f1 i) l _ _ _ ?_ ?_ ?_
  · refine Ev.step (fun _ => rfl) ?_
    simp only [impl_Cond_104.l0]; exact Ev.neg (by omega) (Ev.now _)
  · intro i x hx hp
    have hi := lt_of hx
    refine Ev.step (fun _ => rfl) ?_
    simp only [impl_Cond_104.l0]
    rw [rd92 hx]
    exact Ev.pos (by omega) (Ev.pos (by omega) (Ev.pos hp (Ev.now _)))
  · intro i x r hx hp h
    have hi := lt_of hx
    refine Ev.step (fun _ => rfl) ?_
    simp only [impl_Cond_104.l0]
    rw [rd92 hx, w64 (x := (i : Int) + 1) (by omega) (by omega)]
    exact Ev.pos (by omega) (Ev.pos (by omega) (Ev.neg (fun hh => by unfold ceq at hp; rw [hp] at hh; cases hh) h))
theorem condHas_ev (l : List S92) (c : S92) (hl : l.length ≤ 1048576) : Ev (fun k => impl_Cond_84.f k l c.f0 c.f1.f0 c.f1.f1 c.f2 c.f3.f0 c.f3.f1) (l.any (ceq c)) := by
  unfold impl_Cond_84.f
  exact Ev.bind (condIndex_ev l c hl) (Ev.some_ (find_any _ _ _))
theorem intIndex_ev (l : List Int) (n : Int) (hl : l.length ≤ 1048576) : Ev (fun k => slices_Index_int_int.f k l n) (findV (fun x => decide (n = x)) (fun j => (j : Int)) (-1) 0 l) := by
  unfold slices_Index_int_int.f
  refine find_ev (fun k i => slices_Index_int_int.l0 k l n i) l _ _ _ ?_ ?_ ?_
  · refine Ev.step (fun _ => rfl) ?_
    simp only [slices_Index_int_int.l0]; exact Ev.neg (by omega) (Ev.now _)
  · intro i x hx hp
    have hi := lt_of hx
    refine Ev.step (fun _ => rfl) ?_
    simp only [slices_Index_int_int.l0]
    rw [rdI_of hx]
    exact Ev.pos (by omega) (Ev.pos (by omega) (Ev.pos (of_decide_eq_true hp) (Ev.now _)))
  · intro i x r hx hp h
    have hi := lt_of hx
    refine Ev.step (fun _ => rfl) ?_
    simp only [slices_Index_int_int.l0]
    rw [rdI_of hx, w64 (x := (i : Int) + 1) (by omega) (by omega)]
    exact Ev.pos (by omega) (Ev.pos (by omega) (Ev.neg (of_decide_eq_false hp) h))
theorem intHas_ev (l : List Int) (n : Int) (hl : l.length ≤ 1048576) : Ev (fun k => slices_Contains_int_int.f k l n) (l.any (fun x => decide (n = x))) := by
  unfold slices_Contains_int_int.f
  exact Ev.bind (intIndex_ev l n hl) (Ev.some_ (find_any _ _ _))
def coversV (a b : S60) : Bool := a.f1.all (fun c => b.f1.any (ceq c)) && (decide (a.f0 = []) || (b.f0.all (fun n => a.f0.any (fun x => decide (n = x))) && decide (b.f0 ≠ [])))
theorem covers_ev (a b : S60) (ha : a.f0.length ≤ 1048576 ∧ a.f1.length ≤ 1048576) (hb : b.f0.length ≤ 1048576 ∧ b.f1.length ≤ 1048576) : Ev (fun k => impl_covers.f k a.f0 a.f1 a.f2 a.f3 b.f0 b.f1 b.f2 b.f3) (coversV a b) := by
  unfold impl_covers.f
  refine allz_ev (fun k i => impl_covers.l0 k a.f0 a.f1 a.f2 a.f3 b.f0 b.f1 b.f2 b.f3 i) a.f1 _ _ ?_ ?_ ?_
  · refine Ev.step (fun _ => rfl) ?_
    simp only [impl_covers.l0]
    refine Ev.neg (by omega) ?_
    by_cases hz : a.f0 = []
    · rw [decide_eq_true hz, Bool.true_or]
      exact Ev.pos (by rw [hz]; simp) (Ev.now _)
    · rw [decide_eq_false hz, Bool.false_or]
      have hp : 0 < a.f0.length := List.length_pos_iff.2 hz
      refine Ev.neg (by omega) (allz_ev (fun k i => impl_covers.l1 k a.f0 a.f1 a.f2 a.f3 b.f0 b.f1 b.f2 b.f3 i) b.f0 _ _ ?_ ?_ ?_)
      · refine Ev.step (fun _ => rfl) ?_
        simp only [impl_covers.l1]
        refine Ev.neg (by omega) (Ev.some_ ?_)
        by_cases h : b.f0 = []
        · rw [h]; rfl
        · have := List.length_pos_iff.2 h
          rw [decide_eq_true h, decide_eq_true (by omega)]
      · intro i x hx hp
        have hi := lt_of hx
        refine Ev.step (fun _ => rfl) ?_
        simp only [impl_covers.l1]
        rw [rdI_of hx]
        exact Ev.pos (by omega) (Ev.pos (by omega) (Ev.bind (intHas_ev a.f0 x (by omega)) (Ev.neg (by rw [hp]; simp) (Ev.now _))))
      · intro i x r hx hp h
        have hi := lt_of hx
        refine Ev.step (fun _ => rfl) ?_
        simp only [impl_covers.l1]
        rw [rdI_of hx, w64 (x := (i : Int) + 1) (by omega) (by omega)]
        exact Ev.pos (by omega) (Ev.pos (by omega) (Ev.bind (intHas_ev a.f0 x (by omega)) (Ev.pos hp h)))
  · intro i x hx hp
    have hi := lt_of hx
    refine Ev.step (fun _ => rfl) ?_
    simp only [impl_covers.l0]
    rw [rd92 hx]
    exact Ev.pos (by omega) (Ev.pos (by omega) (Ev.bind (condHas_ev b.f1 x (by omega)) (Ev.neg (by rw [hp]; simp) (Ev.now _))))
  · intro i x r hx hp h
    have hi := lt_of hx
    refine Ev.step (fun _ => rfl) ?_
    simp only [impl_covers.l0]
    rw [rd92 hx, w64 (x := (i : Int) + 1) (by omega) (by omega)]
    exact Ev.pos (by omega) (Ev.pos (by omega) (Ev.bind (condHas_ev b.f1 x (by omega)) (Ev.pos hp h)))
theorem ruleIndex_ev (l : List S60) (b : S60) (hl : Sm l) (hb : b.f0.length ≤ 1048576 ∧ b.f1.length ≤ 1048576) : Ev (fun k => impl_Rule_83_w41.f k l b.f0 b.f1 b.f2 b.f3) (findV (fun x => coversV x b) (fun j => ((j : Int), b.f0, b.f1, b.f2, b.f3)) (-1, b.f0, b.f1, b.f2, b.f3) 0 l) := by
  obtain ⟨hn, hr⟩ := hl
  have hclo : ∀ x ∈ l, Ev (fun k => impl_Shadowed_1.f k x.f0 x.f1 x.f2 x.f3 b.f0 b.f1 b.f2 b.f3) (coversV x b, b.f0, b.f1, b.f2, b.f3) := fun x hx => by
    unfold impl_Shadowed_1.f
    exact Ev.bind (covers_ev x b (hr x hx) hb) (Ev.now _)
  unfold impl_Rule_83_w41.f
  refine find_ev (fun k i => impl_Rule_83_w41.l0 k l b.f0 b.f1 b.f2 b.f3 i) l _ _ _ ?_ ?_ ?_
  · refine Ev.step (fun _ => rfl) ?_
    simp only [impl_Rule_83_w41.l0]; exact Ev.neg (by omega) (Ev.now _)
  · intro i x hx hp
    have hi := lt_of hx
    refine Ev.step (fun _ => rfl) ?_
    simp only [impl_Rule_83_w41.l0]
    rw [rd60 hx]
    exact Ev.pos (by omega) (Ev.pos (by omega) (Ev.bind (hclo x (List.mem_of_getElem? hx)) (Ev.pos hp (Ev.now _))))
  · intro i x r hx hp h
    have hi := lt_of hx
    refine Ev.step (fun _ => rfl) ?_
    simp only [impl_Rule_83_w41.l0]
    rw [rd60 hx, w64 (x := (i : Int) + 1) (by omega) (by omega)]
    exact Ev.pos (by omega) (Ev.pos (by omega) (Ev.bind (hclo x (List.mem_of_getElem? hx)) (Ev.neg (by rw [show (_ : Bool) = false from hp]; simp) h)))
theorem ruleHas_ev (l : List S60) (b : S60) (hl : Sm l) (hb : b.f0.length ≤ 1048576 ∧ b.f1.length ≤ 1048576) : Ev (fun k => impl_Rule_40_w41.f k l b.f0 b.f1 b.f2 b.f3) (l.any (fun x => coversV x b), b.f0, b.f1, b.f2, b.f3) := by
  unfold impl_Rule_40_w41.f
  refine Ev.bind (ruleIndex_ev l b hl hb) (Ev.some_ ?_)
  rcases findV_spec (fun x => coversV x b) (fun j => ((j : Int), b.f0, b.f1, b.f2, b.f3)) (-1, b.f0, b.f1, b.f2, b.f3) l 0 with ⟨h1, j, x, _, _, _, h5⟩ | ⟨h1, h2⟩
  · rw [h1, h5]
    show (decide (((0 + j : Nat) : Int) ≥ 0), _) = _
    rw [decide_eq_true (by omega)]
  · rw [h2, any_none h1]; rfl
/-- The places of those that an earlier one covers. -/
def shadF : List S60 → Nat → List S60 → List Int
  | _, _, [] => []
  | pre, i, r :: t => if pre.any (fun x => coversV x r) then (i : Int) :: shadF (pre ++ [r]) (i + 1) t else shadF (pre ++ [r]) (i + 1) t
/-- What no earlier one covers. -/
def unshF : List S60 → List S60 → List S60
  | _, [] => []
  | pre, r :: t => if pre.any (fun x => coversV x r) then unshF (pre ++ [r]) t else r :: unshF (pre ++ [r]) t
theorem shadF_len : ∀ (t pre : List S60) (i : Nat), (unshF pre t).length + (shadF pre i t).length = t.length
  | [], _, _ => rfl
  | r :: t, pre, i => by
    simp only [shadF, unshF]
    have := shadF_len t (pre ++ [r]) (i + 1)
    split <;> simp only [List.length_cons] <;> omega
theorem unshF_sub : ∀ (t pre : List S60), (unshF pre t).Sublist t
  | [], _ => List.Sublist.refl _
  | r :: t, pre => by
    simp only [unshF]
    split
    · exact (unshF_sub t _).cons r
    · exact (unshF_sub t _).cons_cons r
theorem shadF_ge : ∀ (t pre : List S60) (i : Nat) (y : Int), y ∈ shadF pre i t → (i : Int) ≤ y
  | [], _, _, y, h => by simp [shadF] at h
  | r :: t, pre, i, y, h => by
    simp only [shadF] at h
    split at h
    · rcases List.mem_cons.1 h with rfl | h
      · exact Int.le_refl _
      · have := shadF_ge t _ _ _ h; omega
    · have := shadF_ge t _ _ _ h; omega
theorem shadF_mem : ∀ (t pre : List S60) (i m : Nat) (x : S60), t[m]? = some x → ((shadF pre i t).any (fun y => decide (((i + m : Nat) : Int) = y)) = (pre ++ t.take m).any (fun y => coversV y x))
  | [], _, _, m, x, h => by simp at h
  | r :: t, pre, i, 0, x, h => by
    have hx : r = x := by simpa using h
    subst hx
    simp only [shadF, List.take_zero, List.append_nil, Nat.add_zero]
    cases hc : pre.any (fun y => coversV y r) with
    | true => simp
    | false =>
      rw [if_neg (by simp)]
      refine any_none fun y hy => decide_eq_false fun e => ?_
      have := shadF_ge t _ _ _ hy
      omega
  | r :: t, pre, i, m + 1, x, h => by
    have ih := shadF_mem t (pre ++ [r]) (i + 1) m x (by simpa using h)
    rw [show i + 1 + m = i + (m + 1) by omega, List.append_assoc] at ih
    rw [List.take_succ_cons]
    show _ = (pre ++ ([r] ++ t.take m)).any _
    rw [← ih]
    simp only [shadF]
    split
    · rw [List.any_cons, decide_eq_false (by omega), Bool.false_or]
    · rfl
theorem impl_Shadowed_ok (a c d : Int) (l : List S60) (hl : Sm l) (hp : polV a c d l = true) : Ev (fun k => impl_Shadowed.f k a c d l) (shadF [] 0 l) := by
  have e1 := impl_PolicyOk_ev a c d l hl
  rw [hp] at e1
  unfold impl_Shadowed.f
  refine Ev.bind e1 (Ev.pos rfl ?_)
  have key : ∀ (m i : Nat) (q : List Int), l.length - i = m → i ≤ l.length → q.length ≤ i → Ev (fun k => impl_Shadowed.l0 k a c d l q (i : Int)) (q ++ shadF (l.take i) i (l.drop i)) := by
    obtain ⟨hn, hr⟩ := hl
    intro m
    induction m with
    | zero =>
      intro i q hm hi hq
      rw [List.drop_eq_nil_of_le (by omega)]
      refine Ev.step (fun _ => rfl) ?_
      simp only [impl_Shadowed.l0, shadF, List.append_nil]
      exact Ev.neg (by omega) (Ev.now _)
    | succ m ih =>
      intro i q hm hi hq
      have hx : l[i]? = some l[i] := List.getElem?_eq_getElem (by omega)
      rw [List.drop_eq_getElem_cons (by omega)]
      generalize l[i] = x at hx
      have hb := hr x (List.mem_of_getElem? hx)
      have hs : Sm (l.take i) := ⟨by simp; omega, fun y hy => hr y (List.mem_of_mem_take hy)⟩
      refine Ev.step (fun _ => rfl) ?_
      simp only [impl_Shadowed.l0, shadF]
      rw [rd60 hx, w64 (x := (i : Int) + 1) (by omega) (by omega), Int.toNat_natCast, take_snoc hx]
      refine Ev.pos (by omega) (Ev.pos (by omega) (Ev.pos (by omega) (Ev.bind (ruleHas_ev (l.take i) x hs hb) ?_)))
      cases hc : (l.take i).any (fun y => coversV y x) with
      | true =>
        refine Ev.pos rfl (Ev.pos (by first | omega | (simp; omega)) ?_)
        have := ih (i + 1) (q ++ [(i : Int)]) (by omega) (by omega) (by first | omega | (simp; omega))
        rw [if_pos rfl, List.append_cons]
        simpa using this
      | false =>
        refine Ev.neg (by simp) ?_
        rw [if_neg (by simp)]
        have := ih (i + 1) q (by omega) (by omega) (by omega)
        simpa using this
  have := key l.length 0 [] rfl (Nat.zero_le _) (Nat.le_refl _)
  simpa using this
theorem impl_copyPolicy_ev (a c d : Int) (l : List S60) (hl : Sm l) : Ev (fun k => impl_copyPolicy.f k a c d l) (a, c, d, l) := by
  unfold impl_copyPolicy.f
  have key : ∀ (m i : Nat), l.length - i = m → i ≤ l.length → Ev (fun k => impl_copyPolicy.l0 k a c d l (l.take i) (i : Int)) (a, c, d, l) := by
    obtain ⟨hn, hr⟩ := hl
    intro m
    induction m with
    | zero =>
      intro i hm hi
      refine Ev.step (fun _ => rfl) ?_
      simp only [impl_copyPolicy.l0]
      rw [List.take_of_length_le (by omega)]
      exact Ev.neg (by omega) (Ev.now _)
    | succ m ih =>
      intro i hm hi
      have hx : l[i]? = some l[i] := List.getElem?_eq_getElem (by omega)
      generalize l[i] = x at hx
      have hb := hr x (List.mem_of_getElem? hx)
      refine Ev.step (fun _ => rfl) ?_
      simp only [impl_copyPolicy.l0, impl_copyRule.f]
      rw [rd60 hx, w64 (x := (i : Int) + 1) (by omega) (by omega)]
      refine Ev.pos (by omega) (Ev.pos (by omega) (Ev.bindc (x := (x.f0, x.f1, x.f2, x.f3)) (by rw [if_pos (by first | omega | (simp; omega)), if_pos (by first | omega | (simp; omega))]; rfl) (Ev.pos (by first | omega | (simp; omega)) ?_)))
      have := ih (i + 1) (by omega) (by omega)
      rw [← take_snoc hx] at this
      simpa using this
  have := key l.length 0 rfl (Nat.zero_le _)
  simpa using this
theorem impl_Unshadowed_ok (a c d : Int) (l : List S60) (hl : Sm l) (hp : polV a c d l = true) : Ev (fun k => impl_Unshadowed.f k a c d l) (a, c, d, unshF [] l) := by
  unfold impl_Unshadowed.f
  refine Ev.bind (impl_copyPolicy_ev a c d l hl) (Ev.bind (impl_Shadowed_ok a c d l hl hp) ?_)
  have hsl := shadF_len l [] 0
  have key : ∀ (m i : Nat) (q : List S60), l.length - i = m → i ≤ l.length → q.length ≤ i → Ev (fun k => impl_Unshadowed.l0 k (a, c, d, l) (shadF [] 0 l) q (i : Int)) (a, c, d, q ++ unshF (l.take i) (l.drop i)) := by
    obtain ⟨hn, hr⟩ := hl
    intro m
    induction m with
    | zero =>
      intro i q hm hi hq
      rw [List.drop_eq_nil_of_le (by omega)]
      refine Ev.step (fun _ => rfl) ?_
      simp only [impl_Unshadowed.l0, unshF, List.append_nil]
      exact Ev.neg (by omega) (Ev.now _)
    | succ m ih =>
      intro i q hm hi hq
      have hx : l[i]? = some l[i] := List.getElem?_eq_getElem (by omega)
      rw [List.drop_eq_getElem_cons (by omega)]
      generalize l[i] = x at hx
      have hmem := shadF_mem l [] 0 i x hx
      rw [Nat.zero_add, List.nil_append] at hmem
      refine Ev.step (fun _ => rfl) ?_
      simp only [impl_Unshadowed.l0, unshF]
      rw [rd60 hx, w64 (x := (i : Int) + 1) (by omega) (by omega), take_snoc hx]
      refine Ev.pos (by omega) (Ev.pos (by omega) (Ev.bind (intHas_ev (shadF [] 0 l) (i : Int) (by omega)) ?_))
      rw [hmem]
      cases hc : (l.take i).any (fun y => coversV y x) with
      | true =>
        rw [if_pos rfl]
        exact Ev.pos rfl (by have := ih (i + 1) q (by omega) (by omega) (by omega); simpa using this)
      | false =>
        rw [if_neg (by simp)]
        refine Ev.neg (by simp) (Ev.pos (by first | omega | (simp; omega)) ?_)
        have := ih (i + 1) (q ++ [x]) (by omega) (by omega) (by first | omega | (simp; omega))
        rw [List.append_cons]
        simpa using this
  have := key l.length 0 [] rfl (Nat.zero_le _) (Nat.le_refl _)
  simpa using this
/-- How many are left when those go from the end that do what else holds. -/
def lessN (c d : Int) (l : List S60) : Nat → Nat
  | 0 => 0
  | n + 1 => if (l.getD n z60).f2 = c ∧ (l.getD n z60).f3 = d then lessN c d l n else n + 1
theorem lessN_le (c d : Int) (l : List S60) : ∀ n, lessN c d l n ≤ n
  | 0 => Nat.le_refl _
  | n + 1 => by
    simp only [lessN]
    split
    · have := lessN_le c d l n; omega
    · exact Nat.le_refl _
theorem impl_Lessened_ok (a c d : Int) (l : List S60) (hl : Sm l) (hp : polV a c d l = true) : Ev (fun k => impl_Lessened.f k a c d l) (a, c, d, (unshF [] l).take (lessN c d (unshF [] l) (unshF [] l).length)) := by
  unfold impl_Lessened.f
  have e1 := impl_PolicyOk_ev a c d l hl
  rw [hp] at e1
  refine Ev.bind (impl_Unshadowed_ok a c d l hl hp) (Ev.bind e1 (Ev.pos rfl ?_))
  have hsl := shadF_len l [] 0
  have hn := hl.1
  generalize unshF [] l = u at hsl
  have key : ∀ (m : Nat), m ≤ u.length → Ev (fun k => impl_Lessened.l0 k a c d l (a, c, d, u) (u.take m) (m : Int)) (a, c, d, u.take (lessN c d u m)) := by
    intro m
    induction m with
    | zero =>
      intro hm
      refine Ev.step (fun _ => rfl) ?_
      simp only [impl_Lessened.l0, lessN]
      exact Ev.neg (by omega) (Ev.now _)
    | succ m ih =>
      intro hm
      have hx : (u.take (m + 1))[m]? = some (u.getD m z60) := by
        rw [List.getElem?_take, if_pos (by omega), List.getD_eq_getElem?_getD, List.getElem?_eq_getElem (by omega)]; rfl
      have hlen : (u.take (m + 1)).length = m + 1 := by simp; omega
      refine Ev.step (fun _ => rfl) ?_
      simp only [impl_Lessened.l0, lessN]
      rw [w64 (x := ((m + 1 : Nat) : Int) - 1) (by omega) (by omega), show ((m + 1 : Nat) : Int) - 1 = (m : Int) by omega, rd60 hx, Int.toNat_natCast]
      refine Ev.pos (by omega) (Ev.pos (by omega) (Ev.pos (by omega) ?_))
      by_cases h1 : (u.getD m z60).f2 = c
      · by_cases h2 : (u.getD m z60).f3 = d
        · rw [if_pos ⟨h1, h2⟩]
          refine Ev.pos h1 (Ev.pos h2 (Ev.pos (by omega) ?_))
          have := ih (by omega)
          rwa [List.take_take, Nat.min_eq_left (by omega)]
        · rw [if_neg (fun h => h2 h.2)]
          exact Ev.pos h1 (Ev.neg h2 (Ev.now _))
      · rw [if_neg (fun h => h1 h.1)]
        exact Ev.neg h1 (Ev.now _)
  have := key u.length (Nat.le_refl _)
  rwa [List.take_length] at this
theorem ceq_comm (c y : S92) : ceq y c = ceq c y := by
  have key : ∀ {a b : S92}, ceq a b = true → ceq b a = true := fun {a b} h => by have e := ceq_eq h; subst e; exact h
  cases h : ceq c y with
  | true => exact key h
  | false =>
    cases h2 : ceq y c with
    | false => rfl
    | true => rw [key h2] at h; cases h
theorem int_comm (l : List Int) (n : Int) : l.any (fun x => decide (x = n)) = l.any (fun x => decide (n = x)) := by
  congr 1; funext x; exact decide_eq_decide.2 ⟨fun h => h.symm, fun h => h.symm⟩
theorem spec_l24HasCond_ev (l : List S92) (c : S92) (hl : l.length ≤ 1048576) : Ev (fun k => spec_l24HasCond.f k l c.f0 c.f1.f0 c.f1.f1 c.f2 c.f3.f0 c.f3.f1) (l.any (ceq c)) := by
  have e : l.any (ceq c) = findV (fun y => ceq y c) (fun _ => true) false 0 l := by
    have e0 : l.any (ceq c) = l.any (fun y => ceq y c) := by congr 1; funext y; exact (ceq_comm c y).symm
    rw [e0]
    rcases findV_spec (fun y => ceq y c) (fun _ => true) false l 0 with ⟨h1, j, x, _, _, _, h5⟩ | ⟨h1, h2⟩
    · rw [h1, h5]
    · rw [h2, any_none h1]
  rw [e]
  unfold spec_l24HasCond.f
  refine find_ev (fun k i => spec_l24HasCond.l0 k l c.f0 c.f1.f0 c.f1.f1 c.f2 c.f3.f0 c.f3.f1 i) l _ _ _ ?_ ?_ ?_
  · refine Ev.step (fun _ => rfl) ?_
    simp only [spec_l24HasCond.l0]; exact Ev.neg (by omega) (Ev.now _)
  · intro i x hx hp
    have hi := lt_of hx
    refine Ev.step (fun _ => rfl) ?_
    simp only [spec_l24HasCond.l0]
    rw [rd92 hx]
    exact Ev.pos (by omega) (Ev.pos (by omega) (Ev.pos hp (Ev.now _)))
  · intro i x r hx hp h
    have hi := lt_of hx
    refine Ev.step (fun _ => rfl) ?_
    simp only [spec_l24HasCond.l0]
    rw [rd92 hx, w64 (x := (i : Int) + 1) (by omega) (by omega)]
    exact Ev.pos (by omega) (Ev.pos (by omega) (Ev.neg (fun hh => by unfold ceq at hp; rw [hp] at hh; cases hh) h))
theorem spec_l24Covers_ev (a b : S60) (ha : a.f0.length ≤ 1048576 ∧ a.f1.length ≤ 1048576) (hb : b.f0.length ≤ 1048576 ∧ b.f1.length ≤ 1048576) : Ev (fun k => spec_l24Covers.f k a.f0 a.f1 a.f2 a.f3 b.f0 b.f1 b.f2 b.f3) (coversV a b) := by
  have hin : ∀ x : Int, Ev (fun k => spec_l09In.f k a.f0 x) (a.f0.any (fun y => decide (x = y))) := fun x => by rw [← int_comm]; exact spec_l09In_ev a.f0 x (by omega)
  unfold spec_l24Covers.f
  refine allz_ev (fun k i => spec_l24Covers.l0 k a.f0 a.f1 a.f2 a.f3 b.f0 b.f1 b.f2 b.f3 i) a.f1 _ _ ?_ ?_ ?_
  · refine Ev.step (fun _ => rfl) ?_
    simp only [spec_l24Covers.l0]
    refine Ev.neg (by omega) ?_
    by_cases hz : a.f0 = []
    · rw [decide_eq_true hz, Bool.true_or]
      exact Ev.pos (by rw [hz]; simp) (Ev.now _)
    · rw [decide_eq_false hz, Bool.false_or]
      have hp : 0 < a.f0.length := List.length_pos_iff.2 hz
      refine Ev.neg (by omega) (allz_ev (fun k i => spec_l24Covers.l1 k a.f0 a.f1 a.f2 a.f3 b.f0 b.f1 b.f2 b.f3 i) b.f0 _ _ ?_ ?_ ?_)
      · refine Ev.step (fun _ => rfl) ?_
        simp only [spec_l24Covers.l1]
        refine Ev.neg (by omega) (Ev.some_ ?_)
        by_cases h : b.f0 = []
        · rw [h]; rfl
        · have := List.length_pos_iff.2 h
          rw [decide_eq_true h, decide_eq_true (by omega)]
      · intro i x hx hp
        have hi := lt_of hx
        refine Ev.step (fun _ => rfl) ?_
        simp only [spec_l24Covers.l1]
        rw [rdI_of hx]
        exact Ev.pos (by omega) (Ev.pos (by omega) (Ev.bind (hin x) (Ev.neg (by rw [hp]; simp) (Ev.now _))))
      · intro i x r hx hp h
        have hi := lt_of hx
        refine Ev.step (fun _ => rfl) ?_
        simp only [spec_l24Covers.l1]
        rw [rdI_of hx, w64 (x := (i : Int) + 1) (by omega) (by omega)]
        exact Ev.pos (by omega) (Ev.pos (by omega) (Ev.bind (hin x) (Ev.pos hp h)))
  · intro i x hx hp
    have hi := lt_of hx
    refine Ev.step (fun _ => rfl) ?_
    simp only [spec_l24Covers.l0]
    rw [rd92 hx]
    exact Ev.pos (by omega) (Ev.pos (by omega) (Ev.bind (spec_l24HasCond_ev b.f1 x (by omega)) (Ev.neg (by rw [hp]; simp) (Ev.now _))))
  · intro i x r hx hp h
    have hi := lt_of hx
    refine Ev.step (fun _ => rfl) ?_
    simp only [spec_l24Covers.l0]
    rw [rd92 hx, w64 (x := (i : Int) + 1) (by omega) (by omega)]
    exact Ev.pos (by omega) (Ev.pos (by omega) (Ev.bind (spec_l24HasCond_ev b.f1 x (by omega)) (Ev.pos hp h)))
/-- The inner loop: does an earlier one cover it? -/
theorem spec_shadIn (a c d : Int) (l : List S60) (hl : Sm l) (i : Nat) (x : S60) (hx : l[i]? = some x) (q : List Int) (hq : q.length ≤ i) (r : List Int) :
    ∀ (m j : Nat) (h : Bool), i - j = m → j ≤ i → Ev (fun k => spec_Shadowed.l1 k a c d l (if (h || ((l.take i).drop j).any (fun y => coversV y x)) = true then q ++ [(i : Int)] else q) ((i : Int) + 1)) r → Ev (fun k => spec_Shadowed.l0 k a c d l (i : Int) q h (j : Int)) r := by
  have hil := lt_of hx
  have hn := hl.1
  intro m
  induction m with
  | zero =>
    intro j h hm hj hr
    have : j = i := by omega
    subst this
    rw [List.drop_eq_nil_of_le (by simp; omega)] at hr
    simp only [List.any_nil, Bool.or_false] at hr
    refine Ev.step (fun _ => rfl) ?_
    simp only [spec_Shadowed.l0]
    rw [w64 (x := (j : Int) + 1) (by omega) (by omega)]
    refine Ev.neg (by omega) ?_
    cases h with
    | true => exact Ev.pos rfl (Ev.pos (by simp; omega) (by simpa using hr))
    | false => exact Ev.neg (by simp) (by simpa using hr)
  | succ m ih =>
    intro j h hm hj hr
    have hy : l[j]? = some l[j] := List.getElem?_eq_getElem (by omega)
    have hd : (l.take i).drop j = l[j] :: (l.take i).drop (j + 1) := by
      rw [List.drop_eq_getElem_cons (by simp; omega)]
      simp
    rw [hd] at hr
    generalize l[j] = y at hy hr
    refine Ev.step (fun _ => rfl) ?_
    simp only [spec_Shadowed.l0]
    rw [rd60 hy, rd60 hx, w64 (x := (j : Int) + 1) (by omega) (by omega)]
    refine Ev.pos (by omega) ?_
    cases h with
    | true =>
      refine Ev.pos rfl ?_
      have := ih (j + 1) true (by omega) (by omega) (by simpa using hr)
      simpa using this
    | false =>
      refine Ev.neg (by simp) (Ev.pos (by omega) (Ev.pos (by omega) (Ev.pos (by omega) (Ev.bind (spec_l24Covers_ev y x (hl.get hy) (hl.get hx)) ?_))))
      have := ih (j + 1) (coversV y x) (by omega) (by omega) (by simpa using hr)
      simpa using this
theorem spec_Shadowed_ok (a c d : Int) (l : List S60) (hl : Sm l) (hp : polV a c d l = true) : Ev (fun k => spec_Shadowed.f k a c d l) (shadF [] 0 l) := by
  have e1 := spec_PolicyOk_ev a c d l hl
  rw [hp] at e1
  unfold spec_Shadowed.f
  refine Ev.bind e1 (Ev.pos rfl ?_)
  have key : ∀ (m i : Nat) (q : List Int), l.length - i = m → i ≤ l.length → q.length ≤ i → Ev (fun k => spec_Shadowed.l1 k a c d l q (i : Int)) (q ++ shadF (l.take i) i (l.drop i)) := by
    have hn := hl.1
    intro m
    induction m with
    | zero =>
      intro i q hm hi hq
      rw [List.drop_eq_nil_of_le (by omega)]
      refine Ev.step (fun _ => rfl) ?_
      simp only [spec_Shadowed.l1, shadF, List.append_nil]
      exact Ev.neg (by omega) (Ev.now _)
    | succ m ih =>
      intro i q hm hi hq
      have hx : l[i]? = some l[i] := List.getElem?_eq_getElem (by omega)
      rw [List.drop_eq_getElem_cons (by omega)]
      generalize l[i] = x at hx
      refine Ev.step (fun _ => rfl) ?_
      simp only [spec_Shadowed.l1, shadF]
      refine Ev.pos (by omega) (spec_shadIn a c d l hl i x hx q hq _ i 0 false rfl (Nat.zero_le _) ?_)
      rw [List.drop_zero, Bool.false_or, take_snoc hx]
      cases hc : (l.take i).any (fun y => coversV y x) with
      | true =>
        rw [if_pos rfl, if_pos rfl, List.append_cons]
        have := ih (i + 1) (q ++ [(i : Int)]) (by omega) (by omega) (by simp; omega)
        simpa using this
      | false =>
        rw [if_neg (by simp), if_neg (by simp)]
        have := ih (i + 1) q (by omega) (by omega) (by omega)
        simpa using this
  have := key l.length 0 [] rfl (Nat.zero_le _) (Nat.le_refl _)
  simpa using this
def shadV (a c d : Int) (l : List S60) : List Int := if polV a c d l = true then shadF [] 0 l else []
theorem spec_Shadowed_ev (a c d : Int) (l : List S60) (hl : Sm l) : Ev (fun k => spec_Shadowed.f k a c d l) (shadV a c d l) := by
  unfold shadV
  by_cases hp : polV a c d l = true
  · rw [if_pos hp]; exact spec_Shadowed_ok a c d l hl hp
  · rw [if_neg hp]
    unfold spec_Shadowed.f
    exact Ev.bind (spec_PolicyOk_ev a c d l hl) (Ev.neg hp (Ev.now _))
theorem impl_Shadowed_ev (a c d : Int) (l : List S60) (hl : Sm l) : Ev (fun k => impl_Shadowed.f k a c d l) (shadV a c d l) := by
  unfold shadV
  by_cases hp : polV a c d l = true
  · rw [if_pos hp]; exact impl_Shadowed_ok a c d l hl hp
  · rw [if_neg hp]
    unfold impl_Shadowed.f
    exact Ev.bind (impl_PolicyOk_ev a c d l hl) (Ev.neg hp (Ev.now _))
theorem spec_l09Copy_ev (a c d : Int) (l : List S60) (hl : Sm l) : Ev (fun k => spec_l09Copy.f k a c d l) (a, c, d, l) := by
  unfold spec_l09Copy.f
  have key : ∀ (m i : Nat), l.length - i = m → i ≤ l.length → Ev (fun k => spec_l09Copy.l0 k a c d l (l.take i) (i : Int)) (a, c, d, l) := by
    obtain ⟨hn, hr⟩ := hl
    intro m
    induction m with
    | zero =>
      intro i hm hi
      refine Ev.step (fun _ => rfl) ?_
      simp only [spec_l09Copy.l0]
      rw [List.take_of_length_le (by omega)]
      exact Ev.neg (by omega) (Ev.now _)
    | succ m ih =>
      intro i hm hi
      have hx : l[i]? = some l[i] := List.getElem?_eq_getElem (by omega)
      generalize l[i] = x at hx
      have hb := hr x (List.mem_of_getElem? hx)
      refine Ev.step (fun _ => rfl) ?_
      simp only [spec_l09Copy.l0]
      rw [rd60 hx, w64 (x := (i : Int) + 1) (by omega) (by omega)]
      refine Ev.pos (by omega) (Ev.pos (by omega) (Ev.pos (by first | omega | (simp; omega)) (Ev.pos (by first | omega | (simp; omega)) (Ev.pos (by first | omega | (simp; omega)) ?_))))
      have := ih (i + 1) (by omega) (by omega)
      rw [← take_snoc hx] at this
      simpa using this
  have := key l.length 0 rfl (Nat.zero_le _)
  simpa using this
theorem impl_Unshadowed_no (a c d : Int) (l : List S60) (hl : Sm l) (hp : ¬ polV a c d l = true) : Ev (fun k => impl_Unshadowed.f k a c d l) (a, c, d, l) := by
  unfold impl_Unshadowed.f
  have e1 := impl_Shadowed_ev a c d l hl
  unfold shadV at e1
  rw [if_neg hp] at e1
  refine Ev.bind (impl_copyPolicy_ev a c d l hl) (Ev.bind e1 ?_)
  have key : ∀ (m i : Nat), l.length - i = m → i ≤ l.length → Ev (fun k => impl_Unshadowed.l0 k (a, c, d, l) [] (l.take i) (i : Int)) (a, c, d, l) := by
    obtain ⟨hn, hr⟩ := hl
    intro m
    induction m with
    | zero =>
      intro i hm hi
      refine Ev.step (fun _ => rfl) ?_
      simp only [impl_Unshadowed.l0]
      rw [List.take_of_length_le (by omega)]
      exact Ev.neg (by omega) (Ev.now _)
    | succ m ih =>
      intro i hm hi
      have hx : l[i]? = some l[i] := List.getElem?_eq_getElem (by omega)
      generalize l[i] = x at hx
      refine Ev.step (fun _ => rfl) ?_
      simp only [impl_Unshadowed.l0]
      rw [rd60 hx, w64 (x := (i : Int) + 1) (by omega) (by omega)]
      refine Ev.pos (by omega) (Ev.pos (by omega) (Ev.bind (intHas_ev [] (i : Int) (by simp)) (Ev.neg (by simp) (Ev.pos (by first | omega | (simp; omega)) ?_))))
      have := ih (i + 1) (by omega) (by omega)
      rw [← take_snoc hx] at this
      simpa using this
  have := key l.length 0 rfl (Nat.zero_le _)
  simpa using this
theorem spec_Unshadowed_ok (a c d : Int) (l : List S60) (hl : Sm l) (hp : polV a c d l = true) : Ev (fun k => spec_Unshadowed.f k a c d l) (a, c, d, unshF [] l) := by
  unfold spec_Unshadowed.f
  have e1 := spec_PolicyOk_ev a c d l hl
  rw [hp] at e1
  refine Ev.bind (spec_l09Copy_ev a c d l hl) (Ev.bind (spec_Shadowed_ok a c d l hl hp) (Ev.bind e1 (Ev.pos rfl ?_)))
  have hsl := shadF_len l [] 0
  have key : ∀ (m i : Nat) (q : List S60), l.length - i = m → i ≤ l.length → q.length ≤ i → Ev (fun k => spec_Unshadowed.l0 k (a, c, d, l) (shadF [] 0 l) q (i : Int)) (a, c, d, q ++ unshF (l.take i) (l.drop i)) := by
    obtain ⟨hn, hr⟩ := hl
    intro m
    induction m with
    | zero =>
      intro i q hm hi hq
      rw [List.drop_eq_nil_of_le (by omega)]
      refine Ev.step (fun _ => rfl) ?_
      simp only [spec_Unshadowed.l0, unshF, List.append_nil]
      exact Ev.neg (by omega) (Ev.now _)
    | succ m ih =>
      intro i q hm hi hq
      have hx : l[i]? = some l[i] := List.getElem?_eq_getElem (by omega)
      rw [List.drop_eq_getElem_cons (by omega)]
      generalize l[i] = x at hx
      have hmem := shadF_mem l [] 0 i x hx
      rw [Nat.zero_add, List.nil_append, ← int_comm] at hmem
      refine Ev.step (fun _ => rfl) ?_
      simp only [spec_Unshadowed.l0, unshF]
      rw [rd60 hx, w64 (x := (i : Int) + 1) (by omega) (by omega), take_snoc hx]
      refine Ev.pos (by omega) (Ev.bind (spec_l09In_ev (shadF [] 0 l) (i : Int) (by omega)) ?_)
      rw [hmem]
      cases hc : (l.take i).any (fun y => coversV y x) with
      | true =>
        rw [if_pos rfl]
        exact Ev.pos rfl (by have := ih (i + 1) q (by omega) (by omega) (by omega); simpa using this)
      | false =>
        rw [if_neg (by simp)]
        refine Ev.neg (by simp) (Ev.pos (by omega) (Ev.pos (by first | omega | (simp; omega)) ?_))
        have := ih (i + 1) (q ++ [x]) (by omega) (by omega) (by simp; omega)
        rw [List.append_cons]
        simpa using this
  have := key l.length 0 [] rfl (Nat.zero_le _) (Nat.le_refl _)
  simpa using this
def unshV (a c d : Int) (l : List S60) : List S60 := if polV a c d l = true then unshF [] l else l
theorem impl_Unshadowed_ev (a c d : Int) (l : List S60) (hl : Sm l) : Ev (fun k => impl_Unshadowed.f k a c d l) (a, c, d, unshV a c d l) := by
  unfold unshV
  by_cases hp : polV a c d l = true
  · rw [if_pos hp]; exact impl_Unshadowed_ok a c d l hl hp
  · rw [if_neg hp]; exact impl_Unshadowed_no a c d l hl hp
theorem spec_Unshadowed_ev (a c d : Int) (l : List S60) (hl : Sm l) : Ev (fun k => spec_Unshadowed.f k a c d l) (a, c, d, unshV a c d l) := by
  unfold unshV
  by_cases hp : polV a c d l = true
  · rw [if_pos hp]; exact spec_Unshadowed_ok a c d l hl hp
  · rw [if_neg hp]
    unfold spec_Unshadowed.f
    exact Ev.bind (spec_l09Copy_ev a c d l hl) (Ev.bind (spec_Shadowed_ev a c d l hl) (Ev.bind (spec_PolicyOk_ev a c d l hl) (Ev.neg hp (Ev.now _))))
theorem unshV_sub (a c d : Int) (l : List S60) : (unshV a c d l).Sublist l := by
  unfold unshV
  split
  · exact unshF_sub l []
  · exact List.Sublist.refl _
def lessV (a c d : Int) (l : List S60) : List S60 := if polV a c d l = true then (unshF [] l).take (lessN c d (unshF [] l) (unshF [] l).length) else l
theorem impl_Lessened_ev (a c d : Int) (l : List S60) (hl : Sm l) : Ev (fun k => impl_Lessened.f k a c d l) (a, c, d, lessV a c d l) := by
  unfold lessV
  by_cases hp : polV a c d l = true
  · rw [if_pos hp]; exact impl_Lessened_ok a c d l hl hp
  · rw [if_neg hp]
    unfold impl_Lessened.f
    exact Ev.bind (impl_Unshadowed_no a c d l hl hp) (Ev.bind (impl_PolicyOk_ev a c d l hl) (Ev.neg hp (Ev.now _)))
theorem spec_Lessened_ev (a c d : Int) (l : List S60) (hl : Sm l) : Ev (fun k => spec_Lessened.f k a c d l) (a, c, d, lessV a c d l) := by
  unfold lessV spec_Lessened.f
  have e0 := spec_Unshadowed_ev a c d l hl
  unfold unshV at e0
  by_cases hp : polV a c d l = true
  · have e1 := spec_PolicyOk_ev a c d l hl
    rw [hp] at e1
    rw [if_pos hp] at e0 ⊢
    refine Ev.bind e0 (Ev.bind e1 (Ev.pos rfl ?_))
    have hsl := shadF_len l [] 0
    have hn := hl.1
    generalize unshF [] l = u at hsl
    have stop : ∀ m : Nat, m ≤ u.length → Ev (fun k => spec_Lessened.j0 k (a, c, d, u) (m : Int)) (a, c, d, u.take m) := fun m hm => by
      refine Ev.step (fun _ => rfl) ?_
      simp only [spec_Lessened.j0]
      rw [Int.toNat_natCast]
      exact Ev.pos (by omega) (Ev.pos (by omega) (Ev.pos (by simp; omega) (Ev.now _)))
    have key : ∀ (m : Nat), m ≤ u.length → Ev (fun k => spec_Lessened.l0 k a c d l (a, c, d, u) (m : Int)) (a, c, d, u.take (lessN c d u m)) := by
      intro m
      induction m with
      | zero =>
        intro hm
        refine Ev.step (fun _ => rfl) ?_
        simp only [spec_Lessened.l0, lessN]
        exact Ev.neg (by omega) (stop 0 hm)
      | succ m ih =>
        intro hm
        have hx : u[m]? = some (u.getD m z60) := by
          rw [List.getD_eq_getElem?_getD, List.getElem?_eq_getElem (by omega)]; rfl
        refine Ev.step (fun _ => rfl) ?_
        simp only [spec_Lessened.l0, lessN]
        rw [w64 (x := ((m + 1 : Nat) : Int) - 1) (by omega) (by omega), show ((m + 1 : Nat) : Int) - 1 = (m : Int) by omega, rd60 hx]
        refine Ev.pos (by omega) (Ev.pos (by omega) (Ev.pos (by omega) ?_))
        by_cases h1 : (u.getD m z60).f2 = c
        · by_cases h2 : (u.getD m z60).f3 = d
          · rw [if_pos ⟨h1, h2⟩]
            exact Ev.pos h1 (Ev.pos h2 (ih (by omega)))
          · rw [if_neg (fun h => h2 h.2)]
            exact Ev.pos h1 (Ev.neg h2 (stop (m + 1) hm))
        · rw [if_neg (fun h => h1 h.1)]
          exact Ev.neg h1 (stop (m + 1) hm)
    exact key u.length (Nat.le_refl _)
  · rw [if_neg hp] at e0 ⊢
    exact Ev.bind e0 (Ev.bind (spec_PolicyOk_ev a c d l hl) (Ev.neg hp (Ev.now _)))
theorem lessV_sub (a c d : Int) (l : List S60) : (lessV a c d l).Sublist l := by
  unfold lessV
  split
  · exact (List.take_sublist _ _).trans (unshF_sub l [])
  · exact List.Sublist.refl _
theorem FitL.sub {α : Type} {p : α → Prop} {l m : List α} (h : FitL p l) (s : m.Sublist l) : FitL p m := ⟨Nat.le_trans s.length_le h.1, fun x hx => h.2 x (s.subset hx)⟩
theorem pure : Pure := by
  intro a c d l _ _ _ hl
  refine Ev.rounds ?_
  unfold laws_FnExactLessened.f
  obtain ⟨v, hv, h⟩ := szPolicy_ev a c d l 1048576 hl (by omega) (by omega)
  refine Ev.bind hv ?_
  rcases h with h | ⟨_, _, n0⟩
  · exact Ev.pos h (Ev.now _)
  refine Ev.neg (by omega) ?_
  have e1 := toPolicy_ev a c d l n0
  have c0 : FitL Fit60 (l.map cvS86_S60) := ⟨by rw [List.length_map]; exact n0.1, fun x hx => by
    obtain ⟨y, hy, rfl⟩ := List.mem_map.1 hx
    exact ⟨(n0.2 y hy).1, by show (List.map _ _).length ≤ _; rw [List.length_map]; exact (n0.2 y hy).2.1, fun _ _ => trivial⟩⟩
  generalize l.map cvS86_S60 = x at e1 c0
  have hs : Sm x := ⟨c0.1, fun r hr => ⟨(c0.2 r hr).1.1, (c0.2 r hr).2.1⟩⟩
  have m0 : mcount ctS60 x ≤ 1048576 * 7340034 := mc_le c0 (fun y hy => ctS60_le y hy)
  have e2 := eqPolicy_ev a c d x c0
  have e3 := markPolicy_ev a c d x 1 c0 (by omega) (by omega)
  have f3 := spec_Lessened_ev a c d x hs
  have f4 := impl_Lessened_ev a c d x hs
  have hg := c0.sub (lessV_sub a c d x)
  generalize lessV a c d x = g at f3 f4 hg
  have mg : mcount ctS60 g ≤ 1048576 * 7340034 := mc_le hg (fun y hy => ctS60_le y hy)
  have e4 := eqPolicy_ev a c d g hg
  have e5 := markPolicy_ev a c d g 1 hg (by omega) (by omega)
  have e6 := heldPolicy_ev a c d g 1 hg (by omega) (by omega)
  repeat (first
    | (with_reducible refine Ev.bind e1 ?_; try dsimp only)
    | (with_reducible refine Ev.bind e2 ?_; try dsimp only)
    | (with_reducible refine Ev.bind e3 ?_; try dsimp only)
    | (with_reducible refine Ev.bind f3 ?_; try dsimp only)
    | (with_reducible refine Ev.bind f4 ?_; try dsimp only)
    | (with_reducible refine Ev.bind e4 ?_; try dsimp only)
    | (with_reducible refine Ev.bind e5 ?_; try dsimp only)
    | (with_reducible refine Ev.bind e6 ?_; try dsimp only)
    | (refine Ev.neg (by omega) ?_)
    | (refine Ev.pos (by first | rfl | omega) ?_)
    | (refine Ev.neg (by simp) ?_)
    | exact Ev.now _)
end Go.Proofs.Ythgmgbccgokfeaa.PFnExactLessened
namespace Go.Proofs.Ythgmgbccgokfeaa
/-- The given statement. -/
theorem fnExactLessened_holds : Rows.FnExactLessenedSaid := AFnExactLessened.row PFnExactLessened.pure
#print axioms fnExactLessened_holds
end Go.Proofs.Ythgmgbccgokfeaa
