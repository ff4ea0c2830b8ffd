/- laws.FnExactFieldsRead returns true at every input, its argument as it was. No condition. -/
import Derived.Test.YthfflkfpmebbbaaExFnExactFieldsRead
import Derived.Test.YthfflkfpmebbbaaArgFnExactFieldsRead
set_option linter.unusedVariables false
set_option linter.unusedSimpArgs false
namespace Go.Proofs.Ythfflkfpmebbbaa.PFnExactFieldsRead
open Go.RowKit Go.Proofs.YthfflkfpmebbbaaA Go.Proofs.YthfflkfpmebbbaaL Go.Proofs.Ythfflkfpmebbbaa.AFnExactFieldsRead
theorem i64_of {x : Int} (h : OkN .i64 x) : -9223372036854775808 ≤ x ∧ x ≤ 9223372036854775807 := bounds_i64 h
theorem spec_l01In_of (x lo hi : Int) : spec_l01In.f x lo hi = some (decide (lo ≤ x ∧ x ≤ hi)) := by
  unfold spec_l01In.f
  rw [ite_some]; congr 1; rw [Bool.eq_iff_iff]
  by_cases h : x ≥ lo <;> simp [h] <;> omega
theorem impl_within_of (x lo hi : Int) : impl_within.f x lo hi = some (decide (lo ≤ x ∧ x ≤ hi)) := spec_l01In_of x lo hi
def insOk (x : S46) : Bool := decide ((1 ≤ x.f0 ∧ x.f0 ≤ 8) ∧ (0 ≤ x.f1 ∧ x.f1 ≤ 4294967295) ∧ (0 ≤ x.f2 ∧ x.f2 ≤ 15) ∧ (0 ≤ x.f3 ∧ x.f3 ≤ 15) ∧ ((3 ≤ x.f0 ∧ x.f0 ≤ 6) ∨ (x.f2 = 0 ∧ x.f3 = 0)) ∧ (x.f0 = 1 → x.f1 < 8) ∧ (x.f0 = 7 → x.f1 < 400))
theorem spec_InsOk_of (k : Nat) (x : S46) : spec_InsOk.f (k + 1) x.f0 x.f1 x.f2 x.f3 = some (insOk x) := by
  simp only [spec_InsOk.f, spec_InsOk.j0, spec_HalfOk.f, spec_l06Ask.f, spec_l01In_of, Option.bind_some, ite_some, decide_eq_true_eq]
  congr 1; rw [Bool.eq_iff_iff]; unfold insOk
  rw [decide_eq_true_eq]
  by_cases h1 : 1 ≤ x.f0 ∧ x.f0 ≤ 8
  · by_cases h2 : 0 ≤ x.f1 ∧ x.f1 ≤ 4294967295
    · by_cases h3 : 0 ≤ x.f2 ∧ x.f2 ≤ 15
      · by_cases h4 : 0 ≤ x.f3 ∧ x.f3 ≤ 15
        · by_cases h5 : 3 ≤ x.f0 ∧ x.f0 ≤ 6
          · have e1 : ¬ x.f0 = 1 := by omega
            have e7 : ¬ x.f0 = 7 := by omega
            simp [h1, h2, h3, h4, h5, e1, e7]
          · by_cases h6 : x.f2 = 0
            · by_cases h7 : x.f3 = 0
              · by_cases e1 : x.f0 = 1
                · simp [h2, h6, h7, e1]
                · by_cases e7 : x.f0 = 7
                  · simp [h2, h6, h7, e7]
                  · simp [h1, h2, h5, h6, h7, e1, e7]
              · simp [h1, h2, h3, h4, h5, h6, h7]
            · simp [h1, h2, h3, h4, h5, h6]
        · simp [h1, h2, h3, h4]
      · simp [h1, h2, h3]
    · simp [h1, h2]
  · simp [h1]
theorem spec_InsOk_ev (x : S46) : Ev (fun k => spec_InsOk.f k x.f0 x.f1 x.f2 x.f3) (insOk x) := ⟨1, fun k hk => by obtain ⟨m, rfl⟩ : ∃ m, k = m + 1 := ⟨k - 1, by omega⟩; exact spec_InsOk_of m x⟩
theorem impl_InsOk_of (x : S46) : impl_InsOk.f x.f0 x.f1 x.f2 x.f3 = some (insOk x) := by
  simp only [impl_InsOk.f, impl_HalfOk.f, impl_Ins_asks.f, impl_within_of, Option.bind_some, ite_some, decide_eq_true_eq]
  congr 1; rw [Bool.eq_iff_iff]; unfold insOk
  rw [decide_eq_true_eq]
  by_cases h5 : 3 ≤ x.f0 ∧ x.f0 ≤ 6
  · have e1 : ¬ x.f0 = 1 := by omega
    have e7 : ¬ x.f0 = 7 := by omega
    have e8 : 1 ≤ x.f0 ∧ x.f0 ≤ 8 := by omega
    by_cases h2 : 0 ≤ x.f1 ∧ x.f1 ≤ 4294967295
    · by_cases h3 : 0 ≤ x.f2 ∧ x.f2 ≤ 15
      · simp [h5, h2, h3, e1, e7, e8]
      · simp [h5, h2, h3]
    · simp [h5, h2]
  · by_cases h6 : x.f2 = 0
    · by_cases h7 : x.f3 = 0
      · by_cases e1 : x.f0 = 1
        · simp [h6, h7, e1]; omega
        · by_cases e7 : x.f0 = 7
          · simp [h6, h7, e7]; omega
          · by_cases e2 : x.f0 = 2
            · simp [h6, h7, e2]
            · by_cases e8 : x.f0 = 8
              · simp [h6, h7, e8]
              · have : ¬ (1 ≤ x.f0 ∧ x.f0 ≤ 8) := by omega
                simp [h5, h6, h7, e1, e2, e7, e8, this]
      · simp [h5, h6, h7]
    · simp [h5, h6]
theorem insOk_of {x : S46} (h : insOk x = true) : (1 ≤ x.f0 ∧ x.f0 ≤ 8) ∧ (0 ≤ x.f1 ∧ x.f1 ≤ 4294967295) ∧ (0 ≤ x.f2 ∧ x.f2 ≤ 15) ∧ (0 ≤ x.f3 ∧ x.f3 ≤ 15) ∧ ((3 ≤ x.f0 ∧ x.f0 ≤ 6) ∨ (x.f2 = 0 ∧ x.f3 = 0)) ∧ (x.f0 = 1 → x.f1 < 8) ∧ (x.f0 = 7 → x.f1 < 400) := of_decide_eq_true h
/-- How far a word goes. -/
def farI (x : S46) : Int := if 3 ≤ x.f0 ∧ x.f0 ≤ 6 then 1 + max x.f2 x.f3 else if x.f0 = 7 then 1 + x.f1 else if x.f0 = 8 then 0 else 1
def lastRet (l : List S46) : Bool := (l.getD (l.length - 1) z46).f0 == 8
def chkOne (n : Nat) (i : Nat) (x : S46) : Bool := insOk x && decide ((i : Int) + farI x < n)
def chk (l : List S46) : Bool := decide (1 ≤ l.length ∧ l.length ≤ 400) && (allI (chkOne l.length) 0 l && lastRet l)
theorem spec_CheckProgram_ev (l : List S46) (hn : l.length ≤ 1048576) : Ev (fun k => spec_CheckProgram.f k l) (chk l) := by
  unfold spec_CheckProgram.f chk
  rw [spec_l01In_of]
  refine Ev.bindc rfl ?_
  by_cases h : 1 ≤ l.length ∧ l.length ≤ 400
  · refine Ev.pos (by simp; omega) ?_
    rw [decide_eq_true h, Bool.true_and]
    refine allI_ev (fun k i => spec_CheckProgram.l0 k l i) l (chkOne l.length) (lastRet l) ?_ ?_ ?_
    · refine Ev.step (f := fun _ => some (lastRet l)) (fun k => ?_) (Ev.now _)
      simp only [spec_CheckProgram.l0]
      rw [if_neg (by omega), w64 (by omega) (by omega), if_pos (by omega), if_pos (by omega)]
      unfold lastRet rd_T46
      rw [show ((l.length : Int) - 1).toNat = l.length - 1 by omega]
    · intro i x hx hp
      have hi := lt_of hx
      unfold chkOne at hp
      have e := spec_InsOk_ev x
      refine Ev.step (f := fun k => (spec_InsOk.f k x.f0 x.f1 x.f2 x.f3).bind fun t => if t = true then (if x.f0 = 8 then spec_CheckProgram.l0 k l (wrap64 ((i : Int) + 1)) else (spec_l07Far.f x.f0 x.f1 x.f2 x.f3).bind fun u => if wrap64 (wrap64 ((i : Int) + 1) + u) ≥ (l.length : Int) then some false else spec_CheckProgram.l0 k l (wrap64 ((i : Int) + 1))) else some false) (fun k => ?_) ?_
      · simp only [spec_CheckProgram.l0]
        rw [if_pos (by omega), if_pos (by omega), rd46 hx]
      · refine Ev.bind e ?_
        cases hio : insOk x with
        | false => exact Ev.neg (by simp) (Ev.now _)
        | true =>
          rw [hio, Bool.true_and] at hp
          have hp' := of_decide_eq_false hp
          have hx5 := insOk_of hio
          refine Ev.pos rfl ?_
          have h8 : ¬ x.f0 = 8 := by
            intro h8
            unfold farI at hp'
            rw [if_neg (by omega), if_neg (by omega), if_pos h8] at hp'
            omega
          refine Ev.neg h8 ?_
          have hf : ∃ u, spec_l07Far.f x.f0 x.f1 x.f2 x.f3 = some u ∧ 1 + u = farI x ∧ 0 ≤ u ∧ u ≤ 4294967295 := by
            unfold spec_l07Far.f farI
            by_cases h7 : x.f0 = 7
            · rw [if_pos h7, if_neg (by omega), if_pos h7]; exact ⟨_, rfl, rfl, by omega, by omega⟩
            · rw [if_neg h7]
              by_cases ha : 3 ≤ x.f0 ∧ x.f0 ≤ 6
              · rw [if_pos ha]
                by_cases hg : x.f2 > x.f3
                · rw [if_pos hg]; exact ⟨_, rfl, by omega, by omega, by omega⟩
                · rw [if_neg hg]; exact ⟨_, rfl, by omega, by omega, by omega⟩
              · rw [if_neg ha, if_neg h7, if_neg h8]
                by_cases hg : x.f2 > x.f3
                · rw [if_pos hg]; exact ⟨_, rfl, by omega, by omega, by omega⟩
                · rw [if_neg hg]; exact ⟨_, rfl, by omega, by omega, by omega⟩
          obtain ⟨u, e1, e2, e3, e4⟩ := hf
          rw [e1]
          refine Ev.bindc rfl ?_
          rw [w64 (x := (i : Int) + 1) (by omega) (by omega), w64 (by omega) (by omega)]
          exact Ev.pos (by omega) (Ev.now _)
    · intro i x r hx hp hr
      have hi := lt_of hx
      unfold chkOne at hp
      rw [Bool.and_eq_true] at hp
      obtain ⟨hio, hp⟩ := hp
      have hp' := of_decide_eq_true hp
      have hx5 := insOk_of hio
      have e := spec_InsOk_ev x
      rw [hio] at e
      refine Ev.step (f := fun k => (spec_InsOk.f k x.f0 x.f1 x.f2 x.f3).bind fun t => if t = true then (if x.f0 = 8 then spec_CheckProgram.l0 k l ((i : Int) + 1) else (spec_l07Far.f x.f0 x.f1 x.f2 x.f3).bind fun u => if wrap64 (((i : Int) + 1) + u) ≥ (l.length : Int) then some false else spec_CheckProgram.l0 k l ((i : Int) + 1)) else some false) (fun k => ?_) ?_
      · simp only [spec_CheckProgram.l0]
        rw [if_pos (by omega), if_pos (by omega), rd46 hx, w64 (x := (i : Int) + 1) (by omega) (by omega)]
      · refine Ev.bind e (Ev.pos rfl ?_)
        by_cases h8 : x.f0 = 8
        · exact Ev.pos h8 hr
        · refine Ev.neg h8 ?_
          have hf : ∃ u, spec_l07Far.f x.f0 x.f1 x.f2 x.f3 = some u ∧ 1 + u = farI x ∧ 0 ≤ u ∧ u ≤ 4294967295 := by
            unfold spec_l07Far.f farI
            by_cases h7 : x.f0 = 7
            · rw [if_pos h7, if_neg (by omega), if_pos h7]; exact ⟨_, rfl, rfl, by omega, by omega⟩
            · rw [if_neg h7]
              by_cases ha : 3 ≤ x.f0 ∧ x.f0 ≤ 6
              · rw [if_pos ha]
                by_cases hg : x.f2 > x.f3
                · rw [if_pos hg]; exact ⟨_, rfl, by omega, by omega, by omega⟩
                · rw [if_neg hg]; exact ⟨_, rfl, by omega, by omega, by omega⟩
              · rw [if_neg ha, if_neg h7, if_neg h8]
                by_cases hg : x.f2 > x.f3
                · rw [if_pos hg]; exact ⟨_, rfl, by omega, by omega, by omega⟩
                · rw [if_neg hg]; exact ⟨_, rfl, by omega, by omega, by omega⟩
          obtain ⟨u, e1, e2, e3, e4⟩ := hf
          rw [e1]
          refine Ev.bindc rfl ?_
          rw [w64 (by omega) (by omega)]
          exact Ev.neg (by omega) hr
  · refine Ev.neg (by simp; omega) ?_
    rw [decide_eq_false h, Bool.false_and]; exact Ev.now _
def chkImpl (n : Nat) (i : Nat) (x : S46) : Bool := insOk x && decide ((i : Int) + (if 3 ≤ x.f0 ∧ x.f0 ≤ 6 then 1 + max x.f2 x.f3 else if x.f0 = 7 then 1 + x.f1 else 0) < n)
theorem impl_farthest_of (x : S46) (i n : Nat) (hn : n ≤ 400) (hi : i < n) (h : insOk x = true) : impl_farthest.f x.f0 x.f1 x.f2 x.f3 (i : Int) = some ((i : Int) + (if 3 ≤ x.f0 ∧ x.f0 ≤ 6 then 1 + max x.f2 x.f3 else if x.f0 = 7 then 1 + x.f1 else 0)) := by
  have hx5 := insOk_of h
  unfold impl_farthest.f impl_Ins_asks.f
  simp only [impl_within_of, Option.bind_some, decide_eq_true_eq]
  by_cases ha : 3 ≤ x.f0 ∧ x.f0 ≤ 6
  · rw [if_pos ha, if_pos ha, w64 (x := (i : Int) + 1) (by omega) (by omega), w64 (by omega) (by omega)]
    congr 1; omega
  · rw [if_neg ha, if_neg ha]
    by_cases h7 : x.f0 = 7
    · rw [if_pos h7, if_pos h7, w64 (x := (i : Int) + 1) (by omega) (by omega), w64 (by omega) (by omega)]
      congr 1; omega
    · rw [if_neg h7, if_neg h7]
      rw [Int.add_zero]
theorem impl_CheckProgram_ev (l : List S46) (hn : l.length ≤ 1048576) : Ev (fun k => impl_CheckProgram.f k l) (chk l) := by
  unfold impl_CheckProgram.f chk
  rw [impl_within_of]
  refine Ev.bindc rfl ?_
  by_cases h : 1 ≤ l.length ∧ l.length ≤ 400
  · refine Ev.pos (by simp; omega) ?_
    rw [decide_eq_true h, Bool.true_and, w64 (by omega) (by omega)]
    refine Ev.pos (by omega) (Ev.pos (by omega) ?_)
    rw [show rd_T46 l ((l.length : Int) - 1) = l.getD (l.length - 1) z46 by unfold rd_T46; rw [show ((l.length : Int) - 1).toNat = l.length - 1 by omega]]
    cases hr : lastRet l with
    | false =>
      unfold lastRet at hr
      rw [Bool.and_false]
      refine Ev.neg (by simpa using hr) (Ev.now _)
    | true =>
      have hr' := hr
      unfold lastRet at hr
      refine Ev.pos (by simpa using hr) ?_
      have hcongr : allI (chkOne l.length) 0 l = allI (chkImpl l.length) 0 l := by
        refine allI_congr l 0 fun j x hx => ?_
        have hj := lt_of hx
        unfold chkOne chkImpl
        cases hio : insOk x with
        | false => simp
        | true =>
          have hx5 := insOk_of hio
          simp only [Bool.true_and]
          rw [Bool.eq_iff_iff, decide_eq_true_eq, decide_eq_true_eq]
          unfold farI
          by_cases ha : 3 ≤ x.f0 ∧ x.f0 ≤ 6
          · rw [if_pos ha, if_pos ha]
          · rw [if_neg ha, if_neg ha]
            by_cases h7 : x.f0 = 7
            · rw [if_pos h7, if_pos h7]
            · rw [if_neg h7, if_neg h7]
              by_cases h8 : x.f0 = 8
              · rw [if_pos h8]
              · rw [if_neg h8]
                have : j ≠ l.length - 1 := by
                  intro e
                  apply h8
                  rw [← e, get_of l z46 hx] at hr
                  simpa using hr
                constructor <;> intro _ <;> omega
      rw [hcongr]
      refine allI_ev (fun k i => impl_CheckProgram.l0 k l i) l (chkImpl l.length) true ?_ ?_ ?_
      · refine Ev.step (f := fun _ => some true) (fun k => ?_) (Ev.now _)
        simp only [impl_CheckProgram.l0]; rw [if_neg (by omega)]
      · intro i x hx hp
        have hi := lt_of hx
        unfold chkImpl at hp
        refine Ev.step (fun _ => rfl) ?_
        simp only [impl_CheckProgram.l0]
        rw [rd46 hx]
        refine Ev.pos (by omega) (Ev.pos (by omega) (Ev.bindc (impl_InsOk_of x) ?_))
        cases hio : insOk x with
        | false => exact Ev.neg (by simp) (Ev.now _)
        | true =>
          rw [hio, Bool.true_and] at hp
          have hp' := of_decide_eq_false hp
          refine Ev.pos rfl (Ev.bindc (impl_farthest_of x i l.length (by omega) hi hio) ?_)
          exact Ev.pos (by omega) (Ev.now _)
      · intro i x r hx hp hr
        have hi := lt_of hx
        unfold chkImpl at hp
        rw [Bool.and_eq_true] at hp
        obtain ⟨hio, hp⟩ := hp
        have hp' := of_decide_eq_true hp
        refine Ev.step (fun _ => rfl) ?_
        simp only [impl_CheckProgram.l0]
        rw [rd46 hx, w64 (x := (i : Int) + 1) (by omega) (by omega)]
        refine Ev.pos (by omega) (Ev.pos (by omega) (Ev.bindc (impl_InsOk_of x) ?_))
        rw [hio]
        refine Ev.pos rfl (Ev.bindc (impl_farthest_of x i l.length (by omega) hi hio) ?_)
        exact Ev.neg (by omega) hr
  · refine Ev.neg (by simp; omega) ?_
    rw [decide_eq_false h, Bool.false_and]; exact Ev.now _
/-- What is known of a program that is looked over. -/
theorem chk_of {l : List S46} (h : chk l = true) : (1 ≤ l.length ∧ l.length ≤ 400) ∧ lastRet l = true ∧ ∀ (i : Nat) x, l[i]? = some x → insOk x = true ∧ (i : Int) + farI x < l.length := by
  unfold chk at h
  rw [Bool.and_eq_true, Bool.and_eq_true] at h
  refine ⟨of_decide_eq_true h.1, h.2.2, fun i x hx => ?_⟩
  have := allI_true l 0 h.2.1 i x hx
  unfold chkOne at this
  rw [Bool.and_eq_true] at this
  exact ⟨this.1, by have := of_decide_eq_true this.2; simpa using this⟩
/-- Where one may go from a word. -/
def nextV (x : S46) (i : Int) : List Int :=
  if x.f0 = 8 then [] else if x.f0 = 7 then [i + 1 + x.f1] else if 3 ≤ x.f0 ∧ x.f0 ≤ 6 then (if x.f2 = x.f3 then [i + 1 + x.f2] else [i + 1 + min x.f2 x.f3, i + 1 + max x.f2 x.f3]) else [i + 1]
theorem impl_ways_ev (i : Nat) (x : S46) (hi : i < 400) (hio : insOk x = true) : Ev (fun k => impl_ways.f k x.f0 x.f1 x.f2 x.f3 (i : Int)) (nextV x i) := by
  have hx5 := insOk_of hio
  refine ⟨1, fun k hk => ?_⟩
  obtain ⟨k, rfl⟩ : ∃ m, k = m + 1 := ⟨k - 1, by omega⟩
  unfold impl_ways.f nextV
  simp only [impl_ways.j0, impl_Ins_asks.f, impl_within_of, Option.bind_some, decide_eq_true_eq]
  rw [w64 (x := (i : Int) + 1) (by omega) (by omega)]
  by_cases h8 : x.f0 = 8
  · rw [if_pos h8, if_pos h8]
  · rw [if_neg h8, if_neg h8]
    by_cases h7 : x.f0 = 7
    · rw [if_pos h7, if_pos h7, w64 (by omega) (by omega)]
    · rw [if_neg h7, if_neg h7]
      by_cases ha : 3 ≤ x.f0 ∧ x.f0 ≤ 6
      · rw [if_pos ha, if_pos ha]
        by_cases he : x.f2 = x.f3
        · rw [if_neg (by simp [he]), if_pos ha, if_pos he, w64 (by omega) (by omega)]
        · rw [if_pos (by simp [he]), if_neg he, w64 (by omega) (by omega), w64 (by omega) (by omega)]
          (try rw [if_pos ha])
      · rw [if_neg ha, if_neg ha, if_neg (by simp), if_neg ha]
def mark (q : List Bool) (ks : List Int) : List Bool := ks.foldl (fun q k => q.set k.toNat true) q
theorem mark_length : ∀ (ks : List Int) (q : List Bool), (mark q ks).length = q.length
  | [], q => rfl
  | k :: ks, q => by show (mark (q.set k.toNat true) ks).length = _; rw [mark_length ks]; simp
def reachOne (x : S46) (i : Nat) (q : List Bool) : List Bool := if q.getD i false = true then mark q (nextV x (i : Int)) else q
theorem reachOne_length (x : S46) (i : Nat) (q : List Bool) : (reachOne x i q).length = q.length := by unfold reachOne; split; exact mark_length _ _; rfl
def reachF : List S46 → Nat → List Bool → List Bool
  | [], _, q => q
  | x :: r, i, q => reachF r (i + 1) (reachOne x i q)
theorem reachF_length : ∀ (l : List S46) (i : Nat) (q : List Bool), (reachF l i q).length = q.length
  | [], _, _ => rfl
  | x :: r, i, q => by show (reachF r (i + 1) (reachOne x i q)).length = _; rw [reachF_length r, reachOne_length]
def reachV (l : List S46) : List Bool := if chk l = true then reachF l 0 ((List.replicate l.length false).set 0 true) else []
theorem reachV_length (l : List S46) : (reachV l).length ≤ l.length := by
  unfold reachV
  split
  · rw [reachF_length]; simp
  · simp
theorem rdB {q : List Bool} {i : Nat} : rdOf false q (i : Int) = q.getD i false := by unfold rdOf; rw [Int.toNat_natCast]
theorem next_bound {x : S46} {i n : Nat} (hio : insOk x = true) (hf : (i : Int) + farI x < n) : ∀ k ∈ nextV x (i : Int), (i : Int) < k ∧ k < (n : Int) := by
  obtain ⟨hx0, hx1, hx2, hx3, -⟩ := insOk_of hio
  intro k hk
  unfold nextV at hk
  unfold farI at hf
  by_cases h8 : x.f0 = 8
  · rw [if_pos h8] at hk; simp at hk
  · rw [if_neg h8] at hk
    by_cases h7 : x.f0 = 7
    · rw [if_pos h7] at hk
      rw [if_neg (by omega), if_pos h7] at hf
      simp at hk; omega
    · rw [if_neg h7] at hk
      by_cases ha : 3 ≤ x.f0 ∧ x.f0 ≤ 6
      · rw [if_pos ha] at hk hf
        by_cases he : x.f2 = x.f3
        · rw [if_pos he] at hk; simp at hk; omega
        · rw [if_neg he] at hk
          simp only [List.mem_cons, List.not_mem_nil, or_false] at hk
          omega
      · rw [if_neg ha] at hk hf
        rw [if_neg h7, if_neg h8] at hf
        simp at hk; omega
theorem spec_reach_loop (l : List S46) (hl : chk l = true) : ∀ (d i : Nat) (q : List Bool), l.length - i = d → i ≤ l.length → q.length = l.length → Ev (fun k => spec_Reached.l0 k l q (i : Int)) (reachF (l.drop i) i q) := by
  obtain ⟨c1, _, c3⟩ := chk_of hl
  intro d
  induction d with
  | zero =>
    intro i q hd hi hq
    rw [List.drop_eq_nil_of_le (by omega)]
    refine Ev.step (fun _ => rfl) ?_
    simp only [spec_Reached.l0]; exact Ev.neg (by omega) (Ev.now _)
  | succ d ih =>
    intro i q hd hi hq
    have hx : l[i]? = some l[i] := List.getElem?_eq_getElem (by omega)
    rw [List.drop_eq_getElem_cons (by omega)]
    generalize l[i] = x at hx
    obtain ⟨hio, hf⟩ := c3 i x hx
    obtain ⟨hx0, hx1, hx2, hx3, -⟩ := insOk_of hio
    have hb := next_bound (n := l.length) hio hf
    have nx : ∀ q' : List Bool, q'.length = l.length → Ev (fun k => spec_Reached.l0 k l q' ((i : Int) + 1)) (reachF (l.drop (i + 1)) (i + 1) q') := fun q' h => by
      have := ih (i + 1) q' (by omega) (by omega) h
      simpa using this
    show Ev _ (reachF (l.drop (i + 1)) (i + 1) (reachOne x i q))
    refine Ev.step (fun _ => rfl) ?_
    simp only [spec_Reached.l0]
    rw [rd46 hx, w64 (x := (i : Int) + 1) (by omega) (by omega), rdB]
    refine Ev.pos (by omega) (Ev.pos (by omega) (Ev.pos (by omega) ?_))
    unfold reachOne
    by_cases hq1 : q.getD i false = true
    · rw [if_pos hq1]
      refine Ev.pos hq1 ?_
      by_cases h8 : x.f0 = 8
      · refine Ev.pos h8 ?_
        rw [show nextV x (i : Int) = [] by unfold nextV; rw [if_pos h8]]
        exact nx q hq
      · refine Ev.neg h8 ?_
        by_cases h7 : x.f0 = 7
        · have e : nextV x (i : Int) = [(i : Int) + 1 + x.f1] := by unfold nextV; rw [if_neg h8, if_pos h7]
          have hb1 := hb ((i : Int) + 1 + x.f1) (by rw [e]; simp)
          rw [e, w64 (x := (i : Int) + 1 + x.f1) (by omega) (by omega)]
          exact Ev.pos h7 (Ev.pos (by omega) (Ev.pos (by omega) (nx _ (by simp [hq]))))
        · have hfar : (i : Int) + 1 + x.f2 < l.length ∧ (i : Int) + 1 + x.f3 < l.length := by
            unfold farI at hf
            by_cases ha : 3 ≤ x.f0 ∧ x.f0 ≤ 6
            · rw [if_pos ha] at hf; omega
            · have h2 : x.f2 = 0 ∧ x.f3 = 0 := (insOk_of hio).2.2.2.2.1.resolve_left ha
              rw [if_neg ha, if_neg h7, if_neg h8] at hf; omega
          have e : mark q (nextV x (i : Int)) = (q.set ((i : Int) + 1 + x.f2).toNat true).set ((i : Int) + 1 + x.f3).toNat true := by
            unfold nextV
            rw [if_neg h8, if_neg h7]
            by_cases ha : 3 ≤ x.f0 ∧ x.f0 ≤ 6
            · rw [if_pos ha]
              by_cases he : x.f2 = x.f3
              · rw [if_pos he, he, List.set_set]; rfl
              · rw [if_neg he]
                by_cases hlt : x.f2 < x.f3
                · rw [Int.min_eq_left (by omega), Int.max_eq_right (by omega)]; rfl
                · rw [Int.min_eq_right (by omega), Int.max_eq_left (by omega), List.set_comm _ _ (by omega)]; rfl
            · rw [if_neg ha]
              have h2 : x.f2 = 0 ∧ x.f3 = 0 := (insOk_of hio).2.2.2.2.1.resolve_left ha
              rw [h2.1, h2.2, List.set_set, Int.add_zero]; rfl
          rw [e, w64 (x := (i : Int) + 1 + x.f2) (by omega) (by omega), w64 (x := (i : Int) + 1 + x.f3) (by omega) (by omega)]
          exact Ev.neg h7 (Ev.pos (by omega) (Ev.pos (by omega) (Ev.pos (by omega) (Ev.pos (by omega) (nx _ (by simp [hq]))))))
    · rw [if_neg hq1]
      exact Ev.neg hq1 (nx q hq)
theorem impl_mark_loop (l : List S46) (i : Nat) (ks : List Int) (hk : ∀ k ∈ ks, 0 ≤ k ∧ k < (l.length : Int)) (hl : l.length ≤ 400) (hi : i < l.length) (hks : ks.length ≤ 2) (r : List Bool) : ∀ (d j : Nat) (q : List Bool), ks.length - j = d → j ≤ ks.length → q.length = l.length →
    Ev (fun k => impl_Reached.l1 k l (mark q (ks.drop j)) ((i : Int) + 1)) r → Ev (fun k => impl_Reached.l0 k l (i : Int) ks q (j : Int)) r := by
  intro d
  induction d with
  | zero =>
    intro j q hd hj hq h
    rw [List.drop_eq_nil_of_le (by omega)] at h
    refine Ev.step (fun _ => rfl) ?_
    simp only [impl_Reached.l0]
    rw [w64 (x := (i : Int) + 1) (by omega) (by omega)]
    exact Ev.neg (by omega) h
  | succ d ih =>
    intro j q hd hj hq h
    have hx : ks[j]? = some ks[j] := List.getElem?_eq_getElem (by omega)
    rw [List.drop_eq_getElem_cons (by omega)] at h
    have hb := hk ks[j] (List.getElem_mem _)
    generalize ks[j] = y at hx h hb
    have e : rd ks (j : Int) = y := by unfold rd; exact get_of ks 0 hx
    refine Ev.step (fun _ => rfl) ?_
    simp only [impl_Reached.l0]
    rw [e, w64 (x := (j : Int) + 1) (by omega) (by omega)]
    have := ih (j + 1) (q.set y.toNat true) (by omega) (by omega) (by simp [hq]) h
    exact Ev.pos (by omega) (Ev.pos (by omega) (Ev.pos hb.1 (Ev.pos (by omega) (by simpa using this))))
theorem nextV_len (x : S46) (i : Int) : (nextV x i).length ≤ 2 := by
  unfold nextV
  repeat' split
  all_goals simp
theorem impl_reach_loop (l : List S46) (hl : chk l = true) : ∀ (d i : Nat) (q : List Bool), l.length - i = d → i ≤ l.length → q.length = l.length → Ev (fun k => impl_Reached.l1 k l q (i : Int)) (reachF (l.drop i) i q) := by
  obtain ⟨c1, _, c3⟩ := chk_of hl
  intro d
  induction d with
  | zero =>
    intro i q hd hi hq
    rw [List.drop_eq_nil_of_le (by omega)]
    refine Ev.step (fun _ => rfl) ?_
    simp only [impl_Reached.l1]; exact Ev.neg (by omega) (Ev.now _)
  | succ d ih =>
    intro i q hd hi hq
    have hx : l[i]? = some l[i] := List.getElem?_eq_getElem (by omega)
    rw [List.drop_eq_getElem_cons (by omega)]
    generalize l[i] = x at hx
    obtain ⟨hio, hf⟩ := c3 i x hx
    have hb := next_bound (n := l.length) hio hf
    have nx : ∀ q' : List Bool, q'.length = l.length → Ev (fun k => impl_Reached.l1 k l q' ((i : Int) + 1)) (reachF (l.drop (i + 1)) (i + 1) q') := fun q' h => by
      have := ih (i + 1) q' (by omega) (by omega) h
      simpa using this
    show Ev _ (reachF (l.drop (i + 1)) (i + 1) (reachOne x i q))
    refine Ev.step (fun _ => rfl) ?_
    simp only [impl_Reached.l1]
    rw [rd46 hx, w64 (x := (i : Int) + 1) (by omega) (by omega), rdB]
    refine Ev.pos (by omega) (Ev.pos (by omega) (Ev.pos (by omega) ?_))
    unfold reachOne
    by_cases hq1 : q.getD i false = true
    · rw [if_pos hq1]
      refine Ev.pos hq1 (Ev.bind (impl_ways_ev i x (by omega) hio) ?_)
      refine impl_mark_loop l i (nextV x i) (fun k hk => by have := hb k hk; omega) c1.2 (by omega) (nextV_len _ _) _ _ 0 q rfl (Nat.zero_le _) hq ?_
      rw [List.drop_zero]
      exact nx _ (by rw [mark_length]; exact hq)
    · rw [if_neg hq1]
      exact Ev.neg hq1 (nx q hq)
theorem spec_Reached_ev (l : List S46) (hn : l.length ≤ 1048576) : Ev (fun k => spec_Reached.f k l) (reachV l) := by
  unfold spec_Reached.f reachV
  refine Ev.bind (spec_CheckProgram_ev l hn) ?_
  cases h : chk l with
  | false => rw [if_neg (by simp)]; exact Ev.neg (by simp) (Ev.now _)
  | true =>
    obtain ⟨c1, _, _⟩ := chk_of h
    rw [if_pos rfl, Int.toNat_natCast]
    have := spec_reach_loop l h _ 0 ((List.replicate l.length false).set 0 true) rfl (Nat.zero_le _) (by simp)
    exact Ev.pos rfl (Ev.pos (by omega) (Ev.pos (by omega) (Ev.pos (by simp; omega) (by simpa using this))))
theorem impl_Reached_ev (l : List S46) (hn : l.length ≤ 1048576) : Ev (fun k => impl_Reached.f k l) (reachV l) := by
  unfold impl_Reached.f reachV
  refine Ev.bind (impl_CheckProgram_ev l hn) ?_
  cases h : chk l with
  | false => rw [if_neg (by simp)]; exact Ev.neg (by simp) (Ev.now _)
  | true =>
    obtain ⟨c1, _, _⟩ := chk_of h
    rw [if_pos rfl, Int.toNat_natCast]
    have := impl_reach_loop l h _ 0 ((List.replicate l.length false).set 0 true) rfl (Nat.zero_le _) (by simp)
    exact Ev.pos rfl (Ev.pos (by omega) (Ev.pos (by omega) (Ev.pos (by simp; omega) (by simpa using this))))
/-! Numbers in their order, each once. -/
def insV (n : Int) : List Int → List Int
  | [] => [n]
  | x :: r => if n < x then n :: x :: r else x :: insV n r
theorem insV_mem (n : Int) : ∀ (l : List Int) (y : Int), y ∈ insV n l ↔ y = n ∨ y ∈ l
  | [], y => by simp [insV]
  | x :: r, y => by
    unfold insV
    split
    · simp
    · rw [List.mem_cons, insV_mem n r, List.mem_cons]
      constructor
      · rintro (h | h | h)
        · exact .inr (.inl h)
        · exact .inl h
        · exact .inr (.inr h)
      · rintro (h | h | h)
        · exact .inr (.inl h)
        · exact .inl h
        · exact .inr (.inr h)
theorem insV_length (n : Int) : ∀ l : List Int, (insV n l).length = l.length + 1
  | [] => rfl
  | x :: r => by
    unfold insV
    split
    · rfl
    · simp [insV_length n r]
theorem insV_sorted (n : Int) : ∀ (l : List Int), l.Pairwise (· < ·) → n ∉ l → (insV n l).Pairwise (· < ·)
  | [], _, _ => by simp [insV]
  | x :: r, h, hn => by
    rw [List.pairwise_cons] at h
    unfold insV
    split
    · next hlt =>
      rw [List.pairwise_cons, List.pairwise_cons]
      exact ⟨fun y hy => by rcases List.mem_cons.1 hy with rfl | hy; exact hlt; have := h.1 y hy; omega, h⟩
    · next hge =>
      rw [List.pairwise_cons]
      refine ⟨fun y hy => ?_, insV_sorted n r h.2 (fun hm => hn (List.mem_cons_of_mem _ hm))⟩
      rcases (insV_mem n r y).1 hy with rfl | hy
      · have : y ≠ x := fun e => hn (by rw [e]; exact List.mem_cons_self)
        omega
      · exact h.1 y hy
def putOne (out : List Int) (n : Int) : List Int := if n ∈ out then out else insV n out
theorem sorted_eq : ∀ (a b : List Int), a.Pairwise (· < ·) → b.Pairwise (· < ·) → (∀ x, x ∈ a ↔ x ∈ b) → a = b
  | [], [], _, _, _ => rfl
  | [], y :: b, _, _, h => by have := (h y).2 List.mem_cons_self; simp at this
  | x :: a, [], _, _, h => by have := (h x).1 List.mem_cons_self; simp at this
  | x :: a, y :: b, ha, hb, h => by
    rw [List.pairwise_cons] at ha hb
    have hxy : x = y := by
      have h1 := (h x).1 List.mem_cons_self
      have h2 := (h y).2 List.mem_cons_self
      rcases List.mem_cons.1 h1 with h1 | h1
      · exact h1
      · rcases List.mem_cons.1 h2 with h2 | h2
        · exact h2.symm
        · have := hb.1 x h1; have := ha.1 y h2; omega
    subst hxy
    refine congrArg _ (sorted_eq a b ha.2 hb.2 fun z => ?_)
    constructor
    · intro hz
      have := ha.1 z hz
      rcases List.mem_cons.1 ((h z).1 (List.mem_cons_of_mem _ hz)) with rfl | hz'
      · omega
      · exact hz'
    · intro hz
      have := hb.1 z hz
      rcases List.mem_cons.1 ((h z).2 (List.mem_cons_of_mem _ hz)) with rfl | hz'
      · omega
      · exact hz'
theorem fold_put : ∀ (ks out : List Int), out.Pairwise (· < ·) → (ks.foldl putOne out).Pairwise (· < ·) ∧ ∀ x, x ∈ ks.foldl putOne out ↔ x ∈ ks ∨ x ∈ out
  | [], out, h => ⟨h, fun x => by simp⟩
  | k :: ks, out, h => by
    have h1 : (putOne out k).Pairwise (· < ·) ∧ ∀ x, x ∈ putOne out k ↔ x = k ∨ x ∈ out := by
      unfold putOne
      split
      · next hk => exact ⟨h, fun x => ⟨.inr, fun hx => by rcases hx with rfl | hx; exact hk; exact hx⟩⟩
      · next hk => exact ⟨insV_sorted k out h hk, insV_mem k out⟩
    obtain ⟨h2, h3⟩ := fold_put ks (putOne out k) h1.1
    refine ⟨h2, fun x => ?_⟩
    show x ∈ ks.foldl putOne (putOne out k) ↔ _
    rw [h3, h1.2, List.mem_cons]
    constructor
    · rintro (h | h | h)
      · exact .inl (.inr h)
      · exact .inl (.inl h)
      · exact .inr h
    · rintro ((h | h) | h)
      · exact .inr (.inl h)
      · exact .inl h
      · exact .inr (.inr h)
theorem compact_sorted (l : List Int) (h : l.Pairwise (· ≤ ·)) : (Go.Lib.compact l).Pairwise (· < ·) ∧ ∀ x, x ∈ Go.Lib.compact l ↔ x ∈ l := by
  have get : ∀ j, (hj : j < l.length) → l.toArray[j]! = l[j] := fun j hj => by simp [hj]
  have key : ∀ m, m ≤ l.length → (Go.Lib.compactUpTo l.toArray m).Pairwise (· < ·) ∧ ∀ x, x ∈ Go.Lib.compactUpTo l.toArray m ↔ ∃ j, ∃ hj : j < l.length, j < m ∧ l[j] = x := by
    intro m
    induction m with
    | zero => intro _; exact ⟨by simp [Go.Lib.compactUpTo], fun x => by simp [Go.Lib.compactUpTo]⟩
    | succ m ih =>
      intro hm
      obtain ⟨h1, h2⟩ := ih (by omega)
      have hml : m < l.length := by omega
      rw [Go.Lib.compactUpTo_succ, get m hml]
      have hk : Go.Lib.keeps l.toArray m = decide (m = 0 ∨ l[m] ≠ l.toArray[m - 1]!) := by unfold Go.Lib.keeps; rw [get m hml]
      by_cases hc : m = 0 ∨ l[m] ≠ l.toArray[m - 1]!
      · rw [hk, decide_eq_true hc, if_pos rfl]
        constructor
        · rw [List.pairwise_append]
          refine ⟨h1, List.pairwise_singleton _ _, fun x hx y hy => ?_⟩
          rw [List.mem_singleton] at hy
          subst hy
          obtain ⟨j, hj, hjm, rfl⟩ := (h2 x).1 hx
          rcases hc with hc | hc
          · omega
          · rw [get (m - 1) (by omega)] at hc
            have e1 : l[m - 1] ≤ l[m] := List.pairwise_iff_getElem.1 h (m - 1) m (by omega) hml (by omega)
            have e2 : l[j] ≤ l[m - 1] := by
              by_cases hjm' : j = m - 1
              · subst hjm'; exact Int.le_refl _
              · exact List.pairwise_iff_getElem.1 h j (m - 1) hj (by omega) (by omega)
            omega
        · intro x
          rw [List.mem_append, h2, List.mem_singleton]
          constructor
          · rintro (⟨j, hj, hjm, e⟩ | rfl)
            · exact ⟨j, hj, by omega, e⟩
            · exact ⟨m, hml, by omega, rfl⟩
          · rintro ⟨j, hj, hjm, e⟩
            by_cases hjm' : j = m
            · subst hjm'; exact .inr e.symm
            · exact .inl ⟨j, hj, by omega, e⟩
      · rw [hk, decide_eq_false hc, if_neg (by simp), List.append_nil]
        refine ⟨h1, fun x => ?_⟩
        rw [h2]
        have hc1 : m ≠ 0 := fun e => hc (.inl e)
        have hc2 : l[m] = l[m - 1] := by
          have h3 : l[m] = l.toArray[m - 1]! := Classical.byContradiction fun e => hc (.inr e)
          rw [get (m - 1) (by omega)] at h3
          exact h3
        constructor
        · rintro ⟨j, hj, hjm, e⟩; exact ⟨j, hj, by omega, e⟩
        · rintro ⟨j, hj, hjm, e⟩
          by_cases hjm' : j = m
          · subst hjm'; exact ⟨j - 1, by omega, by omega, by rw [← hc2]; exact e⟩
          · exact ⟨j, hj, by omega, e⟩
  obtain ⟨h1, h2⟩ := key l.length (Nat.le_refl _)
  refine ⟨h1, fun x => (h2 x).trans ?_⟩
  constructor
  · rintro ⟨j, hj, _, rfl⟩; exact List.getElem_mem _
  · intro hx
    obtain ⟨j, hj, rfl⟩ := List.getElem_of_mem hx
    exact ⟨j, hj, hj, rfl⟩
theorem sort_compact (ks : List Int) : Go.Lib.compact (ks.mergeSort fun x y => decide (x ≤ y)) = ks.foldl putOne [] := by
  have hs : (ks.mergeSort fun x y => decide (x ≤ y)).Pairwise (· ≤ ·) := by
    have := List.pairwise_mergeSort (le := fun x y : Int => decide (x ≤ y)) (fun a b c h1 h2 => by simp at h1 h2 ⊢; omega) (fun a b => by simp; omega) ks
    exact this.imp (fun h => by simpa using h)
  obtain ⟨h1, h2⟩ := compact_sorted _ hs
  obtain ⟨h3, h4⟩ := fold_put ks [] List.Pairwise.nil
  refine sorted_eq _ _ h1 h3 fun x => ?_
  rw [h2, h4, List.mem_mergeSort]
  simp
/-- The numbers of words of a kind that are reached. -/
def numsF (op : Int) : List S46 → List Bool → List Int
  | x :: r, b :: q => if b = true ∧ x.f0 = op then x.f1 :: numsF op r q else numsF op r q
  | _, _ => []
theorem numsF_length (op : Int) : ∀ (l : List S46) (q : List Bool), (numsF op l q).length ≤ l.length
  | [], _ => by simp [numsF]
  | x :: r, [] => by simp [numsF]
  | x :: r, b :: q => by
    unfold numsF
    have := numsF_length op r q
    split <;> simp <;> omega
theorem fold_put_length : ∀ (ks out : List Int), (ks.foldl putOne out).length ≤ out.length + ks.length
  | [], out => by simp
  | k :: ks, out => by
    show (ks.foldl putOne (putOne out k)).length ≤ _
    have h1 := fold_put_length ks (putOne out k)
    have h2 : (putOne out k).length ≤ out.length + 1 := by unfold putOne; split; omega; rw [insV_length]; omega
    simp only [List.length_cons]; omega
theorem spec_l09In_ev (l : List Int) (n : Int) (hl : l.length ≤ 1048576) : Ev (fun k => spec_l09In.f k l n) (decide (n ∈ l)) := by
  unfold spec_l09In.f
  have key : ∀ (d i : Nat), l.length - i = d → i ≤ l.length → Ev (fun k => spec_l09In.l0 k l n (i : Int)) (decide (n ∈ l.drop i)) := by
    intro d
    induction d with
    | zero =>
      intro i hd hi
      rw [List.drop_eq_nil_of_le (by omega)]
      refine Ev.step (fun _ => rfl) ?_
      simp only [spec_l09In.l0]; exact Ev.neg (by omega) (Ev.some_ (by simp))
    | succ d ih =>
      intro i hd hi
      have hx : l[i]? = some l[i] := List.getElem?_eq_getElem (by omega)
      rw [List.drop_eq_getElem_cons (by omega)]
      generalize l[i] = x at hx
      have e : rd l (i : Int) = x := by unfold rd; exact get_of l 0 hx
      refine Ev.step (fun _ => rfl) ?_
      simp only [spec_l09In.l0]
      rw [e, w64 (x := (i : Int) + 1) (by omega) (by omega)]
      refine Ev.pos (by omega) (Ev.pos (by omega) ?_)
      by_cases h : x = n
      · exact Ev.pos h (Ev.some_ (by simp [h]))
      · refine Ev.neg h ?_
        have := ih (i + 1) (by omega) (by omega)
        have h2 : decide (n ∈ x :: l.drop (i + 1)) = decide (n ∈ l.drop (i + 1)) := by
          have : (n ∈ x :: l.drop (i + 1)) ↔ n ∈ l.drop (i + 1) := by rw [List.mem_cons]; exact ⟨fun h' => by rcases h' with h' | h'; exact absurd h'.symm h; exact h', .inr⟩
          simp only [this]
        rw [h2]
        simpa using this
  have := key l.length 0 rfl (Nat.zero_le _)
  simpa using this
theorem spec_l23Put_ev (l : List Int) (n : Int) (hl : l.length ≤ 1048576) : Ev (fun k => spec_l23Put.f k l n) (insV n l) := by
  unfold spec_l23Put.f
  have key : ∀ (d i : Nat) (out : List Int), l.length - i = d → i ≤ l.length → out.length ≤ i + 1 → Ev (fun k => spec_l23Put.l0 k l n out true (i : Int)) (out ++ l.drop i) ∧ (out.length ≤ i → Ev (fun k => spec_l23Put.l0 k l n out false (i : Int)) (out ++ insV n (l.drop i))) := by
    intro d
    induction d with
    | zero =>
      intro i out hd hi ho
      rw [List.drop_eq_nil_of_le (by omega)]
      refine ⟨Ev.step (fun _ => rfl) ?_, fun ho' => Ev.step (fun _ => rfl) ?_⟩
      · simp only [spec_l23Put.l0]; exact Ev.neg (by omega) (Ev.pos (by first | trivial | rfl) (Ev.some_ (by simp)))
      · simp only [spec_l23Put.l0]; exact Ev.neg (by omega) (Ev.neg (by simp) (Ev.pos (by simp; omega) (Ev.now _)))
    | succ d ih =>
      intro i out hd hi ho
      have hx : l[i]? = some l[i] := List.getElem?_eq_getElem (by omega)
      rw [List.drop_eq_getElem_cons (by omega)]
      generalize l[i] = x at hx
      have e : rd l (i : Int) = x := by unfold rd; exact get_of l 0 hx
      have j : ∀ (o : List Int) (b : Bool) r, o.length ≤ i + 1 → Ev (fun k => spec_l23Put.l0 k l n (o ++ [x]) b ((i + 1 : Nat) : Int)) r → Ev (fun k => spec_l23Put.j0 k l n (i : Int) o b) r := fun o b r ho h => by
        refine Ev.step (fun _ => rfl) ?_
        simp only [spec_l23Put.j0]; rw [e, w64 (x := (i : Int) + 1) (by omega) (by omega)]
        exact Ev.pos (by omega) (Ev.pos (by simp; omega) h)
      refine ⟨Ev.step (fun _ => rfl) ?_, fun ho' => Ev.step (fun _ => rfl) ?_⟩
      · simp only [spec_l23Put.l0]
        have := (ih (i + 1) (out ++ [x]) (by omega) (by omega) (by simp; omega)).1
        exact Ev.pos (by omega) (Ev.pos (by first | trivial | rfl) (j out true _ ho (by simpa using this)))
      · simp only [spec_l23Put.l0]
        rw [e]
        refine Ev.pos (by omega) (Ev.neg (by simp) (Ev.pos (by omega) ?_))
        unfold insV
        by_cases hlt : n < x
        · rw [if_pos hlt]
          have := (ih (i + 1) (out ++ [n] ++ [x]) (by omega) (by omega) (by simp; omega)).1
          exact Ev.pos hlt (Ev.pos (by simp; omega) (j _ _ _ (by simp; omega) (by simpa using this)))
        · rw [if_neg hlt]
          have := (ih (i + 1) (out ++ [x]) (by omega) (by omega) (by simp; omega)).2 (by simp; omega)
          exact Ev.neg hlt (j _ _ _ (by omega) (by simpa using this))
  have := (key l.length 0 [] rfl (Nat.zero_le _) (by simp)).2 (by simp)
  simpa using this
theorem spec_said_loop (l : List S46) (op : Int) (R : List Bool) (hl : l.length ≤ 1048576) (hR : R.length ≤ l.length) : ∀ (d i : Nat) (out : List Int), R.length - i = d → i ≤ R.length → out.length ≤ i → Ev (fun k => spec_l23Said.l0 k l op R out (i : Int)) ((numsF op (l.drop i) (R.drop i)).foldl putOne out) := by
  intro d
  induction d with
  | zero =>
    intro i out hd hi ho
    rw [show R.drop i = [] from List.drop_eq_nil_of_le (by omega)]
    refine Ev.step (fun _ => rfl) ?_
    simp only [spec_l23Said.l0]
    refine Ev.neg (by omega) (Ev.some_ ?_)
    cases l.drop i <;> rfl
  | succ d ih =>
    intro i out hd hi ho
    have hx : l[i]? = some l[i] := List.getElem?_eq_getElem (by omega)
    have hb : R[i]? = some R[i] := List.getElem?_eq_getElem (by omega)
    rw [List.drop_eq_getElem_cons (l := R) (by omega), List.drop_eq_getElem_cons (l := l) (by omega)]
    generalize l[i] = x at hx
    generalize R[i] = b at hb
    have e : rdOf false R (i : Int) = b := by rw [rdB]; exact get_of R false hb
    refine Ev.step (fun _ => rfl) ?_
    simp only [spec_l23Said.l0]
    rw [rd46 hx, e, w64 (x := (i : Int) + 1) (by omega) (by omega), show (i : Int) + 1 = ((i + 1 : Nat) : Int) from rfl]
    refine Ev.pos (by omega) (Ev.pos (by omega) ?_)
    unfold numsF
    have nx := ih (i + 1) out (by omega) (by omega) (by omega)
    by_cases hbt : b = true
    · refine Ev.pos hbt (Ev.pos (by omega) ?_)
      by_cases hop : x.f0 = op
      · rw [if_pos ⟨hbt, hop⟩, List.foldl_cons]
        refine Ev.pos hop (Ev.bind (spec_l09In_ev out x.f1 (by omega)) ?_)
        unfold putOne
        by_cases hm : x.f1 ∈ out
        · rw [if_pos hm]
          exact Ev.pos (decide_eq_true hm) nx
        · rw [if_neg hm]
          exact Ev.neg (by simp [hm]) (Ev.bind (spec_l23Put_ev out x.f1 (by omega)) (ih (i + 1) _ (by omega) (by omega) (by rw [insV_length]; omega)))
      · rw [if_neg (fun h => hop h.2)]
        exact Ev.neg hop nx
    · rw [if_neg (fun h => hbt h.1)]
      exact Ev.neg hbt nx
theorem impl_nums_loop (l : List S46) (op : Int) (R : List Bool) (hl : l.length ≤ 1048576) (hR : R.length ≤ l.length) : ∀ (d i : Nat) (out : List Int), R.length - i = d → i ≤ R.length → out.length ≤ i → Ev (fun k => impl_numbersIn.l0 k l op R out (i : Int)) (Go.Lib.compact ((out ++ numsF op (l.drop i) (R.drop i)).mergeSort fun x y => decide (x ≤ y))) := by
  intro d
  induction d with
  | zero =>
    intro i out hd hi ho
    rw [show R.drop i = [] from List.drop_eq_nil_of_le (by omega)]
    refine Ev.step (fun _ => rfl) ?_
    simp only [impl_numbersIn.l0]
    rw [show out ++ numsF op (l.drop i) [] = out by cases l.drop i <;> simp [numsF]]
    refine Ev.neg (by omega) (Ev.bindc (x := out.mergeSort fun x y => decide (x ≤ y)) ?_ (Ev.bindc (x := Go.Lib.compact (out.mergeSort fun x y => decide (x ≤ y))) ?_ (Ev.now _)))
    · unfold slices_Sort_int_int.f; rw [if_pos (by omega)]
    · unfold slices_Compact_int_int.f; rw [if_pos (by rw [List.length_mergeSort]; omega)]
  | succ d ih =>
    intro i out hd hi ho
    have hx : l[i]? = some l[i] := List.getElem?_eq_getElem (by omega)
    have hb : R[i]? = some R[i] := List.getElem?_eq_getElem (by omega)
    rw [List.drop_eq_getElem_cons (l := R) (by omega), List.drop_eq_getElem_cons (l := l) (by omega)]
    generalize l[i] = x at hx
    generalize R[i] = b at hb
    have e : rdOf false R (i : Int) = b := by rw [rdB]; exact get_of R false hb
    refine Ev.step (fun _ => rfl) ?_
    simp only [impl_numbersIn.l0]
    rw [rd46 hx, e, w64 (x := (i : Int) + 1) (by omega) (by omega), show (i : Int) + 1 = ((i + 1 : Nat) : Int) from rfl]
    refine Ev.pos (by omega) (Ev.pos (by omega) ?_)
    unfold numsF
    have nx := ih (i + 1) out (by omega) (by omega) (by omega)
    by_cases hbt : b = true
    · refine Ev.pos hbt (Ev.pos (by omega) ?_)
      by_cases hop : x.f0 = op
      · rw [if_pos ⟨hbt, hop⟩]
        have := ih (i + 1) (out ++ [x.f1]) (by omega) (by omega) (by simp; omega)
        rw [List.append_assoc, List.singleton_append] at this
        exact Ev.pos hop (Ev.pos (by simp; omega) this)
      · rw [if_neg (fun h => hop h.2)]
        exact Ev.neg hop nx
    · rw [if_neg (fun h => hbt h.1)]
      exact Ev.neg hbt nx
/-- What ResultsIn and FieldsRead tell. -/
def saidV (l : List S46) (op : Int) : List Int := (numsF op l (reachV l)).foldl putOne []
theorem saidV_length (l : List S46) (op : Int) : (saidV l op).length ≤ l.length := by
  unfold saidV
  have h1 := fold_put_length (numsF op l (reachV l)) []
  have h2 := numsF_length op l (reachV l)
  simp at h1; omega
theorem spec_l23Said_ev (l : List S46) (op : Int) (hn : l.length ≤ 1048576) : Ev (fun k => spec_l23Said.f k l op) (saidV l op) := by
  unfold spec_l23Said.f
  refine Ev.bind (spec_Reached_ev l hn) ?_
  have := spec_said_loop l op (reachV l) hn (reachV_length l) _ 0 [] rfl (Nat.zero_le _) (by simp)
  simpa [saidV] using this
theorem impl_numbersIn_ev (l : List S46) (op : Int) (hn : l.length ≤ 1048576) : Ev (fun k => impl_numbersIn.f k l op) (saidV l op) := by
  unfold impl_numbersIn.f
  refine Ev.bind (impl_Reached_ev l hn) ?_
  have := impl_nums_loop l op (reachV l) hn (reachV_length l) _ 0 [] rfl (Nat.zero_le _) (by simp)
  rw [List.nil_append, List.drop_zero, List.drop_zero, sort_compact] at this
  simpa [saidV] using this
theorem spec_FieldsRead_ev (l : List S46) (hn : l.length ≤ 1048576) : Ev (fun k => spec_FieldsRead.f k l) (saidV l 1) := by
  unfold spec_FieldsRead.f
  exact Ev.bind (spec_l23Said_ev l 1 hn) (Ev.now _)
theorem impl_FieldsRead_ev (l : List S46) (hn : l.length ≤ 1048576) : Ev (fun k => impl_FieldsRead.f k l) (saidV l 1) := by
  unfold impl_FieldsRead.f
  exact Ev.bind (impl_numbersIn_ev l 1 hn) (Ev.now _)
theorem pure : Pure := by
  intro l0 hl
  refine Ev.rounds ?_
  unfold laws_FnExactFieldsRead.f
  obtain ⟨v, hv, h⟩ := szInsS_of l0 1048576 hl.1 (by omega) (by omega)
  refine Ev.bindc hv ?_
  rcases h with h | ⟨h0, h1, h2⟩
  · exact Ev.pos h (Ev.now _)
  have e1 := toInsS_ev l0 h2
  have hm : (l0.map cvS58_S46).length ≤ 1048576 := by simpa using h2
  generalize l0.map cvS58_S46 = xs at e1 hm
  have e2 := spec_FieldsRead_ev xs hm
  have e3 := impl_FieldsRead_ev xs hm
  have hn := saidV_length xs 1
  generalize saidV xs 1 = g at e2 e3 hn
  have e4 := eqInsS_ev xs (by omega)
  have e5 := eqIntS_ev g (by omega)
  have hc : mcount ctS46 xs ≤ 4194304 := by rw [mcount_const ctS46 4 (fun _ => rfl)]; omega
  have hd : mcount ctInt g ≤ 12000000 := by rw [mcount_const ctInt 1 (fun _ => rfl)]; omega
  have e6 := markInsS_ev xs 1 (by omega) (by omega) (by omega)
  have e7 := markIntS_ev g 1 (by omega) (by omega) (by omega)
  have e8 := heldIntS_ev g 1 (by omega) (by omega) (by omega)
  repeat (first
    | (with_reducible refine Ev.bind e1 ?_; try dsimp only)
    | (with_reducible refine Ev.bind e2 ?_; try dsimp only)
    | (with_reducible refine Ev.bind e3 ?_; try dsimp only)
    | (with_reducible refine Ev.bind e4 ?_; try dsimp only)
    | (with_reducible refine Ev.bind e5 ?_; try dsimp only)
    | (with_reducible refine Ev.bind e6 ?_; try dsimp only)
    | (with_reducible refine Ev.bind e7 ?_; try dsimp only)
    | (with_reducible refine Ev.bind e8 ?_; try dsimp only)
    | (refine Ev.neg (by omega) ?_)
    | (refine Ev.pos (by first | rfl | omega) ?_)
    | (refine Ev.neg (by simp) ?_)
    | exact Ev.now _)
end Go.Proofs.Ythfflkfpmebbbaa.PFnExactFieldsRead
namespace Go.Proofs.Ythfflkfpmebbbaa
/-- The given statement. -/
theorem fnExactFieldsRead_holds : Rows.FnExactFieldsReadSaid := AFnExactFieldsRead.row PFnExactFieldsRead.pure
#print axioms fnExactFieldsRead_holds
end Go.Proofs.Ythfflkfpmebbbaa
