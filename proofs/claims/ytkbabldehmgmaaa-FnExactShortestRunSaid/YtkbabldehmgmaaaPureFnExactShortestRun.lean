/- laws.FnExactShortestRun returns true at every input, its argument as it was. No condition. -/
import Derived.Test.YtkbabldehmgmaaaExFnExactShortestRun
import Derived.Test.YtkbabldehmgmaaaArgFnExactShortestRun
set_option linter.unusedVariables false
set_option linter.unusedSimpArgs false
namespace Go.Proofs.Ytkbabldehmgmaaa.PFnExactShortestRun
open Go.RowKit Go.Proofs.YtkbabldehmgmaaaW.PrintWords Go.Proofs.YtkbabldehmgmaaaW.PrintLast Go.Proofs.YtkbabldehmgmaaaL Go.Proofs.YtkbabldehmgmaaaO Go.Proofs.Ytkbabldehmgmaaa.AFnExactShortestRun
theorem i64_of {x : Int} (h : OkN .i64 x) : -9223372036854775808 ≤ x ∧ x ≤ 9223372036854775807 := bounds_i64 h
theorem spec_l01In_of (x lo hi : Int) : spec_l01In.f x lo hi = some (decide (lo ≤ x ∧ x ≤ hi)) := by
  unfold spec_l01In.f
  rw [ite_some]; congr 1; rw [Bool.eq_iff_iff]
  by_cases h : x ≥ lo <;> simp [h] <;> omega
theorem impl_within_of (x lo hi : Int) : impl_within.f x lo hi = some (decide (lo ≤ x ∧ x ≤ hi)) := spec_l01In_of x lo hi
def insOk (x : S143) : Bool := decide ((1 ≤ x.f0 ∧ x.f0 ≤ 8) ∧ (0 ≤ x.f1 ∧ x.f1 ≤ 4294967295) ∧ (0 ≤ x.f2 ∧ x.f2 ≤ 15) ∧ (0 ≤ x.f3 ∧ x.f3 ≤ 15) ∧ ((3 ≤ x.f0 ∧ x.f0 ≤ 6) ∨ (x.f2 = 0 ∧ x.f3 = 0)) ∧ (x.f0 = 1 → x.f1 < 8) ∧ (x.f0 = 7 → x.f1 < 400))
theorem spec_InsOk_of (k : Nat) (x : S143) : spec_InsOk.f (k + 2) x.f0 x.f1 x.f2 x.f3 = some (insOk x) := by
  simp only [spec_InsOk.f, spec_InsOk.j0, spec_InsOk.j1, spec_HalfOk.f, spec_l06Ask.f, spec_l01In_of, Option.bind_some, ite_some, decide_eq_true_eq]
  congr 1; rw [Bool.eq_iff_iff]; unfold insOk
  rw [decide_eq_true_eq]
  by_cases h1 : 1 ≤ x.f0 ∧ x.f0 ≤ 8
  · by_cases h2 : 0 ≤ x.f1 ∧ x.f1 ≤ 4294967295
    · by_cases h3 : 0 ≤ x.f2 ∧ x.f2 ≤ 15
      · by_cases h4 : 0 ≤ x.f3 ∧ x.f3 ≤ 15
        · by_cases h5 : 3 ≤ x.f0 ∧ x.f0 ≤ 6
          · have e1 : ¬ x.f0 = 1 := by omega
            have e7 : ¬ x.f0 = 7 := by omega
            simp [h1, h2, h3, h4, h5, e1, e7]
          · by_cases h6 : x.f2 = 0
            · by_cases h7 : x.f3 = 0
              · by_cases e1 : x.f0 = 1
                · simp [h2, h6, h7, e1]
                · by_cases e7 : x.f0 = 7
                  · simp [h2, h6, h7, e7]
                  · simp [h1, h2, h5, h6, h7, e1, e7]
              · simp [h1, h2, h3, h4, h5, h6, h7]
            · simp [h1, h2, h3, h4, h5, h6]
        · simp [h1, h2, h3, h4]
      · simp [h1, h2, h3]
    · simp [h1, h2]
  · simp [h1]
theorem spec_InsOk_ev (x : S143) : Ev (fun k => spec_InsOk.f k x.f0 x.f1 x.f2 x.f3) (insOk x) := ⟨2, fun k hk => by obtain ⟨m, rfl⟩ : ∃ m, k = m + 2 := ⟨k - 2, by omega⟩; exact spec_InsOk_of m x⟩
theorem impl_InsOk_of (k : Nat) (x : S143) : impl_InsOk.f (k + 1) x.f0 x.f1 x.f2 x.f3 = some (insOk x) := by
  simp only [impl_InsOk.f, impl_InsOk.j0, impl_HalfOk.f, impl_Ins_asks.f, impl_within_of, Option.bind_some, ite_some, decide_eq_true_eq]
  congr 1; rw [Bool.eq_iff_iff]; unfold insOk
  rw [decide_eq_true_eq]
  by_cases h5 : 3 ≤ x.f0 ∧ x.f0 ≤ 6
  · have e1 : ¬ x.f0 = 1 := by omega
    have e7 : ¬ x.f0 = 7 := by omega
    have e8 : 1 ≤ x.f0 ∧ x.f0 ≤ 8 := by omega
    by_cases h2 : 0 ≤ x.f1 ∧ x.f1 ≤ 4294967295
    · by_cases h3 : 0 ≤ x.f2 ∧ x.f2 ≤ 15
      · simp [h5, h2, h3, e1, e7, e8]
      · simp [h5, h2, h3]
    · simp [h5, h2]
  · by_cases h6 : x.f2 = 0
    · by_cases h7 : x.f3 = 0
      · by_cases e1 : x.f0 = 1
        · simp [h6, h7, e1]; omega
        · by_cases e7 : x.f0 = 7
          · simp [h6, h7, e7]; omega
          · by_cases e2 : x.f0 = 2
            · simp [h6, h7, e2]
            · by_cases e8 : x.f0 = 8
              · simp [h6, h7, e8]
              · have : ¬ (1 ≤ x.f0 ∧ x.f0 ≤ 8) := by omega
                simp [h5, h6, h7, e1, e2, e7, e8, this]
      · simp [h5, h6, h7]
    · simp [h5, h6]
theorem impl_InsOk_ev (x : S143) : Ev (fun k => impl_InsOk.f k x.f0 x.f1 x.f2 x.f3) (insOk x) := ⟨1, fun k hk => by obtain ⟨m, rfl⟩ : ∃ m, k = m + 1 := ⟨k - 1, by omega⟩; exact impl_InsOk_of m x⟩
theorem insOk_of {x : S143} (h : insOk x = true) : (1 ≤ x.f0 ∧ x.f0 ≤ 8) ∧ (0 ≤ x.f1 ∧ x.f1 ≤ 4294967295) ∧ (0 ≤ x.f2 ∧ x.f2 ≤ 15) ∧ (0 ≤ x.f3 ∧ x.f3 ≤ 15) ∧ ((3 ≤ x.f0 ∧ x.f0 ≤ 6) ∨ (x.f2 = 0 ∧ x.f3 = 0)) ∧ (x.f0 = 1 → x.f1 < 8) ∧ (x.f0 = 7 → x.f1 < 400) := of_decide_eq_true h
/-- How far a word goes. -/
def farI (x : S143) : Int := if 3 ≤ x.f0 ∧ x.f0 ≤ 6 then 1 + max x.f2 x.f3 else if x.f0 = 7 then 1 + x.f1 else if x.f0 = 8 then 0 else 1
def lastRet (l : List S143) : Bool := (l.getD (l.length - 1) z143).f0 == 8
def chkOne (n : Nat) (i : Nat) (x : S143) : Bool := insOk x && decide ((i : Int) + farI x < n)
def chk (l : List S143) : Bool := decide (1 ≤ l.length ∧ l.length ≤ 400) && (allI (chkOne l.length) 0 l && lastRet l)
theorem spec_CheckProgram_ev (l : List S143) (hn : l.length ≤ 1048576) : Ev (fun k => spec_CheckProgram.f k l) (chk l) := by
  unfold spec_CheckProgram.f chk
  rw [spec_l01In_of]
  refine Ev.bindc rfl ?_
  by_cases h : 1 ≤ l.length ∧ l.length ≤ 400
  · refine Ev.pos (by simp; omega) ?_
    rw [decide_eq_true h, Bool.true_and]
    refine allI_ev (fun k i => spec_CheckProgram.l0 k l i) l (chkOne l.length) (lastRet l) ?_ ?_ ?_
    · refine Ev.step (f := fun _ => some (lastRet l)) (fun k => ?_) (Ev.now _)
      simp only [spec_CheckProgram.l0]
      rw [if_neg (by omega), w64 (by omega) (by omega), if_pos (by omega), if_pos (by omega)]
      unfold lastRet rd_T143
      rw [show ((l.length : Int) - 1).toNat = l.length - 1 by omega]
    · intro i x hx hp
      have hi := lt_of hx
      unfold chkOne at hp
      have e := spec_InsOk_ev x
      refine Ev.step (f := fun k => (spec_InsOk.f k x.f0 x.f1 x.f2 x.f3).bind fun t => if t = true then (if x.f0 = 8 then spec_CheckProgram.l0 k l (wrap64 ((i : Int) + 1)) else (spec_l07Far.f x.f0 x.f1 x.f2 x.f3).bind fun u => if wrap64 (wrap64 ((i : Int) + 1) + u) ≥ (l.length : Int) then some false else spec_CheckProgram.l0 k l (wrap64 ((i : Int) + 1))) else some false) (fun k => ?_) ?_
      · simp only [spec_CheckProgram.l0]
        rw [if_pos (by omega), if_pos (by omega), rd143 hx]
      · refine Ev.bind e ?_
        cases hio : insOk x with
        | false => exact Ev.neg (by simp) (Ev.now _)
        | true =>
          rw [hio, Bool.true_and] at hp
          have hp' := of_decide_eq_false hp
          have hx5 := insOk_of hio
          refine Ev.pos rfl ?_
          have h8 : ¬ x.f0 = 8 := by
            intro h8
            unfold farI at hp'
            rw [if_neg (by omega), if_neg (by omega), if_pos h8] at hp'
            omega
          refine Ev.neg h8 ?_
          have hf : ∃ u, spec_l07Far.f x.f0 x.f1 x.f2 x.f3 = some u ∧ 1 + u = farI x ∧ 0 ≤ u ∧ u ≤ 4294967295 := by
            unfold spec_l07Far.f farI
            by_cases h7 : x.f0 = 7
            · rw [if_pos h7, if_neg (by omega), if_pos h7]; exact ⟨_, rfl, rfl, by omega, by omega⟩
            · rw [if_neg h7]
              by_cases ha : 3 ≤ x.f0 ∧ x.f0 ≤ 6
              · rw [if_pos ha]
                by_cases hg : x.f2 > x.f3
                · rw [if_pos hg]; exact ⟨_, rfl, by omega, by omega, by omega⟩
                · rw [if_neg hg]; exact ⟨_, rfl, by omega, by omega, by omega⟩
              · rw [if_neg ha, if_neg h7, if_neg h8]
                by_cases hg : x.f2 > x.f3
                · rw [if_pos hg]; exact ⟨_, rfl, by omega, by omega, by omega⟩
                · rw [if_neg hg]; exact ⟨_, rfl, by omega, by omega, by omega⟩
          obtain ⟨u, e1, e2, e3, e4⟩ := hf
          rw [e1]
          refine Ev.bindc rfl ?_
          rw [w64 (x := (i : Int) + 1) (by omega) (by omega), w64 (by omega) (by omega)]
          exact Ev.pos (by omega) (Ev.now _)
    · intro i x r hx hp hr
      have hi := lt_of hx
      unfold chkOne at hp
      rw [Bool.and_eq_true] at hp
      obtain ⟨hio, hp⟩ := hp
      have hp' := of_decide_eq_true hp
      have hx5 := insOk_of hio
      have e := spec_InsOk_ev x
      rw [hio] at e
      refine Ev.step (f := fun k => (spec_InsOk.f k x.f0 x.f1 x.f2 x.f3).bind fun t => if t = true then (if x.f0 = 8 then spec_CheckProgram.l0 k l ((i : Int) + 1) else (spec_l07Far.f x.f0 x.f1 x.f2 x.f3).bind fun u => if wrap64 (((i : Int) + 1) + u) ≥ (l.length : Int) then some false else spec_CheckProgram.l0 k l ((i : Int) + 1)) else some false) (fun k => ?_) ?_
      · simp only [spec_CheckProgram.l0]
        rw [if_pos (by omega), if_pos (by omega), rd143 hx, w64 (x := (i : Int) + 1) (by omega) (by omega)]
      · refine Ev.bind e (Ev.pos rfl ?_)
        by_cases h8 : x.f0 = 8
        · exact Ev.pos h8 hr
        · refine Ev.neg h8 ?_
          have hf : ∃ u, spec_l07Far.f x.f0 x.f1 x.f2 x.f3 = some u ∧ 1 + u = farI x ∧ 0 ≤ u ∧ u ≤ 4294967295 := by
            unfold spec_l07Far.f farI
            by_cases h7 : x.f0 = 7
            · rw [if_pos h7, if_neg (by omega), if_pos h7]; exact ⟨_, rfl, rfl, by omega, by omega⟩
            · rw [if_neg h7]
              by_cases ha : 3 ≤ x.f0 ∧ x.f0 ≤ 6
              · rw [if_pos ha]
                by_cases hg : x.f2 > x.f3
                · rw [if_pos hg]; exact ⟨_, rfl, by omega, by omega, by omega⟩
                · rw [if_neg hg]; exact ⟨_, rfl, by omega, by omega, by omega⟩
              · rw [if_neg ha, if_neg h7, if_neg h8]
                by_cases hg : x.f2 > x.f3
                · rw [if_pos hg]; exact ⟨_, rfl, by omega, by omega, by omega⟩
                · rw [if_neg hg]; exact ⟨_, rfl, by omega, by omega, by omega⟩
          obtain ⟨u, e1, e2, e3, e4⟩ := hf
          rw [e1]
          refine Ev.bindc rfl ?_
          rw [w64 (by omega) (by omega)]
          exact Ev.neg (by omega) hr
  · refine Ev.neg (by simp; omega) ?_
    rw [decide_eq_false h, Bool.false_and]; exact Ev.now _
theorem mx_of (a b : Int) : mx a b = max a b := by unfold mx; omega
theorem mn_of (a b : Int) : mn a b = min a b := by unfold mn; omega
def chkImpl (n : Nat) (i : Nat) (x : S143) : Bool := insOk x && decide ((i : Int) + (if 3 ≤ x.f0 ∧ x.f0 ≤ 6 then 1 + max x.f2 x.f3 else if x.f0 = 7 then 1 + x.f1 else 0) < n)
theorem impl_farthest_of (x : S143) (i n : Nat) (hn : n ≤ 400) (hi : i < n) (h : insOk x = true) : impl_farthest.f x.f0 x.f1 x.f2 x.f3 (i : Int) = some ((i : Int) + (if 3 ≤ x.f0 ∧ x.f0 ≤ 6 then 1 + max x.f2 x.f3 else if x.f0 = 7 then 1 + x.f1 else 0)) := by
  have hx5 := insOk_of h
  unfold impl_farthest.f impl_Ins_asks.f
  simp only [impl_within_of, Option.bind_some, decide_eq_true_eq, mx_of]
  by_cases ha : 3 ≤ x.f0 ∧ x.f0 ≤ 6
  · rw [if_pos ha, if_pos ha, w64 (x := (i : Int) + 1) (by omega) (by omega), w64 (by omega) (by omega)]
    congr 1; omega
  · rw [if_neg ha, if_neg ha]
    by_cases h7 : x.f0 = 7
    · rw [if_pos h7, if_pos h7, w64 (x := (i : Int) + 1) (by omega) (by omega), w64 (by omega) (by omega)]
      congr 1; omega
    · rw [if_neg h7, if_neg h7]
      rw [Int.add_zero]
theorem impl_CheckProgram_ev (l : List S143) (hn : l.length ≤ 1048576) : Ev (fun k => impl_CheckProgram.f k l) (chk l) := by
  unfold impl_CheckProgram.f chk
  rw [impl_within_of]
  refine Ev.bindc rfl ?_
  by_cases h : 1 ≤ l.length ∧ l.length ≤ 400
  · refine Ev.pos (by simp; omega) ?_
    rw [decide_eq_true h, Bool.true_and, w64 (by omega) (by omega)]
    refine Ev.pos (by omega) (Ev.pos (by omega) ?_)
    rw [show rd_T143 l ((l.length : Int) - 1) = l.getD (l.length - 1) z143 by unfold rd_T143; rw [show ((l.length : Int) - 1).toNat = l.length - 1 by omega]]
    refine Ev.step (fun _ => rfl) ?_; simp only [impl_CheckProgram.j0]
    cases hr : lastRet l with
    | false =>
      unfold lastRet at hr
      rw [Bool.and_false]
      refine Ev.pos (by simpa [bne] using hr) (Ev.now _)
    | true =>
      have hr' := hr
      unfold lastRet at hr
      refine Ev.neg (by simpa [bne] using hr) ?_
      have hcongr : allI (chkOne l.length) 0 l = allI (chkImpl l.length) 0 l := by
        refine allI_congr l 0 fun j x hx => ?_
        have hj := lt_of hx
        unfold chkOne chkImpl
        cases hio : insOk x with
        | false => simp
        | true =>
          have hx5 := insOk_of hio
          simp only [Bool.true_and]
          rw [Bool.eq_iff_iff, decide_eq_true_eq, decide_eq_true_eq]
          unfold farI
          by_cases ha : 3 ≤ x.f0 ∧ x.f0 ≤ 6
          · rw [if_pos ha, if_pos ha]
          · rw [if_neg ha, if_neg ha]
            by_cases h7 : x.f0 = 7
            · rw [if_pos h7, if_pos h7]
            · rw [if_neg h7, if_neg h7]
              by_cases h8 : x.f0 = 8
              · rw [if_pos h8]
              · rw [if_neg h8]
                have : j ≠ l.length - 1 := by
                  intro e
                  apply h8
                  rw [← e, get_of l z143 hx] at hr
                  simpa using hr
                constructor <;> intro _ <;> omega
      rw [hcongr]
      refine allI_ev (fun k i => impl_CheckProgram.l0 k (l.length : Int) l (l.length : Int) i) l (chkImpl l.length) true ?_ ?_ ?_
      · refine Ev.step (f := fun _ => some true) (fun k => ?_) (Ev.now _)
        simp only [impl_CheckProgram.l0]; rw [if_neg (by omega)]
      · intro i x hx hp
        have hi := lt_of hx
        unfold chkImpl at hp
        refine Ev.step (f := fun k => (impl_InsOk.f k x.f0 x.f1 x.f2 x.f3).bind fun t => if t = true then ((impl_farthest.f x.f0 x.f1 x.f2 x.f3 (i : Int)).bind fun u => if u ≥ (l.length : Int) then some false else impl_CheckProgram.l0 k (l.length : Int) l (l.length : Int) (wrap64 ((i : Int) + 1))) else some false) (fun k => ?_) ?_
        · simp only [impl_CheckProgram.l0]
          rw [if_pos (by omega), if_pos (by omega), if_pos (by omega), rd143 hx]
        · refine Ev.bind (impl_InsOk_ev x) ?_
          cases hio : insOk x with
          | false => exact Ev.neg (by simp) (Ev.now _)
          | true =>
            rw [hio, Bool.true_and] at hp
            have hp' := of_decide_eq_false hp
            refine Ev.pos rfl (Ev.bindc (impl_farthest_of x i l.length (by omega) hi hio) ?_)
            exact Ev.pos (by omega) (Ev.now _)
      · intro i x r hx hp hr
        have hi := lt_of hx
        unfold chkImpl at hp
        rw [Bool.and_eq_true] at hp
        obtain ⟨hio, hp⟩ := hp
        have hp' := of_decide_eq_true hp
        refine Ev.step (f := fun k => (impl_InsOk.f k x.f0 x.f1 x.f2 x.f3).bind fun t => if t = true then ((impl_farthest.f x.f0 x.f1 x.f2 x.f3 (i : Int)).bind fun u => if u ≥ (l.length : Int) then some false else impl_CheckProgram.l0 k (l.length : Int) l (l.length : Int) ((i : Int) + 1)) else some false) (fun k => ?_) ?_
        · simp only [impl_CheckProgram.l0]
          rw [if_pos (by omega), if_pos (by omega), if_pos (by omega), rd143 hx, w64 (x := (i : Int) + 1) (by omega) (by omega)]
        · refine Ev.bind (impl_InsOk_ev x) ?_
          rw [hio]
          refine Ev.pos rfl (Ev.bindc (impl_farthest_of x i l.length (by omega) hi hio) ?_)
          exact Ev.neg (by omega) hr
  · refine Ev.neg (by simp; omega) ?_
    refine Ev.step (fun _ => rfl) ?_; simp only [impl_CheckProgram.j0]
    rw [decide_eq_false h, Bool.false_and]; exact Ev.pos (by simp) (Ev.now _)
/-- What is known of a program that is looked over. -/
theorem chk_of {l : List S143} (h : chk l = true) : (1 ≤ l.length ∧ l.length ≤ 400) ∧ lastRet l = true ∧ ∀ (i : Nat) x, l[i]? = some x → insOk x = true ∧ (i : Int) + farI x < l.length := by
  unfold chk at h
  rw [Bool.and_eq_true, Bool.and_eq_true] at h
  refine ⟨of_decide_eq_true h.1, h.2.2, fun i x hx => ?_⟩
  have := allI_true l 0 h.2.1 i x hx
  unfold chkOne at this
  rw [Bool.and_eq_true] at this
  exact ⟨this.1, by have := of_decide_eq_true this.2; simpa using this⟩
/-- Where one may go from a word. -/
def nextV (x : S143) (i : Int) : List Int :=
  if x.f0 = 8 then [] else if x.f0 = 7 then [i + 1 + x.f1] else if 3 ≤ x.f0 ∧ x.f0 ≤ 6 then (if x.f2 = x.f3 then [i + 1 + x.f2] else [i + 1 + min x.f2 x.f3, i + 1 + max x.f2 x.f3]) else [i + 1]
theorem spec_l23Next_of (l : List S143) (i : Nat) (x : S143) (hx : l[i]? = some x) (hn : l.length ≤ 400) (hio : insOk x = true) : spec_l23Next.f l (i : Int) = some (nextV x i) := by
  have hi := lt_of hx
  have hx5 := insOk_of hio
  unfold spec_l23Next.f nextV spec_l06Ask.f
  rw [if_pos (by omega), if_pos (by omega), rd143 hx]
  simp only [spec_l01In_of, Option.bind_some, decide_eq_true_eq]
  rw [w64 (x := (i : Int) + 1) (by omega) (by omega)]
  by_cases h8 : x.f0 = 8
  · rw [if_pos h8, if_pos h8]
  · rw [if_neg h8, if_neg h8]
    by_cases h7 : x.f0 = 7
    · rw [if_pos h7, if_pos h7, w64 (by omega) (by omega)]
    · rw [if_neg h7, if_neg h7]
      by_cases ha : 3 ≤ x.f0 ∧ x.f0 ≤ 6
      · rw [if_pos ha, if_pos ha, w64 (x := (i : Int) + 1 + x.f2) (by omega) (by omega), w64 (x := (i : Int) + 1 + x.f3) (by omega) (by omega)]
        by_cases he : x.f2 = x.f3
        · rw [if_pos (by omega), if_pos he]
        · rw [if_neg (by omega), if_neg he]
          by_cases hl : x.f2 < x.f3
          · rw [if_pos (by omega), Int.min_eq_left (by omega), Int.max_eq_right (by omega)]
          · rw [if_neg (by omega), Int.min_eq_right (by omega), Int.max_eq_left (by omega)]
      · rw [if_neg ha, if_neg ha]
theorem impl_ways_ev (i : Nat) (x : S143) (hi : i < 400) (hio : insOk x = true) : Ev (fun k => impl_ways.f k x.f0 x.f1 x.f2 x.f3 (i : Int)) (nextV x i) := by
  have hx5 := insOk_of hio
  refine ⟨1, fun k hk => ?_⟩
  obtain ⟨k, rfl⟩ : ∃ m, k = m + 1 := ⟨k - 1, by omega⟩
  unfold impl_ways.f nextV
  simp only [impl_ways.j0, impl_Ins_asks.f, impl_within_of, Option.bind_some, decide_eq_true_eq, mx_of, mn_of]
  rw [w64 (x := (i : Int) + 1) (by omega) (by omega)]
  by_cases h8 : x.f0 = 8
  · rw [if_pos h8, if_pos h8]
  · rw [if_neg h8, if_neg h8]
    by_cases h7 : x.f0 = 7
    · rw [if_pos h7, if_pos h7, w64 (by omega) (by omega)]
    · rw [if_neg h7, if_neg h7]
      by_cases ha : 3 ≤ x.f0 ∧ x.f0 ≤ 6
      · rw [if_pos ha, if_pos ha]
        by_cases he : x.f2 = x.f3
        · rw [if_neg (by simp [he]), if_pos ha, if_pos he, w64 (by omega) (by omega)]
        · rw [if_pos (by simp [he]), if_neg he, w64 (by omega) (by omega), w64 (by omega) (by omega)]
          (try rw [if_pos ha])
      · rw [if_neg ha, if_neg ha, if_neg (by simp), if_neg ha]
/-! A program's table from behind: each place's number out of those of the places that come next. -/
theorem rd_nat (o : List Int) (i : Nat) : rd o (i : Int) = o.getD i 0 := by simp [rd]
theorem rd_set_same (o : List Int) (i : Nat) (v : Int) (h : i < o.length) : rd (o.set i v) (i : Int) = v := by
  rw [rd_nat]; simp [List.getD, h]
theorem rd_set_ne (o : List Int) (i : Nat) (v y : Int) (h0 : 0 ≤ y) (h : y ≠ i) : rd (o.set i v) y = rd o y := by
  obtain ⟨m, rfl⟩ : ∃ m : Nat, y = m := ⟨y.toNat, by omega⟩
  rw [rd_nat, rd_nat]; simp [List.getD, List.getElem?_set, show ¬ i = m by omega]
theorem w01 : wrap64 (0 + 1) = 1 := w64 (x := 0 + 1) (by omega) (by omega)
def F : List Int → Int
  | [] => 1
  | a :: r => r.foldl min a + 1
def bd (n : Nat) : Int := n
theorem bd_up (n : Nat) : bd n ≤ bd (n + 1) := by unfold bd; omega
theorem bd_pos (n : Nat) : 0 ≤ bd n := by unfold bd; omega
theorem bd_max (n : Nat) (h : n ≤ 400) : bd n ≤ 1000000 := by unfold bd; omega
theorem F_nil (n : Nat) : 0 ≤ F [] ∧ F [] ≤ bd (n + 1) := by
  show (0 : Int) ≤ 1 ∧ (1 : Int) ≤ bd (n + 1); unfold bd; omega
theorem F_one (n : Nat) (a : Int) (h : 0 ≤ a ∧ a ≤ bd n) : 0 ≤ F [a] ∧ F [a] ≤ bd (n + 1) := by
  show 0 ≤ a + 1 ∧ a + 1 ≤ bd (n + 1); unfold bd at *; omega
theorem F_two (n : Nat) (a b : Int) (h : 0 ≤ a ∧ a ≤ bd n) (k : 0 ≤ b ∧ b ≤ bd n) : 0 ≤ F [a, b] ∧ F [a, b] ≤ bd (n + 1) := by
  show 0 ≤ min a b + 1 ∧ min a b + 1 ≤ bd (n + 1); unfold bd at *; omega
theorem impl_F_ev (l : List Int) (hl : l.length ≤ 2) (hb : ∀ y ∈ l, 0 ≤ y ∧ y ≤ 1000000) : Ev (fun k => impl_ShortestRun_1.f k l) (F l) := by
  unfold impl_ShortestRun_1.f slices_Min_int_int.f
  match l, hl, hb with
  | [], _, _ => exact Ev.pos (by simp) (Ev.now _)
  | [a], _, hb =>
    have ha := hb a (by simp)
    refine Ev.neg (by simp) ?_
    refine Ev.bind (a := a) ?_ (Ev.some_ (by rw [w64 (by omega) (by omega)]; rfl))
    refine Ev.neg (by simp) (Ev.pos (by simp) ?_)
    refine Ev.step (fun _ => rfl) ?_
    simp only [slices_Min_int_int.l0]
    exact Ev.neg (by simp) (Ev.some_ rfl)
  | [a, b], _, hb =>
    have ha := hb a (by simp)
    have hb := hb b (by simp)
    refine Ev.neg (by simp) ?_
    refine Ev.bind (a := min a b) ?_ (Ev.some_ (by rw [w64 (by omega) (by omega)]; rfl))
    refine Ev.neg (by simp) (Ev.pos (by simp) ?_)
    refine Ev.step (fun _ => rfl) ?_
    simp only [slices_Min_int_int.l0]
    refine Ev.pos (by simp) (Ev.pos (by omega) ?_)
    refine Ev.step (fun _ => rfl) ?_
    simp only [slices_Min_int_int.l0]
    refine Ev.neg (by simp [wrap64]) (Ev.some_ ?_)
    show mn a b = min a b
    exact mn_of a b
theorem nextV_of {l : List S143} (hc : chk l = true) {i : Nat} {x : S143} (hx : l[i]? = some x) : nextV x i = [] ∨ (∃ a : Int, nextV x i = [a] ∧ (i : Int) < a ∧ a < l.length) ∨ ∃ a b : Int, nextV x i = [a, b] ∧ (i : Int) < a ∧ a < l.length ∧ (i : Int) < b ∧ b < l.length := by
  obtain ⟨_, _, hall⟩ := chk_of hc
  obtain ⟨h1, h2⟩ := hall i x hx
  have h3 := insOk_of h1
  unfold farI at h2
  unfold nextV
  by_cases h8 : x.f0 = 8
  · rw [if_pos h8]; exact .inl rfl
  rw [if_neg h8]; refine .inr ?_
  by_cases h7 : x.f0 = 7
  · rw [if_neg (by omega), if_pos h7] at h2
    rw [if_pos h7]; exact .inl ⟨_, rfl, by omega, by omega⟩
  rw [if_neg h7]
  by_cases ha : 3 ≤ x.f0 ∧ x.f0 ≤ 6
  · rw [if_pos ha] at h2
    rw [if_pos ha]
    by_cases he : x.f2 = x.f3
    · rw [if_pos he]; exact .inl ⟨_, rfl, by omega, by omega⟩
    · rw [if_neg he]; exact .inr ⟨_, _, rfl, by omega, by omega, by omega, by omega⟩
  · rw [if_neg ha, if_neg h7, if_neg h8] at h2
    rw [if_neg ha]; exact .inl ⟨_, rfl, by omega, by omega⟩
def nxs (l : List S143) (i : Nat) : List Int := nextV (l.getD i z143) i
def goV (l : List S143) : Nat → List Int → List Int
  | 0, o => o
  | i + 1, o => goV l i (o.set i (F ((nxs l i).map (rd o))))
def runV (l : List S143) : Int := if chk l = true then rd (goV l l.length (List.replicate l.length 0)) 0 else 0
/-- What holds of the table before place i - 1 is told. -/
def Fit (n i : Nat) (o : List Int) : Prop := o.length = n ∧ (∀ y : Int, 0 ≤ rd o y ∧ rd o y ≤ bd (n - i)) ∧ ∀ y : Nat, y < i → rd o (y : Int) = 0
theorem fit_set {n i : Nat} {o : List Int} (h : Fit n (i + 1) o) (hi : i < n) (v : Int) (h0 : 0 ≤ v) (h1 : v ≤ bd (n - i)) : Fit n i (o.set i v) := by
  obtain ⟨a, b, c⟩ := h
  have hm : bd (n - (i + 1)) ≤ bd (n - i) := by rw [show n - i = n - (i + 1) + 1 by omega]; exact bd_up _
  refine ⟨by simpa using a, fun y => ?_, fun y hy => ?_⟩
  · by_cases hy : 0 ≤ y
    · by_cases he : y = i
      · subst he; rw [rd_set_same _ _ _ (by omega)]; exact ⟨h0, h1⟩
      · rw [rd_set_ne _ _ _ _ hy he]; have := b y; omega
    · have e : rd (o.set i v) y = rd (o.set i v) ((0 : Nat) : Int) := by unfold rd; rw [show y.toNat = ((0 : Nat) : Int).toNat by omega]
      rw [e]
      by_cases he : i = 0
      · subst he; rw [rd_set_same _ _ _ (by omega)]; exact ⟨h0, h1⟩
      · rw [rd_set_ne _ _ _ _ (by omega) (by omega)]; have := b ((0 : Nat) : Int); omega
  · rw [rd_set_ne _ _ _ _ (by omega) (by omega)]; exact c y (by omega)
theorem fit_start (n : Nat) : Fit n n (List.replicate n 0) := by
  have e : ∀ y : Int, rd (List.replicate n 0) y = 0 := fun y => by
    unfold rd; rw [List.getD_eq_getElem?_getD, List.getElem?_replicate]; split <;> rfl
  refine ⟨by simp, fun y => ?_, fun y _ => e y⟩
  rw [e]; exact ⟨by omega, bd_pos _⟩
/-- The numbers of what comes next, and what is made of them, within their bounds. -/
theorem F_fit {l : List S143} (hc : chk l = true) {i : Nat} {x : S143} (hx : l[i]? = some x) {o : List Int} {n : Nat} (h : Fit n (i + 1) o) (hi : i < n) :
    0 ≤ F ((nextV x i).map (rd o)) ∧ F ((nextV x i).map (rd o)) ≤ bd (n - i) := by
  rw [show n - i = n - (i + 1) + 1 by omega]
  rcases nextV_of hc hx with e | ⟨a, e, _⟩ | ⟨a, b, e, _⟩ <;> rw [e]
  · exact F_nil _
  · exact F_one _ _ (h.2.1 a)
  · exact F_two _ _ _ (h.2.1 a) (h.2.1 b)
theorem impl_in_ev (l : List S143) (o : List Int) (i : Nat) (nx : List Int) (r : Int) (hn : nx = [] ∨ (∃ a : Int, nx = [a] ∧ (i : Int) < a ∧ a < o.length) ∨ ∃ a b : Int, nx = [a, b] ∧ (i : Int) < a ∧ a < o.length ∧ (i : Int) < b ∧ b < o.length)
    (he : Ev (fun k => (impl_ShortestRun_1.f k (nx.map (rd o))).bind fun t => (if 0 ≤ (i : Int) then (if (i : Int) < (o.length : Int) then (impl_runs.l0 k l (o.set (i : Int).toNat t) (wrap64 ((i : Int) - 1))) else none) else none)) r) :
    Ev (fun k => impl_runs.l1 k l o (i : Int) [] nx (nx.length : Int) 0) r := by
  rcases hn with rfl | ⟨a, rfl, h1, h2⟩ | ⟨a, b, rfl, h1, h2, h3, h4⟩
  · refine Ev.step (fun _ => rfl) ?_
    simp only [impl_runs.l1]
    exact Ev.neg (by simp) he
  · refine Ev.step (fun _ => rfl) ?_
    simp only [impl_runs.l1]
    have e0 : rd [a] 0 = a := rfl
    rw [e0]
    refine Ev.pos (by simp) (Ev.pos (by omega) (Ev.pos (by simp) (Ev.pos (by omega) (Ev.pos (by omega) (Ev.pos (by simp) ?_)))))
    refine Ev.step (fun _ => rfl) ?_
    simp only [impl_runs.l1]
    exact Ev.neg (by simp [wrap64]) he
  · refine Ev.step (fun _ => rfl) ?_
    simp only [impl_runs.l1]
    have e0 : rd [a, b] 0 = a := rfl
    rw [e0]
    refine Ev.pos (by simp) (Ev.pos (by omega) (Ev.pos (by simp) (Ev.pos (by omega) (Ev.pos (by omega) (Ev.pos (by simp) ?_)))))
    refine Ev.step (fun _ => rfl) ?_
    simp only [impl_runs.l1]
    have e1 : rd [a, b] (wrap64 (0 + 1)) = b := by rw [w01]; rfl
    have e2 : wrap64 (0 + 1) = 1 := w01
    rw [e1, e2]
    refine Ev.pos (by simp) (Ev.pos (by omega) (Ev.pos (by simp) (Ev.pos (by omega) (Ev.pos (by omega) (Ev.pos (by simp) ?_)))))
    refine Ev.step (fun _ => rfl) ?_
    simp only [impl_runs.l1]
    exact Ev.neg (by simp [wrap64]) he
theorem impl_out_ev (l : List S143) (hc : chk l = true) : ∀ (i : Nat) (o : List Int), i ≤ l.length → Fit l.length i o → Ev (fun k => impl_runs.l0 k l o ((i : Int) - 1)) (rd (goV l i o) 0) := by
  obtain ⟨hl, _, hall⟩ := chk_of hc
  intro i
  induction i with
  | zero =>
    intro o _ ho
    refine Ev.step (f := fun _ => some (rd o 0)) (fun k => ?_) (Ev.now _)
    simp only [impl_runs.l0]
    rw [if_neg (by omega), if_pos (by rw [ho.1]; omega)]
  | succ i ih =>
    intro o hi ho
    have hx : l[i]? = some l[i] := List.getElem?_eq_getElem (by omega)
    have hxs : nxs l i = nextV l[i] i := by unfold nxs; rw [get_of l _ hx]
    obtain ⟨f1, f2⟩ := F_fit hc hx ho (by omega)
    have hz := ih (o.set i (F ((nextV l[i] i).map (rd o)))) (by omega) (fit_set ho (by omega) _ f1 f2)
    unfold goV
    rw [hxs]
    rw [show ((i + 1 : Nat) : Int) - 1 = (i : Int) by omega]
    refine Ev.step (fun _ => rfl) ?_
    simp only [impl_runs.l0]
    rw [rd143 hx]
    refine Ev.pos (by omega) (Ev.pos (by omega) (Ev.pos (by omega) ?_))
    refine Ev.bind (impl_ways_ev i _ (by omega) (hall i _ hx).1) ?_
    refine impl_in_ev l o i _ _ (by rw [ho.1]; exact nextV_of hc hx) ?_
    have hF := impl_F_ev ((nextV l[i] i).map (rd o)) (by rcases nextV_of hc hx with e | ⟨a, e, _⟩ | ⟨a, b, e, _⟩ <;> rw [e] <;> simp) (by
      intro y hy
      obtain ⟨z, _, rfl⟩ := List.mem_map.1 hy
      have := ho.2.1 z; have := bd_max (l.length - (i + 1)) (by omega); omega)
    refine Ev.bind hF ?_
    refine Ev.pos (by omega) (Ev.pos (by rw [ho.1]; omega) ?_)
    rw [w64 (by omega) (by omega), Int.toNat_natCast]
    exact hz
theorem impl_runs_ev (l : List S143) (hn : l.length ≤ 1048576) : Ev (fun k => impl_ShortestRun.f k l) (runV l) := by
  unfold impl_ShortestRun.f impl_runs.f runV
  refine Ev.bind (r := if chk l = true then rd (goV l l.length (List.replicate l.length 0)) 0 else 0) (Ev.bind (impl_CheckProgram_ev l hn) ?_) (Ev.now _)
  by_cases h : chk l = true
  · rw [if_pos h]
    obtain ⟨hl, _, _⟩ := chk_of h
    refine Ev.pos h (Ev.pos (by omega) (Ev.pos (by omega) ?_))
    rw [w64 (by omega) (by omega), Int.toNat_natCast]
    exact impl_out_ev l h l.length _ (Nat.le_refl _) (fit_start _)
  · rw [if_neg h]; exact Ev.neg h (Ev.now _)
theorem spec_first (l : List S143) (o nx : List Int) (i : Nat) (r : Int) (hi : i < o.length) (hb : ∀ y : Int, 0 ≤ rd o y ∧ rd o y ≤ 1000000) (v y : Int) (hj : rd nx 0 = y) (h1 : 0 < nx.length) (h2 : (i : Int) < y) (h3 : y < o.length)
    (he : Ev (fun k => spec_ShortestRun.l1 k l (o.set i (rd o y + 1)) (i : Int) nx 1) r) : Ev (fun k => spec_ShortestRun.l1 k l (o.set i v) (i : Int) nx 0) r := by
  have hy := hb y
  refine Ev.step (fun _ => rfl) ?_
  simp only [spec_ShortestRun.l1]
  rw [hj, rd_set_ne o i v y (by omega) (by omega), w64 (x := rd o y + 1) (by omega) (by omega), w01, Int.toNat_natCast, List.set_set, List.length_set]
  exact Ev.pos (by omega) (Ev.pos (by first | trivial | rfl) (Ev.pos (by omega) (Ev.pos (by omega) (Ev.pos (by omega) (Ev.pos (by omega) (Ev.pos (by omega) he))))))
theorem spec_step (l : List S143) (o nx : List Int) (i : Nat) (r : Int) (hi : i < o.length) (hb : ∀ y : Int, 0 ≤ rd o y ∧ rd o y ≤ 1000000) (hm : nx.length ≤ 2) (v y j j' : Int) (hj' : j' = j + 1) (hj : rd nx j = y) (h0 : 0 < j) (h1 : j < nx.length) (h2 : (i : Int) < y) (h3 : y < o.length) (hv : 0 ≤ v ∧ v ≤ 9000000)
    (he : Ev (fun k => spec_ShortestRun.l1 k l (o.set i (min v (rd o y + 1))) (i : Int) nx j') r) : Ev (fun k => spec_ShortestRun.l1 k l (o.set i v) (i : Int) nx j) r := by
  subst hj'
  have hy := hb y
  refine Ev.step (fun _ => rfl) ?_
  simp only [spec_ShortestRun.l1]
  rw [hj, rd_set_ne o i v y (by omega) (by omega), rd_set_same o i v hi, w64 (x := rd o y + 1) (by omega) (by omega), w64 (x := j + 1) (by omega) (by omega), Int.toNat_natCast, List.set_set, List.length_set]
  refine Ev.pos (by omega) (Ev.neg (by omega) (Ev.pos (by omega) (Ev.pos (by omega) (Ev.pos (by omega) (Ev.pos (by omega) (Ev.pos (by omega) ?_))))))
  refine Ev.both (fun hc => ?_) (fun hc => ?_)
  · rw [show min v (rd o y + 1) = rd o y + 1 by omega] at he; exact he
  · rw [show min v (rd o y + 1) = v by omega] at he; exact he
theorem spec_end (l : List S143) (s nx : List Int) (i : Nat) (r j : Int) (hj : j = nx.length)
    (he : Ev (fun k => spec_ShortestRun.l0 k l s (wrap64 ((i : Int) - 1))) r) : Ev (fun k => spec_ShortestRun.l1 k l s (i : Int) nx j) r := by
  refine Ev.step (fun _ => rfl) ?_
  simp only [spec_ShortestRun.l1]
  exact Ev.neg (by omega) he
theorem spec_in_ev (l : List S143) (o : List Int) (i : Nat) (nx : List Int) (r : Int) (hi : i < o.length) (hn : nx = [] ∨ (∃ a : Int, nx = [a] ∧ (i : Int) < a ∧ a < o.length) ∨ ∃ a b : Int, nx = [a, b] ∧ (i : Int) < a ∧ a < o.length ∧ (i : Int) < b ∧ b < o.length)
    (hb : ∀ y : Int, 0 ≤ rd o y ∧ rd o y ≤ 1000000) (hz : rd o (i : Int) = 0) (he : Ev (fun k => spec_ShortestRun.l0 k l (o.set i (F (nx.map (rd o)))) (wrap64 ((i : Int) - 1))) r) :
    Ev (fun k => if 0 ≤ (i : Int) then (if (i : Int) < (o.length : Int) then (spec_ShortestRun.l1 k l (o.set (i : Int).toNat 1) (i : Int) nx 0) else none) else none) r := by
  rw [Int.toNat_natCast]
  refine Ev.pos (by omega) (Ev.pos (by omega) ?_)
  rcases hn with rfl | ⟨a, rfl, h1, h2⟩ | ⟨a, b, rfl, h1, h2, h3, h4⟩
  · exact spec_end l _ _ i r 0 rfl he
  · refine spec_first l o [a] i r hi hb 1 a rfl (by simp) h1 h2 ?_
    exact spec_end l _ _ i r 1 rfl he
  · have ha := hb a
    have hb' := hb b
    refine spec_first l o [a, b] i r hi hb 1 a rfl (by simp) h1 h2 ?_
    refine spec_step l o [a, b] i r hi hb (by simp) _ b 1 2 rfl rfl (by omega) (by simp) h3 h4 (by omega) ?_
    refine spec_end l _ _ i r 2 rfl ?_
    rw [show F (List.map (rd o) [a, b]) = min (rd o a + 1) (rd o b + 1) by show min (rd o a) (rd o b) + 1 = _; omega] at he
    exact he
theorem spec_out_ev (l : List S143) (hc : chk l = true) : ∀ (i : Nat) (o : List Int), i ≤ l.length → Fit l.length i o → Ev (fun k => spec_ShortestRun.l0 k l o ((i : Int) - 1)) (rd (goV l i o) 0) := by
  obtain ⟨hl, _, hall⟩ := chk_of hc
  intro i
  induction i with
  | zero =>
    intro o _ ho
    refine Ev.step (f := fun _ => some (rd o 0)) (fun k => ?_) (Ev.now _)
    simp only [spec_ShortestRun.l0]
    rw [if_neg (by omega), if_pos (by rw [ho.1]; omega)]
  | succ i ih =>
    intro o hi ho
    have hx : l[i]? = some l[i] := List.getElem?_eq_getElem (by omega)
    have hxs : nxs l i = nextV l[i] i := by unfold nxs; rw [get_of l _ hx]
    obtain ⟨f1, f2⟩ := F_fit hc hx ho (by omega)
    have hz := ih (o.set i (F ((nextV l[i] i).map (rd o)))) (by omega) (fit_set ho (by omega) _ f1 f2)
    unfold goV
    rw [hxs]
    rw [show ((i + 1 : Nat) : Int) - 1 = (i : Int) by omega]
    refine Ev.step (fun _ => rfl) ?_
    simp only [spec_ShortestRun.l0]
    rw [spec_l23Next_of l i _ hx hl.2 (hall i _ hx).1]
    refine Ev.pos (by omega) ?_
    simp only [Option.bind_some]
    refine spec_in_ev l o i _ _ (by rw [ho.1]; omega) (by rw [ho.1]; exact nextV_of hc hx) (fun y => ?_) (ho.2.2 i (by omega)) ?_
    · have := ho.2.1 y; have := bd_max (l.length - (i + 1)) (by omega); omega
    · rw [w64 (by omega) (by omega)]; exact hz
theorem spec_runs_ev (l : List S143) (hn : l.length ≤ 1048576) : Ev (fun k => spec_ShortestRun.f k l) (runV l) := by
  unfold spec_ShortestRun.f runV
  refine Ev.bind (spec_CheckProgram_ev l hn) ?_
  by_cases h : chk l = true
  · rw [if_pos h]
    obtain ⟨hl, _, _⟩ := chk_of h
    refine Ev.pos h (Ev.pos (by omega) (Ev.pos (by omega) ?_))
    rw [w64 (by omega) (by omega), Int.toNat_natCast]
    exact spec_out_ev l h l.length _ (Nat.le_refl _) (fit_start _)
  · rw [if_neg h]; exact Ev.neg h (Ev.now _)
theorem pure : Pure := by
  intro l0 hl
  refine Ev.rounds ?_
  unfold laws_FnExactShortestRun.f
  obtain ⟨v, hv, h⟩ := szInsS_of l0 1048576 hl.1 (by omega) (by omega)
  refine Ev.bind (Ev.const hv) ?_
  rcases h with h | ⟨h0, h1, h2⟩
  · exact Ev.pos h (Ev.now _)
  have e1 := toInsS_ev l0 h2
  have hm : (l0.map cvS145_S143).length ≤ 1048576 := by simpa using h2
  generalize l0.map cvS145_S143 = xs at e1 hm
  have e2 := spec_runs_ev xs hm
  have e3 := impl_runs_ev xs hm
  generalize runV xs = g at e2 e3
  have e4 := eqInsS_ev xs (by omega)
  repeat (first
    | (with_reducible refine Ev.bind e1 ?_; try dsimp only)
    | (with_reducible refine Ev.bind e2 ?_; try dsimp only)
    | (with_reducible refine Ev.bind e3 ?_; try dsimp only)
    | (with_reducible refine Ev.bind e4 ?_; try dsimp only)
    | (refine Ev.neg (by omega) ?_)
    | (refine Ev.pos (by first | rfl | omega) ?_)
    | exact Ev.now _)
end Go.Proofs.Ytkbabldehmgmaaa.PFnExactShortestRun
namespace Go.Proofs.Ytkbabldehmgmaaa
/-- The given statement. -/
theorem fnExactShortestRun_holds : Rows.FnExactShortestRunSaid := AFnExactShortestRun.row PFnExactShortestRun.pure
#print axioms fnExactShortestRun_holds
end Go.Proofs.Ytkbabldehmgmaaa
