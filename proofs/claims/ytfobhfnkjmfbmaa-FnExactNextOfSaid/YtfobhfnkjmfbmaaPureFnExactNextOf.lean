/- laws.FnExactNextOf returns true at every input, its arguments as they were. No condition. -/
import Derived.Test.YtfobhfnkjmfbmaaExFnExactNextOf
import Derived.Test.YtfobhfnkjmfbmaaArgFnExactNextOf
set_option linter.unusedVariables false
set_option linter.unusedSimpArgs false
namespace Go.Proofs.Ytfobhfnkjmfbmaa.PFnExactNextOf
open Go.RowKit Go.Proofs.YtfobhfnkjmfbmaaW.PrintWords Go.Proofs.YtfobhfnkjmfbmaaW.PrintLast Go.Proofs.YtfobhfnkjmfbmaaL Go.Proofs.YtfobhfnkjmfbmaaO Go.Proofs.Ytfobhfnkjmfbmaa.AFnExactNextOf
theorem i64_of {x : Int} (h : OkN .i64 x) : -9223372036854775808 ≤ x ∧ x ≤ 9223372036854775807 := bounds_i64 h
theorem spec_l01In_of (x lo hi : Int) : spec_l01In.f x lo hi = some (decide (lo ≤ x ∧ x ≤ hi)) := by
  unfold spec_l01In.f
  rw [ite_some]; congr 1; rw [Bool.eq_iff_iff]
  by_cases h : x ≥ lo <;> simp [h] <;> omega
theorem impl_within_of (x lo hi : Int) : impl_within.f x lo hi = some (decide (lo ≤ x ∧ x ≤ hi)) := spec_l01In_of x lo hi
def insOk (x : S125) : Bool := decide ((1 ≤ x.f0 ∧ x.f0 ≤ 8) ∧ (0 ≤ x.f1 ∧ x.f1 ≤ 4294967295) ∧ (0 ≤ x.f2 ∧ x.f2 ≤ 15) ∧ (0 ≤ x.f3 ∧ x.f3 ≤ 15) ∧ ((3 ≤ x.f0 ∧ x.f0 ≤ 6) ∨ (x.f2 = 0 ∧ x.f3 = 0)) ∧ (x.f0 = 1 → x.f1 < 8) ∧ (x.f0 = 7 → x.f1 < 400))
theorem spec_InsOk_of (k : Nat) (x : S125) : spec_InsOk.f (k + 2) x.f0 x.f1 x.f2 x.f3 = some (insOk x) := by
  simp only [spec_InsOk.f, spec_InsOk.j0, spec_InsOk.j1, spec_HalfOk.f, spec_l06Ask.f, spec_l01In_of, Option.bind_some, ite_some, decide_eq_true_eq]
  congr 1; rw [Bool.eq_iff_iff]; unfold insOk
  rw [decide_eq_true_eq]
  by_cases h1 : 1 ≤ x.f0 ∧ x.f0 ≤ 8
  · by_cases h2 : 0 ≤ x.f1 ∧ x.f1 ≤ 4294967295
    · by_cases h3 : 0 ≤ x.f2 ∧ x.f2 ≤ 15
      · by_cases h4 : 0 ≤ x.f3 ∧ x.f3 ≤ 15
        · by_cases h5 : 3 ≤ x.f0 ∧ x.f0 ≤ 6
          · have e1 : ¬ x.f0 = 1 := by omega
            have e7 : ¬ x.f0 = 7 := by omega
            simp [h1, h2, h3, h4, h5, e1, e7]
          · by_cases h6 : x.f2 = 0
            · by_cases h7 : x.f3 = 0
              · by_cases e1 : x.f0 = 1
                · simp [h2, h6, h7, e1]
                · by_cases e7 : x.f0 = 7
                  · simp [h2, h6, h7, e7]
                  · simp [h1, h2, h5, h6, h7, e1, e7]
              · simp [h1, h2, h3, h4, h5, h6, h7]
            · simp [h1, h2, h3, h4, h5, h6]
        · simp [h1, h2, h3, h4]
      · simp [h1, h2, h3]
    · simp [h1, h2]
  · simp [h1]
theorem spec_InsOk_ev (x : S125) : Ev (fun k => spec_InsOk.f k x.f0 x.f1 x.f2 x.f3) (insOk x) := ⟨2, fun k hk => by obtain ⟨m, rfl⟩ : ∃ m, k = m + 2 := ⟨k - 2, by omega⟩; exact spec_InsOk_of m x⟩
theorem impl_InsOk_of (k : Nat) (x : S125) : impl_InsOk.f (k + 1) x.f0 x.f1 x.f2 x.f3 = some (insOk x) := by
  simp only [impl_InsOk.f, impl_InsOk.j0, impl_HalfOk.f, impl_Ins_asks.f, impl_within_of, Option.bind_some, ite_some, decide_eq_true_eq]
  congr 1; rw [Bool.eq_iff_iff]; unfold insOk
  rw [decide_eq_true_eq]
  by_cases h5 : 3 ≤ x.f0 ∧ x.f0 ≤ 6
  · have e1 : ¬ x.f0 = 1 := by omega
    have e7 : ¬ x.f0 = 7 := by omega
    have e8 : 1 ≤ x.f0 ∧ x.f0 ≤ 8 := by omega
    by_cases h2 : 0 ≤ x.f1 ∧ x.f1 ≤ 4294967295
    · by_cases h3 : 0 ≤ x.f2 ∧ x.f2 ≤ 15
      · simp [h5, h2, h3, e1, e7, e8]
      · simp [h5, h2, h3]
    · simp [h5, h2]
  · by_cases h6 : x.f2 = 0
    · by_cases h7 : x.f3 = 0
      · by_cases e1 : x.f0 = 1
        · simp [h6, h7, e1]; omega
        · by_cases e7 : x.f0 = 7
          · simp [h6, h7, e7]; omega
          · by_cases e2 : x.f0 = 2
            · simp [h6, h7, e2]
            · by_cases e8 : x.f0 = 8
              · simp [h6, h7, e8]
              · have : ¬ (1 ≤ x.f0 ∧ x.f0 ≤ 8) := by omega
                simp [h5, h6, h7, e1, e2, e7, e8, this]
      · simp [h5, h6, h7]
    · simp [h5, h6]
theorem impl_InsOk_ev (x : S125) : Ev (fun k => impl_InsOk.f k x.f0 x.f1 x.f2 x.f3) (insOk x) := ⟨1, fun k hk => by obtain ⟨m, rfl⟩ : ∃ m, k = m + 1 := ⟨k - 1, by omega⟩; exact impl_InsOk_of m x⟩
theorem insOk_of {x : S125} (h : insOk x = true) : (1 ≤ x.f0 ∧ x.f0 ≤ 8) ∧ (0 ≤ x.f1 ∧ x.f1 ≤ 4294967295) ∧ (0 ≤ x.f2 ∧ x.f2 ≤ 15) ∧ (0 ≤ x.f3 ∧ x.f3 ≤ 15) ∧ ((3 ≤ x.f0 ∧ x.f0 ≤ 6) ∨ (x.f2 = 0 ∧ x.f3 = 0)) ∧ (x.f0 = 1 → x.f1 < 8) ∧ (x.f0 = 7 → x.f1 < 400) := of_decide_eq_true h
/-- How far a word goes. -/
def farI (x : S125) : Int := if 3 ≤ x.f0 ∧ x.f0 ≤ 6 then 1 + max x.f2 x.f3 else if x.f0 = 7 then 1 + x.f1 else if x.f0 = 8 then 0 else 1
def lastRet (l : List S125) : Bool := (l.getD (l.length - 1) z125).f0 == 8
def chkOne (n : Nat) (i : Nat) (x : S125) : Bool := insOk x && decide ((i : Int) + farI x < n)
def chk (l : List S125) : Bool := decide (1 ≤ l.length ∧ l.length ≤ 400) && (allI (chkOne l.length) 0 l && lastRet l)
theorem spec_CheckProgram_ev (l : List S125) (hn : l.length ≤ 1048576) : Ev (fun k => spec_CheckProgram.f k l) (chk l) := by
  unfold spec_CheckProgram.f chk
  rw [spec_l01In_of]
  refine Ev.bindc rfl ?_
  by_cases h : 1 ≤ l.length ∧ l.length ≤ 400
  · refine Ev.pos (by simp; omega) ?_
    rw [decide_eq_true h, Bool.true_and]
    refine allI_ev (fun k i => spec_CheckProgram.l0 k l i) l (chkOne l.length) (lastRet l) ?_ ?_ ?_
    · refine Ev.step (f := fun _ => some (lastRet l)) (fun k => ?_) (Ev.now _)
      simp only [spec_CheckProgram.l0]
      rw [if_neg (by omega), w64 (by omega) (by omega), if_pos (by omega), if_pos (by omega)]
      unfold lastRet rd_T125
      rw [show ((l.length : Int) - 1).toNat = l.length - 1 by omega]
    · intro i x hx hp
      have hi := lt_of hx
      unfold chkOne at hp
      have e := spec_InsOk_ev x
      refine Ev.step (f := fun k => (spec_InsOk.f k x.f0 x.f1 x.f2 x.f3).bind fun t => if t = true then (if x.f0 = 8 then spec_CheckProgram.l0 k l (wrap64 ((i : Int) + 1)) else (spec_l07Far.f x.f0 x.f1 x.f2 x.f3).bind fun u => if wrap64 (wrap64 ((i : Int) + 1) + u) ≥ (l.length : Int) then some false else spec_CheckProgram.l0 k l (wrap64 ((i : Int) + 1))) else some false) (fun k => ?_) ?_
      · simp only [spec_CheckProgram.l0]
        rw [if_pos (by omega), if_pos (by omega), rd125 hx]
      · refine Ev.bind e ?_
        cases hio : insOk x with
        | false => exact Ev.neg (by simp) (Ev.now _)
        | true =>
          rw [hio, Bool.true_and] at hp
          have hp' := of_decide_eq_false hp
          have hx5 := insOk_of hio
          refine Ev.pos rfl ?_
          have h8 : ¬ x.f0 = 8 := by
            intro h8
            unfold farI at hp'
            rw [if_neg (by omega), if_neg (by omega), if_pos h8] at hp'
            omega
          refine Ev.neg h8 ?_
          have hf : ∃ u, spec_l07Far.f x.f0 x.f1 x.f2 x.f3 = some u ∧ 1 + u = farI x ∧ 0 ≤ u ∧ u ≤ 4294967295 := by
            unfold spec_l07Far.f farI
            by_cases h7 : x.f0 = 7
            · rw [if_pos h7, if_neg (by omega), if_pos h7]; exact ⟨_, rfl, rfl, by omega, by omega⟩
            · rw [if_neg h7]
              by_cases ha : 3 ≤ x.f0 ∧ x.f0 ≤ 6
              · rw [if_pos ha]
                by_cases hg : x.f2 > x.f3
                · rw [if_pos hg]; exact ⟨_, rfl, by omega, by omega, by omega⟩
                · rw [if_neg hg]; exact ⟨_, rfl, by omega, by omega, by omega⟩
              · rw [if_neg ha, if_neg h7, if_neg h8]
                by_cases hg : x.f2 > x.f3
                · rw [if_pos hg]; exact ⟨_, rfl, by omega, by omega, by omega⟩
                · rw [if_neg hg]; exact ⟨_, rfl, by omega, by omega, by omega⟩
          obtain ⟨u, e1, e2, e3, e4⟩ := hf
          rw [e1]
          refine Ev.bindc rfl ?_
          rw [w64 (x := (i : Int) + 1) (by omega) (by omega), w64 (by omega) (by omega)]
          exact Ev.pos (by omega) (Ev.now _)
    · intro i x r hx hp hr
      have hi := lt_of hx
      unfold chkOne at hp
      rw [Bool.and_eq_true] at hp
      obtain ⟨hio, hp⟩ := hp
      have hp' := of_decide_eq_true hp
      have hx5 := insOk_of hio
      have e := spec_InsOk_ev x
      rw [hio] at e
      refine Ev.step (f := fun k => (spec_InsOk.f k x.f0 x.f1 x.f2 x.f3).bind fun t => if t = true then (if x.f0 = 8 then spec_CheckProgram.l0 k l ((i : Int) + 1) else (spec_l07Far.f x.f0 x.f1 x.f2 x.f3).bind fun u => if wrap64 (((i : Int) + 1) + u) ≥ (l.length : Int) then some false else spec_CheckProgram.l0 k l ((i : Int) + 1)) else some false) (fun k => ?_) ?_
      · simp only [spec_CheckProgram.l0]
        rw [if_pos (by omega), if_pos (by omega), rd125 hx, w64 (x := (i : Int) + 1) (by omega) (by omega)]
      · refine Ev.bind e (Ev.pos rfl ?_)
        by_cases h8 : x.f0 = 8
        · exact Ev.pos h8 hr
        · refine Ev.neg h8 ?_
          have hf : ∃ u, spec_l07Far.f x.f0 x.f1 x.f2 x.f3 = some u ∧ 1 + u = farI x ∧ 0 ≤ u ∧ u ≤ 4294967295 := by
            unfold spec_l07Far.f farI
            by_cases h7 : x.f0 = 7
            · rw [if_pos h7, if_neg (by omega), if_pos h7]; exact ⟨_, rfl, rfl, by omega, by omega⟩
            · rw [if_neg h7]
              by_cases ha : 3 ≤ x.f0 ∧ x.f0 ≤ 6
              · rw [if_pos ha]
                by_cases hg : x.f2 > x.f3
                · rw [if_pos hg]; exact ⟨_, rfl, by omega, by omega, by omega⟩
                · rw [if_neg hg]; exact ⟨_, rfl, by omega, by omega, by omega⟩
              · rw [if_neg ha, if_neg h7, if_neg h8]
                by_cases hg : x.f2 > x.f3
                · rw [if_pos hg]; exact ⟨_, rfl, by omega, by omega, by omega⟩
                · rw [if_neg hg]; exact ⟨_, rfl, by omega, by omega, by omega⟩
          obtain ⟨u, e1, e2, e3, e4⟩ := hf
          rw [e1]
          refine Ev.bindc rfl ?_
          rw [w64 (by omega) (by omega)]
          exact Ev.neg (by omega) hr
  · refine Ev.neg (by simp; omega) ?_
    rw [decide_eq_false h, Bool.false_and]; exact Ev.now _
theorem mx_of (a b : Int) : mx a b = max a b := by unfold mx; omega
theorem mn_of (a b : Int) : mn a b = min a b := by unfold mn; omega
def chkImpl (n : Nat) (i : Nat) (x : S125) : Bool := insOk x && decide ((i : Int) + (if 3 ≤ x.f0 ∧ x.f0 ≤ 6 then 1 + max x.f2 x.f3 else if x.f0 = 7 then 1 + x.f1 else 0) < n)
theorem impl_farthest_of (x : S125) (i n : Nat) (hn : n ≤ 400) (hi : i < n) (h : insOk x = true) : impl_farthest.f x.f0 x.f1 x.f2 x.f3 (i : Int) = some ((i : Int) + (if 3 ≤ x.f0 ∧ x.f0 ≤ 6 then 1 + max x.f2 x.f3 else if x.f0 = 7 then 1 + x.f1 else 0)) := by
  have hx5 := insOk_of h
  unfold impl_farthest.f impl_Ins_asks.f
  simp only [impl_within_of, Option.bind_some, decide_eq_true_eq, mx_of]
  by_cases ha : 3 ≤ x.f0 ∧ x.f0 ≤ 6
  · rw [if_pos ha, if_pos ha, w64 (x := (i : Int) + 1) (by omega) (by omega), w64 (by omega) (by omega)]
    congr 1; omega
  · rw [if_neg ha, if_neg ha]
    by_cases h7 : x.f0 = 7
    · rw [if_pos h7, if_pos h7, w64 (x := (i : Int) + 1) (by omega) (by omega), w64 (by omega) (by omega)]
      congr 1; omega
    · rw [if_neg h7, if_neg h7]
      rw [Int.add_zero]
theorem impl_CheckProgram_ev (l : List S125) (hn : l.length ≤ 1048576) : Ev (fun k => impl_CheckProgram.f k l) (chk l) := by
  unfold impl_CheckProgram.f chk
  rw [impl_within_of]
  refine Ev.bindc rfl ?_
  by_cases h : 1 ≤ l.length ∧ l.length ≤ 400
  · refine Ev.pos (by simp; omega) ?_
    rw [decide_eq_true h, Bool.true_and, w64 (by omega) (by omega)]
    refine Ev.pos (by omega) (Ev.pos (by omega) ?_)
    rw [show rd_T125 l ((l.length : Int) - 1) = l.getD (l.length - 1) z125 by unfold rd_T125; rw [show ((l.length : Int) - 1).toNat = l.length - 1 by omega]]
    refine Ev.step (fun _ => rfl) ?_; simp only [impl_CheckProgram.j0]
    cases hr : lastRet l with
    | false =>
      unfold lastRet at hr
      rw [Bool.and_false]
      refine Ev.pos (by simpa [bne] using hr) (Ev.now _)
    | true =>
      have hr' := hr
      unfold lastRet at hr
      refine Ev.neg (by simpa [bne] using hr) ?_
      have hcongr : allI (chkOne l.length) 0 l = allI (chkImpl l.length) 0 l := by
        refine allI_congr l 0 fun j x hx => ?_
        have hj := lt_of hx
        unfold chkOne chkImpl
        cases hio : insOk x with
        | false => simp
        | true =>
          have hx5 := insOk_of hio
          simp only [Bool.true_and]
          rw [Bool.eq_iff_iff, decide_eq_true_eq, decide_eq_true_eq]
          unfold farI
          by_cases ha : 3 ≤ x.f0 ∧ x.f0 ≤ 6
          · rw [if_pos ha, if_pos ha]
          · rw [if_neg ha, if_neg ha]
            by_cases h7 : x.f0 = 7
            · rw [if_pos h7, if_pos h7]
            · rw [if_neg h7, if_neg h7]
              by_cases h8 : x.f0 = 8
              · rw [if_pos h8]
              · rw [if_neg h8]
                have : j ≠ l.length - 1 := by
                  intro e
                  apply h8
                  rw [← e, get_of l z125 hx] at hr
                  simpa using hr
                constructor <;> intro _ <;> omega
      rw [hcongr]
      refine allI_ev (fun k i => impl_CheckProgram.l0 k (l.length : Int) l (l.length : Int) i) l (chkImpl l.length) true ?_ ?_ ?_
      · refine Ev.step (f := fun _ => some true) (fun k => ?_) (Ev.now _)
        simp only [impl_CheckProgram.l0]; rw [if_neg (by omega)]
      · intro i x hx hp
        have hi := lt_of hx
        unfold chkImpl at hp
        refine Ev.step (f := fun k => (impl_InsOk.f k x.f0 x.f1 x.f2 x.f3).bind fun t => if t = true then ((impl_farthest.f x.f0 x.f1 x.f2 x.f3 (i : Int)).bind fun u => if u ≥ (l.length : Int) then some false else impl_CheckProgram.l0 k (l.length : Int) l (l.length : Int) (wrap64 ((i : Int) + 1))) else some false) (fun k => ?_) ?_
        · simp only [impl_CheckProgram.l0]
          rw [if_pos (by omega), if_pos (by omega), if_pos (by omega), rd125 hx]
        · refine Ev.bind (impl_InsOk_ev x) ?_
          cases hio : insOk x with
          | false => exact Ev.neg (by simp) (Ev.now _)
          | true =>
            rw [hio, Bool.true_and] at hp
            have hp' := of_decide_eq_false hp
            refine Ev.pos rfl (Ev.bindc (impl_farthest_of x i l.length (by omega) hi hio) ?_)
            exact Ev.pos (by omega) (Ev.now _)
      · intro i x r hx hp hr
        have hi := lt_of hx
        unfold chkImpl at hp
        rw [Bool.and_eq_true] at hp
        obtain ⟨hio, hp⟩ := hp
        have hp' := of_decide_eq_true hp
        refine Ev.step (f := fun k => (impl_InsOk.f k x.f0 x.f1 x.f2 x.f3).bind fun t => if t = true then ((impl_farthest.f x.f0 x.f1 x.f2 x.f3 (i : Int)).bind fun u => if u ≥ (l.length : Int) then some false else impl_CheckProgram.l0 k (l.length : Int) l (l.length : Int) ((i : Int) + 1)) else some false) (fun k => ?_) ?_
        · simp only [impl_CheckProgram.l0]
          rw [if_pos (by omega), if_pos (by omega), if_pos (by omega), rd125 hx, w64 (x := (i : Int) + 1) (by omega) (by omega)]
        · refine Ev.bind (impl_InsOk_ev x) ?_
          rw [hio]
          refine Ev.pos rfl (Ev.bindc (impl_farthest_of x i l.length (by omega) hi hio) ?_)
          exact Ev.neg (by omega) hr
  · refine Ev.neg (by simp; omega) ?_
    refine Ev.step (fun _ => rfl) ?_; simp only [impl_CheckProgram.j0]
    rw [decide_eq_false h, Bool.false_and]; exact Ev.pos (by simp) (Ev.now _)
/-- What is known of a program that is looked over. -/
theorem chk_of {l : List S125} (h : chk l = true) : (1 ≤ l.length ∧ l.length ≤ 400) ∧ lastRet l = true ∧ ∀ (i : Nat) x, l[i]? = some x → insOk x = true ∧ (i : Int) + farI x < l.length := by
  unfold chk at h
  rw [Bool.and_eq_true, Bool.and_eq_true] at h
  refine ⟨of_decide_eq_true h.1, h.2.2, fun i x hx => ?_⟩
  have := allI_true l 0 h.2.1 i x hx
  unfold chkOne at this
  rw [Bool.and_eq_true] at this
  exact ⟨this.1, by have := of_decide_eq_true this.2; simpa using this⟩
/-- Where one may go from a word. -/
def nextV (x : S125) (i : Int) : List Int :=
  if x.f0 = 8 then [] else if x.f0 = 7 then [i + 1 + x.f1] else if 3 ≤ x.f0 ∧ x.f0 ≤ 6 then (if x.f2 = x.f3 then [i + 1 + x.f2] else [i + 1 + min x.f2 x.f3, i + 1 + max x.f2 x.f3]) else [i + 1]
theorem spec_l23Next_of (l : List S125) (i : Nat) (x : S125) (hx : l[i]? = some x) (hn : l.length ≤ 400) (hio : insOk x = true) : spec_l23Next.f l (i : Int) = some (nextV x i) := by
  have hi := lt_of hx
  have hx5 := insOk_of hio
  unfold spec_l23Next.f nextV spec_l06Ask.f
  rw [if_pos (by omega), if_pos (by omega), rd125 hx]
  simp only [spec_l01In_of, Option.bind_some, decide_eq_true_eq]
  rw [w64 (x := (i : Int) + 1) (by omega) (by omega)]
  by_cases h8 : x.f0 = 8
  · rw [if_pos h8, if_pos h8]
  · rw [if_neg h8, if_neg h8]
    by_cases h7 : x.f0 = 7
    · rw [if_pos h7, if_pos h7, w64 (by omega) (by omega)]
    · rw [if_neg h7, if_neg h7]
      by_cases ha : 3 ≤ x.f0 ∧ x.f0 ≤ 6
      · rw [if_pos ha, if_pos ha, w64 (x := (i : Int) + 1 + x.f2) (by omega) (by omega), w64 (x := (i : Int) + 1 + x.f3) (by omega) (by omega)]
        by_cases he : x.f2 = x.f3
        · rw [if_pos (by omega), if_pos he]
        · rw [if_neg (by omega), if_neg he]
          by_cases hl : x.f2 < x.f3
          · rw [if_pos (by omega), Int.min_eq_left (by omega), Int.max_eq_right (by omega)]
          · rw [if_neg (by omega), Int.min_eq_right (by omega), Int.max_eq_left (by omega)]
      · rw [if_neg ha, if_neg ha]
theorem impl_ways_ev (i : Nat) (x : S125) (hi : i < 400) (hio : insOk x = true) : Ev (fun k => impl_ways.f k x.f0 x.f1 x.f2 x.f3 (i : Int)) (nextV x i) := by
  have hx5 := insOk_of hio
  refine ⟨1, fun k hk => ?_⟩
  obtain ⟨k, rfl⟩ : ∃ m, k = m + 1 := ⟨k - 1, by omega⟩
  unfold impl_ways.f nextV
  simp only [impl_ways.j0, impl_Ins_asks.f, impl_within_of, Option.bind_some, decide_eq_true_eq, mx_of, mn_of]
  rw [w64 (x := (i : Int) + 1) (by omega) (by omega)]
  by_cases h8 : x.f0 = 8
  · rw [if_pos h8, if_pos h8]
  · rw [if_neg h8, if_neg h8]
    by_cases h7 : x.f0 = 7
    · rw [if_pos h7, if_pos h7, w64 (by omega) (by omega)]
    · rw [if_neg h7, if_neg h7]
      by_cases ha : 3 ≤ x.f0 ∧ x.f0 ≤ 6
      · rw [if_pos ha, if_pos ha]
        by_cases he : x.f2 = x.f3
        · rw [if_neg (by simp [he]), if_pos ha, if_pos he, w64 (by omega) (by omega)]
        · rw [if_pos (by simp [he]), if_neg he, w64 (by omega) (by omega), w64 (by omega) (by omega)]
          (try rw [if_pos ha])
      · rw [if_neg ha, if_neg ha, if_neg (by simp), if_neg ha]
def nextAt (l : List S125) (i : Int) : List Int := if chk l = true then (if 0 ≤ i ∧ i ≤ (l.length : Int) - 1 then nextV (l.getD i.toNat z125) i else []) else []
theorem spec_NextOf_ev (l : List S125) (i : Int) (hn : l.length ≤ 1048576) : Ev (fun k => spec_NextOf.f k l i) (nextAt l i) := by
  unfold spec_NextOf.f nextAt
  refine Ev.bind (spec_CheckProgram_ev l hn) ?_
  cases hc : chk l with
  | false => exact Ev.neg (by simp) (Ev.now _)
  | true =>
    refine Ev.pos rfl ?_
    obtain ⟨hl, _, hall⟩ := chk_of hc
    rw [spec_l01In_of, w64 (by omega) (by omega)]
    refine Ev.bindc rfl ?_
    rw [if_pos rfl]
    by_cases hi : 0 ≤ i ∧ i ≤ (l.length : Int) - 1
    · refine Ev.pos (by simpa using hi) ?_
      rw [if_pos hi]
      obtain ⟨m, rfl⟩ : ∃ m : Nat, i = m := ⟨i.toNat, by omega⟩
      have hx : l[m]? = some l[m] := List.getElem?_eq_getElem (by omega)
      rw [Int.toNat_natCast, get_of l z125 hx]
      exact Ev.bindc (spec_l23Next_of l m _ hx hl.2 (hall m _ hx).1) (Ev.now _)
    · rw [if_neg hi]
      exact Ev.neg (by simpa using hi) (Ev.now _)
theorem impl_NextOf_ev (l : List S125) (i : Int) (hn : l.length ≤ 1048576) : Ev (fun k => impl_NextOf.f k l i) (nextAt l i) := by
  unfold impl_NextOf.f nextAt
  refine Ev.bind (impl_CheckProgram_ev l hn) ?_
  cases hc : chk l with
  | false => exact Ev.neg (by simp) (Ev.now _)
  | true =>
    refine Ev.pos rfl ?_
    obtain ⟨hl, _, hall⟩ := chk_of hc
    rw [impl_within_of, w64 (by omega) (by omega)]
    refine Ev.bindc rfl ?_
    rw [if_pos rfl]
    by_cases hi : 0 ≤ i ∧ i ≤ (l.length : Int) - 1
    · refine Ev.pos (by simpa using hi) ?_
      rw [if_pos hi]
      obtain ⟨m, rfl⟩ : ∃ m : Nat, i = m := ⟨i.toNat, by omega⟩
      have hx : l[m]? = some l[m] := List.getElem?_eq_getElem (by omega)
      refine Ev.pos (by omega) (Ev.pos (by omega) ?_)
      rw [rd125 hx, Int.toNat_natCast, get_of l z125 hx]
      exact Ev.bind (impl_ways_ev m _ (by omega) (hall m _ hx).1) (Ev.now _)
    · rw [if_neg hi]
      exact Ev.neg (by simpa using hi) (Ev.now _)
theorem nextAt_length (l : List S125) (i : Int) : (nextAt l i).length ≤ 2 := by
  unfold nextAt nextV
  repeat' split
  all_goals simp
theorem pure : Pure := by
  intro l0 i hl hi
  refine Ev.rounds ?_
  unfold laws_FnExactNextOf.f
  obtain ⟨v, hv, h⟩ := szInsS_of l0 1048576 hl.1 (by omega) (by omega)
  refine Ev.bind (Ev.const hv) ?_
  rcases h with h | ⟨h0, h1, h2⟩
  · exact Ev.pos h (Ev.now _)
  have e1 := toInsS_ev l0 h2
  have hm : (l0.map cvS127_S125).length ≤ 1048576 := by simpa using h2
  generalize l0.map cvS127_S125 = xs at e1 hm
  have e2 := spec_NextOf_ev xs i hm
  have e3 := impl_NextOf_ev xs i hm
  have hn := nextAt_length xs i
  generalize nextAt xs i = g at e2 e3 hn
  have e4 := eqInsS_ev xs (by omega)
  have e5 := eqIntS_ev g (by omega)
  have hc : mcount ctS125 xs ≤ 4194304 := by rw [mcount_const ctS125 4 (fun _ => rfl)]; omega
  have hd : mcount ctInt g ≤ 12000000 := by rw [mcount_const ctInt 1 (fun _ => rfl)]; omega
  have e6 := markInsS_ev xs 1 (by omega) (by omega) (by omega)
  have e7 := markIntS_ev g 1 (by omega) (by omega) (by omega)
  have e8 := heldIntS_ev g 1 (by omega) (by omega) (by omega)
  repeat (first
    | (with_reducible refine Ev.bind e1 ?_; try dsimp only)
    | (with_reducible refine Ev.bind e2 ?_; try dsimp only)
    | (with_reducible refine Ev.bind e3 ?_; try dsimp only)
    | (with_reducible refine Ev.bind e4 ?_; try dsimp only)
    | (with_reducible refine Ev.bind e5 ?_; try dsimp only)
    | (with_reducible refine Ev.bind e6 ?_; try dsimp only)
    | (with_reducible refine Ev.bind e7 ?_; try dsimp only)
    | (with_reducible refine Ev.bind e8 ?_; try dsimp only)
    | (refine Ev.neg (by omega) ?_)
    | (refine Ev.pos (by first | rfl | omega) ?_)
    | (refine Ev.neg (by simp) ?_)
    | (refine Ev.step (fun _ => rfl) ?_; simp only [laws_FnExactNextOf.j0])
    | exact Ev.now _)
end Go.Proofs.Ytfobhfnkjmfbmaa.PFnExactNextOf
namespace Go.Proofs.Ytfobhfnkjmfbmaa
/-- The given statement. -/
theorem fnExactNextOf_holds : Rows.FnExactNextOfSaid := AFnExactNextOf.row PFnExactNextOf.pure
#print axioms fnExactNextOf_holds
end Go.Proofs.Ytfobhfnkjmfbmaa
