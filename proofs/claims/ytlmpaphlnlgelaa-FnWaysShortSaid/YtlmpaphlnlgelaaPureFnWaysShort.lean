/- laws.FnWaysShort returns true at every input. No condition. -/
import Derived.Test.YtlmpaphlnlgelaaExFnWaysShort
import Derived.Test.YtlmpaphlnlgelaaArgFnWaysShort
set_option linter.unusedVariables false
set_option linter.unusedSimpArgs false
namespace Go.Proofs.Ytlmpaphlnlgelaa.PFnWaysShort
open Go.RowKit Go.Proofs.YtlmpaphlnlgelaaA Go.Proofs.YtlmpaphlnlgelaaL Go.Proofs.Ytlmpaphlnlgelaa.AFnWaysShort
theorem i64_of {x : Int} (h : OkN .i64 x) : -9223372036854775808 ≤ x ∧ x ≤ 9223372036854775807 := bounds_i64 h
theorem rd55 {l : List S55} {i : Nat} {x : S55} (h : l[i]? = some x) : rd_T55 l (i : Int) = x := by
  unfold rd_T55; simpa using get_of l z55 h
theorem rd67 {l : List S67} {i : Nat} {x : S67} (h : l[i]? = some x) : rd_T67 l (i : Int) = x := by
  unfold rd_T67; simpa using get_of l z67 h
theorem rd94 {l : List S94} {i : Nat} {x : S94} (h : l[i]? = some x) : rd_T94 l (i : Int) = x := by
  unfold rd_T94; simpa using get_of l z94 h
theorem rd70 {l : List S70} {i : Nat} {x : S70} (h : l[i]? = some x) : rd_T70 l (i : Int) = x := by
  unfold rd_T70; simpa using get_of l z70 h
theorem spec_l01In_of (x lo hi : Int) : spec_l01In.f x lo hi = some (decide (lo ≤ x ∧ x ≤ hi)) := by
  unfold spec_l01In.f
  rw [ite_some]; congr 1; rw [Bool.eq_iff_iff]
  by_cases h : x ≥ lo <;> simp [h] <;> omega
theorem impl_within_of (x lo hi : Int) : impl_within.f x lo hi = some (decide (lo ≤ x ∧ x ≤ hi)) := spec_l01In_of x lo hi
def insOk (x : S55) : Bool := decide ((1 ≤ x.f0 ∧ x.f0 ≤ 8) ∧ (0 ≤ x.f1 ∧ x.f1 ≤ 4294967295) ∧ (0 ≤ x.f2 ∧ x.f2 ≤ 15) ∧ (0 ≤ x.f3 ∧ x.f3 ≤ 15) ∧ ((3 ≤ x.f0 ∧ x.f0 ≤ 6) ∨ (x.f2 = 0 ∧ x.f3 = 0)) ∧ (x.f0 = 1 → x.f1 < 8) ∧ (x.f0 = 7 → x.f1 < 400))
theorem spec_InsOk_of (k : Nat) (x : S55) : spec_InsOk.f (k + 1) x.f0 x.f1 x.f2 x.f3 = some (insOk x) := by
  simp only [spec_InsOk.f, spec_InsOk.j0, spec_HalfOk.f, spec_l06Ask.f, spec_l01In_of, Option.bind_some, ite_some, decide_eq_true_eq]
  congr 1; rw [Bool.eq_iff_iff]; unfold insOk
  rw [decide_eq_true_eq]
  by_cases h1 : 1 ≤ x.f0 ∧ x.f0 ≤ 8
  · by_cases h2 : 0 ≤ x.f1 ∧ x.f1 ≤ 4294967295
    · by_cases h3 : 0 ≤ x.f2 ∧ x.f2 ≤ 15
      · by_cases h4 : 0 ≤ x.f3 ∧ x.f3 ≤ 15
        · by_cases h5 : 3 ≤ x.f0 ∧ x.f0 ≤ 6
          · have e1 : ¬ x.f0 = 1 := by omega
            have e7 : ¬ x.f0 = 7 := by omega
            simp [h1, h2, h3, h4, h5, e1, e7]
          · by_cases h6 : x.f2 = 0
            · by_cases h7 : x.f3 = 0
              · by_cases e1 : x.f0 = 1
                · simp [h2, h6, h7, e1]
                · by_cases e7 : x.f0 = 7
                  · simp [h2, h6, h7, e7]
                  · simp [h1, h2, h5, h6, h7, e1, e7]
              · simp [h1, h2, h3, h4, h5, h6, h7]
            · simp [h1, h2, h3, h4, h5, h6]
        · simp [h1, h2, h3, h4]
      · simp [h1, h2, h3]
    · simp [h1, h2]
  · simp [h1]
theorem spec_InsOk_ev (x : S55) : Ev (fun k => spec_InsOk.f k x.f0 x.f1 x.f2 x.f3) (insOk x) := ⟨1, fun k hk => by obtain ⟨m, rfl⟩ : ∃ m, k = m + 1 := ⟨k - 1, by omega⟩; exact spec_InsOk_of m x⟩
theorem impl_InsOk_of (x : S55) : impl_InsOk.f x.f0 x.f1 x.f2 x.f3 = some (insOk x) := by
  simp only [impl_InsOk.f, impl_HalfOk.f, impl_Ins_asks.f, impl_within_of, Option.bind_some, ite_some, decide_eq_true_eq]
  congr 1; rw [Bool.eq_iff_iff]; unfold insOk
  rw [decide_eq_true_eq]
  by_cases h5 : 3 ≤ x.f0 ∧ x.f0 ≤ 6
  · have e1 : ¬ x.f0 = 1 := by omega
    have e7 : ¬ x.f0 = 7 := by omega
    have e8 : 1 ≤ x.f0 ∧ x.f0 ≤ 8 := by omega
    by_cases h2 : 0 ≤ x.f1 ∧ x.f1 ≤ 4294967295
    · by_cases h3 : 0 ≤ x.f2 ∧ x.f2 ≤ 15
      · simp [h5, h2, h3, e1, e7, e8]
      · simp [h5, h2, h3]
    · simp [h5, h2]
  · by_cases h6 : x.f2 = 0
    · by_cases h7 : x.f3 = 0
      · by_cases e1 : x.f0 = 1
        · simp [h6, h7, e1]; omega
        · by_cases e7 : x.f0 = 7
          · simp [h6, h7, e7]; omega
          · by_cases e2 : x.f0 = 2
            · simp [h6, h7, e2]
            · by_cases e8 : x.f0 = 8
              · simp [h6, h7, e8]
              · have : ¬ (1 ≤ x.f0 ∧ x.f0 ≤ 8) := by omega
                simp [h5, h6, h7, e1, e2, e7, e8, this]
      · simp [h5, h6, h7]
    · simp [h5, h6]
theorem insOk_of {x : S55} (h : insOk x = true) : (1 ≤ x.f0 ∧ x.f0 ≤ 8) ∧ (0 ≤ x.f1 ∧ x.f1 ≤ 4294967295) ∧ (0 ≤ x.f2 ∧ x.f2 ≤ 15) ∧ (0 ≤ x.f3 ∧ x.f3 ≤ 15) ∧ ((3 ≤ x.f0 ∧ x.f0 ≤ 6) ∨ (x.f2 = 0 ∧ x.f3 = 0)) ∧ (x.f0 = 1 → x.f1 < 8) ∧ (x.f0 = 7 → x.f1 < 400) := of_decide_eq_true h
/-- How far a word goes. -/
def farI (x : S55) : Int := if 3 ≤ x.f0 ∧ x.f0 ≤ 6 then 1 + max x.f2 x.f3 else if x.f0 = 7 then 1 + x.f1 else if x.f0 = 8 then 0 else 1
def lastRet (l : List S55) : Bool := (l.getD (l.length - 1) z55).f0 == 8
def chkOne (n : Nat) (i : Nat) (x : S55) : Bool := insOk x && decide ((i : Int) + farI x < n)
def chk (l : List S55) : Bool := decide (1 ≤ l.length ∧ l.length ≤ 400) && (allI (chkOne l.length) 0 l && lastRet l)
theorem spec_CheckProgram_ev (l : List S55) (hn : l.length ≤ 1048576) : Ev (fun k => spec_CheckProgram.f k l) (chk l) := by
  unfold spec_CheckProgram.f chk
  rw [spec_l01In_of]
  refine Ev.bindc rfl ?_
  by_cases h : 1 ≤ l.length ∧ l.length ≤ 400
  · refine Ev.pos (by simp; omega) ?_
    rw [decide_eq_true h, Bool.true_and]
    refine allI_ev (fun k i => spec_CheckProgram.l0 k l i) l (chkOne l.length) (lastRet l) ?_ ?_ ?_
    · refine Ev.step (f := fun _ => some (lastRet l)) (fun k => ?_) (Ev.now _)
      simp only [spec_CheckProgram.l0]
      rw [if_neg (by omega), w64 (by omega) (by omega), if_pos (by omega), if_pos (by omega)]
      unfold lastRet rd_T55
      rw [show ((l.length : Int) - 1).toNat = l.length - 1 by omega]
    · intro i x hx hp
      have hi := lt_of hx
      unfold chkOne at hp
      have e := spec_InsOk_ev x
      refine Ev.step (f := fun k => (spec_InsOk.f k x.f0 x.f1 x.f2 x.f3).bind fun t => if t = true then (if x.f0 = 8 then spec_CheckProgram.l0 k l (wrap64 ((i : Int) + 1)) else (spec_l07Far.f x.f0 x.f1 x.f2 x.f3).bind fun u => if wrap64 (wrap64 ((i : Int) + 1) + u) ≥ (l.length : Int) then some false else spec_CheckProgram.l0 k l (wrap64 ((i : Int) + 1))) else some false) (fun k => ?_) ?_
      · simp only [spec_CheckProgram.l0]
        rw [if_pos (by omega), if_pos (by omega), rd55 hx]
      · refine Ev.bind e ?_
        cases hio : insOk x with
        | false => exact Ev.neg (by simp) (Ev.now _)
        | true =>
          rw [hio, Bool.true_and] at hp
          have hp' := of_decide_eq_false hp
          have hx5 := insOk_of hio
          refine Ev.pos rfl ?_
          have h8 : ¬ x.f0 = 8 := by
            intro h8
            unfold farI at hp'
            rw [if_neg (by omega), if_neg (by omega), if_pos h8] at hp'
            omega
          refine Ev.neg h8 ?_
          have hf : ∃ u, spec_l07Far.f x.f0 x.f1 x.f2 x.f3 = some u ∧ 1 + u = farI x ∧ 0 ≤ u ∧ u ≤ 4294967295 := by
            unfold spec_l07Far.f farI
            by_cases h7 : x.f0 = 7
            · rw [if_pos h7, if_neg (by omega), if_pos h7]; exact ⟨_, rfl, rfl, by omega, by omega⟩
            · rw [if_neg h7]
              by_cases ha : 3 ≤ x.f0 ∧ x.f0 ≤ 6
              · rw [if_pos ha]
                by_cases hg : x.f2 > x.f3
                · rw [if_pos hg]; exact ⟨_, rfl, by omega, by omega, by omega⟩
                · rw [if_neg hg]; exact ⟨_, rfl, by omega, by omega, by omega⟩
              · rw [if_neg ha, if_neg h7, if_neg h8]
                by_cases hg : x.f2 > x.f3
                · rw [if_pos hg]; exact ⟨_, rfl, by omega, by omega, by omega⟩
                · rw [if_neg hg]; exact ⟨_, rfl, by omega, by omega, by omega⟩
          obtain ⟨u, e1, e2, e3, e4⟩ := hf
          rw [e1]
          refine Ev.bindc rfl ?_
          rw [w64 (x := (i : Int) + 1) (by omega) (by omega), w64 (by omega) (by omega)]
          exact Ev.pos (by omega) (Ev.now _)
    · intro i x r hx hp hr
      have hi := lt_of hx
      unfold chkOne at hp
      rw [Bool.and_eq_true] at hp
      obtain ⟨hio, hp⟩ := hp
      have hp' := of_decide_eq_true hp
      have hx5 := insOk_of hio
      have e := spec_InsOk_ev x
      rw [hio] at e
      refine Ev.step (f := fun k => (spec_InsOk.f k x.f0 x.f1 x.f2 x.f3).bind fun t => if t = true then (if x.f0 = 8 then spec_CheckProgram.l0 k l ((i : Int) + 1) else (spec_l07Far.f x.f0 x.f1 x.f2 x.f3).bind fun u => if wrap64 (((i : Int) + 1) + u) ≥ (l.length : Int) then some false else spec_CheckProgram.l0 k l ((i : Int) + 1)) else some false) (fun k => ?_) ?_
      · simp only [spec_CheckProgram.l0]
        rw [if_pos (by omega), if_pos (by omega), rd55 hx, w64 (x := (i : Int) + 1) (by omega) (by omega)]
      · refine Ev.bind e (Ev.pos rfl ?_)
        by_cases h8 : x.f0 = 8
        · exact Ev.pos h8 hr
        · refine Ev.neg h8 ?_
          have hf : ∃ u, spec_l07Far.f x.f0 x.f1 x.f2 x.f3 = some u ∧ 1 + u = farI x ∧ 0 ≤ u ∧ u ≤ 4294967295 := by
            unfold spec_l07Far.f farI
            by_cases h7 : x.f0 = 7
            · rw [if_pos h7, if_neg (by omega), if_pos h7]; exact ⟨_, rfl, rfl, by omega, by omega⟩
            · rw [if_neg h7]
              by_cases ha : 3 ≤ x.f0 ∧ x.f0 ≤ 6
              · rw [if_pos ha]
                by_cases hg : x.f2 > x.f3
                · rw [if_pos hg]; exact ⟨_, rfl, by omega, by omega, by omega⟩
                · rw [if_neg hg]; exact ⟨_, rfl, by omega, by omega, by omega⟩
              · rw [if_neg ha, if_neg h7, if_neg h8]
                by_cases hg : x.f2 > x.f3
                · rw [if_pos hg]; exact ⟨_, rfl, by omega, by omega, by omega⟩
                · rw [if_neg hg]; exact ⟨_, rfl, by omega, by omega, by omega⟩
          obtain ⟨u, e1, e2, e3, e4⟩ := hf
          rw [e1]
          refine Ev.bindc rfl ?_
          rw [w64 (by omega) (by omega)]
          exact Ev.neg (by omega) hr
  · refine Ev.neg (by simp; omega) ?_
    rw [decide_eq_false h, Bool.false_and]; exact Ev.now _
def chkImpl (n : Nat) (i : Nat) (x : S55) : Bool := insOk x && decide ((i : Int) + (if 3 ≤ x.f0 ∧ x.f0 ≤ 6 then 1 + max x.f2 x.f3 else if x.f0 = 7 then 1 + x.f1 else 0) < n)
theorem impl_farthest_of (x : S55) (i n : Nat) (hn : n ≤ 400) (hi : i < n) (h : insOk x = true) : impl_farthest.f x.f0 x.f1 x.f2 x.f3 (i : Int) = some ((i : Int) + (if 3 ≤ x.f0 ∧ x.f0 ≤ 6 then 1 + max x.f2 x.f3 else if x.f0 = 7 then 1 + x.f1 else 0)) := by
  have hx5 := insOk_of h
  unfold impl_farthest.f impl_Ins_asks.f
  simp only [impl_within_of, Option.bind_some, decide_eq_true_eq]
  by_cases ha : 3 ≤ x.f0 ∧ x.f0 ≤ 6
  · rw [if_pos ha, if_pos ha, w64 (x := (i : Int) + 1) (by omega) (by omega), w64 (by omega) (by omega)]
    congr 1; omega
  · rw [if_neg ha, if_neg ha]
    by_cases h7 : x.f0 = 7
    · rw [if_pos h7, if_pos h7, w64 (x := (i : Int) + 1) (by omega) (by omega), w64 (by omega) (by omega)]
      congr 1; omega
    · rw [if_neg h7, if_neg h7]
      rw [Int.add_zero]
theorem impl_CheckProgram_ev (l : List S55) (hn : l.length ≤ 1048576) : Ev (fun k => impl_CheckProgram.f k l) (chk l) := by
  unfold impl_CheckProgram.f chk
  rw [impl_within_of]
  refine Ev.bindc rfl ?_
  by_cases h : 1 ≤ l.length ∧ l.length ≤ 400
  · refine Ev.pos (by simp; omega) ?_
    rw [decide_eq_true h, Bool.true_and, w64 (by omega) (by omega)]
    refine Ev.pos (by omega) (Ev.pos (by omega) ?_)
    rw [show rd_T55 l ((l.length : Int) - 1) = l.getD (l.length - 1) z55 by unfold rd_T55; rw [show ((l.length : Int) - 1).toNat = l.length - 1 by omega]]
    cases hr : lastRet l with
    | false =>
      unfold lastRet at hr
      rw [Bool.and_false]
      refine Ev.neg (by simpa using hr) (Ev.now _)
    | true =>
      have hr' := hr
      unfold lastRet at hr
      refine Ev.pos (by simpa using hr) ?_
      have hcongr : allI (chkOne l.length) 0 l = allI (chkImpl l.length) 0 l := by
        refine allI_congr l 0 fun j x hx => ?_
        have hj := lt_of hx
        unfold chkOne chkImpl
        cases hio : insOk x with
        | false => simp
        | true =>
          have hx5 := insOk_of hio
          simp only [Bool.true_and]
          rw [Bool.eq_iff_iff, decide_eq_true_eq, decide_eq_true_eq]
          unfold farI
          by_cases ha : 3 ≤ x.f0 ∧ x.f0 ≤ 6
          · rw [if_pos ha, if_pos ha]
          · rw [if_neg ha, if_neg ha]
            by_cases h7 : x.f0 = 7
            · rw [if_pos h7, if_pos h7]
            · rw [if_neg h7, if_neg h7]
              by_cases h8 : x.f0 = 8
              · rw [if_pos h8]
              · rw [if_neg h8]
                have : j ≠ l.length - 1 := by
                  intro e
                  apply h8
                  rw [← e, get_of l z55 hx] at hr
                  simpa using hr
                constructor <;> intro _ <;> omega
      rw [hcongr]
      refine allI_ev (fun k i => impl_CheckProgram.l0 k l i) l (chkImpl l.length) true ?_ ?_ ?_
      · refine Ev.step (f := fun _ => some true) (fun k => ?_) (Ev.now _)
        simp only [impl_CheckProgram.l0]; rw [if_neg (by omega)]
      · intro i x hx hp
        have hi := lt_of hx
        unfold chkImpl at hp
        refine Ev.step (fun _ => rfl) ?_
        simp only [impl_CheckProgram.l0]
        rw [rd55 hx]
        refine Ev.pos (by omega) (Ev.pos (by omega) (Ev.bindc (impl_InsOk_of x) ?_))
        cases hio : insOk x with
        | false => exact Ev.neg (by simp) (Ev.now _)
        | true =>
          rw [hio, Bool.true_and] at hp
          have hp' := of_decide_eq_false hp
          refine Ev.pos rfl (Ev.bindc (impl_farthest_of x i l.length (by omega) hi hio) ?_)
          exact Ev.pos (by omega) (Ev.now _)
      · intro i x r hx hp hr
        have hi := lt_of hx
        unfold chkImpl at hp
        rw [Bool.and_eq_true] at hp
        obtain ⟨hio, hp⟩ := hp
        have hp' := of_decide_eq_true hp
        refine Ev.step (fun _ => rfl) ?_
        simp only [impl_CheckProgram.l0]
        rw [rd55 hx, w64 (x := (i : Int) + 1) (by omega) (by omega)]
        refine Ev.pos (by omega) (Ev.pos (by omega) (Ev.bindc (impl_InsOk_of x) ?_))
        rw [hio]
        refine Ev.pos rfl (Ev.bindc (impl_farthest_of x i l.length (by omega) hi hio) ?_)
        exact Ev.neg (by omega) hr
  · refine Ev.neg (by simp; omega) ?_
    rw [decide_eq_false h, Bool.false_and]; exact Ev.now _
/-- What is known of a program that is looked over. -/
theorem chk_of {l : List S55} (h : chk l = true) : (1 ≤ l.length ∧ l.length ≤ 400) ∧ lastRet l = true ∧ ∀ (i : Nat) x, l[i]? = some x → insOk x = true ∧ (i : Int) + farI x < l.length := by
  unfold chk at h
  rw [Bool.and_eq_true, Bool.and_eq_true] at h
  refine ⟨of_decide_eq_true h.1, h.2.2, fun i x hx => ?_⟩
  have := allI_true l 0 h.2.1 i x hx
  unfold chkOne at this
  rw [Bool.and_eq_true] at this
  exact ⟨this.1, by have := of_decide_eq_true this.2; simpa using this⟩
/-- Where one may go from a word. -/
def nextV (x : S55) (i : Int) : List Int :=
  if x.f0 = 8 then [] else if x.f0 = 7 then [i + 1 + x.f1] else if 3 ≤ x.f0 ∧ x.f0 ≤ 6 then (if x.f2 = x.f3 then [i + 1 + x.f2] else [i + 1 + min x.f2 x.f3, i + 1 + max x.f2 x.f3]) else [i + 1]
theorem impl_ways_ev (i : Nat) (x : S55) (hi : i < 400) (hio : insOk x = true) : Ev (fun k => impl_ways.f k x.f0 x.f1 x.f2 x.f3 (i : Int)) (nextV x i) := by
  have hx5 := insOk_of hio
  refine ⟨1, fun k hk => ?_⟩
  obtain ⟨k, rfl⟩ : ∃ m, k = m + 1 := ⟨k - 1, by omega⟩
  unfold impl_ways.f nextV
  simp only [impl_ways.j0, impl_Ins_asks.f, impl_within_of, Option.bind_some, decide_eq_true_eq]
  rw [w64 (x := (i : Int) + 1) (by omega) (by omega)]
  by_cases h8 : x.f0 = 8
  · rw [if_pos h8, if_pos h8]
  · rw [if_neg h8, if_neg h8]
    by_cases h7 : x.f0 = 7
    · rw [if_pos h7, if_pos h7, w64 (by omega) (by omega)]
    · rw [if_neg h7, if_neg h7]
      by_cases ha : 3 ≤ x.f0 ∧ x.f0 ≤ 6
      · rw [if_pos ha, if_pos ha]
        by_cases he : x.f2 = x.f3
        · rw [if_neg (by simp [he]), if_pos ha, if_pos he, w64 (by omega) (by omega)]
        · rw [if_pos (by simp [he]), if_neg he, w64 (by omega) (by omega), w64 (by omega) (by omega)]
          (try rw [if_pos ha])
      · rw [if_neg ha, if_neg ha, if_neg (by simp), if_neg ha]
def mark (q : List Bool) (ks : List Int) : List Bool := ks.foldl (fun q k => q.set k.toNat true) q
theorem mark_length : ∀ (ks : List Int) (q : List Bool), (mark q ks).length = q.length
  | [], q => rfl
  | k :: ks, q => by show (mark (q.set k.toNat true) ks).length = _; rw [mark_length ks]; simp
def reachOne (x : S55) (i : Nat) (q : List Bool) : List Bool := if q.getD i false = true then mark q (nextV x (i : Int)) else q
theorem reachOne_length (x : S55) (i : Nat) (q : List Bool) : (reachOne x i q).length = q.length := by unfold reachOne; split; exact mark_length _ _; rfl
def reachF : List S55 → Nat → List Bool → List Bool
  | [], _, q => q
  | x :: r, i, q => reachF r (i + 1) (reachOne x i q)
theorem reachF_length : ∀ (l : List S55) (i : Nat) (q : List Bool), (reachF l i q).length = q.length
  | [], _, _ => rfl
  | x :: r, i, q => by show (reachF r (i + 1) (reachOne x i q)).length = _; rw [reachF_length r, reachOne_length]
def reachV (l : List S55) : List Bool := if chk l = true then reachF l 0 ((List.replicate l.length false).set 0 true) else []
theorem reachV_length (l : List S55) : (reachV l).length ≤ l.length := by
  unfold reachV
  split
  · rw [reachF_length]; simp
  · simp
theorem rdB {q : List Bool} {i : Nat} : rdOf false q (i : Int) = q.getD i false := by unfold rdOf; rw [Int.toNat_natCast]
theorem next_bound {x : S55} {i n : Nat} (hio : insOk x = true) (hf : (i : Int) + farI x < n) : ∀ k ∈ nextV x (i : Int), (i : Int) < k ∧ k < (n : Int) := by
  obtain ⟨hx0, hx1, hx2, hx3, -⟩ := insOk_of hio
  intro k hk
  unfold nextV at hk
  unfold farI at hf
  by_cases h8 : x.f0 = 8
  · rw [if_pos h8] at hk; simp at hk
  · rw [if_neg h8] at hk
    by_cases h7 : x.f0 = 7
    · rw [if_pos h7] at hk
      rw [if_neg (by omega), if_pos h7] at hf
      simp at hk; omega
    · rw [if_neg h7] at hk
      by_cases ha : 3 ≤ x.f0 ∧ x.f0 ≤ 6
      · rw [if_pos ha] at hk hf
        by_cases he : x.f2 = x.f3
        · rw [if_pos he] at hk; simp at hk; omega
        · rw [if_neg he] at hk
          simp only [List.mem_cons, List.not_mem_nil, or_false] at hk
          omega
      · rw [if_neg ha] at hk hf
        rw [if_neg h7, if_neg h8] at hf
        simp at hk; omega
theorem spec_reach_loop (l : List S55) (hl : chk l = true) : ∀ (d i : Nat) (q : List Bool), l.length - i = d → i ≤ l.length → q.length = l.length → Ev (fun k => spec_Reached.l0 k l q (i : Int)) (reachF (l.drop i) i q) := by
  obtain ⟨c1, _, c3⟩ := chk_of hl
  intro d
  induction d with
  | zero =>
    intro i q hd hi hq
    rw [List.drop_eq_nil_of_le (by omega)]
    refine Ev.step (fun _ => rfl) ?_
    simp only [spec_Reached.l0]; exact Ev.neg (by omega) (Ev.now _)
  | succ d ih =>
    intro i q hd hi hq
    have hx : l[i]? = some l[i] := List.getElem?_eq_getElem (by omega)
    rw [List.drop_eq_getElem_cons (by omega)]
    generalize l[i] = x at hx
    obtain ⟨hio, hf⟩ := c3 i x hx
    obtain ⟨hx0, hx1, hx2, hx3, -⟩ := insOk_of hio
    have hb := next_bound (n := l.length) hio hf
    have nx : ∀ q' : List Bool, q'.length = l.length → Ev (fun k => spec_Reached.l0 k l q' ((i : Int) + 1)) (reachF (l.drop (i + 1)) (i + 1) q') := fun q' h => by
      have := ih (i + 1) q' (by omega) (by omega) h
      simpa using this
    show Ev _ (reachF (l.drop (i + 1)) (i + 1) (reachOne x i q))
    refine Ev.step (fun _ => rfl) ?_
    simp only [spec_Reached.l0]
    rw [rd55 hx, w64 (x := (i : Int) + 1) (by omega) (by omega), rdB]
    refine Ev.pos (by omega) (Ev.pos (by omega) (Ev.pos (by omega) ?_))
    unfold reachOne
    by_cases hq1 : q.getD i false = true
    · rw [if_pos hq1]
      refine Ev.pos hq1 ?_
      by_cases h8 : x.f0 = 8
      · refine Ev.pos h8 ?_
        rw [show nextV x (i : Int) = [] by unfold nextV; rw [if_pos h8]]
        exact nx q hq
      · refine Ev.neg h8 ?_
        by_cases h7 : x.f0 = 7
        · have e : nextV x (i : Int) = [(i : Int) + 1 + x.f1] := by unfold nextV; rw [if_neg h8, if_pos h7]
          have hb1 := hb ((i : Int) + 1 + x.f1) (by rw [e]; simp)
          rw [e, w64 (x := (i : Int) + 1 + x.f1) (by omega) (by omega)]
          exact Ev.pos h7 (Ev.pos (by omega) (Ev.pos (by omega) (nx _ (by simp [hq]))))
        · have hfar : (i : Int) + 1 + x.f2 < l.length ∧ (i : Int) + 1 + x.f3 < l.length := by
            unfold farI at hf
            by_cases ha : 3 ≤ x.f0 ∧ x.f0 ≤ 6
            · rw [if_pos ha] at hf; omega
            · have h2 : x.f2 = 0 ∧ x.f3 = 0 := (insOk_of hio).2.2.2.2.1.resolve_left ha
              rw [if_neg ha, if_neg h7, if_neg h8] at hf; omega
          have e : mark q (nextV x (i : Int)) = (q.set ((i : Int) + 1 + x.f2).toNat true).set ((i : Int) + 1 + x.f3).toNat true := by
            unfold nextV
            rw [if_neg h8, if_neg h7]
            by_cases ha : 3 ≤ x.f0 ∧ x.f0 ≤ 6
            · rw [if_pos ha]
              by_cases he : x.f2 = x.f3
              · rw [if_pos he, he, List.set_set]; rfl
              · rw [if_neg he]
                by_cases hlt : x.f2 < x.f3
                · rw [Int.min_eq_left (by omega), Int.max_eq_right (by omega)]; rfl
                · rw [Int.min_eq_right (by omega), Int.max_eq_left (by omega), List.set_comm _ _ (by omega)]; rfl
            · rw [if_neg ha]
              have h2 : x.f2 = 0 ∧ x.f3 = 0 := (insOk_of hio).2.2.2.2.1.resolve_left ha
              rw [h2.1, h2.2, List.set_set, Int.add_zero]; rfl
          rw [e, w64 (x := (i : Int) + 1 + x.f2) (by omega) (by omega), w64 (x := (i : Int) + 1 + x.f3) (by omega) (by omega)]
          exact Ev.neg h7 (Ev.pos (by omega) (Ev.pos (by omega) (Ev.pos (by omega) (Ev.pos (by omega) (nx _ (by simp [hq]))))))
    · rw [if_neg hq1]
      exact Ev.neg hq1 (nx q hq)
theorem impl_mark_loop (l : List S55) (i : Nat) (ks : List Int) (hk : ∀ k ∈ ks, 0 ≤ k ∧ k < (l.length : Int)) (hl : l.length ≤ 400) (hi : i < l.length) (hks : ks.length ≤ 2) (r : List Bool) : ∀ (d j : Nat) (q : List Bool), ks.length - j = d → j ≤ ks.length → q.length = l.length →
    Ev (fun k => impl_Reached.l1 k l (mark q (ks.drop j)) ((i : Int) + 1)) r → Ev (fun k => impl_Reached.l0 k l (i : Int) ks q (j : Int)) r := by
  intro d
  induction d with
  | zero =>
    intro j q hd hj hq h
    rw [List.drop_eq_nil_of_le (by omega)] at h
    refine Ev.step (fun _ => rfl) ?_
    simp only [impl_Reached.l0]
    rw [w64 (x := (i : Int) + 1) (by omega) (by omega)]
    exact Ev.neg (by omega) h
  | succ d ih =>
    intro j q hd hj hq h
    have hx : ks[j]? = some ks[j] := List.getElem?_eq_getElem (by omega)
    rw [List.drop_eq_getElem_cons (by omega)] at h
    have hb := hk ks[j] (List.getElem_mem _)
    generalize ks[j] = y at hx h hb
    have e : rd ks (j : Int) = y := by unfold rd; exact get_of ks 0 hx
    refine Ev.step (fun _ => rfl) ?_
    simp only [impl_Reached.l0]
    rw [e, w64 (x := (j : Int) + 1) (by omega) (by omega)]
    have := ih (j + 1) (q.set y.toNat true) (by omega) (by omega) (by simp [hq]) h
    exact Ev.pos (by omega) (Ev.pos (by omega) (Ev.pos hb.1 (Ev.pos (by omega) (by simpa using this))))
theorem nextV_len (x : S55) (i : Int) : (nextV x i).length ≤ 2 := by
  unfold nextV
  repeat' split
  all_goals simp
theorem impl_reach_loop (l : List S55) (hl : chk l = true) : ∀ (d i : Nat) (q : List Bool), l.length - i = d → i ≤ l.length → q.length = l.length → Ev (fun k => impl_Reached.l1 k l q (i : Int)) (reachF (l.drop i) i q) := by
  obtain ⟨c1, _, c3⟩ := chk_of hl
  intro d
  induction d with
  | zero =>
    intro i q hd hi hq
    rw [List.drop_eq_nil_of_le (by omega)]
    refine Ev.step (fun _ => rfl) ?_
    simp only [impl_Reached.l1]; exact Ev.neg (by omega) (Ev.now _)
  | succ d ih =>
    intro i q hd hi hq
    have hx : l[i]? = some l[i] := List.getElem?_eq_getElem (by omega)
    rw [List.drop_eq_getElem_cons (by omega)]
    generalize l[i] = x at hx
    obtain ⟨hio, hf⟩ := c3 i x hx
    have hb := next_bound (n := l.length) hio hf
    have nx : ∀ q' : List Bool, q'.length = l.length → Ev (fun k => impl_Reached.l1 k l q' ((i : Int) + 1)) (reachF (l.drop (i + 1)) (i + 1) q') := fun q' h => by
      have := ih (i + 1) q' (by omega) (by omega) h
      simpa using this
    show Ev _ (reachF (l.drop (i + 1)) (i + 1) (reachOne x i q))
    refine Ev.step (fun _ => rfl) ?_
    simp only [impl_Reached.l1]
    rw [rd55 hx, w64 (x := (i : Int) + 1) (by omega) (by omega), rdB]
    refine Ev.pos (by omega) (Ev.pos (by omega) (Ev.pos (by omega) ?_))
    unfold reachOne
    by_cases hq1 : q.getD i false = true
    · rw [if_pos hq1]
      refine Ev.pos hq1 (Ev.bind (impl_ways_ev i x (by omega) hio) ?_)
      refine impl_mark_loop l i (nextV x i) (fun k hk => by have := hb k hk; omega) c1.2 (by omega) (nextV_len _ _) _ _ 0 q rfl (Nat.zero_le _) hq ?_
      rw [List.drop_zero]
      exact nx _ (by rw [mark_length]; exact hq)
    · rw [if_neg hq1]
      exact Ev.neg hq1 (nx q hq)
theorem spec_Reached_ev (l : List S55) (hn : l.length ≤ 1048576) : Ev (fun k => spec_Reached.f k l) (reachV l) := by
  unfold spec_Reached.f reachV
  refine Ev.bind (spec_CheckProgram_ev l hn) ?_
  cases h : chk l with
  | false => rw [if_neg (by simp)]; exact Ev.neg (by simp) (Ev.now _)
  | true =>
    obtain ⟨c1, _, _⟩ := chk_of h
    rw [if_pos rfl, Int.toNat_natCast]
    have := spec_reach_loop l h _ 0 ((List.replicate l.length false).set 0 true) rfl (Nat.zero_le _) (by simp)
    exact Ev.pos rfl (Ev.pos (by omega) (Ev.pos (by omega) (Ev.pos (by simp; omega) (by simpa using this))))
theorem impl_Reached_ev (l : List S55) (hn : l.length ≤ 1048576) : Ev (fun k => impl_Reached.f k l) (reachV l) := by
  unfold impl_Reached.f reachV
  refine Ev.bind (impl_CheckProgram_ev l hn) ?_
  cases h : chk l with
  | false => rw [if_neg (by simp)]; exact Ev.neg (by simp) (Ev.now _)
  | true =>
    obtain ⟨c1, _, _⟩ := chk_of h
    rw [if_pos rfl, Int.toNat_natCast]
    have := impl_reach_loop l h _ 0 ((List.replicate l.length false).set 0 true) rfl (Nat.zero_le _) (by simp)
    exact Ev.pos rfl (Ev.pos (by omega) (Ev.pos (by omega) (Ev.pos (by simp; omega) (by simpa using this))))
/-! Numbers in their order, each once. -/
def insV (n : Int) : List Int → List Int
  | [] => [n]
  | x :: r => if n < x then n :: x :: r else x :: insV n r
theorem insV_mem (n : Int) : ∀ (l : List Int) (y : Int), y ∈ insV n l ↔ y = n ∨ y ∈ l
  | [], y => by simp [insV]
  | x :: r, y => by
    unfold insV
    split
    · simp
    · rw [List.mem_cons, insV_mem n r, List.mem_cons]
      constructor
      · rintro (h | h | h)
        · exact .inr (.inl h)
        · exact .inl h
        · exact .inr (.inr h)
      · rintro (h | h | h)
        · exact .inr (.inl h)
        · exact .inl h
        · exact .inr (.inr h)
theorem insV_length (n : Int) : ∀ l : List Int, (insV n l).length = l.length + 1
  | [] => rfl
  | x :: r => by
    unfold insV
    split
    · rfl
    · simp [insV_length n r]
theorem insV_sorted (n : Int) : ∀ (l : List Int), l.Pairwise (· < ·) → n ∉ l → (insV n l).Pairwise (· < ·)
  | [], _, _ => by simp [insV]
  | x :: r, h, hn => by
    rw [List.pairwise_cons] at h
    unfold insV
    split
    · next hlt =>
      rw [List.pairwise_cons, List.pairwise_cons]
      exact ⟨fun y hy => by rcases List.mem_cons.1 hy with rfl | hy; exact hlt; have := h.1 y hy; omega, h⟩
    · next hge =>
      rw [List.pairwise_cons]
      refine ⟨fun y hy => ?_, insV_sorted n r h.2 (fun hm => hn (List.mem_cons_of_mem _ hm))⟩
      rcases (insV_mem n r y).1 hy with rfl | hy
      · have : y ≠ x := fun e => hn (by rw [e]; exact List.mem_cons_self)
        omega
      · exact h.1 y hy
def putOne (out : List Int) (n : Int) : List Int := if n ∈ out then out else insV n out
theorem sorted_eq : ∀ (a b : List Int), a.Pairwise (· < ·) → b.Pairwise (· < ·) → (∀ x, x ∈ a ↔ x ∈ b) → a = b
  | [], [], _, _, _ => rfl
  | [], y :: b, _, _, h => by have := (h y).2 List.mem_cons_self; simp at this
  | x :: a, [], _, _, h => by have := (h x).1 List.mem_cons_self; simp at this
  | x :: a, y :: b, ha, hb, h => by
    rw [List.pairwise_cons] at ha hb
    have hxy : x = y := by
      have h1 := (h x).1 List.mem_cons_self
      have h2 := (h y).2 List.mem_cons_self
      rcases List.mem_cons.1 h1 with h1 | h1
      · exact h1
      · rcases List.mem_cons.1 h2 with h2 | h2
        · exact h2.symm
        · have := hb.1 x h1; have := ha.1 y h2; omega
    subst hxy
    refine congrArg _ (sorted_eq a b ha.2 hb.2 fun z => ?_)
    constructor
    · intro hz
      have := ha.1 z hz
      rcases List.mem_cons.1 ((h z).1 (List.mem_cons_of_mem _ hz)) with rfl | hz'
      · omega
      · exact hz'
    · intro hz
      have := hb.1 z hz
      rcases List.mem_cons.1 ((h z).2 (List.mem_cons_of_mem _ hz)) with rfl | hz'
      · omega
      · exact hz'
theorem fold_put : ∀ (ks out : List Int), out.Pairwise (· < ·) → (ks.foldl putOne out).Pairwise (· < ·) ∧ ∀ x, x ∈ ks.foldl putOne out ↔ x ∈ ks ∨ x ∈ out
  | [], out, h => ⟨h, fun x => by simp⟩
  | k :: ks, out, h => by
    have h1 : (putOne out k).Pairwise (· < ·) ∧ ∀ x, x ∈ putOne out k ↔ x = k ∨ x ∈ out := by
      unfold putOne
      split
      · next hk => exact ⟨h, fun x => ⟨.inr, fun hx => by rcases hx with rfl | hx; exact hk; exact hx⟩⟩
      · next hk => exact ⟨insV_sorted k out h hk, insV_mem k out⟩
    obtain ⟨h2, h3⟩ := fold_put ks (putOne out k) h1.1
    refine ⟨h2, fun x => ?_⟩
    show x ∈ ks.foldl putOne (putOne out k) ↔ _
    rw [h3, h1.2, List.mem_cons]
    constructor
    · rintro (h | h | h)
      · exact .inl (.inr h)
      · exact .inl (.inl h)
      · exact .inr h
    · rintro ((h | h) | h)
      · exact .inr (.inl h)
      · exact .inl h
      · exact .inr (.inr h)
theorem compact_sorted (l : List Int) (h : l.Pairwise (· ≤ ·)) : (Go.Lib.compact l).Pairwise (· < ·) ∧ ∀ x, x ∈ Go.Lib.compact l ↔ x ∈ l := by
  have get : ∀ j, (hj : j < l.length) → l.toArray[j]! = l[j] := fun j hj => by simp [hj]
  have key : ∀ m, m ≤ l.length → (Go.Lib.compactUpTo l.toArray m).Pairwise (· < ·) ∧ ∀ x, x ∈ Go.Lib.compactUpTo l.toArray m ↔ ∃ j, ∃ hj : j < l.length, j < m ∧ l[j] = x := by
    intro m
    induction m with
    | zero => intro _; exact ⟨by simp [Go.Lib.compactUpTo], fun x => by simp [Go.Lib.compactUpTo]⟩
    | succ m ih =>
      intro hm
      obtain ⟨h1, h2⟩ := ih (by omega)
      have hml : m < l.length := by omega
      rw [Go.Lib.compactUpTo_succ, get m hml]
      have hk : Go.Lib.keeps l.toArray m = decide (m = 0 ∨ l[m] ≠ l.toArray[m - 1]!) := by unfold Go.Lib.keeps; rw [get m hml]
      by_cases hc : m = 0 ∨ l[m] ≠ l.toArray[m - 1]!
      · rw [hk, decide_eq_true hc, if_pos rfl]
        constructor
        · rw [List.pairwise_append]
          refine ⟨h1, List.pairwise_singleton _ _, fun x hx y hy => ?_⟩
          rw [List.mem_singleton] at hy
          subst hy
          obtain ⟨j, hj, hjm, rfl⟩ := (h2 x).1 hx
          rcases hc with hc | hc
          · omega
          · rw [get (m - 1) (by omega)] at hc
            have e1 : l[m - 1] ≤ l[m] := List.pairwise_iff_getElem.1 h (m - 1) m (by omega) hml (by omega)
            have e2 : l[j] ≤ l[m - 1] := by
              by_cases hjm' : j = m - 1
              · subst hjm'; exact Int.le_refl _
              · exact List.pairwise_iff_getElem.1 h j (m - 1) hj (by omega) (by omega)
            omega
        · intro x
          rw [List.mem_append, h2, List.mem_singleton]
          constructor
          · rintro (⟨j, hj, hjm, e⟩ | rfl)
            · exact ⟨j, hj, by omega, e⟩
            · exact ⟨m, hml, by omega, rfl⟩
          · rintro ⟨j, hj, hjm, e⟩
            by_cases hjm' : j = m
            · subst hjm'; exact .inr e.symm
            · exact .inl ⟨j, hj, by omega, e⟩
      · rw [hk, decide_eq_false hc, if_neg (by simp), List.append_nil]
        refine ⟨h1, fun x => ?_⟩
        rw [h2]
        have hc1 : m ≠ 0 := fun e => hc (.inl e)
        have hc2 : l[m] = l[m - 1] := by
          have h3 : l[m] = l.toArray[m - 1]! := Classical.byContradiction fun e => hc (.inr e)
          rw [get (m - 1) (by omega)] at h3
          exact h3
        constructor
        · rintro ⟨j, hj, hjm, e⟩; exact ⟨j, hj, by omega, e⟩
        · rintro ⟨j, hj, hjm, e⟩
          by_cases hjm' : j = m
          · subst hjm'; exact ⟨j - 1, by omega, by omega, by rw [← hc2]; exact e⟩
          · exact ⟨j, hj, by omega, e⟩
  obtain ⟨h1, h2⟩ := key l.length (Nat.le_refl _)
  refine ⟨h1, fun x => (h2 x).trans ?_⟩
  constructor
  · rintro ⟨j, hj, _, rfl⟩; exact List.getElem_mem _
  · intro hx
    obtain ⟨j, hj, rfl⟩ := List.getElem_of_mem hx
    exact ⟨j, hj, hj, rfl⟩
theorem sort_compact (ks : List Int) : Go.Lib.compact (ks.mergeSort fun x y => decide (x ≤ y)) = ks.foldl putOne [] := by
  have hs : (ks.mergeSort fun x y => decide (x ≤ y)).Pairwise (· ≤ ·) := by
    have := List.pairwise_mergeSort (le := fun x y : Int => decide (x ≤ y)) (fun a b c h1 h2 => by simp at h1 h2 ⊢; omega) (fun a b => by simp; omega) ks
    exact this.imp (fun h => by simpa using h)
  obtain ⟨h1, h2⟩ := compact_sorted _ hs
  obtain ⟨h3, h4⟩ := fold_put ks [] List.Pairwise.nil
  refine sorted_eq _ _ h1 h3 fun x => ?_
  rw [h2, h4, List.mem_mergeSort]
  simp
/-- The numbers of words of a kind that are reached. -/
def numsF (op : Int) : List S55 → List Bool → List Int
  | x :: r, b :: q => if b = true ∧ x.f0 = op then x.f1 :: numsF op r q else numsF op r q
  | _, _ => []
theorem numsF_length (op : Int) : ∀ (l : List S55) (q : List Bool), (numsF op l q).length ≤ l.length
  | [], _ => by simp [numsF]
  | x :: r, [] => by simp [numsF]
  | x :: r, b :: q => by
    unfold numsF
    have := numsF_length op r q
    split <;> simp <;> omega
theorem fold_put_length : ∀ (ks out : List Int), (ks.foldl putOne out).length ≤ out.length + ks.length
  | [], out => by simp
  | k :: ks, out => by
    show (ks.foldl putOne (putOne out k)).length ≤ _
    have h1 := fold_put_length ks (putOne out k)
    have h2 : (putOne out k).length ≤ out.length + 1 := by unfold putOne; split; omega; rw [insV_length]; omega
    simp only [List.length_cons]; omega
theorem spec_l09In_ev (l : List Int) (n : Int) (hl : l.length ≤ 1048576) : Ev (fun k => spec_l09In.f k l n) (decide (n ∈ l)) := by
  unfold spec_l09In.f
  have key : ∀ (d i : Nat), l.length - i = d → i ≤ l.length → Ev (fun k => spec_l09In.l0 k l n (i : Int)) (decide (n ∈ l.drop i)) := by
    intro d
    induction d with
    | zero =>
      intro i hd hi
      rw [List.drop_eq_nil_of_le (by omega)]
      refine Ev.step (fun _ => rfl) ?_
      simp only [spec_l09In.l0]; exact Ev.neg (by omega) (Ev.some_ (by simp))
    | succ d ih =>
      intro i hd hi
      have hx : l[i]? = some l[i] := List.getElem?_eq_getElem (by omega)
      rw [List.drop_eq_getElem_cons (by omega)]
      generalize l[i] = x at hx
      have e : rd l (i : Int) = x := by unfold rd; exact get_of l 0 hx
      refine Ev.step (fun _ => rfl) ?_
      simp only [spec_l09In.l0]
      rw [e, w64 (x := (i : Int) + 1) (by omega) (by omega)]
      refine Ev.pos (by omega) (Ev.pos (by omega) ?_)
      by_cases h : x = n
      · exact Ev.pos h (Ev.some_ (by simp [h]))
      · refine Ev.neg h ?_
        have := ih (i + 1) (by omega) (by omega)
        have h2 : decide (n ∈ x :: l.drop (i + 1)) = decide (n ∈ l.drop (i + 1)) := by
          have : (n ∈ x :: l.drop (i + 1)) ↔ n ∈ l.drop (i + 1) := by rw [List.mem_cons]; exact ⟨fun h' => by rcases h' with h' | h'; exact absurd h'.symm h; exact h', .inr⟩
          simp only [this]
        rw [h2]
        simpa using this
  have := key l.length 0 rfl (Nat.zero_le _)
  simpa using this
theorem spec_l23Put_ev (l : List Int) (n : Int) (hl : l.length ≤ 1048576) : Ev (fun k => spec_l23Put.f k l n) (insV n l) := by
  unfold spec_l23Put.f
  have key : ∀ (d i : Nat) (out : List Int), l.length - i = d → i ≤ l.length → out.length ≤ i + 1 → Ev (fun k => spec_l23Put.l0 k l n out true (i : Int)) (out ++ l.drop i) ∧ (out.length ≤ i → Ev (fun k => spec_l23Put.l0 k l n out false (i : Int)) (out ++ insV n (l.drop i))) := by
    intro d
    induction d with
    | zero =>
      intro i out hd hi ho
      rw [List.drop_eq_nil_of_le (by omega)]
      refine ⟨Ev.step (fun _ => rfl) ?_, fun ho' => Ev.step (fun _ => rfl) ?_⟩
      · simp only [spec_l23Put.l0]; exact Ev.neg (by omega) (Ev.pos (by first | trivial | rfl) (Ev.some_ (by simp)))
      · simp only [spec_l23Put.l0]; exact Ev.neg (by omega) (Ev.neg (by simp) (Ev.pos (by simp; omega) (Ev.now _)))
    | succ d ih =>
      intro i out hd hi ho
      have hx : l[i]? = some l[i] := List.getElem?_eq_getElem (by omega)
      rw [List.drop_eq_getElem_cons (by omega)]
      generalize l[i] = x at hx
      have e : rd l (i : Int) = x := by unfold rd; exact get_of l 0 hx
      have j : ∀ (o : List Int) (b : Bool) r, o.length ≤ i + 1 → Ev (fun k => spec_l23Put.l0 k l n (o ++ [x]) b ((i + 1 : Nat) : Int)) r → Ev (fun k => spec_l23Put.j0 k l n (i : Int) o b) r := fun o b r ho h => by
        refine Ev.step (fun _ => rfl) ?_
        simp only [spec_l23Put.j0]; rw [e, w64 (x := (i : Int) + 1) (by omega) (by omega)]
        exact Ev.pos (by omega) (Ev.pos (by simp; omega) h)
      refine ⟨Ev.step (fun _ => rfl) ?_, fun ho' => Ev.step (fun _ => rfl) ?_⟩
      · simp only [spec_l23Put.l0]
        have := (ih (i + 1) (out ++ [x]) (by omega) (by omega) (by simp; omega)).1
        exact Ev.pos (by omega) (Ev.pos (by first | trivial | rfl) (j out true _ ho (by simpa using this)))
      · simp only [spec_l23Put.l0]
        rw [e]
        refine Ev.pos (by omega) (Ev.neg (by simp) (Ev.pos (by omega) ?_))
        unfold insV
        by_cases hlt : n < x
        · rw [if_pos hlt]
          have := (ih (i + 1) (out ++ [n] ++ [x]) (by omega) (by omega) (by simp; omega)).1
          exact Ev.pos hlt (Ev.pos (by simp; omega) (j _ _ _ (by simp; omega) (by simpa using this)))
        · rw [if_neg hlt]
          have := (ih (i + 1) (out ++ [x]) (by omega) (by omega) (by simp; omega)).2 (by simp; omega)
          exact Ev.neg hlt (j _ _ _ (by omega) (by simpa using this))
  have := (key l.length 0 [] rfl (Nat.zero_le _) (by simp)).2 (by simp)
  simpa using this
theorem spec_said_loop (l : List S55) (op : Int) (R : List Bool) (hl : l.length ≤ 1048576) (hR : R.length ≤ l.length) : ∀ (d i : Nat) (out : List Int), R.length - i = d → i ≤ R.length → out.length ≤ i → Ev (fun k => spec_l23Said.l0 k l op R out (i : Int)) ((numsF op (l.drop i) (R.drop i)).foldl putOne out) := by
  intro d
  induction d with
  | zero =>
    intro i out hd hi ho
    rw [show R.drop i = [] from List.drop_eq_nil_of_le (by omega)]
    refine Ev.step (fun _ => rfl) ?_
    simp only [spec_l23Said.l0]
    refine Ev.neg (by omega) (Ev.some_ ?_)
    cases l.drop i <;> rfl
  | succ d ih =>
    intro i out hd hi ho
    have hx : l[i]? = some l[i] := List.getElem?_eq_getElem (by omega)
    have hb : R[i]? = some R[i] := List.getElem?_eq_getElem (by omega)
    rw [List.drop_eq_getElem_cons (l := R) (by omega), List.drop_eq_getElem_cons (l := l) (by omega)]
    generalize l[i] = x at hx
    generalize R[i] = b at hb
    have e : rdOf false R (i : Int) = b := by rw [rdB]; exact get_of R false hb
    refine Ev.step (fun _ => rfl) ?_
    simp only [spec_l23Said.l0]
    rw [rd55 hx, e, w64 (x := (i : Int) + 1) (by omega) (by omega), show (i : Int) + 1 = ((i + 1 : Nat) : Int) from rfl]
    refine Ev.pos (by omega) (Ev.pos (by omega) ?_)
    unfold numsF
    have nx := ih (i + 1) out (by omega) (by omega) (by omega)
    by_cases hbt : b = true
    · refine Ev.pos hbt (Ev.pos (by omega) ?_)
      by_cases hop : x.f0 = op
      · rw [if_pos ⟨hbt, hop⟩, List.foldl_cons]
        refine Ev.pos hop (Ev.bind (spec_l09In_ev out x.f1 (by omega)) ?_)
        unfold putOne
        by_cases hm : x.f1 ∈ out
        · rw [if_pos hm]
          exact Ev.pos (decide_eq_true hm) nx
        · rw [if_neg hm]
          exact Ev.neg (by simp [hm]) (Ev.bind (spec_l23Put_ev out x.f1 (by omega)) (ih (i + 1) _ (by omega) (by omega) (by rw [insV_length]; omega)))
      · rw [if_neg (fun h => hop h.2)]
        exact Ev.neg hop nx
    · rw [if_neg (fun h => hbt h.1)]
      exact Ev.neg hbt nx
theorem impl_nums_loop (l : List S55) (op : Int) (R : List Bool) (hl : l.length ≤ 1048576) (hR : R.length ≤ l.length) : ∀ (d i : Nat) (out : List Int), R.length - i = d → i ≤ R.length → out.length ≤ i → Ev (fun k => impl_numbersIn.l0 k l op R out (i : Int)) (Go.Lib.compact ((out ++ numsF op (l.drop i) (R.drop i)).mergeSort fun x y => decide (x ≤ y))) := by
  intro d
  induction d with
  | zero =>
    intro i out hd hi ho
    rw [show R.drop i = [] from List.drop_eq_nil_of_le (by omega)]
    refine Ev.step (fun _ => rfl) ?_
    simp only [impl_numbersIn.l0]
    rw [show out ++ numsF op (l.drop i) [] = out by cases l.drop i <;> simp [numsF]]
    refine Ev.neg (by omega) (Ev.bindc (x := out.mergeSort fun x y => decide (x ≤ y)) ?_ (Ev.bindc (x := Go.Lib.compact (out.mergeSort fun x y => decide (x ≤ y))) ?_ (Ev.now _)))
    · unfold slices_Sort_int_int.f; rw [if_pos (by omega)]
    · unfold slices_Compact_int_int.f; rw [if_pos (by rw [List.length_mergeSort]; omega)]
  | succ d ih =>
    intro i out hd hi ho
    have hx : l[i]? = some l[i] := List.getElem?_eq_getElem (by omega)
    have hb : R[i]? = some R[i] := List.getElem?_eq_getElem (by omega)
    rw [List.drop_eq_getElem_cons (l := R) (by omega), List.drop_eq_getElem_cons (l := l) (by omega)]
    generalize l[i] = x at hx
    generalize R[i] = b at hb
    have e : rdOf false R (i : Int) = b := by rw [rdB]; exact get_of R false hb
    refine Ev.step (fun _ => rfl) ?_
    simp only [impl_numbersIn.l0]
    rw [rd55 hx, e, w64 (x := (i : Int) + 1) (by omega) (by omega), show (i : Int) + 1 = ((i + 1 : Nat) : Int) from rfl]
    refine Ev.pos (by omega) (Ev.pos (by omega) ?_)
    unfold numsF
    have nx := ih (i + 1) out (by omega) (by omega) (by omega)
    by_cases hbt : b = true
    · refine Ev.pos hbt (Ev.pos (by omega) ?_)
      by_cases hop : x.f0 = op
      · rw [if_pos ⟨hbt, hop⟩]
        have := ih (i + 1) (out ++ [x.f1]) (by omega) (by omega) (by simp; omega)
        rw [List.append_assoc, List.singleton_append] at this
        exact Ev.pos hop (Ev.pos (by simp; omega) this)
      · rw [if_neg (fun h => hop h.2)]
        exact Ev.neg hop nx
    · rw [if_neg (fun h => hbt h.1)]
      exact Ev.neg hbt nx
/-- What ResultsIn and FieldsRead tell. -/
def saidV (l : List S55) (op : Int) : List Int := (numsF op l (reachV l)).foldl putOne []
theorem saidV_length (l : List S55) (op : Int) : (saidV l op).length ≤ l.length := by
  unfold saidV
  have h1 := fold_put_length (numsF op l (reachV l)) []
  have h2 := numsF_length op l (reachV l)
  simp at h1; omega
theorem spec_l23Said_ev (l : List S55) (op : Int) (hn : l.length ≤ 1048576) : Ev (fun k => spec_l23Said.f k l op) (saidV l op) := by
  unfold spec_l23Said.f
  refine Ev.bind (spec_Reached_ev l hn) ?_
  have := spec_said_loop l op (reachV l) hn (reachV_length l) _ 0 [] rfl (Nat.zero_le _) (by simp)
  simpa [saidV] using this
theorem impl_numbersIn_ev (l : List S55) (op : Int) (hn : l.length ≤ 1048576) : Ev (fun k => impl_numbersIn.f k l op) (saidV l op) := by
  unfold impl_numbersIn.f
  refine Ev.bind (impl_Reached_ev l hn) ?_
  have := impl_nums_loop l op (reachV l) hn (reachV_length l) _ 0 [] rfl (Nat.zero_le _) (by simp)
  rw [List.nil_append, List.drop_zero, List.drop_zero, sort_compact] at this
  simpa [saidV] using this
/-- Ends with enough rounds, and what comes out is so. -/
def Tot {α : Type} (g : Nat → Option α) (P : α → Prop) : Prop := ∃ r, Ev g r ∧ P r
section
variable {α β : Type} {P Q : α → Prop} {R : β → Prop}
theorem Tot.now {r : α} (h : P r) : Tot (fun _ => some r) P := ⟨r, Ev.now r, h⟩
theorem Tot.bind {g : Nat → Option α} {f : Nat → α → Option β} (h : Tot g P) (k : ∀ a, P a → Tot (fun n => f n a) R) : Tot (fun n => (g n).bind (f n)) R := by
  obtain ⟨a, ha, hp⟩ := h
  obtain ⟨r, hr, h⟩ := k a hp
  exact ⟨r, Ev.bind ha hr, h⟩
theorem Tot.bindc {a : Option α} {f : Nat → α → Option β} (h : ∃ x, a = some x ∧ P x) (k : ∀ x, P x → Tot (fun n => f n x) R) : Tot (fun n => a.bind (f n)) R := by
  obtain ⟨a, ha, hp⟩ := h
  obtain ⟨r, hr, h⟩ := k a hp
  exact ⟨r, Ev.bindc ha hr, h⟩
theorem Tot.bind1 {g : Nat → Option α} {f : Nat → α → Option β} {a : α} (h : Ev g a) (k : Tot (fun n => f n a) R) : Tot (fun n => (g n).bind (f n)) R := by
  obtain ⟨r, hr, k⟩ := k
  exact ⟨r, Ev.bind h hr, k⟩
theorem Tot.bindc1 {a : Option α} {f : Nat → α → Option β} {x : α} (h : a = some x) (k : Tot (fun n => f n x) R) : Tot (fun n => a.bind (f n)) R := by
  obtain ⟨r, hr, k⟩ := k
  exact ⟨r, Ev.bindc h hr, k⟩
theorem Tot.pos {c : Prop} [Decidable c] {f g : Nat → Option α} (h : c) (k : Tot f P) : Tot (fun n => if c then f n else g n) P := by
  obtain ⟨r, hr, k⟩ := k
  exact ⟨r, Ev.pos h hr, k⟩
theorem Tot.neg {c : Prop} [Decidable c] {f g : Nat → Option α} (h : ¬ c) (k : Tot g P) : Tot (fun n => if c then f n else g n) P := by
  obtain ⟨r, hr, k⟩ := k
  exact ⟨r, Ev.neg h hr, k⟩
theorem Tot.grd {c : Prop} [Decidable c] {f : Nat → Option α} (h : c) (k : Tot f P) : Tot (fun n => if c then f n else none) P := Tot.pos h k
theorem Tot.both {c : Prop} [Decidable c] {f g : Nat → Option α} (h : c → Tot f P) (k : ¬ c → Tot g P) : Tot (fun n => if c then f n else g n) P := by
  by_cases hc : c
  · exact Tot.pos hc (h hc)
  · exact Tot.neg hc (k hc)
theorem Tot.step {g f : Nat → Option α} (h : ∀ k, g (k + 1) = f k) (k : Tot f P) : Tot g P := by
  obtain ⟨r, hr, k⟩ := k
  exact ⟨r, Ev.step h hr, k⟩
theorem Tot.mono {g : Nat → Option α} (h : Tot g P) (k : ∀ r, P r → Q r) : Tot g Q := by
  obtain ⟨r, hr, h⟩ := h
  exact ⟨r, hr, k r h⟩
theorem Tot.one {g : Nat → Option α} {r : α} (h : Ev g r) (k : P r) : Tot g P := ⟨r, h, k⟩
/-- A loop of at most m rounds that keeps Inv. -/
theorem Tot.up {σ : Type} (L : Nat → σ → Int → Option α) (m : Nat) (Inv : Nat → σ → Prop)
    (step : ∀ (j : Nat) s, j ≤ m → Inv j s → (∀ s', j < m → Inv (j + 1) s' → Tot (fun k => L k s' ((j : Int) + 1)) P) → Tot (fun k => L k s (j : Int)) P) :
    ∀ s, Inv 0 s → Tot (fun k => L k s 0) P := by
  have key : ∀ (d j : Nat) s, m - j = d → j ≤ m → Inv j s → Tot (fun k => L k s (j : Int)) P := by
    intro d
    induction d with
    | zero => intro j s hd hj hi; exact step j s hj hi (fun s' h _ => by omega)
    | succ d ih => intro j s hd hj hi; exact step j s hj hi (fun s' h hi' => by have := ih (j + 1) s' (by omega) (by omega) hi'; simpa using this)
  intro s hs
  exact key _ 0 s rfl (Nat.zero_le _) hs
end
theorem and255 (x : Int) : 0 ≤ bits .and .i64 x 255 ∧ bits .and .i64 x 255 ≤ 255 := by
  have h : bits .and .i64 x 255 = (((BitVec.ofInt 64 x).toNat &&& 255 : Nat) : Int) := by
    show IntKind.i64.wrap (((BitVec.ofInt 64 x) &&& (BitVec.ofInt 64 255)).toNat : Int) = _
    rw [BitVec.toNat_and]
    have : (BitVec.ofInt 64 255).toNat = 255 := by decide
    rw [this, IntKind.wrap_i64]
    have h2 : (BitVec.ofInt 64 x).toNat &&& 255 ≤ 255 := Nat.and_le_right
    omega
  rw [h]
  have h2 : (BitVec.ofInt 64 x).toNat &&& 255 ≤ 255 := Nat.and_le_right
  omega
/-- A reader's place. -/
def Rd (b : List Int) (i : Int) : Prop := b.length ≤ 1048576 ∧ 0 ≤ i ∧ i ≤ (b.length : Int)
theorem l01New_ev (b : List Int) (hb : b.length ≤ 1048576) : ∃ s, Ev (fun k => spec_l01New.f k b) (b, 0, s) := by
  have key : ∀ (d i : Nat) (s : Int), b.length - i = d → i ≤ b.length → ∃ s', Ev (fun k => spec_l01New.l0 k b s (i : Int)) (b, 0, s') := by
    intro d
    induction d with
    | zero =>
      intro i s hd hi
      refine ⟨s, Ev.step (fun _ => rfl) ?_⟩
      simp only [spec_l01New.l0]; exact Ev.neg (by omega) (Ev.now _)
    | succ d ih =>
      intro i s hd hi
      by_cases h : (i : Int) < 4000
      · obtain ⟨s', h'⟩ := ih (i + 1) (bits .and .i64 (wrap64 ((wrap64 ((wrap64 (s * 131)) + (wrap64 (rd b i)))) + 7)) 1073741823) (by omega) (by omega)
        refine ⟨s', Ev.step (fun _ => rfl) ?_⟩
        simp only [spec_l01New.l0]; rw [w64 (x := (i : Int) + 1) (by omega) (by omega)]
        exact Ev.pos (by omega) (Ev.pos h (Ev.pos (by omega) h'))
      · refine ⟨s, Ev.step (fun _ => rfl) ?_⟩
        simp only [spec_l01New.l0]; exact Ev.pos (by omega) (Ev.neg h (Ev.now _))
  exact key b.length 0 _ rfl (Nat.zero_le _)
theorem l01Byte_of (b : List Int) (i s : Int) (h : Rd b i) : ∃ v i' s', spec_l01Byte.f b i s = some (v, b, i', s') ∧ Rd b i' ∧ 0 ≤ v ∧ v ≤ 255 := by
  unfold spec_l01Byte.f
  by_cases hi : i < (b.length : Int)
  · rw [if_pos hi, if_pos h.2.1]
    exact ⟨_, _, _, rfl, ⟨h.1, by rw [w64 (by have := h.1; have := h.2.1; omega) (by have := h.1; omega)]; have := h.2.1; omega, by rw [w64 (by have := h.1; have := h.2.1; omega) (by have := h.1; omega)]; omega⟩, and255 _⟩
  · rw [if_neg hi]
    exact ⟨_, _, _, rfl, h, and255 _⟩
theorem tmod_of {v n : Int} (h : 0 ≤ v) (hn : 0 < n) : 0 ≤ v.tmod n ∧ v.tmod n < n := ⟨Int.tmod_nonneg _ h, Int.tmod_lt_of_pos _ hn⟩
theorem l01Below_of (b : List Int) (i s n : Int) (h : Rd b i) (hn : 0 < n) : ∃ v i' s', spec_l01Below.f b i s n = some (v, b, i', s') ∧ Rd b i' ∧ 0 ≤ v ∧ v < n := by
  unfold spec_l01Below.f
  rw [if_neg (by omega)]
  obtain ⟨v1, i1, s1, e1, h1, b1⟩ := l01Byte_of b i s h
  obtain ⟨v2, i2, s2, e2, h2, b2⟩ := l01Byte_of b i1 s1 h1
  obtain ⟨v3, i3, s3, e3, h3, b3⟩ := l01Byte_of b i2 s2 h2
  obtain ⟨v4, i4, s4, e4, h4, b4⟩ := l01Byte_of b i3 s3 h3
  by_cases hn2 : n ≤ 256
  · rw [if_pos hn2, e1]
    simp only [Option.bind_some]
    rw [if_pos (by omega)]
    exact ⟨_, _, _, rfl, h1, tmod_of b1.1 hn⟩
  · rw [if_neg hn2, e1]
    simp only [Option.bind_some, e2, e3, e4]
    rw [if_pos (by omega)]
    refine ⟨_, _, _, rfl, h4, tmod_of ?_ hn⟩
    rw [w64 (x := v1 * 16777216) (by omega) (by omega), w64 (x := v2 * 65536) (by omega) (by omega), w64 (x := v1 * 16777216 + v2 * 65536) (by omega) (by omega), w64 (x := v3 * 256) (by omega) (by omega), w64 (x := v1 * 16777216 + v2 * 65536 + v3 * 256) (by omega) (by omega), w64 (by omega) (by omega)]
    omega
theorem l01PickInt_of (b : List Int) (i s : Int) (l : List Int) (h : Rd b i) (hl : 0 < l.length) : ∃ v i' s', spec_l01PickInt.f b i s l = some (v, b, i', s') ∧ Rd b i' ∧ v ∈ l := by
  obtain ⟨v, i', s', e, h', h0, h1⟩ := l01Below_of b i s l.length h (by omega)
  unfold spec_l01PickInt.f
  rw [e]
  simp only [Option.bind_some]
  rw [if_pos h0, if_pos h1]
  refine ⟨_, _, _, rfl, h', ?_⟩
  have hv : v.toNat < l.length := by omega
  unfold rd
  rw [List.getD_eq_getElem?_getD, List.getElem?_eq_getElem hv]
  exact List.getElem_mem hv
theorem l01Once_of (b : List Int) (i s n : Int) (h : Rd b i) (hn : 0 < n) : ∃ (v : Bool) (i' s' : Int), spec_l01Once.f b i s n = some (v, b, i', s') ∧ Rd b i' := by
  obtain ⟨v, i', s', e, h', h0, h1⟩ := l01Below_of b i s n h hn
  exact ⟨_, _, _, by unfold spec_l01Once.f; rw [e]; rfl, h'⟩
section
variable {α : Type} {P : α → Prop} {b : List Int} {i s n : Int}
theorem Tot.below {f : Nat → (Int × List Int × Int × Int) → Option α} (h : Rd b i) (hn : 0 < n) (k : ∀ v i' s', Rd b i' → 0 ≤ v → v < n → Tot (fun m => f m (v, b, i', s')) P) : Tot (fun m => (spec_l01Below.f b i s n).bind (f m)) P := by
  obtain ⟨v, i', s', e, h', h0, h1⟩ := l01Below_of b i s n h hn
  exact Tot.bindc1 e (k v i' s' h' h0 h1)
theorem Tot.once {f : Nat → (Bool × List Int × Int × Int) → Option α} (h : Rd b i) (hn : 0 < n) (k : ∀ v i' s', Rd b i' → Tot (fun m => f m (v, b, i', s')) P) : Tot (fun m => (spec_l01Once.f b i s n).bind (f m)) P := by
  obtain ⟨v, i', s', e, h'⟩ := l01Once_of b i s n h hn
  exact Tot.bindc1 e (k v i' s' h')
theorem Tot.pick {l : List Int} {f : Nat → (Int × List Int × Int × Int) → Option α} (h : Rd b i) (hl : 0 < l.length) (k : ∀ v i' s', Rd b i' → v ∈ l → Tot (fun m => f m (v, b, i', s')) P) : Tot (fun m => (spec_l01PickInt.f b i s l).bind (f m)) P := by
  obtain ⟨v, i', s', e, h', h0⟩ := l01PickInt_of b i s l h hl
  exact Tot.bindc1 e (k v i' s' h' h0)
end
theorem l04Half_of (b : List Int) (i s : Int) (h : Rd b i) : ∃ (v : Int) (i' s' : Int), spec_l04Half.f b i s = some (v, b, i', s') ∧ Rd b i' ∧ 0 ≤ v ∧ v ≤ 4294967295 := by
  obtain ⟨v, i1, s1, e1, h1, b1, b2⟩ := l01Below_of b i s 12 h (by omega)
  obtain ⟨w, i2, s2, e2, h2, m2⟩ := l01PickInt_of b i1 s1 [0, 1, 2, 3, 5, 7, 255, 4294967295, 2147483648, v] h1 (by simp)
  refine ⟨w, i2, s2, ?_, h2, ?_⟩
  · unfold spec_l04Half.f
    rw [e1]
    simp only [Option.bind_some]
    rw [e2]; rfl
  · simp only [List.mem_cons, List.not_mem_nil, or_false] at m2
    omega
section
variable {α : Type} {P : α → Prop} {b : List Int} {i s : Int}
theorem Tot.half {f : Nat → (Int × List Int × Int × Int) → Option α} (h : Rd b i) (k : ∀ v i' s', Rd b i' → 0 ≤ v → v ≤ 4294967295 → Tot (fun m => f m (v, b, i', s')) P) : Tot (fun m => (spec_l04Half.f b i s).bind (f m)) P := by
  obtain ⟨v, i', s', e, h', h0, h1⟩ := l04Half_of b i s h
  exact Tot.bindc1 e (k v i' s' h' h0 h1)
end
theorem l04Wide_tot (b : List Int) (i s : Int) (h : Rd b i) : Tot (fun _ => spec_l04Wide.f b i s) (fun r => ∃ (x y i' s' : Int), r = (x, y, b, i', s') ∧ Rd b i' ∧ (0 ≤ x ∧ x ≤ 4294967295) ∧ 0 ≤ y ∧ y ≤ 4294967295) := by
  unfold spec_l04Wide.f
  refine Tot.half h (fun v i1 s1 h1 v0 v1 => Tot.once h1 (by omega) (fun w i2 s2 h2 => ?_))
  refine Tot.both (fun _ => ?_) (fun _ => Tot.now ⟨_, _, _, _, rfl, h2, by first | omega | (dsimp only; omega), v0, v1⟩)
  exact Tot.half h2 (fun u i3 s3 h3 u0 u1 => Tot.now ⟨_, _, _, _, rfl, h3, ⟨u0, u1⟩, v0, v1⟩)
theorem Tot.ofc {α β : Type} {a : Option α} {P : α → Prop} {R : β → Prop} {f : Nat → α → Option β} (h : Tot (fun _ => a) P) (k : ∀ x, P x → Tot (fun n => f n x) R) : Tot (fun n => a.bind (f n)) R := Tot.bind h k
theorem l04Call_tot (b : List Int) (i s : Int) (h : Rd b i) : Tot (fun k => spec_l04Call.f k b i s) (fun r => ∃ (x y : Int) (l : List S70) (i' s' : Int), r = (x, y, l, b, i', s') ∧ Rd b i' ∧ l.length = 3 ∧ (∀ w ∈ l, (0 ≤ w.f0 ∧ w.f0 ≤ 4294967295) ∧ 0 ≤ w.f1 ∧ w.f1 ≤ 4294967295) ∧ (0 ≤ x ∧ x ≤ 4294967295) ∧ 0 ≤ y ∧ y ≤ 4294967295) := by
  unfold spec_l04Call.f
  refine Tot.pick h (by simp) (fun v i1 s1 h1 hv => Tot.pick h1 (by simp) (fun w i2 s2 h2 hw => ?_))
  have hv' : 0 ≤ v ∧ v ≤ 4294967295 := by simp at hv; omega
  have hw' : 0 ≤ w ∧ w ≤ 4294967295 := by simp at hw; omega
  clear hv hw
  refine Tot.up (fun k (t : Int × Int × List S70) j => spec_l04Call.l0 k (v, b, i1, s1) (w, b, i2, s2) b t.1 t.2.1 t.2.2 j) 3 (fun j t => Rd b t.1 ∧ t.2.2.length = j ∧ ∀ w ∈ t.2.2, (0 ≤ w.f0 ∧ w.f0 ≤ 4294967295) ∧ 0 ≤ w.f1 ∧ w.f1 ≤ 4294967295) ?_ (i2, s2, []) ⟨h2, rfl, fun w hw => by simp at hw⟩
  rintro j ⟨i3, s3, q⟩ hj ⟨hr, hl, hq⟩ next
  replace hr : Rd b i3 := hr
  replace hl : q.length = j := hl
  replace hq : ∀ w ∈ q, (0 ≤ w.f0 ∧ w.f0 ≤ 4294967295) ∧ 0 ≤ w.f1 ∧ w.f1 ≤ 4294967295 := hq
  refine Tot.step (fun _ => rfl) ?_
  simp only [spec_l04Call.l0]
  rw [w64 (x := (j : Int) + 1) (by omega) (by omega)]
  refine Tot.both (fun hlt => ?_) (fun hge => Tot.now ⟨_, _, _, _, _, rfl, hr, by omega, hq, hv', hw'⟩)
  refine Tot.bind (l04Wide_tot b i3 s3 hr) ?_
  rintro _ ⟨x, y, i4, s4, rfl, h4, hx, hy⟩
  refine Tot.grd (by simp; omega) ?_
  refine next (i4, s4, q ++ [⟨x, y⟩]) (by omega) ⟨h4, by simp; omega, fun w hw => ?_⟩
  rcases List.mem_append.1 hw with hw | hw
  · exact hq w hw
  · rw [List.mem_singleton] at hw; subst hw; exact ⟨hx, hy⟩
theorem resultOf_ex (a d : Int) : ∃ x, spec_ResultOf.f a d = some x := by
  unfold spec_ResultOf.f
  simp only [spec_l01In_of, Option.bind_some]
  split
  · split <;> exact ⟨_, rfl⟩
  · exact ⟨_, rfl⟩
abbrev InsR := Int × Int × Int × Int × List Int × Int × Int
theorem l06Ins_tot (b : List Int) (i s : Int) (h : Rd b i) : Tot (fun k => spec_l06Ins.f k b i s) (fun r : InsR => ∃ (x y z w i' s' : Int), r = (x, y, z, w, b, i', s') ∧ Rd b i') := by
  unfold spec_l06Ins.f
  refine Tot.below h (by omega) (fun v i1 s1 h1 v0 v1 => Tot.half h1 (fun u i2 s2 h2 _ _ => ?_))
  have j1 : ∀ (i' s' x y z : Int), Rd b i' → Tot (fun k => spec_l06Ins.j1 k (v, b, i1, s1) b i' s' x y z) (fun r : InsR => ∃ (x y z w i' s' : Int), r = (x, y, z, w, b, i', s') ∧ Rd b i') := fun i' s' x y z hr => Tot.step (fun _ => rfl) (Tot.now ⟨_, _, _, _, _, _, rfl, hr⟩)
  have j0 : ∀ p, Tot (fun k => spec_l06Ins.j0 k (v, b, i1, s1) (u, b, i2, s2) p) (fun r : InsR => ∃ (x y z w i' s' : Int), r = (x, y, z, w, b, i', s') ∧ Rd b i') := fun p => by
    refine Tot.step (fun _ => rfl) ?_
    simp only [spec_l06Ins.j0]
    refine Tot.both (fun _ => Tot.below h2 (by omega) (fun _ _ _ h3 _ _ => Tot.below h3 (by omega) (fun _ _ _ h4 _ _ => j1 _ _ _ _ _ h4))) (fun _ => Tot.both (fun _ => Tot.below h2 (by omega) (fun x _ _ h3 _ _ => Tot.below h3 (by omega) (fun y _ _ h4 _ _ => ?_))) (fun _ => j1 _ _ _ _ _ h2))
    obtain ⟨z, hz⟩ := resultOf_ex x y
    exact Tot.bindc1 hz (j1 _ _ _ _ _ h4)
  refine Tot.both (fun _ => Tot.below h2 (by omega) (fun _ _ _ h3 _ _ => j1 _ _ _ _ _ h3)) (fun _ => Tot.both (fun _ => Tot.below h2 (by omega) (fun _ _ _ h3 _ _ => j1 _ _ _ _ _ h3)) (fun _ => ?_))
  exact Tot.both (fun _ => j0 _) (fun _ => Tot.both (fun _ => j0 _) (fun _ => Tot.both (fun _ => j0 _) (fun _ => j0 _)))
theorem l06Ask_ex (a : Int) : ∃ x, spec_l06Ask.f a = some x := by
  unfold spec_l06Ask.f
  simp only [spec_l01In_of, Option.bind_some]
  exact ⟨_, rfl⟩
theorem l06Program_tot (b : List Int) (i s : Int) (h : Rd b i) : Tot (fun k => spec_l06Program.f k b i s) (fun r => ∃ (l : List S55) (i' s' : Int), r = (l, b, i', s') ∧ Rd b i' ∧ 1 ≤ l.length ∧ l.length ≤ 20) := by
  unfold spec_l06Program.f
  refine Tot.below h (by omega) (fun v i1 s1 h1 v0 v1 => ?_)
  refine Tot.up (fun k (t : Int × Int × List S55) j => spec_l06Program.l0 k (v, b, i1, s1) b t.1 t.2.1 t.2.2 j) 12 (fun j t => Rd b t.1 ∧ t.2.2.length = j ∧ (j : Int) ≤ 1 + v) ?_ (i1, s1, []) ⟨h1, rfl, by first | omega | (dsimp only; omega)⟩
  rintro j ⟨i3, s3, q⟩ hj ⟨hr, hl, hjv⟩ next
  replace hr : Rd b i3 := hr
  replace hl : q.length = j := hl
  replace hjv : (j : Int) ≤ 1 + v := hjv
  refine Tot.step (fun _ => rfl) ?_
  simp only [spec_l06Program.l0]
  rw [w64 (x := 1 + v) (by omega) (by omega), w64 (x := 1 + v - (j : Int)) (by omega) (by omega)]
  refine Tot.both (fun hlt => ?_) (fun _ => ?_)
  · have hlt' : (j : Int) < 1 + v := hlt
    refine Tot.bind (l06Ins_tot b i3 s3 hr) ?_
    rintro _ ⟨x, y, z, w, i4, s4, rfl, h4⟩
    have jj : ∀ p, Tot (fun k => spec_l06Program.j0 k (v, b, i1, s1) q (j : Int) (x, y, z, w, b, i4, s4) p) (fun r => ∃ (l : List S55) (i' s' : Int), r = (l, b, i', s') ∧ Rd b i' ∧ 1 ≤ l.length ∧ l.length ≤ 20) := fun p => by
      refine Tot.step (fun _ => rfl) ?_
      simp only [spec_l06Program.j0]
      rw [w64 (x := 1 + v) (by omega) (by omega), w64 (x := 1 + v - (j : Int)) (by omega) (by omega), w64 (x := (j : Int) + 1) (by omega) (by omega)]
      obtain ⟨a, ha⟩ := l06Ask_ex x
      refine Tot.bindc1 ha (Tot.both (fun _ => Tot.grd (by omega) (Tot.grd (by simp; omega) ?_)) (fun _ => Tot.grd (by simp; omega) ?_))
      · exact next (i4, s4, _) (by omega) ⟨h4, by simp; omega, by first | omega | (dsimp only; omega)⟩
      · exact next (i4, s4, _) (by omega) ⟨h4, by simp; omega, by first | omega | (dsimp only; omega)⟩
    exact Tot.both (fun _ => Tot.grd (by first | omega | (dsimp only; omega)) (jj _)) (fun _ => jj _)
  · refine Tot.below hr (by omega) (fun x i4 s4 h4 _ _ => Tot.below h4 (by omega) (fun y i5 s5 h5 _ _ => ?_))
    obtain ⟨z, hz⟩ := resultOf_ex x y
    exact Tot.bindc1 hz (Tot.grd (by simp; omega) (Tot.now ⟨_, _, _, rfl, h5, by simp, by simp; omega⟩))
theorem allI_const {α : Type} (p : α → Bool) : ∀ (xs : List α) (i : Nat), allI (fun _ x => p x) i xs = xs.all p
  | [], _ => rfl
  | x :: r, i => by simp only [allI, List.all_cons, allI_const p r (i + 1)]
theorem allz_ev {α : Type} (L : Nat → Int → Option Bool) (xs : List α) (p : α → Bool) (z : Bool)
    (stop : Ev (fun k => L k (xs.length : Int)) z)
    (bad : ∀ (i : Nat) x, xs[i]? = some x → p x = false → Ev (fun k => L k (i : Int)) false)
    (step : ∀ (i : Nat) x r, xs[i]? = some x → p x = true → Ev (fun k => L k ((i : Int) + 1)) r → Ev (fun k => L k (i : Int)) r) :
    Ev (fun k => L k 0) (xs.all p && z) := by
  rw [← allI_const p xs 0]; exact allI_ev L xs (fun _ x => p x) z stop bad step
/-- The first that holds. -/
def findV {α ρ : Type} (p : α → Bool) (res : Nat → ρ) (z : ρ) : Nat → List α → ρ
  | _, [] => z
  | i, x :: r => if p x then res i else findV p res z (i + 1) r
theorem find_ev {α ρ : Type} (L : Nat → Int → Option ρ) (xs : List α) (p : α → Bool) (res : Nat → ρ) (z : ρ)
    (stop : Ev (fun k => L k (xs.length : Int)) z)
    (hit : ∀ (i : Nat) x, xs[i]? = some x → p x = true → Ev (fun k => L k (i : Int)) (res i))
    (step : ∀ (i : Nat) x r, xs[i]? = some x → p x = false → Ev (fun k => L k ((i : Int) + 1)) r → Ev (fun k => L k (i : Int)) r) :
    Ev (fun k => L k 0) (findV p res z 0 xs) := by
  have key : ∀ (d i : Nat), xs.length - i = d → i ≤ xs.length → Ev (fun k => L k (i : Int)) (findV p res z i (xs.drop i)) := by
    intro d
    induction d with
    | zero =>
      intro i hd hi
      have : i = xs.length := by omega
      subst this
      rw [List.drop_length]
      exact stop
    | succ d ih =>
      intro i hd hi
      have hlt : i < xs.length := by omega
      have hx : xs[i]? = some xs[i] := List.getElem?_eq_getElem hlt
      rw [List.drop_eq_getElem_cons hlt]
      simp only [findV]
      cases hp : p xs[i] with
      | true => exact hit i _ hx hp
      | false => exact step i _ _ hx hp (by have := ih (i + 1) (by omega) (by omega); simpa using this)
  exact key _ 0 rfl (Nat.zero_le _)
theorem findV_spec {α ρ : Type} (p : α → Bool) (res : Nat → ρ) (z : ρ) : ∀ (xs : List α) (i : Nat), (xs.any p = true ∧ ∃ j x, xs[j]? = some x ∧ p x = true ∧ (∀ y ∈ xs.take j, p y = false) ∧ findV p res z i xs = res (i + j)) ∨ ((∀ y ∈ xs, p y = false) ∧ findV p res z i xs = z)
  | [], i => .inr ⟨fun y hy => by simp at hy, rfl⟩
  | x :: r, i => by
    simp only [findV]
    cases hp : p x with
    | true => exact .inl ⟨by simp [hp], 0, x, rfl, hp, fun y hy => by simp at hy, rfl⟩
    | false =>
      rcases findV_spec p res z r (i + 1) with ⟨h1, j, y, h2, h3, h4, h5⟩ | ⟨h1, h2⟩
      · refine .inl ⟨by simp only [List.any_cons, h1, Bool.or_true], j + 1, y, by simpa using h2, h3, fun u hu => ?_, by rw [show i + (j + 1) = i + 1 + j by omega]; exact h5⟩
        rw [List.take_succ_cons] at hu
        rcases List.mem_cons.1 hu with rfl | hu
        · exact hp
        · exact h4 u hu
      · refine .inr ⟨fun u hu => ?_, h2⟩
        rcases List.mem_cons.1 hu with rfl | hu
        · exact hp
        · exact h1 u hu
theorem any_none {α : Type} {p : α → Bool} {xs : List α} (h : ∀ y ∈ xs, p y = false) : xs.any p = false := by
  rw [List.any_eq_false]
  intro y hy; rw [h y hy]; simp
theorem find_any {α : Type} (p : α → Bool) (xs : List α) (i : Nat) : decide (findV p (fun j => (j : Int)) (-1) i xs ≥ 0) = xs.any p := by
  rcases findV_spec p (fun j => (j : Int)) (-1) xs i with ⟨h1, j, x, _, _, _, h5⟩ | ⟨h1, h2⟩
  · rw [h1, h5]; simp; omega
  · rw [h2, any_none h1]; rfl
theorem rdI_of {l : List Int} {i : Nat} {x : Int} (h : l[i]? = some x) : rd l (i : Int) = x := by unfold rd; exact get_of l 0 h
theorem take_snoc {α : Type} {l : List α} {i : Nat} {x : α} (h : l[i]? = some x) : l.take i ++ [x] = l.take (i + 1) := by rw [List.take_add_one, h]; rfl
theorem and_if (a x : Bool) : (if a = true then some x else some false) = some (a && x) := by cases a <;> rfl
theorem spec_HalfOk_of (a : Int) : spec_HalfOk.f a = some (decide (0 ≤ a ∧ a ≤ 4294967295)) := by
  unfold spec_HalfOk.f; rw [spec_l01In_of]; rfl
def wideV (w : S70) : Bool := decide (0 ≤ w.f0 ∧ w.f0 ≤ 4294967295) && decide (0 ≤ w.f1 ∧ w.f1 ≤ 4294967295)
theorem spec_WideOk_of (w : S70) : spec_WideOk.f w.f0 w.f1 = some (wideV w) := by
  unfold spec_WideOk.f wideV
  simp only [spec_HalfOk_of, Option.bind_some, and_if]
def condOkV (c : S94) : Bool := decide (0 ≤ c.f0 ∧ c.f0 ≤ 2) && (wideV c.f1 && (wideV c.f3 && decide (1 ≤ c.f2 ∧ c.f2 ≤ 6)))
theorem spec_CondOk_of (c : S94) : spec_CondOk.f c.f0 c.f1.f0 c.f1.f1 c.f2 c.f3.f0 c.f3.f1 = some (condOkV c) := by
  unfold spec_CondOk.f condOkV
  simp only [spec_l01In_of, spec_WideOk_of, Option.bind_some, and_if]
def actV (a d : Int) : Bool := decide (0 ≤ a ∧ a ≤ 5) && decide (0 ≤ d ∧ d ≤ 65535)
theorem spec_l09Act_of (a d : Int) : spec_l09Act.f a d = some (actV a d) := by
  unfold spec_l09Act.f actV
  simp only [spec_l01In_of, Option.bind_some, and_if]
def numP (l : List Int) (i : Nat) (x : Int) : Bool := decide (0 ≤ x ∧ x ≤ 4294967295) && (decide (i = 0) || decide (l.getD (i - 1) 0 < x))
def ruleRest (n c : Nat) (a d : Int) : Bool := decide (n ≤ 4) && (decide (c ≤ 3) && actV a d)
def ruleV (r : S67) : Bool := allI (numP r.f0) 0 r.f0 && (r.f1.all condOkV && ruleRest r.f0.length r.f1.length r.f2 r.f3)
def polRest (a c d : Int) (n : Nat) : Bool := decide (0 ≤ a ∧ a ≤ 4294967295) && (actV c d && decide (n ≤ 10))
def polV (a c d : Int) (l : List S67) : Bool := l.all ruleV && polRest a c d l.length
/-- Of a size that goes through. -/
def Sm (l : List S67) : Prop := l.length ≤ 1000 ∧ ∀ r ∈ l, r.f0.length ≤ 1000 ∧ r.f1.length ≤ 1000
theorem Sm.get {l : List S67} (h : Sm l) {i : Nat} {r : S67} (hr : l[i]? = some r) : r.f0.length ≤ 1000 ∧ r.f1.length ≤ 1000 := h.2 r (List.mem_of_getElem? hr)
theorem spec_l09Rule_ev (r : S67) (hn : r.f0.length ≤ 1048576) (hc : r.f1.length ≤ 1048576) : Ev (fun k => spec_l09Rule.f k r.f0 r.f1 r.f2 r.f3) (ruleV r) := by
  unfold spec_l09Rule.f
  refine allI_ev (fun k i => spec_l09Rule.l0 k r.f0 r.f1 r.f2 r.f3 i) r.f0 (numP r.f0) _ ?_ ?_ ?_
  · refine Ev.step (fun _ => rfl) ?_
    simp only [spec_l09Rule.l0]
    refine Ev.neg (by omega) (allz_ev (fun k i => spec_l09Rule.l1 k r.f0 r.f1 r.f2 r.f3 i) r.f1 condOkV _ ?_ ?_ ?_)
    · refine Ev.step (fun _ => rfl) ?_
      simp only [spec_l09Rule.l1]
      refine Ev.neg (by omega) (Ev.const ?_)
      rw [spec_l09Act_of]
      unfold ruleRest
      by_cases h1 : r.f0.length ≤ 4
      · rw [if_pos (by omega), decide_eq_true h1]
        by_cases h2 : r.f1.length ≤ 3
        · rw [if_pos (by omega), decide_eq_true h2]; simp
        · rw [if_neg (by omega), decide_eq_false h2]; simp
      · rw [if_neg (by omega), decide_eq_false h1]; simp
    · intro i x hx hp
      have hi := lt_of hx
      refine Ev.step (fun _ => rfl) ?_
      simp only [spec_l09Rule.l1]
      rw [rd94 hx]
      exact Ev.pos (by omega) (Ev.pos (by omega) (Ev.bindc (spec_CondOk_of x) (Ev.neg (by rw [hp]; simp) (Ev.now _))))
    · intro i x q hx hp h
      have hi := lt_of hx
      refine Ev.step (fun _ => rfl) ?_
      simp only [spec_l09Rule.l1]
      rw [rd94 hx, w64 (x := (i : Int) + 1) (by omega) (by omega)]
      exact Ev.pos (by omega) (Ev.pos (by omega) (Ev.bindc (spec_CondOk_of x) (Ev.pos hp h)))
  · intro i x hx hp
    have hi := lt_of hx
    refine Ev.step (fun _ => rfl) ?_
    simp only [spec_l09Rule.l0]
    rw [rdI_of hx]
    refine Ev.pos (by omega) (Ev.pos (by omega) (Ev.bindc (spec_HalfOk_of x) ?_))
    by_cases hh : 0 ≤ x ∧ x ≤ 4294967295
    · unfold numP at hp
      rw [decide_eq_true hh, Bool.true_and, Bool.or_eq_false_iff] at hp
      have h0 : i ≠ 0 := of_decide_eq_false hp.1
      have h1 := of_decide_eq_false hp.2
      rw [w64 (x := (i : Int) - 1) (by omega) (by omega)]
      have e : rd r.f0 ((i : Int) - 1) = r.f0.getD (i - 1) 0 := by unfold rd; rw [show ((i : Int) - 1).toNat = i - 1 by omega]
      exact Ev.pos (decide_eq_true hh) (Ev.pos (by omega) (Ev.pos (by omega) (Ev.pos (by omega) (Ev.pos (by rw [e]; omega) (Ev.now _)))))
    · exact Ev.neg (by simpa using hh) (Ev.now _)
  · intro i x q hx hp h
    have hi := lt_of hx
    refine Ev.step (fun _ => rfl) ?_
    simp only [spec_l09Rule.l0]
    rw [rdI_of hx, w64 (x := (i : Int) + 1) (by omega) (by omega)]
    unfold numP at hp
    rw [Bool.and_eq_true] at hp
    have hh := of_decide_eq_true hp.1
    refine Ev.pos (by omega) (Ev.pos (by omega) (Ev.bindc (spec_HalfOk_of x) (Ev.pos hp.1 ?_)))
    by_cases h0 : i = 0
    · exact Ev.neg (by omega) h
    · have h1 : r.f0.getD (i - 1) 0 < x := by
        rcases Bool.or_eq_true .. ▸ hp.2 with h1 | h1
        · exact absurd (of_decide_eq_true h1) h0
        · exact of_decide_eq_true h1
      rw [w64 (x := (i : Int) - 1) (by omega) (by omega)]
      have e : rd r.f0 ((i : Int) - 1) = r.f0.getD (i - 1) 0 := by unfold rd; rw [show ((i : Int) - 1).toNat = i - 1 by omega]
      exact Ev.pos (by omega) (Ev.pos (by omega) (Ev.pos (by omega) (Ev.neg (by rw [e]; omega) h)))
theorem spec_PolicyOk_ev (a c d : Int) (l : List S67) (hl : Sm l) : Ev (fun k => spec_PolicyOk.f k a c d l) (polV a c d l) := by
  obtain ⟨hn, hr⟩ := hl
  unfold spec_PolicyOk.f
  refine allz_ev (fun k i => spec_PolicyOk.l0 k a c d l i) l ruleV (polRest a c d l.length) ?_ ?_ ?_
  · refine Ev.step (fun _ => rfl) ?_
    simp only [spec_PolicyOk.l0]
    refine Ev.neg (by omega) (Ev.const ?_)
    unfold polRest
    simp only [spec_HalfOk_of, spec_l09Act_of, Option.bind_some, and_if]
    congr 3
    simp; omega
  · intro i x hx hp
    have hi := lt_of hx
    have hb := hr x (List.mem_of_getElem? hx)
    refine Ev.step (fun _ => rfl) ?_
    simp only [spec_PolicyOk.l0]
    rw [rd67 hx]
    exact Ev.pos (by omega) (Ev.pos (by omega) (Ev.bind (spec_l09Rule_ev x (by omega) (by omega)) (Ev.neg (by rw [hp]; simp) (Ev.now _))))
  · intro i x q hx hp h
    have hi := lt_of hx
    have hb := hr x (List.mem_of_getElem? hx)
    refine Ev.step (fun _ => rfl) ?_
    simp only [spec_PolicyOk.l0]
    rw [rd67 hx, w64 (x := (i : Int) + 1) (by omega) (by omega)]
    exact Ev.pos (by omega) (Ev.pos (by omega) (Ev.bind (spec_l09Rule_ev x (by omega) (by omega)) (Ev.pos hp h)))
theorem allI_intro {α : Type} {p : Nat → α → Bool} : ∀ (xs : List α) (i : Nat), (∀ j x, xs[j]? = some x → p (i + j) x = true) → allI p i xs = true
  | [], _, _ => rfl
  | x :: r, i, h => by
    simp only [allI, Bool.and_eq_true]
    exact ⟨h 0 x rfl, allI_intro r (i + 1) fun j y hy => by have := h (j + 1) y (by simpa using hy); rwa [show i + (j + 1) = i + 1 + j by omega] at this⟩
theorem nums_snoc {q : List Int} {t x : Int} (h : allI (numP q) 0 q = true) (hq : ∀ y ∈ q, 0 ≤ y ∧ y < t) (h0 : 0 ≤ t) (hx : t ≤ x) (hb : x ≤ 4294967295) : allI (numP (q ++ [x])) 0 (q ++ [x]) = true := by
  refine allI_intro _ 0 fun j y hy => ?_
  rw [Nat.zero_add]
  rcases Nat.lt_or_ge j q.length with hj | hj
  · rw [List.getElem?_append_left hj] at hy
    have h1 := allI_true q 0 h j y hy
    rw [Nat.zero_add] at h1
    unfold numP at h1 ⊢
    have e : (q ++ [x]).getD (j - 1) 0 = q.getD (j - 1) 0 := by rw [List.getD_eq_getElem?_getD, List.getD_eq_getElem?_getD, List.getElem?_append_left (by omega)]
    rw [e]; exact h1
  · have hj' : j = q.length := by
      have := (List.getElem?_eq_some_iff.1 hy).1
      simp at this; omega
    subst hj'
    rw [List.getElem?_append_right (Nat.le_refl _), Nat.sub_self] at hy
    have hy' : x = y := by simpa using hy
    subst hy'
    unfold numP
    rw [decide_eq_true (by omega : 0 ≤ x ∧ x ≤ 4294967295), Bool.true_and]
    by_cases h1 : q.length = 0
    · rw [decide_eq_true h1]; rfl
    · have e : (q ++ [x]).getD (q.length - 1) 0 ∈ q := by
        rw [List.getD_eq_getElem?_getD, List.getElem?_append_left (by omega), List.getElem?_eq_getElem (by omega)]
        exact List.getElem_mem _
      have := hq _ e
      rw [decide_eq_true (by omega : (q ++ [x]).getD (q.length - 1) 0 < x), Bool.or_true]
abbrev CondR := Int × Int × Int × Int × Int × Int × List Int × Int × Int
theorem l09Cond_tot (b : List Int) (i s : Int) (h : Rd b i) : Tot (fun _ => spec_l09Cond.f b i s) (fun r : CondR => ∃ (c : S94) (i' s' : Int), r = (c.f0, c.f1.f0, c.f1.f1, c.f2, c.f3.f0, c.f3.f1, b, i', s') ∧ Rd b i' ∧ condOkV c = true) := by
  unfold spec_l09Cond.f
  refine Tot.below h (by omega) (fun v i1 s1 h1 v0 v1 => Tot.below h1 (by omega) (fun u i2 s2 h2 u0 u1 => Tot.bind (l04Wide_tot b i2 s2 h2) ?_))
  rintro _ ⟨x, y, i3, s3, rfl, h3, hx, hy⟩
  have fin : ∀ (m1 m2 i' s' : Int), Rd b i' → (0 ≤ m1 ∧ m1 ≤ 4294967295) → (0 ≤ m2 ∧ m2 ≤ 4294967295) → ∃ (c : S94) (i'' s'' : Int), (v, m1, m2, wrap64 (1 + u), x, y, b, i', s') = (c.f0, c.f1.f0, c.f1.f1, c.f2, c.f3.f0, c.f3.f1, b, i'', s'') ∧ Rd b i'' ∧ condOkV c = true := fun m1 m2 i' s' hr g1 g2 => by
    refine ⟨⟨v, ⟨m1, m2⟩, wrap64 (1 + u), ⟨x, y⟩⟩, i', s', rfl, hr, ?_⟩
    unfold condOkV wideV
    dsimp only
    rw [w64 (x := 1 + u) (by omega) (by omega), decide_eq_true (by omega : 0 ≤ v ∧ v ≤ 2), decide_eq_true g1, decide_eq_true g2, decide_eq_true hx, decide_eq_true hy, decide_eq_true (by omega : 1 ≤ 1 + u ∧ 1 + u ≤ 6)]
    rfl
  refine Tot.once h3 (by omega) (fun o i4 s4 h4 => Tot.both (fun _ => Tot.bind (l04Wide_tot b i4 s4 h4) ?_) (fun _ => Tot.now (fin _ _ _ _ h4 (by omega) (by omega))))
  rintro _ ⟨x', y', i5, s5, rfl, h5, hx', hy'⟩
  exact Tot.now (fin _ _ _ _ h5 hx' hy')
abbrev MadeR := List Int × List S94 × Int × Int × List Int × Int × Int
def MadeP (b : List Int) (r : MadeR) : Prop := ∃ (q : S67) (i' s' : Int), r = (q.f0, q.f1, q.f2, q.f3, b, i', s') ∧ Rd b i' ∧ ruleV q = true ∧ q.f0.length ≤ 3 ∧ q.f1.length ≤ 3
theorem l09Made_conds (b : List Int) (t1 : Int × List Int × Int × Int) (d i s : Int) (ns : List Int) (h : Rd b i) (hn : ns.length ≤ 3) (hns : allI (numP ns) 0 ns = true) (ha : actV t1.1 d = true) : Tot (fun k => spec_l09Made.l1 k t1 d ns b i s [] 0) (MadeP b) := by
  refine Tot.up (fun k (t : Int × Int × List S94) j => spec_l09Made.l1 k t1 d ns b t.1 t.2.1 t.2.2 j) 3 (fun j t => Rd b t.1 ∧ t.2.2.length = j ∧ t.2.2.all condOkV = true) ?_ (i, s, []) ⟨h, rfl, rfl⟩
  rintro j ⟨i3, s3, q⟩ hj ⟨hr, hl, hq⟩ next
  replace hr : Rd b i3 := hr
  replace hl : q.length = j := hl
  replace hq : q.all condOkV = true := hq
  refine Tot.step (fun _ => rfl) ?_
  simp only [spec_l09Made.l1]
  rw [w64 (x := (j : Int) + 1) (by omega) (by omega)]
  refine Tot.below hr (by omega) (fun v i4 s4 h4 v0 v1 => Tot.both (fun hlt => ?_) (fun hge => Tot.now ⟨⟨ns, q, t1.1, d⟩, _, _, rfl, h4, ?_, hn, by show q.length ≤ 3; omega⟩))
  · refine Tot.bind (l09Cond_tot b i4 s4 h4) ?_
    rintro _ ⟨c, i5, s5, rfl, h5, hc⟩
    refine Tot.grd (by simp; omega) ?_
    have hlt' : (j : Int) < v := hlt
    exact next (i5, s5, q ++ [c]) (by omega) ⟨h5, by simp; omega, by show (q ++ [c]).all condOkV = true; rw [List.all_append, hq]; simp [hc]⟩
  · unfold ruleV ruleRest
    dsimp only
    rw [hns, hq, decide_eq_true (by omega : ns.length ≤ 4), decide_eq_true (by omega : q.length ≤ 3), ha]
    rfl
theorem l09Made_tot (b : List Int) (i s : Int) (h : Rd b i) : Tot (fun k => spec_l09Made.f k b i s) (MadeP b) := by
  unfold spec_l09Made.f
  have j0 : ∀ (a d i1 s1 : Int) (t1 : Int × List Int × Int × Int), t1.1 = a → Rd b i1 → actV a d = true → Tot (fun k => spec_l09Made.j0 k t1 b i1 s1 d) (MadeP b) := by
    intro a d i1 s1 t1 ht h1 ha
    refine Tot.step (fun _ => rfl) ?_
    simp only [spec_l09Made.j0]
    refine Tot.below h1 (by omega) (fun v i2 s2 h2 v0 v1 => ?_)
    refine Tot.up (fun k (t : Int × Int × List Int × Int) j => spec_l09Made.l0 k t1 d (v, b, i2, s2) b t.1 t.2.1 t.2.2.1 t.2.2.2 j) 3 (fun j t => Rd b t.1 ∧ t.2.2.1.length = j ∧ allI (numP t.2.2.1) 0 t.2.2.1 = true ∧ (∀ y ∈ t.2.2.1, 0 ≤ y ∧ y < t.2.2.2) ∧ 0 ≤ t.2.2.2 ∧ t.2.2.2 ≤ 3 * (j : Int)) ?_ (i2, s2, [], 0) ⟨h2, rfl, rfl, fun y hy => by simp at hy, by first | omega | (dsimp only; omega), by first | omega | (dsimp only; omega)⟩
    rintro j ⟨i3, s3, q, at'⟩ hj ⟨hr, hl, hq, hy, ha0, ha1⟩ next
    replace hr : Rd b i3 := hr
    replace hl : q.length = j := hl
    replace hq : allI (numP q) 0 q = true := hq
    replace hy : ∀ y ∈ q, 0 ≤ y ∧ y < at' := hy
    replace ha0 : 0 ≤ at' := ha0
    replace ha1 : at' ≤ 3 * (j : Int) := ha1
    refine Tot.step (fun _ => rfl) ?_
    simp only [spec_l09Made.l0]
    rw [w64 (x := (j : Int) + 1) (by omega) (by omega), w64 (x := v - 1) (by omega) (by omega), w64 (x := at' + 1) (by omega) (by omega)]
    refine Tot.both (fun hlt => ?_) (fun hge => l09Made_conds b t1 d i3 s3 q hr (by omega) hq (by rw [ht]; exact ha))
    refine Tot.below hr (by omega) (fun u i4 s4 h4 u0 u1 => ?_)
    rw [w64 (x := at' + 1 + u) (by omega) (by omega), w64 (x := at' + 1 + u - 1) (by omega) (by omega)]
    refine Tot.grd (by simp; omega) ?_
    have hlt' : (j : Int) < v - 1 := hlt
    refine next (i4, s4, q ++ [at' + 1 + u - 1], at' + 1 + u) (by omega) ⟨h4, by simp; omega, nums_snoc hq hy ha0 (by omega) (by omega), fun y hy' => ?_, by first | omega | (dsimp only; omega), by first | omega | (dsimp only; omega)⟩
    show 0 ≤ y ∧ y < at' + 1 + u
    rcases List.mem_append.1 hy' with hy' | hy'
    · have := hy y hy'; omega
    · rw [List.mem_singleton] at hy'; omega
  refine Tot.pick h (by simp) (fun v i1 s1 h1 hv => Tot.both (fun h2 => Tot.pick h1 (by simp) (fun u i2 s2 h3 hu => j0 v u i2 s2 _ rfl h3 ?_)) (fun h2 => j0 v 0 i1 s1 _ rfl h1 ?_))
  · have h2' : v = 2 := h2
    simp at hu
    unfold actV
    rw [decide_eq_true (by omega : 0 ≤ v ∧ v ≤ 5), decide_eq_true (by omega : 0 ≤ u ∧ u ≤ 65535)]; rfl
  · simp at hv
    unfold actV
    rw [decide_eq_true (by omega : 0 ≤ v ∧ v ≤ 5)]; rfl
abbrev PolR := Int × Int × Int × List S67 × List Int × Int × Int
theorem l09Policy_tot (b : List Int) (i s : Int) (h : Rd b i) : Tot (fun k => spec_l09Policy.f k b i s) (fun r : PolR => ∃ (a c d : Int) (l : List S67) (i' s' : Int), r = (a, c, d, l, b, i', s') ∧ Rd b i' ∧ Sm l ∧ l.length ≤ 5 ∧ polV a c d l = true) := by
  unfold spec_l09Policy.f
  have j0 : ∀ (a d i1 s1 : Int), Rd b i1 → actV a d = true → Tot (fun k => spec_l09Policy.j0 k (a, b, i1, s1) d) (fun r : PolR => ∃ (a c d : Int) (l : List S67) (i' s' : Int), r = (a, c, d, l, b, i', s') ∧ Rd b i' ∧ Sm l ∧ l.length ≤ 5 ∧ polV a c d l = true) := by
    intro a d i1 s1 h1 ha
    refine Tot.step (fun _ => rfl) ?_
    simp only [spec_l09Policy.j0]
    refine Tot.up (fun k (t : Int × Int × List S67) j => spec_l09Policy.l0 k (a, b, i1, s1) d b t.1 t.2.1 t.2.2 j) 5 (fun j t => Rd b t.1 ∧ t.2.2.length = j ∧ (∀ r ∈ t.2.2, r.f0.length ≤ 1000 ∧ r.f1.length ≤ 1000) ∧ t.2.2.all ruleV = true) ?_ (i1, s1, []) ⟨h1, rfl, fun r hr => by simp at hr, rfl⟩
    rintro j ⟨i3, s3, q⟩ hj ⟨hr, hl, hb, hq⟩ next
    replace hr : Rd b i3 := hr
    replace hl : q.length = j := hl
    replace hb : ∀ r ∈ q, r.f0.length ≤ 1000 ∧ r.f1.length ≤ 1000 := hb
    replace hq : q.all ruleV = true := hq
    refine Tot.step (fun _ => rfl) ?_
    simp only [spec_l09Policy.l0]
    rw [w64 (x := (j : Int) + 1) (by omega) (by omega)]
    refine Tot.below hr (by omega) (fun v i4 s4 h4 v0 v1 => Tot.both (fun hlt => ?_) (fun hge => Tot.now ⟨62, a, d, q, i4, s4, rfl, h4, ⟨by omega, hb⟩, by omega, ?_⟩))
    · refine Tot.bind (l09Made_tot b i4 s4 h4) ?_
      rintro _ ⟨c, i5, s5, rfl, h5, hc, g1, g2⟩
      refine Tot.grd (by simp; omega) ?_
      have hlt' : (j : Int) < v := hlt
      refine next (i5, s5, q ++ [c]) (by omega) ⟨h5, by simp; omega, fun r hr' => ?_, by show (q ++ [c]).all ruleV = true; rw [List.all_append, hq]; simp [hc]⟩
      rcases List.mem_append.1 hr' with hr' | hr'
      · exact hb r hr'
      · rw [List.mem_singleton] at hr'; subst hr'; exact ⟨by omega, by omega⟩
    · unfold polV polRest
      rw [hq, ha, decide_eq_true (by omega : q.length ≤ 10)]
      rfl
  refine Tot.pick h (by simp) (fun v i1 s1 h1 hv => ?_)
  simp at hv
  refine Tot.both (fun h2 => j0 v 1 i1 s1 h1 ?_) (fun h2 => j0 v 0 i1 s1 h1 ?_)
  · unfold actV
    rw [decide_eq_true (by omega : 0 ≤ v ∧ v ≤ 5)]; rfl
  · unfold actV
    rw [decide_eq_true (by omega : 0 ≤ v ∧ v ≤ 5)]; rfl
abbrev Ln := S76
theorem one_size (x : UInt8) : (⟨#[x]⟩ : ByteArray).size = 1 := rfl
theorem num_size (x : Int) : (strOfNums [x]).size = 1 := rfl
theorem rdL {l : List Ln} {i : Nat} {x : Ln} (h : l[i]? = some x) : rd_T76 l (i : Int) = x := by
  unfold rd_T76; exact get_of l z76 h
theorem half_ex (a b c d e f : Int) (h : Bool) : ∃ l, spec_l12Half.f a b c d e f h = some l ∧ l.length = 2 := by
  unfold spec_l12Half.f spec_l11Word.f
  cases h <;> exact ⟨_, rfl, rfl⟩
theorem same_tot (a b c d e f : Int) (s y n : ByteArray) (h : s.size ≤ 1000000) : Tot (fun _ => spec_l12Same.f a b c d e f s y n) (fun l => l.length ≤ 20) := by
  unfold spec_l12Same.f
  refine Tot.bindc (half_ex a b c d e f true) (fun u hu => Tot.grd (by rw [one_size]; omega) (Tot.bindc1 rfl (Tot.grd (by simp only [List.length_cons, List.length_nil]; omega) ?_)))
  refine Tot.bindc (half_ex a b c d e f false) (fun v hv => Tot.grd (by simp only [List.length_cons, List.length_nil, List.length_append]; omega) (Tot.bindc1 rfl (Tot.grd (by simp only [List.length_cons, List.length_nil, List.length_append]; omega) (Tot.now ?_))))
  simp only [List.length_cons, List.length_nil, List.length_append]; omega
theorem above_tot (a b c d e f o : Int) (s y n : ByteArray) (h : s.size ≤ 1000000) : Tot (fun _ => spec_l12Above.f a b c d e f o s y n) (fun l => l.length ≤ 20) := by
  unfold spec_l12Above.f
  refine Tot.bindc (half_ex a b c d e f true) (fun u hu => Tot.grd (by rw [one_size]; omega) (Tot.bindc1 rfl (Tot.grd (by simp only [List.length_cons, List.length_nil]; omega) ?_)))
  refine Tot.grd (by rw [one_size]; omega) (Tot.bindc1 rfl (Tot.grd (by simp only [List.length_cons, List.length_nil, List.length_append]; omega) ?_))
  refine Tot.bindc (half_ex a b c d e f false) (fun v hv => Tot.grd (by simp only [List.length_cons, List.length_nil, List.length_append]; omega) (Tot.bindc1 rfl (Tot.grd (by simp only [List.length_cons, List.length_nil, List.length_append]; omega) (Tot.now ?_))))
  simp only [List.length_cons, List.length_nil, List.length_append]; omega
theorem condLines_tot (x : S94) (s y n : ByteArray) (h : s.size ≤ 1000000) : Tot (fun _ => spec_CondLines.f x.f0 x.f1.f0 x.f1.f1 x.f2 x.f3.f0 x.f3.f1 s y n) (fun l => l.length ≤ 20) := by
  unfold spec_CondLines.f
  refine Tot.bindc1 (spec_CondOk_of x) (Tot.both (fun _ => ?_) (fun _ => Tot.now (by simp)))
  have ha := fun o y n => above_tot x.f0 x.f1.f0 x.f1.f1 x.f2 x.f3.f0 x.f3.f1 o s y n h
  have hs := fun y n => same_tot x.f0 x.f1.f0 x.f1.f1 x.f2 x.f3.f0 x.f3.f1 s y n h
  refine Tot.both (fun _ => Tot.bind (hs _ _) (fun _ h => Tot.now h)) (fun _ => Tot.both (fun _ => Tot.bind (hs _ _) (fun _ h => Tot.now h)) (fun _ => Tot.both (fun _ => Tot.bind (ha _ _ _) (fun _ h => Tot.now h)) (fun _ => Tot.both (fun _ => Tot.bind (ha _ _ _) (fun _ h => Tot.now h)) (fun _ => Tot.both (fun _ => Tot.bind (ha _ _ _) (fun _ h => Tot.now h)) (fun _ => Tot.bind (ha _ _ _) (fun _ h => Tot.now h))))))
theorem decimal_tot (i : Nat) (h : i < 3) : Tot (fun k => spec_Decimal.f k (i : Int)) (fun s => s.size = 1) := by
  have key : ∀ (s : ByteArray), s.size = 1 → (∀ m, spec_Decimal.f (m + 5) (i : Int) = some s) → Tot (fun k => spec_Decimal.f k (i : Int)) (fun s => s.size = 1) := fun s hs hm =>
    ⟨s, ⟨5, fun k hk => by obtain ⟨m, rfl⟩ : ∃ m, k = m + 5 := ⟨k - 5, by omega⟩; exact hm m⟩, hs⟩
  match i, h with
  | 0, _ => exact key ⟨#[48]⟩ rfl (fun m => rfl)
  | 1, _ => exact key (strOfNums [49] ++ ByteArray.empty) rfl (fun m => by kernel_rfl)
  | 2, _ => exact key (strOfNums [50] ++ ByteArray.empty) rfl (fun m => by kernel_rfl)
theorem ruleLines_tot (r : S67) (s n : ByteArray) (hc : r.f1.length ≤ 3) (h : s.size ≤ 900000) : Tot (fun k => spec_RuleLines.f k r.f0 r.f1 r.f2 r.f3 s n) (fun l => l.length ≤ 100) := by
  unfold spec_RuleLines.f
  refine Tot.up (fun k q i => spec_RuleLines.l0 k r.f0 r.f1 r.f2 r.f3 s n q i) 3 (fun j (q : List Ln) => q.length ≤ 21 * j) ?_ [] (by simp)
  intro j q hj hq next
  refine Tot.step (fun _ => rfl) ?_
  simp only [spec_RuleLines.l0]
  refine Tot.both (fun hlt => ?_) (fun _ => ?_)
  · have hx : r.f1[j]? = some r.f1[j] := List.getElem?_eq_getElem (by omega)
    rw [rd94 hx, w64 (x := (j : Int) + 1) (by omega) (by omega)]
    refine Tot.grd (by rw [one_size]; omega) (Tot.bind (decimal_tot j (by omega)) (fun t ht => Tot.grd (by rw [ByteArray.size_append, one_size]; omega) (Tot.grd (by omega) (Tot.bind (decimal_tot j (by omega)) (fun t' ht' => Tot.grd (by omega) ?_)))))
    refine Tot.bind (condLines_tot _ _ _ _ (by rw [ByteArray.size_append]; omega)) (fun u hu => Tot.grd (by omega) (Tot.grd (by simp only [List.length_cons, List.length_nil, List.length_append]; omega) ?_))
    exact next _ (by omega) (by simp only [List.length_cons, List.length_nil, List.length_append]; omega)
  · refine Tot.bindc (P := fun _ => True) ((resultOf_ex _ _).imp fun _ h => ⟨h, trivial⟩) (fun x _ => Tot.bindc1 rfl (Tot.grd (by simp only [List.length_cons, List.length_nil]; omega) (Tot.now ?_)))
    simp only [List.length_cons, List.length_nil, List.length_append]; omega
def Pl (l : List S67) : Prop := l.length ≤ 5 ∧ ∀ r ∈ l, r.f0.length ≤ 1000 ∧ r.f1.length ≤ 3
theorem chain_tot (a c d : Int) (l : List S67) (hl : Pl l) (n : Int) (any : Bool) (s : ByteArray) (h : s.size ≤ 800000) : Tot (fun k => spec_ChainLines.f k a c d l n any s) (fun q => q.length ≤ 600) := by
  have h5 := hl.1
  unfold spec_ChainLines.f
  refine Tot.up (fun k q i => spec_ChainLines.l0 k a c d l n any s q i) 5 (fun j (q : List Ln) => q.length ≤ 101 * j) ?_ [] (by simp)
  intro j q hj hq next
  have fin : Tot (fun k => spec_ChainLines.j1 k a c d l q) (fun q => q.length ≤ 600) := by
    refine Tot.step (fun _ => rfl) ?_
    simp only [spec_ChainLines.j1]
    refine Tot.bindc (P := fun _ => True) ((resultOf_ex _ _).imp fun _ h => ⟨h, trivial⟩) (fun x _ => Tot.bindc1 rfl (Tot.grd (by simp only [List.length_cons, List.length_nil]; omega) (Tot.now ?_)))
    simp only [List.length_cons, List.length_nil, List.length_append]; omega
  refine Tot.step (fun _ => rfl) ?_
  simp only [spec_ChainLines.l0]
  rw [w64 (x := (j : Int) + 1) (by omega) (by omega)]
  refine Tot.both (fun hlt => Tot.both (fun _ => Tot.grd (by omega) ?_) (fun _ => fin)) (fun _ => fin)
  have hx : l[j]? = some l[j] := List.getElem?_eq_getElem (by omega)
  have hr := hl.2 _ (List.mem_of_getElem? hx)
  have skip := next q (by omega) (by omega)
  have take : Tot (fun k => spec_ChainLines.j0 k a c d l n any s q (j : Int)) (fun q => q.length ≤ 600) := by
    refine Tot.step (fun _ => rfl) ?_
    simp only [spec_ChainLines.j0]
    rw [rd67 hx, w64 (x := (j : Int) + 1) (by omega) (by omega)]
    refine Tot.grd (by rw [num_size]; omega) (Tot.grd (by rw [ByteArray.size_append, num_size, one_size]; omega) (Tot.bind (ruleLines_tot _ _ _ hr.2 (by rw [ByteArray.size_append, num_size]; omega)) (fun u hu => Tot.grd (by omega) (Tot.grd (by simp only [List.length_cons, List.length_nil, List.length_append]; omega) ?_))))
    exact next _ (by omega) (by simp only [List.length_cons, List.length_nil, List.length_append]; omega)
  rw [rd67 hx]
  refine Tot.both (fun _ => Tot.both (fun _ => skip) (fun _ => Tot.bind1 (spec_l09In_ev _ n (by omega)) (Tot.both (fun _ => take) (fun _ => skip)))) (fun _ => take)
theorem tree_tot (a c d : Int) (l : List S67) (hl : Pl l) : ∀ (m : Nat) (ns : List Int) (s : ByteArray), ns.length ≤ m → s.size + m ≤ 700000 → Tot (fun k => spec_TreeLines.f k a c d l ns s) (fun q => q.length + 500 ≤ 2000 * max ns.length 1) := by
  intro m
  induction m with
  | zero =>
    intro ns s hn hs
    refine Tot.step (fun _ => rfl) ?_
    simp only [spec_TreeLines.f]
    exact Tot.pos (by omega) (Tot.bind (chain_tot a c d l hl 0 true s (by omega)) (fun q hq => Tot.now (by omega)))
  | succ m ih =>
    intro ns s hn hs
    refine Tot.step (fun _ => rfl) ?_
    simp only [spec_TreeLines.f]
    refine Tot.both (fun h0 => Tot.bind (chain_tot a c d l hl 0 true s (by omega)) (fun q hq => Tot.now (by omega))) (fun h0 => Tot.both (fun h1 => ?_) (fun h1 => ?_))
    · refine Tot.grd (by omega) (Tot.grd (by rw [one_size]; omega) (Tot.grd (by rw [one_size]; omega) (Tot.bindc1 rfl (Tot.bind (chain_tot a c d l hl _ false _ (by rw [ByteArray.size_append, one_size]; omega)) (fun q hq => Tot.grd (by simp only [List.length_cons, List.length_nil]; omega) (Tot.grd (by simp only [List.length_cons, List.length_nil, List.length_append]; omega) ?_))))))
      refine Tot.bind (chain_tot a c d l hl 0 true _ (by rw [ByteArray.size_append, one_size]; omega)) (fun q' hq' => Tot.grd (by simp only [List.length_cons, List.length_nil, List.length_append]; omega) (Tot.now ?_))
      simp only [List.length_cons, List.length_nil, List.length_append]; omega
    · have e : wrap64 ((ns.length : Int).tdiv 2) = ((ns.length / 2 : Nat) : Int) := by
        rw [Int.tdiv_eq_ediv_of_nonneg (by omega), w64 (by omega) (by omega)]; omega
      rw [e]
      refine Tot.grd (by omega) (Tot.grd (by omega) (Tot.grd (by rw [one_size]; omega) (Tot.grd (by rw [one_size]; omega) (Tot.bindc1 rfl (Tot.grd (by omega) ?_)))))
      rw [Int.toNat_natCast]
      refine Tot.bind (ih _ _ (by rw [List.length_take]; omega) (by rw [ByteArray.size_append, one_size]; omega)) (fun q hq => ?_)
      rw [List.length_take] at hq
      refine Tot.grd (by simp only [List.length_cons, List.length_nil]; omega) (Tot.grd (by simp only [List.length_cons, List.length_nil, List.length_append]; omega) ?_)
      refine Tot.bind (ih _ _ (by rw [List.length_drop]; omega) (by rw [ByteArray.size_append, one_size]; omega)) (fun q' hq' => ?_)
      rw [List.length_drop] at hq'
      refine Tot.grd (by simp only [List.length_cons, List.length_nil, List.length_append]; omega) (Tot.now ?_)
      simp only [List.length_cons, List.length_nil, List.length_append]; omega
theorem two_filters (n : Int) : ∀ l : List Int, (l.filter (fun x => decide (x < n))).length + (l.filter (fun x => decide (x > n))).length ≤ l.length
  | [] => by simp
  | x :: r => by
    have := two_filters n r
    simp only [List.filter_cons, List.length_cons]
    by_cases h1 : x < n
    · rw [if_pos (decide_eq_true h1), if_neg (by rw [decide_eq_true_eq]; omega), List.length_cons]; omega
    · by_cases h2 : x > n
      · rw [if_neg (by rw [decide_eq_true_eq]; omega), if_pos (decide_eq_true h2), List.length_cons]; omega
      · rw [if_neg (by rw [decide_eq_true_eq]; omega), if_neg (by rw [decide_eq_true_eq]; omega)]; omega
theorem filter_take {p : Int → Bool} {l : List Int} {j : Nat} {x : Int} (h : l[j]? = some x) : ((l.take (j + 1)).filter p).length = ((l.take j).filter p).length + if p x = true then 1 else 0 := by
  rw [← take_snoc h, List.filter_append, List.length_append, List.filter_cons]
  split <;> rfl
theorem filter_len {p : Int → Bool} {l : List Int} {j : Nat} : ((l.take j).filter p).length ≤ l.length := Nat.le_trans (List.length_filter_le _ _) (by rw [List.length_take]; omega)
theorem put_tot (l : List Int) (n : Int) (hl : l.length ≤ 100000) : Tot (fun k => spec_l10Put.f k l n) (fun q => q.length ≤ l.length + 1) := by
  unfold spec_l10Put.f
  refine Tot.bind1 (spec_l09In_ev l n (by omega)) (Tot.both (fun _ => Tot.now (by omega)) (fun _ => ?_))
  refine Tot.up (fun k q i => spec_l10Put.l0 k l n q i) l.length (fun j (q : List Int) => q.length ≤ ((l.take j).filter (fun x => decide (x < n))).length) ?_ [] (by simp)
  intro j q hj hq next
  have hf := filter_len (p := fun x => decide (x < n)) (l := l) (j := j)
  refine Tot.step (fun _ => rfl) ?_
  simp only [spec_l10Put.l0]
  rw [w64 (x := (j : Int) + 1) (by omega) (by omega)]
  refine Tot.both (fun hlt => Tot.grd (by omega) ?_) (fun hge => ?_)
  · have hx : l[j]? = some l[j] := List.getElem?_eq_getElem (by omega)
    have e := filter_take (p := fun x => decide (x < n)) hx
    rw [rdI_of hx]
    refine Tot.both (fun h => Tot.grd (by simp only [List.length_cons, List.length_nil]; omega) (next _ (by omega) ?_)) (fun h => next _ (by omega) ?_)
    · rw [e, if_pos (decide_eq_true h)]; simp only [List.length_append, List.length_cons, List.length_nil]; omega
    · omega
  · obtain rfl : j = l.length := by omega
    rw [List.take_length] at hq
    have ht := two_filters n l
    refine Tot.grd (by simp only [List.length_cons, List.length_nil]; omega) ?_
    refine Tot.up (fun k q i => spec_l10Put.l1 k l n q i) l.length (fun j (p : List Int) => p.length ≤ q.length + 1 + ((l.take j).filter (fun x => decide (x > n))).length) ?_ (q ++ [n]) (by simp)
    intro j p hj hp next
    have hf := filter_len (p := fun x => decide (x > n)) (l := l) (j := j)
    refine Tot.step (fun _ => rfl) ?_
    simp only [spec_l10Put.l1]
    rw [w64 (x := (j : Int) + 1) (by omega) (by omega)]
    refine Tot.both (fun hlt => Tot.grd (by omega) ?_) (fun hge => ?_)
    · have hx : l[j]? = some l[j] := List.getElem?_eq_getElem (by omega)
      have e := filter_take (p := fun x => decide (x > n)) hx
      rw [rdI_of hx]
      refine Tot.both (fun h => Tot.grd (by simp only [List.length_cons, List.length_nil]; omega) (next _ (by omega) ?_)) (fun h => next _ (by omega) ?_)
      · rw [e, if_pos (decide_eq_true h)]; simp only [List.length_append, List.length_cons, List.length_nil]; omega
      · omega
    · obtain rfl : j = l.length := by omega
      rw [List.take_length] at hp
      exact Tot.now (by omega)
theorem numsOf_tot (a c d : Int) (l : List S67) (hl : Pl l) : Tot (fun k => spec_NumsOf.f k a c d l) (fun q => q.length ≤ 5000) := by
  have h5 := hl.1
  unfold spec_NumsOf.f
  refine Tot.up (fun k q i => spec_NumsOf.l1 k a c d l q i) 5 (fun j (q : List Int) => q.length ≤ 1000 * j) ?_ [] (by simp)
  intro j q hj hq next
  refine Tot.step (fun _ => rfl) ?_
  simp only [spec_NumsOf.l1]
  refine Tot.both (fun hlt => ?_) (fun _ => Tot.now (by omega))
  have hx : l[j]? = some l[j] := List.getElem?_eq_getElem (by omega)
  have hr := hl.2 _ (List.mem_of_getElem? hx)
  refine Tot.up (fun k q i => spec_NumsOf.l0 k a c d l (j : Int) q i) 1000 (fun i (p : List Int) => p.length ≤ q.length + i) ?_ q (by omega)
  intro i p hi hp next'
  refine Tot.step (fun _ => rfl) ?_
  simp only [spec_NumsOf.l0]
  rw [rd67 hx, w64 (x := (i : Int) + 1) (by omega) (by omega), w64 (x := (j : Int) + 1) (by omega) (by omega)]
  refine Tot.grd (by omega) (Tot.both (fun h => Tot.grd (by omega) (Tot.bind (put_tot p _ (by omega)) (fun u hu => next' u (by omega) (by omega)))) (fun h => next p (by omega) (by omega)))
theorem lines_tot (a c d : Int) (l : List S67) (hl : Pl l) : Tot (fun k => spec_PolicyLines.f k a c d l) (fun q => q.length ≤ 20000000) := by
  unfold spec_PolicyLines.f
  refine Tot.bindc1 rfl (Tot.bindc1 rfl (Tot.bindc1 rfl (Tot.bindc1 rfl (Tot.bind (numsOf_tot a c d l hl) (fun ns hn => Tot.bind (tree_tot a c d l hl 5000 ns _ hn (by rw [one_size]; omega)) (fun q hq => Tot.grd ?_ (Tot.now ?_)))))))
  · simp only [List.length_cons, List.length_nil]; omega
  · simp only [List.length_cons, List.length_nil, List.length_append]; omega
-- laying out
def plc (x : Ln) : Bool := x.f1.f0 == 0 && (x.f1.f1 == 0 && (x.f1.f2 == 0 && (x.f1.f3 == 0)))
def isAt (a : ByteArray) (x : Ln) : Bool := plc x && (x.f0.toList == a.toList)
def atV (l : List Ln) (a : ByteArray) : Int := findV (isAt a) (fun j => (j : Int)) (-1) 0 l
theorem l11At_ev (l : List Ln) (a : ByteArray) (hl : l.length ≤ 600) : Ev (fun k => spec_l11At.f k l a) (atV l a) := by
  unfold spec_l11At.f
  refine find_ev (fun k i => spec_l11At.l0 k l a i) l (isAt a) _ _ ?_ ?_ ?_
  · refine Ev.step (fun _ => rfl) ?_
    simp only [spec_l11At.l0]
    exact Ev.neg (by omega) (Ev.now _)
  · intro i x hx hp
    have hi := lt_of hx
    unfold isAt at hp
    rw [Bool.and_eq_true] at hp
    refine Ev.step (fun _ => rfl) ?_
    simp only [spec_l11At.l0]
    rw [rdL hx]
    exact Ev.pos (by omega) (Ev.pos (by omega) (Ev.bindc (show spec_l11Place.f x.f0 x.f1.f0 x.f1.f1 x.f1.f2 x.f1.f3 x.f2 x.f3 = some (plc x) from rfl) (Ev.pos hp.1 (Ev.pos hp.2 (Ev.now _)))))
  · intro i x r hx hp hh
    have hi := lt_of hx
    unfold isAt at hp
    refine Ev.step (fun _ => rfl) ?_
    simp only [spec_l11At.l0]
    rw [rdL hx, w64 (x := (i : Int) + 1) (by omega) (by omega)]
    refine Ev.pos (by omega) (Ev.pos (by omega) (Ev.bindc (show spec_l11Place.f x.f0 x.f1.f0 x.f1.f1 x.f1.f2 x.f1.f3 x.f2 x.f3 = some (plc x) from rfl) ?_))
    cases hpl : plc x with
    | false => exact Ev.neg (by simp) hh
    | true =>
      rw [hpl, Bool.true_and] at hp
      exact Ev.pos rfl (Ev.neg (by rw [hp]; simp) hh)
theorem atV_lt (l : List Ln) (a : ByteArray) : atV l a = -1 ∨ (0 ≤ atV l a ∧ atV l a < (l.length : Int)) := by
  unfold atV
  rcases findV_spec (isAt a) (fun j => (j : Int)) (-1) l 0 with ⟨_, j, x, hx, _, _, e⟩ | ⟨_, e⟩
  · have := lt_of hx
    rw [e]; right; omega
  · rw [e]; left; rfl
theorem ask_of (a : Int) : spec_l06Ask.f a = some (decide (3 ≤ a ∧ a ≤ 6)) := by
  unfold spec_l06Ask.f
  rw [spec_l01In_of]; rfl
/-- What a line that is right tells. -/
def lineP (l : List Ln) (i : Nat) (x : Ln) : Prop := (plc x = true → 1 ≤ x.f0.size) ∧ (x.f1.f0 = 7 → atV l x.f2 > (i : Int)) ∧ (3 ≤ x.f1.f0 ∧ x.f1.f0 ≤ 6 → atV l x.f2 > (i : Int) ∧ atV l x.f3 > (i : Int))
theorem plc_op {x : Ln} (h : plc x = true) : x.f1.f0 = 0 := by
  unfold plc at h
  simp only [Bool.and_eq_true, beq_iff_eq] at h
  exact h.1
theorem line_tot (l : List Ln) (hl : l.length ≤ 600) (i : Nat) (x : Ln) (hx : l[i]? = some x) : Tot (fun k => spec_l11Line.f k l (i : Int)) (fun v => v = true → lineP l i x) := by
  have hi := lt_of hx
  have no : ∀ {f : Prop}, (false = true → f) := fun h => by cases h
  unfold spec_l11Line.f
  rw [rdL hx]
  refine Tot.grd (by omega) (Tot.grd (by omega) (Tot.bindc1 (show spec_l11Place.f x.f0 x.f1.f0 x.f1.f1 x.f1.f2 x.f1.f3 x.f2 x.f3 = some (plc x) from rfl) (Tot.both (fun hp => ?_) (fun hp => ?_))))
  · refine Tot.bindc1 (spec_l01In_of _ _ _) (Tot.both (fun hs => ?_) (fun _ => Tot.now no))
    have hs' := of_decide_eq_true hs
    have hop := plc_op hp
    have fin : lineP l i x := ⟨fun _ => by omega, fun h => by omega, fun h => by omega⟩
    exact Tot.both (fun _ => Tot.both (fun _ => Tot.bind1 (l11At_ev l _ hl) (Tot.now (fun _ => fin))) (fun _ => Tot.now no)) (fun _ => Tot.now no)
  · have hj : Tot (fun k => spec_l11Line.j0 k l (i : Int)) (fun v => v = true → lineP l i x) := by
      refine Tot.step (fun _ => rfl) ?_
      simp only [spec_l11Line.j0]
      rw [rdL hx]
      refine Tot.both (fun h7 => ?_) (fun h7 => ?_)
      · exact Tot.both (fun _ => Tot.bind1 (l11At_ev l _ hl) (Tot.now (fun h => ⟨fun h' => absurd h' hp, fun _ => of_decide_eq_true h, fun h' => by omega⟩))) (fun _ => Tot.now no)
      · refine Tot.bindc1 (ask_of _) (Tot.both (fun ha => ?_) (fun ha => ?_))
        · refine Tot.bind1 (l11At_ev l _ hl) (Tot.both (fun hy => Tot.bind1 (l11At_ev l _ hl) (Tot.now (fun h => ⟨fun h' => absurd h' hp, fun h' => absurd h' h7, fun _ => ⟨hy, of_decide_eq_true h⟩⟩))) (fun _ => Tot.now no))
        · have ha' : ¬ (3 ≤ x.f1.f0 ∧ x.f1.f0 ≤ 6) := fun h => ha (decide_eq_true h)
          have fin : lineP l i x := ⟨fun h' => absurd h' hp, fun h' => absurd h' h7, fun h' => absurd h' ha'⟩
          exact Tot.both (fun _ => Tot.now (fun _ => fin)) (fun _ => Tot.now no)
    have hio := fun (k : Tot (fun k => spec_l11Line.j0 k l (i : Int)) (fun v => v = true → lineP l i x)) => Tot.bind1 (R := fun v => v = true → lineP l i x) (f := fun n t => if t = true then spec_l11Line.j0 n l (i : Int) else some false) (spec_InsOk_ev x.f1) (Tot.both (fun _ => k) (fun _ => Tot.now no))
    refine Tot.both (fun _ => Tot.both (fun _ => Tot.both (fun _ => Tot.both (fun _ => Tot.both (fun _ => hio hj) (fun _ => Tot.now no)) (fun _ => hio hj)) (fun _ => Tot.now no)) (fun _ => Tot.now no)) (fun _ => Tot.now no)
def LinesP (l : List Ln) : Prop := l.length ≤ 600 ∧ ∀ (i : Nat) x, l[i]? = some x → lineP l i x
theorem linesOk_tot (l : List Ln) (hl : l.length ≤ 600) : Tot (fun k => spec_LinesOk.f k l) (fun v => v = true → LinesP l) := by
  have no : ∀ {f : Prop}, (false = true → f) := fun h => by cases h
  unfold spec_LinesOk.f
  refine Tot.bindc1 (spec_l01In_of _ _ _) (Tot.both (fun hs => ?_) (fun _ => Tot.now no))
  have hs' := of_decide_eq_true hs
  rw [w64 (x := (l.length : Int) - 1) (by omega) (by omega)]
  refine Tot.grd (by omega) (Tot.grd (by omega) (Tot.both (fun _ => ?_) (fun _ => Tot.now no)))
  refine Tot.up (fun k (_ : Unit) i => spec_LinesOk.l0 k l i) l.length (fun j _ => ∀ (i : Nat) x, i < j → l[i]? = some x → lineP l i x) ?_ () (fun i x h => by omega)
  intro j _ hj hq next
  refine Tot.step (fun _ => rfl) ?_
  simp only [spec_LinesOk.l0]
  rw [w64 (x := (j : Int) + 1) (by omega) (by omega)]
  refine Tot.both (fun hlt => ?_) (fun hge => Tot.now (fun _ => ⟨hl, fun i x hx => hq i x (by have := lt_of hx; omega) hx⟩))
  have hx : l[j]? = some l[j] := List.getElem?_eq_getElem (by omega)
  refine Tot.bind (line_tot l hl j _ hx) (fun v hv => Tot.both (fun h => next () (by omega) (fun i x hi hx' => ?_)) (fun _ => Tot.now no))
  by_cases hij : i = j
  · subst hij
    rw [hx] at hx'
    cases hx'
    exact hv h
  · exact hq i x (by omega) hx'
theorem bytes_nil {a b : ByteArray} (h : (a.toList == b.toList) = true) (hb : (b.toList == ByteArray.empty.toList) = true) : a.size = 0 := by
  rw [beq_iff_eq] at h hb
  have e : a.toList = ByteArray.empty.toList := h.trans hb
  rw [Go.ByteArray.toList_eq, Go.ByteArray.toList_eq] at e
  have := congrArg List.length e
  simpa using this
theorem at_nil {l : List Ln} (hl : LinesP l) {a : ByteArray} (ha : (a.toList == ByteArray.empty.toList) = true) : atV l a = -1 := by
  unfold atV
  rcases findV_spec (isAt a) (fun j => (j : Int)) (-1) l 0 with ⟨_, j, x, hx, hp, _, e⟩ | ⟨_, e⟩
  · exfalso
    unfold isAt at hp
    rw [Bool.and_eq_true] at hp
    have h1 := (hl.2 j x hx).1 hp.1
    have h2 := bytes_nil hp.2 ha
    omega
  · exact e
def wayV (l : List Ln) (a : ByteArray) : Int := if (a.toList == ByteArray.empty.toList) = true then -1 else atV l a
theorem wayV_eq {l : List Ln} (hl : LinesP l) (a : ByteArray) : wayV l a = atV l a := by
  unfold wayV
  split
  · rename_i h; rw [at_nil hl h]
  · rfl
theorem ways_tot (l : List Ln) (hl : l.length ≤ 600) : Ev (fun k => spec_l11Ways.f k l) (l.map (fun x => wayV l x.f2), l.map (fun x => wayV l x.f3)) := by
  have key : Tot (fun k => spec_l11Ways.f k l) (fun r => r = (l.map (fun x => wayV l x.f2), l.map (fun x => wayV l x.f3))) := by
    unfold spec_l11Ways.f
    refine Tot.up (fun k (q : List Int × List Int) i => spec_l11Ways.l0 k l q.1 q.2 i) l.length (fun j q => q = ((l.take j).map (fun x => wayV l x.f2), (l.take j).map (fun x => wayV l x.f3))) ?_ ([], []) rfl
    intro j q hj hq next
    subst hq
    refine Tot.step (fun _ => rfl) ?_
    simp only [spec_l11Ways.l0]
    refine Tot.both (fun hlt => Tot.grd (by omega) ?_) (fun hge => ?_)
    · have hx : l[j]? = some l[j] := List.getElem?_eq_getElem (by omega)
      rw [rdL hx]
      have n2 := next ((l.take (j + 1)).map (fun x => wayV l x.f2), (l.take (j + 1)).map (fun x => wayV l x.f3)) (by omega) rfl
      rw [← take_snoc hx, List.map_append, List.map_append] at n2
      have h1 : Tot (fun k => spec_l11Ways.j1 k l ((l.take j).map (fun x => wayV l x.f2)) ((l.take j).map (fun x => wayV l x.f3)) (j : Int) (wayV l l[j].f2) (wayV l l[j].f3)) (fun r => r = (l.map (fun x => wayV l x.f2), l.map (fun x => wayV l x.f3))) := by
        refine Tot.step (fun _ => rfl) ?_
        simp only [spec_l11Ways.j1]
        rw [w64 (x := (j : Int) + 1) (by omega) (by omega)]
        exact Tot.grd (by simp only [List.length_map, List.length_take, List.length_cons, List.length_nil]; omega) (Tot.grd (by simp only [List.length_map, List.length_take, List.length_cons, List.length_nil]; omega) n2)
      have h0 : Tot (fun k => spec_l11Ways.j0 k l ((l.take j).map (fun x => wayV l x.f2)) ((l.take j).map (fun x => wayV l x.f3)) (j : Int) (wayV l l[j].f2)) (fun r => r = (l.map (fun x => wayV l x.f2), l.map (fun x => wayV l x.f3))) := by
        refine Tot.step (fun _ => rfl) ?_
        simp only [spec_l11Ways.j0]
        rw [rdL hx]
        refine Tot.grd (by omega) (Tot.both (fun h => ?_) (fun h => ?_))
        · have e : wayV l l[j].f3 = -1 := if_pos h
          rw [e] at h1; exact h1
        · have e : wayV l l[j].f3 = atV l l[j].f3 := if_neg h
          rw [e] at h1; exact Tot.bind1 (l11At_ev l _ hl) h1
      refine Tot.both (fun h => ?_) (fun h => ?_)
      · have e : wayV l l[j].f2 = -1 := if_pos h
        rw [e] at h0; exact h0
      · have e : wayV l l[j].f2 = atV l l[j].f2 := if_neg h
        rw [e] at h0; exact Tot.bind1 (l11At_ev l _ hl) h0
    · obtain rfl : j = l.length := by omega
      rw [List.take_length]; exact Tot.now rfl
  obtain ⟨r, hr, rfl⟩ := key
  exact hr
theorem begins_tot (q : List Int) (hq : q.length ≤ 600) : Tot (fun k => spec_l11Begins.f k q) (fun b => b.length = q.length) := by
  unfold spec_l11Begins.f
  refine Tot.up (fun k (s : List Int × Int) i => spec_l11Begins.l0 k q s.1 s.2 i) q.length (fun j s => s.1.length = j) ?_ ([], 0) rfl
  intro j s hj hs next
  refine Tot.step (fun _ => rfl) ?_
  simp only [spec_l11Begins.l0]
  rw [w64 (x := (j : Int) + 1) (by omega) (by omega)]
  refine Tot.both (fun hlt => Tot.grd (by simp only [List.length_cons, List.length_nil]; omega) (Tot.grd (by omega) (next (_, _) (by omega) ?_))) (fun hge => Tot.now (by omega))
  simp only [List.length_append, List.length_cons, List.length_nil]; omega
/-- Sizes: 3 only where there is a question. -/
def SzI (l : List Ln) (q : List Int) : Prop := q.length = l.length ∧ ∀ (i : Nat) x, l[i]? = some x → q.getD i 0 = 3 → 3 ≤ x.f1.f0 ∧ x.f1.f0 ≤ 6
theorem wayV_lt {l : List Ln} {i : Nat} {a : ByteArray} (hl : LinesP l) (h : atV l a > (i : Int)) : 0 ≤ wayV l a ∧ wayV l a < (l.length : Int) := by
  rw [wayV_eq hl]
  rcases atV_lt l a with h' | h' <;> omega
theorem map_rd {l : List Ln} {f : Ln → Int} {i : Nat} {x : Ln} (h : l[i]? = some x) : rd (l.map f) (i : Int) = f x := rdI_of (by rw [List.getElem?_map, h]; rfl)
theorem sizes_tot (l : List Ln) (hl : l.length ≤ 600) : Tot (fun k => spec_Sizes.f k l) (fun q => q = [] ∨ (LinesP l ∧ SzI l q)) := by
  unfold spec_Sizes.f
  refine Tot.bind (linesOk_tot l hl) (fun v hv => Tot.both (fun h => ?_) (fun _ => Tot.now (.inl rfl)))
  have hP := hv h
  refine Tot.up (fun k (q : List Int) i => spec_Sizes.l0 k l q i) l.length (fun j q => q.length = j ∧ ∀ v ∈ q, v ≠ 3) ?_ [] ⟨rfl, fun v hv => by simp at hv⟩
  intro j q hj hq next
  refine Tot.step (fun _ => rfl) ?_
  simp only [spec_Sizes.l0]
  rw [w64 (x := (j : Int) + 1) (by omega) (by omega)]
  refine Tot.both (fun hlt => Tot.grd (by omega) ?_) (fun hge => ?_)
  · have hx : l[j]? = some l[j] := List.getElem?_eq_getElem (by omega)
    rw [rdL hx]
    have push : ∀ w : Int, w ≠ 3 → (q ++ [w]).length = j + 1 ∧ ∀ v ∈ q ++ [w], v ≠ 3 := fun w hw => ⟨by simp; omega, fun v hv => by
      rcases List.mem_append.1 hv with hv | hv
      · exact hq.2 v hv
      · simp at hv; omega⟩
    refine Tot.bindc1 (show spec_l11Place.f l[j].f0 l[j].f1.f0 l[j].f1.f1 l[j].f1.f2 l[j].f1.f3 l[j].f2 l[j].f3 = some (plc l[j]) from rfl) (Tot.both (fun _ => ?_) (fun _ => ?_))
    · exact Tot.grd (by simp only [List.length_cons, List.length_nil]; omega) (next _ (by omega) (push 0 (by omega)))
    · exact Tot.grd (by simp only [List.length_cons, List.length_nil]; omega) (next _ (by omega) (push 1 (by omega)))
  · obtain rfl : j = l.length := by omega
    refine Tot.bind1 (ways_tot l hl) ?_
    have h0 : SzI l q := ⟨hq.1, fun i x hx h3 => by
      have hi := lt_of hx
      have hm : q.getD i 0 ∈ q := by
        rw [List.getD_eq_getElem?_getD, List.getElem?_eq_getElem (by omega)]; exact List.getElem_mem _
      exact absurd h3 (hq.2 _ hm)⟩
    refine Tot.up (fun k (q : List Int) i => spec_Sizes.l2 k l (l.map (fun x => wayV l x.f2), l.map (fun x => wayV l x.f3)) q i) (l.length + 1) (fun _ q => SzI l q) ?_ q h0
    intro r q hr hq next
    refine Tot.step (fun _ => rfl) ?_
    simp only [spec_Sizes.l2]
    refine Tot.both (fun hlt => ?_) (fun _ => Tot.now (.inr ⟨hP, hq⟩))
    refine Tot.bind (begins_tot q (by have := hq.1; omega)) (fun b hb => ?_)
    refine Tot.up (fun k (s : List Int × Bool) i => spec_Sizes.l1 k l (l.map (fun x => wayV l x.f2), l.map (fun x => wayV l x.f3)) (r : Int) b s.1 s.2 i) l.length (fun _ s => SzI l s.1) ?_ (q, false) hq
    intro i s hi hs next'
    refine Tot.step (fun _ => rfl) ?_
    simp only [spec_Sizes.l1]
    rw [w64 (x := (r : Int) + 1) (by omega) (by omega)]
    refine Tot.both (fun hlt' => Tot.grd (by omega) ?_) (fun _ => Tot.both (fun _ => next _ (by omega) hs) (fun _ => Tot.now (.inr ⟨hP, hs⟩)))
    have hx : l[i]? = some l[i] := List.getElem?_eq_getElem (by omega)
    have on : ∀ (q' : List Int) (z : Bool), SzI l q' → Tot (fun k => spec_Sizes.j0 k l (l.map (fun x => wayV l x.f2), l.map (fun x => wayV l x.f3)) (r : Int) b (i : Int) q' z) (fun q => q = [] ∨ (LinesP l ∧ SzI l q)) := fun q' z hq' => by
      refine Tot.step (fun _ => rfl) ?_
      simp only [spec_Sizes.j0]
      rw [w64 (x := (i : Int) + 1) (by omega) (by omega)]
      exact next' (q', z) (by omega) hq'
    rw [rdL hx, map_rd hx, map_rd hx]
    refine Tot.bindc1 (ask_of _) (Tot.both (fun ha => ?_) (fun _ => on _ _ hs))
    have ha' := of_decide_eq_true ha
    have hw := (hP.2 i _ hx).2.2 ha'
    have w1 := wayV_lt hP hw.1
    have w2 := wayV_lt hP hw.2
    have hs1 := hs.1
    have hb' := hq.1
    have set3 : SzI l (s.1.set i 3) := ⟨by rw [List.length_set]; exact hs1, fun k x hk h3 => by
      by_cases hki : i = k
      · subst hki; rw [hx] at hk; cases hk; exact ha'
      · refine hs.2 k x hk ?_
        rw [List.getD_eq_getElem?_getD, List.getElem?_set_ne hki, ← List.getD_eq_getElem?_getD] at h3; exact h3⟩
    refine Tot.grd (by omega) (Tot.both (fun _ => on _ _ hs) (fun _ => Tot.grd (by rw [List.length_map]; omega) (Tot.grd (by omega) (Tot.grd (by omega) (Tot.grd (by omega) (Tot.both (fun _ => ?_) (fun _ => ?_)))))))
    · rw [Int.toNat_natCast]; exact on _ _ set3
    · refine Tot.grd (by rw [List.length_map]; omega) (Tot.grd (by omega) (Tot.grd (by omega) (Tot.both (fun _ => ?_) (fun _ => on _ _ hs))))
      rw [Int.toNat_natCast]; exact on _ _ set3
theorem layout_tot (l : List Ln) (hl : l.length ≤ 600) : Tot (fun k => spec_Layout.f k l) (fun r => r.1.length ≤ 400) := by
  unfold spec_Layout.f
  refine Tot.bind (sizes_tot l hl) (fun q hq => Tot.both (fun _ => Tot.now (by simp)) (fun hne => ?_))
  rcases hq with rfl | ⟨hP, hS⟩
  · simp at hne
  have hS1 := hS.1
  refine Tot.bind1 (ways_tot l hl) (Tot.bind (begins_tot q (by omega)) (fun b hb => ?_))
  refine Tot.up (fun k (o : List S55) i => spec_Layout.l0 k l q (l.map (fun x => wayV l x.f2), l.map (fun x => wayV l x.f3)) b o i) l.length (fun j o => o.length ≤ 3 * j) ?_ [] (by simp)
  intro i o hi ho next
  refine Tot.step (fun _ => rfl) ?_
  simp only [spec_Layout.l0]
  rw [w64 (x := (i : Int) + 1) (by omega) (by omega)]
  refine Tot.both (fun hlt => Tot.grd (by omega) (Tot.grd (by omega) ?_)) (fun _ => Tot.both (fun _ => Tot.now (by simp)) (fun _ => Tot.now (by dsimp only; omega)))
  have hx : l[i]? = some l[i] := List.getElem?_eq_getElem (by omega)
  have hw := (hP.2 i _ hx).2
  have on : ∀ (y z w : Int), Tot (fun k => spec_Layout.j0 k l q (l.map (fun x => wayV l x.f2), l.map (fun x => wayV l x.f3)) b o (i : Int) y z w) (fun r => r.1.length ≤ 400) := fun y z w => by
    refine Tot.step (fun _ => rfl) ?_
    simp only [spec_Layout.j0]
    rw [w64 (x := (i : Int) + 1) (by omega) (by omega)]
    exact Tot.grd (by simp only [List.length_cons, List.length_nil]; omega) (next _ (by omega) (by simp only [List.length_append, List.length_cons, List.length_nil]; omega))
  rw [rdL hx, map_rd hx, map_rd hx]
  refine Tot.both (fun _ => next _ (by omega) (by omega)) (fun _ => Tot.both (fun h3 => ?_) (fun _ => Tot.both (fun h7 => ?_) (fun _ => ?_)))
  · have h3' : q.getD i 0 = 3 := by unfold rd at h3; rw [Int.toNat_natCast] at h3; exact h3
    have ha := hw.2 (hS.2 i _ hx h3')
    have w1 := wayV_lt hP ha.1
    have w2 := wayV_lt hP ha.2
    refine Tot.grd (by rw [List.length_map]; omega) (Tot.grd (by omega) (Tot.grd (by omega) (Tot.grd (by omega) (Tot.grd (by rw [List.length_map]; omega) (Tot.grd (by omega) (Tot.grd (by omega) (Tot.grd (by simp only [List.length_cons, List.length_nil]; omega) (next _ (by omega) ?_))))))))
    simp only [List.length_append, List.length_cons, List.length_nil]; omega
  · have w1 := wayV_lt hP (hw.1 h7)
    exact Tot.grd (by rw [List.length_map]; omega) (Tot.grd (by omega) (Tot.grd (by omega) (Tot.grd (by omega) (on _ _ _))))
  · refine Tot.bindc1 (ask_of _) (Tot.both (fun h => ?_) (fun _ => on _ _ _))
    have ha := hw.2 (of_decide_eq_true h)
    have w1 := wayV_lt hP ha.1
    have w2 := wayV_lt hP ha.2
    exact Tot.grd (by rw [List.length_map]; omega) (Tot.grd (by omega) (Tot.grd (by omega) (Tot.grd (by omega) (Tot.grd (by rw [List.length_map]; omega) (Tot.grd (by omega) (Tot.grd (by omega) (on _ _ _)))))))
theorem compile_tot (a c d : Int) (l : List S67) (hl : Pl l) : Tot (fun k => spec_Compile.f k a c d l) (fun r => r.1.length ≤ 400) := by
  have hs : Sm l := ⟨by have := hl.1; omega, fun r hr => ⟨(hl.2 r hr).1, by have := (hl.2 r hr).2; omega⟩⟩
  unfold spec_Compile.f
  refine Tot.bind1 (spec_PolicyOk_ev a c d l hs) (Tot.both (fun _ => ?_) (fun _ => Tot.now (by simp)))
  refine Tot.bind (lines_tot a c d l hl) (fun q hq => Tot.both (fun _ => Tot.now (by simp)) (fun h => ?_))
  exact Tot.bind (layout_tot q (by omega)) (fun r hr => Tot.both (fun _ => Tot.now hr) (fun _ => Tot.now (by simp)))
theorem runs_w30_inner (l : List S55) (out : List Int) (i : Nat) (v : Int) (ks : List Int) (hk : ∀ k ∈ ks, 0 ≤ k ∧ k < (out.length : Int)) (hks : ks.length ≤ 2) (r : Int)
    (hc : Ev (fun k => impl_LongestRun_1.f k (ks.map (fun k => out.getD k.toNat 0))) v) (hi : i < out.length) (hr : Ev (fun k => impl_runs_w30.l1 k l (out.set i v) ((i : Int) - 1)) r) (hn : out.length ≤ 400) :
    ∀ (d j : Nat) (q : List Int), ks.length - j = d → j ≤ ks.length → q = (ks.take j).map (fun k => out.getD k.toNat 0) → Ev (fun k => impl_runs_w30.l0 k l out (i : Int) ks q (j : Int)) r := by
  intro d
  induction d with
  | zero =>
    intro j q hd hj hq
    rw [List.take_of_length_le (by omega)] at hq
    subst hq
    refine Ev.step (fun _ => rfl) ?_
    simp only [impl_runs_w30.l0]
    rw [w64 (x := (i : Int) - 1) (by omega) (by omega), Int.toNat_natCast]
    exact Ev.neg (by omega) (Ev.bind hc (Ev.pos (by omega) hr))
  | succ d ih =>
    intro j q hd hj hq
    have hx : ks[j]? = some ks[j] := List.getElem?_eq_getElem (by omega)
    have hb := hk ks[j] (List.getElem_mem _)
    have ht : (ks.take (j + 1)).map (fun k => out.getD k.toNat 0) = q ++ [out.getD ks[j].toNat 0] := by
      rw [List.take_succ_eq_append_getElem (by omega), List.map_append, hq]; rfl
    generalize ks[j] = y at hx hb ht
    have e : rd ks (j : Int) = y := by unfold rd; exact get_of ks 0 hx
    have hql : q.length ≤ 2 := by rw [hq, List.length_map, List.length_take]; omega
    refine Ev.step (fun _ => rfl) ?_
    simp only [impl_runs_w30.l0]
    rw [e, w64 (x := (j : Int) + 1) (by omega) (by omega), show (j : Int) + 1 = ((j + 1 : Nat) : Int) from rfl]
    exact Ev.pos (by omega) (Ev.pos (by omega) (Ev.pos hb.1 (Ev.pos hb.2 (Ev.pos (by simp; omega) (ih (j + 1) _ (by omega) (by omega) ht.symm)))))
/-- The table that runs makes, from its end. -/
theorem runs_w30_ev (l : List S55) (hl : chk l = true) (of : List Int → Int) (P : Nat → Int → Prop)
    (hP : ∀ (i : Nat) x (f : Nat → Int), l[i]? = some x → (∀ k ∈ nextV x (i : Int), P k.toNat (f k.toNat)) → Ev (fun k => impl_LongestRun_1.f k ((nextV x (i : Int)).map (fun k => f k.toNat))) (of ((nextV x (i : Int)).map (fun k => f k.toNat))) ∧ P i (of ((nextV x (i : Int)).map (fun k => f k.toNat)))) :
    ∃ T : List Int, T.length = l.length ∧ Ev (fun k => impl_runs_w30.f k l) (T.getD 0 0) ∧ ∀ (i : Nat) x, l[i]? = some x → T.getD i 0 = of ((nextV x (i : Int)).map (fun k => T.getD k.toNat 0)) ∧ P i (T.getD i 0) := by
  obtain ⟨c1, _, c3⟩ := chk_of hl
  have hg : ∀ (q : List Int) (i j : Nat) (v : Int), i ≠ j → (q.set i v).getD j 0 = q.getD j 0 := fun q i j v h => by rw [List.getD_eq_getElem?_getD, List.getD_eq_getElem?_getD, List.getElem?_set_ne h]
  have hs : ∀ (q : List Int) (i : Nat) (v : Int), i < q.length → (q.set i v).getD i 0 = v := fun q i v h => by rw [List.getD_eq_getElem?_getD, List.getElem?_set_self h]; rfl
  have key : ∀ (m : Nat) (out : List Int), m ≤ l.length → out.length = l.length → (∀ (i : Nat) x, m ≤ i → l[i]? = some x → out.getD i 0 = of ((nextV x (i : Int)).map (fun k => out.getD k.toNat 0)) ∧ P i (out.getD i 0)) →
      ∃ T : List Int, T.length = l.length ∧ Ev (fun k => impl_runs_w30.l1 k l out ((m : Int) - 1)) (T.getD 0 0) ∧ ∀ (i : Nat) x, l[i]? = some x → T.getD i 0 = of ((nextV x (i : Int)).map (fun k => T.getD k.toNat 0)) ∧ P i (T.getD i 0) := by
    intro m
    induction m with
    | zero =>
      intro out hm ho hin
      refine ⟨out, ho, Ev.step (fun _ => rfl) ?_, fun i x hx => hin i x (Nat.zero_le _) hx⟩
      simp only [impl_runs_w30.l1]
      exact Ev.neg (by omega) (Ev.pos (by omega) (Ev.some_ rfl))
    | succ m ih =>
      intro out hm ho hin
      have hx : l[m]? = some l[m] := List.getElem?_eq_getElem (by omega)
      generalize l[m] = x at hx
      obtain ⟨hio, hf⟩ := c3 m x hx
      have hb := next_bound (n := l.length) hio hf
      have hnp : ∀ k ∈ nextV x (m : Int), P k.toNat (out.getD k.toNat 0) := fun k hk => by
        have := hb k hk
        have hy : l[k.toNat]? = some l[k.toNat] := List.getElem?_eq_getElem (by omega)
        exact (hin k.toNat _ (by omega) hy).2
      obtain ⟨q1, q2⟩ := hP m x (fun j => out.getD j 0) hx hnp
      have same : ∀ (v : Int) (i : Nat) y, m ≤ i → l[i]? = some y → (nextV y (i : Int)).map (fun k => (out.set m v).getD k.toNat 0) = (nextV y (i : Int)).map (fun k => out.getD k.toNat 0) := fun v i y hi hy => by
        obtain ⟨hio', hf'⟩ := c3 i y hy
        have hb' := next_bound (n := l.length) hio' hf'
        refine List.map_congr_left fun k hk => hg out m k.toNat v ?_
        have := hb' k hk
        omega
      obtain ⟨T, t1, t2, t3⟩ := ih (out.set m (of ((nextV x (m : Int)).map (fun k => out.getD k.toNat 0)))) (by omega) (by rw [List.length_set]; exact ho) (fun i y hi hy => by
        rw [same _ i y (by omega) hy]
        by_cases hmi : m = i
        · subst hmi
          have : y = x := by rw [hx] at hy; exact (Option.some.inj hy).symm
          subst this
          rw [hs _ _ _ (by omega)]
          exact ⟨rfl, q2⟩
        · rw [hg _ _ _ _ hmi]
          exact hin i y (by omega) hy)
      refine ⟨T, t1, Ev.step (fun _ => rfl) ?_, t3⟩
      simp only [impl_runs_w30.l1]
      rw [show ((m + 1 : Nat) : Int) - 1 = (m : Int) by omega, rd55 hx]
      refine Ev.pos (by omega) (Ev.pos (by omega) (Ev.pos (by omega) (Ev.bind (impl_ways_ev m x (by omega) hio) ?_)))
      exact runs_w30_inner l out m _ (nextV x (m : Int)) (fun k hk => by have := hb k hk; omega) (nextV_len _ _) _ q1 (by omega) t2 (by omega) _ 0 [] rfl (Nat.zero_le _) (by simp)
  obtain ⟨T, t1, t2, t3⟩ := key l.length (List.replicate l.length 0) (Nat.le_refl _) (by simp) (fun i x hi hx => by have := lt_of hx; omega)
  refine ⟨T, t1, ?_, t3⟩
  unfold impl_runs_w30.f
  rw [Int.toNat_natCast, w64 (x := (l.length : Int) - 1) (by omega) (by omega)]
  have hcp := impl_CheckProgram_ev l (by omega)
  rw [hl] at hcp
  exact Ev.bind hcp (Ev.pos rfl (Ev.pos (by omega) (Ev.pos (by omega) t2)))
theorem runs_w30_no (l : List S55) (hn : l.length ≤ 1048576) (hl : chk l = false) : Ev (fun k => impl_runs_w30.f k l) 0 := by
  unfold impl_runs_w30.f
  have hcp := impl_CheckProgram_ev l hn
  rw [hl] at hcp
  exact Ev.bind hcp (Ev.neg (by simp) (Ev.now _))
def ofL (xs : List Int) : Int := xs.foldl max 0 + 1
theorem fold_loop {β : Type} (L : Nat → β → Int → Option Int) (xs : List Int) (f : β → Int → β) (fin : β → Int) (hx : xs.length ≤ 1000)
    (stop : ∀ p, Ev (fun k => L k p (xs.length : Int)) (fin p)) (step : ∀ (j : Nat) y p r, xs[j]? = some y → Ev (fun k => L k (f p y) ((j : Int) + 1)) r → Ev (fun k => L k p (j : Int)) r) :
    ∀ (d j : Nat) (p : β), xs.length - j = d → j ≤ xs.length → Ev (fun k => L k p (j : Int)) (fin ((xs.drop j).foldl f p)) := by
  intro d
  induction d with
  | zero =>
    intro j p hd hj
    have : j = xs.length := by omega
    subst this
    rw [List.drop_length]
    exact stop p
  | succ d ih =>
    intro j p hd hj
    have hx : xs[j]? = some xs[j] := List.getElem?_eq_getElem (by omega)
    rw [List.drop_eq_getElem_cons (by omega), List.foldl_cons]
    exact step j _ p _ hx (by have := ih (j + 1) (f p xs[j]) (by omega) (by omega); simpa using this)
theorem longest_clo (xs : List Int) (hl : xs.length ≤ 2) (hb : ∀ v ∈ xs, 0 ≤ v ∧ v ≤ 1000) : Ev (fun k => impl_LongestRun_1.f k xs) (ofL xs) := by
  unfold impl_LongestRun_1.f
  have bound : ∀ (ys : List Int) (p : Int), (∀ v ∈ ys, 0 ≤ v ∧ v ≤ 1000) → 0 ≤ p → p ≤ 1000 → 0 ≤ ys.foldl max p ∧ ys.foldl max p ≤ 1000 := by
    intro ys
    induction ys with
    | nil => intro p _ h0 h1; exact ⟨h0, h1⟩
    | cons y ys ih => intro p h h0 h1; have := h y List.mem_cons_self; exact ih (max p y) (fun v hv => h v (List.mem_cons_of_mem _ hv)) (by omega) (by omega)
  have h := fold_loop (fun k p j => impl_LongestRun_1.l0 k xs p j) xs max (fun p => wrap64 (p + 1)) (by omega) (fun p => Ev.step (fun _ => rfl) (by simp only [impl_LongestRun_1.l0]; exact Ev.neg (by omega) (Ev.now _))) (fun j y p r hy h => by
    have hj := lt_of hy
    have e : rd xs (j : Int) = y := by unfold rd; exact get_of xs 0 hy
    refine Ev.step (fun _ => rfl) ?_
    simp only [impl_LongestRun_1.l0]
    rw [e, w64 (x := (j : Int) + 1) (by omega) (by omega)]
    exact Ev.pos (by omega) (Ev.pos (by omega) h)) xs.length 0 0 rfl (Nat.zero_le _)
  rw [List.drop_zero] at h
  have hbd := bound xs 0 hb (by omega) (by omega)
  rw [w64 (by omega) (by omega)] at h
  exact h
theorem fold_max_le : ∀ (xs : List Int) (p B : Int), p ≤ B → (∀ v ∈ xs, v ≤ B) → xs.foldl max p ≤ B
  | [], p, B, h, _ => h
  | x :: r, p, B, h, hx => fold_max_le r (max p x) B (by have := hx x List.mem_cons_self; omega) (fun v hv => hx v (List.mem_cons_of_mem _ hv))
theorem fold_max_ge : ∀ (xs : List Int) (p : Int), p ≤ xs.foldl max p ∧ ∀ v ∈ xs, v ≤ xs.foldl max p
  | [], p => ⟨Int.le_refl _, fun v hv => by simp at hv⟩
  | x :: r, p => by
    obtain ⟨h1, h2⟩ := fold_max_ge r (max p x)
    refine ⟨by show p ≤ r.foldl max (max p x); omega, fun v hv => ?_⟩
    show v ≤ r.foldl max (max p x)
    rcases List.mem_cons.1 hv with rfl | hv
    · omega
    · exact h2 v hv
theorem nextV_nil (x : S55) (i : Int) : nextV x i = [] ↔ x.f0 = 8 := by
  unfold nextV
  by_cases h8 : x.f0 = 8
  · simp [h8]
  · rw [if_neg h8]
    repeat' split
    all_goals simp [h8]
theorem longest_tab (l : List S55) (hl : chk l = true) : ∃ T : List Int, T.length = l.length ∧ Ev (fun k => impl_LongestRun.f k l) (T.getD 0 0) ∧ ∀ (i : Nat) x, l[i]? = some x → T.getD i 0 = ofL ((nextV x (i : Int)).map (fun k => T.getD k.toNat 0)) ∧ 1 ≤ T.getD i 0 ∧ T.getD i 0 ≤ (l.length : Int) - i := by
  obtain ⟨c1, _, c3⟩ := chk_of hl
  obtain ⟨T, t1, t2, t3⟩ := runs_w30_ev l hl ofL (fun i v => 1 ≤ v ∧ v ≤ (l.length : Int) - i) (fun i x f hx hn => by
    obtain ⟨hio, hf⟩ := c3 i x hx
    have hb := next_bound (n := l.length) hio hf
    have hi := lt_of hx
    have hbb : ∀ v ∈ (nextV x (i : Int)).map (fun k => f k.toNat), 0 ≤ v ∧ v ≤ (l.length : Int) - i - 1 := fun v hv => by
      obtain ⟨k, hk, rfl⟩ := List.mem_map.1 hv
      have h1 := hb k hk
      have h2 := hn k hk
      omega
    refine ⟨longest_clo _ (by rw [List.length_map]; exact nextV_len _ _) (fun v hv => by have := hbb v hv; omega), ?_⟩
    unfold ofL
    have h1 := (fold_max_ge ((nextV x (i : Int)).map (fun k => f k.toNat)) 0).1
    have h2 := fold_max_le ((nextV x (i : Int)).map (fun k => f k.toNat)) 0 ((l.length : Int) - i - 1) (by omega) (fun v hv => (hbb v hv).2)
    omega)
  exact ⟨T, t1, by unfold impl_LongestRun.f; exact Ev.bind t2 (Ev.now _), t3⟩
theorem getD_set (q : List Bool) (i j : Nat) (v : Bool) : (q.set i v).getD j false = if i = j ∧ i < q.length then v else q.getD j false := by
  rw [List.getD_eq_getElem?_getD, List.getD_eq_getElem?_getD, List.getElem?_set]
  by_cases h : i = j
  · subst h
    by_cases hl : i < q.length
    · simp [hl]
    · simp [hl]
  · simp [h]
theorem mark_get : ∀ (ks : List Int) (q : List Bool) (j : Nat), (mark q ks).getD j false = true ↔ q.getD j false = true ∨ ∃ k ∈ ks, k.toNat = j ∧ j < q.length
  | [], q, j => by simp [mark]
  | k :: ks, q, j => by
    show (mark (q.set k.toNat true) ks).getD j false = true ↔ _
    rw [mark_get ks, getD_set]
    by_cases h : k.toNat = j ∧ k.toNat < q.length
    · rw [if_pos h]
      exact ⟨fun _ => .inr ⟨k, List.mem_cons_self, h.1, by omega⟩, fun _ => .inl rfl⟩
    · rw [if_neg h]
      constructor
      · rintro (h1 | ⟨k', h1, h2, h3⟩)
        · exact .inl h1
        · exact .inr ⟨k', List.mem_cons_of_mem _ h1, h2, by simpa using h3⟩
      · rintro (h1 | ⟨k', h1, h2, h3⟩)
        · exact .inl h1
        · rcases List.mem_cons.1 h1 with rfl | h1
          · exact absurd ⟨h2, by omega⟩ h
          · exact .inr ⟨k', h1, h2, by simpa using h3⟩
theorem reachF_closed : ∀ (r : List S55) (i : Nat) (q : List Bool), q.length = i + r.length → (∀ (j : Nat) x, r[j]? = some x → ∀ k ∈ nextV x ((i + j : Nat) : Int), ((i + j : Nat) : Int) < k ∧ k < (q.length : Int)) →
    (∀ j, q.getD j false = true → (reachF r i q).getD j false = true) ∧ (∀ j, j ≤ i → (reachF r i q).getD j false = q.getD j false) ∧ (∀ (j : Nat) x, r[j]? = some x → (reachF r i q).getD (i + j) false = true → ∀ k ∈ nextV x ((i + j : Nat) : Int), (reachF r i q).getD k.toNat false = true)
  | [], i, q, _, _ => ⟨fun _ h => h, fun _ _ => rfl, fun j x h => by simp at h⟩
  | x :: r, i, q, hq, hn => by
    have hb : ∀ k ∈ nextV x (i : Int), (i : Int) < k ∧ k < (q.length : Int) := fun k hk => hn 0 x rfl k (by simpa using hk)
    have hone : ∀ j, q.getD j false = true → (reachOne x i q).getD j false = true := fun j h => by
      unfold reachOne
      split
      · exact (mark_get _ _ _).2 (.inl h)
      · exact h
    have hlow : ∀ j, j ≤ i → (reachOne x i q).getD j false = q.getD j false := fun j h => by
      unfold reachOne
      split
      · rw [Bool.eq_iff_iff, mark_get]
        refine ⟨fun h' => ?_, .inl⟩
        rcases h' with h' | ⟨k, hk, hkj, _⟩
        · exact h'
        · have := hb k hk; omega
      · rfl
    obtain ⟨h1, h2, h3⟩ := reachF_closed r (i + 1) (reachOne x i q) (by rw [reachOne_length, hq]; simp; omega) (fun j y hy k hk => by
      rw [reachOne_length]
      have := hn (j + 1) y (by simpa using hy) k (by rw [show i + (j + 1) = i + 1 + j by omega]; exact hk)
      rw [show i + 1 + j = i + (j + 1) by omega]; exact this)
    refine ⟨fun j h => h1 j (hone j h), fun j h => (h2 j (by omega)).trans (hlow j h), fun j y hy h k hk => ?_⟩
    cases j with
    | zero =>
      have hxy : y = x := by simpa using hy.symm
      subst hxy
      rw [Nat.add_zero] at h hk
      have hqi : q.getD i false = true := by
        have := (h2 i (by omega)).trans (hlow i (Nat.le_refl _))
        rw [← this]; exact h
      refine h1 k.toNat ?_
      unfold reachOne
      rw [if_pos hqi]
      have := hb k hk
      exact (mark_get _ _ _).2 (.inr ⟨k, hk, rfl, by omega⟩)
    | succ j =>
      rw [show i + (j + 1) = i + 1 + j by omega] at h hk
      exact h3 j y (by simpa using hy) h k hk
theorem reachV_closed (l : List S55) (hl : chk l = true) : (reachV l).length = l.length ∧ (reachV l).getD 0 false = true ∧ ∀ (i : Nat) x, l[i]? = some x → (reachV l).getD i false = true → ∀ k ∈ nextV x (i : Int), (reachV l).getD k.toNat false = true := by
  obtain ⟨c1, _, c3⟩ := chk_of hl
  have hlen : ((List.replicate l.length false).set 0 true).length = l.length := by simp
  obtain ⟨h1, h2, h3⟩ := reachF_closed l 0 ((List.replicate l.length false).set 0 true) (by rw [hlen]; omega) (fun j x hx k hk => by
    rw [hlen]
    have := next_bound (n := l.length) (c3 j x hx).1 (c3 j x hx).2 k (by simpa using hk)
    simpa using this)
  unfold reachV
  rw [if_pos hl]
  refine ⟨by rw [reachF_length, hlen], h1 0 (by rw [getD_set, if_pos ⟨rfl, by simp; omega⟩]), fun i x hx h k hk => ?_⟩
  have := h3 i x hx (by simpa using h) k (by simpa using hk)
  exact this
theorem nums_mem (op : Int) : ∀ (l : List S55) (R : List Bool) (i : Nat) (x : S55), l[i]? = some x → R.getD i false = true → x.f0 = op → x.f1 ∈ numsF op l R
  | [], _, i, x, h, _, _ => by simp at h
  | y :: r, [], i, x, _, h, _ => by simp at h
  | y :: r, b :: R, 0, x, h, hb, ho => by
    simp at h hb
    subst h
    unfold numsF
    rw [if_pos ⟨hb, ho⟩]; exact List.mem_cons_self
  | y :: r, b :: R, i + 1, x, h, hb, ho => by
    have := nums_mem op r R i x (by simpa using h) (by simpa using hb) ho
    unfold numsF
    split
    · exact List.mem_cons_of_mem _ this
    · exact this
theorem said_mem (l : List S55) (op : Int) (i : Nat) (x : S55) (h : l[i]? = some x) (hr : (reachV l).getD i false = true) (ho : x.f0 = op) : x.f1 ∈ saidV l op := by
  unfold saidV
  rw [(fold_put (numsF op l (reachV l)) [] List.Pairwise.nil).2]
  exact .inl (nums_mem op l (reachV l) i x h hr ho)
theorem hasNum_ev (l : List Int) (n : Int) (hl : l.length ≤ 1048576) (hm : n ∈ l) : Ev (fun k => laws_hasNum.f k l n) true := by
  unfold laws_hasNum.f
  have key : ∀ (d i : Nat), l.length - i = d → i ≤ l.length → n ∈ l.drop i → Ev (fun k => laws_hasNum.l0 k l n (i : Int)) true := by
    intro d
    induction d with
    | zero => intro i hd hi h; rw [List.drop_eq_nil_of_le (by omega)] at h; simp at h
    | succ d ih =>
      intro i hd hi h
      have hx : l[i]? = some l[i] := List.getElem?_eq_getElem (by omega)
      rw [List.drop_eq_getElem_cons (by omega)] at h
      generalize l[i] = x at hx h
      have e : rd l (i : Int) = x := by unfold rd; exact get_of l 0 hx
      refine Ev.step (fun _ => rfl) ?_
      simp only [laws_hasNum.l0]
      rw [e, w64 (x := (i : Int) + 1) (by omega) (by omega)]
      refine Ev.pos (by omega) (Ev.pos (by omega) ?_)
      by_cases hxn : x = n
      · exact Ev.pos hxn (Ev.now _)
      · refine Ev.neg hxn (ih (i + 1) (by omega) (by omega) ?_)
        rcases List.mem_cons.1 h with h | h
        · exact absurd h.symm hxn
        · exact h
  exact key l.length 0 rfl (Nat.zero_le _) (by simpa using hm)
abbrev Iw := S55
theorem chk_intro {l : List Iw} (h : 1 ≤ l.length ∧ l.length ≤ 400) (hr : lastRet l = true) (ha : ∀ (i : Nat) x, l[i]? = some x → insOk x = true ∧ (i : Int) + farI x < l.length) : chk l = true := by
  unfold chk
  rw [Bool.and_eq_true, Bool.and_eq_true]
  refine ⟨decide_eq_true h, allI_intro l 0 (fun j x hx => ?_), hr⟩
  obtain ⟨a, b⟩ := ha j x hx
  unfold chkOne
  rw [Bool.and_eq_true]
  exact ⟨a, decide_eq_true (by rw [Nat.zero_add]; exact b)⟩
theorem getZ {l : List Iw} {i : Nat} {x : Iw} (h : l[i]? = some x) : l.getD i z55 = x := get_of l z55 h
theorem getE' {l : List Iw} {i : Nat} (h : i < l.length) : l[i]? = some (l.getD i z55) := by
  rw [List.getD_eq_getElem?_getD, List.getElem?_eq_getElem h]; rfl
theorem setZ {q : List Iw} {m j : Nat} {v : Iw} (h : j ≠ m) : (q.set m v).getD j z55 = q.getD j z55 := by
  rw [List.getD_eq_getElem?_getD, List.getD_eq_getElem?_getD, List.getElem?_set_ne (by omega)]
theorem setS {q : List Iw} {m : Nat} {v : Iw} (h : m < q.length) : (q.set m v).getD m z55 = v := by
  rw [List.getD_eq_getElem?_getD, List.getElem?_set_self h]; rfl
/-- What threading does. -/
def ThP (l q : List Iw) : Prop := q.length = l.length ∧ ∀ (i : Nat) x, l[i]? = some x → q.getD i z55 = if x.f0 = 7 ∧ (q.getD (i + 1 + x.f1.toNat) z55).f0 = 8 then q.getD (i + 1 + x.f1.toNat) z55 else x
theorem jump_in {l : List Iw} (hl : chk l = true) {i : Nat} {x : Iw} (hx : l[i]? = some x) (h7 : x.f0 = 7) : 0 ≤ x.f1 ∧ i + 1 + x.f1.toNat < l.length := by
  obtain ⟨_, _, c3⟩ := chk_of hl
  obtain ⟨h1, h2⟩ := c3 i x hx
  have h3 := (insOk_of h1).2.1
  unfold farI at h2
  rw [if_neg (by omega), if_pos h7] at h2
  omega
theorem thr_tot (l : List Iw) (hl : chk l = true) : Tot (fun k => spec_Threaded.f k l) (ThP l) := by
  obtain ⟨c1, _, c3⟩ := chk_of hl
  have hcp := spec_CheckProgram_ev l (by omega)
  rw [hl] at hcp
  unfold spec_Threaded.f
  simp only [List.nil_append, List.length_nil]
  rw [w64 (x := (l.length : Int) - 1) (by omega) (by omega)]
  refine Tot.grd (by omega) (Tot.bind1 hcp (Tot.pos rfl ?_))
  have key : ∀ (m : Nat) (out : List Iw), m ≤ l.length → out.length = l.length → (∀ (i : Nat) x, l[i]? = some x → i < m → out.getD i z55 = x) → (∀ (i : Nat) x, l[i]? = some x → m ≤ i → out.getD i z55 = if x.f0 = 7 ∧ (out.getD (i + 1 + x.f1.toNat) z55).f0 = 8 then out.getD (i + 1 + x.f1.toNat) z55 else x) → Tot (fun k => spec_Threaded.l0 k out ((m : Int) - 1)) (ThP l) := by
    intro m
    induction m with
    | zero =>
      intro out hm ho h1 h2
      refine Tot.step (fun _ => rfl) ?_
      simp only [spec_Threaded.l0]
      exact Tot.neg (by omega) (Tot.now ⟨ho, fun i x hx => h2 i x hx (Nat.zero_le _)⟩)
    | succ m ih =>
      intro out hm ho h1 h2
      have hx : l[m]? = some l[m] := List.getElem?_eq_getElem (by omega)
      generalize l[m] = x at hx
      have e : rd_T55 out (m : Int) = x := by unfold rd_T55; rw [Int.toNat_natCast]; exact h1 m x hx (by omega)
      have go : ∀ out' : List Iw, out'.length = l.length → (∀ j, j ≠ m → out'.getD j z55 = out.getD j z55) → out'.getD m z55 = (if x.f0 = 7 ∧ (out.getD (m + 1 + x.f1.toNat) z55).f0 = 8 then out.getD (m + 1 + x.f1.toNat) z55 else x) → Tot (fun k => spec_Threaded.l0 k out' ((m : Int) - 1)) (ThP l) := fun out' ho' hne hm' =>
        ih out' (by omega) ho' (fun i y hy hi => by rw [hne i (by omega)]; exact h1 i y hy (by omega)) (fun i y hy hi => by
          rw [hne (i + 1 + y.f1.toNat) (by omega)]
          by_cases him : i = m
          · subst him
            rw [hx] at hy; cases hy
            exact hm'
          · rw [hne i him]; exact h2 i y hy (by omega))
      refine Tot.step (fun _ => rfl) ?_
      simp only [spec_Threaded.l0]
      rw [show ((m + 1 : Nat) : Int) - 1 = (m : Int) by omega, e]
      refine Tot.pos (by omega) (Tot.grd (by omega) (Tot.grd (by omega) (Tot.both (fun h7 => ?_) (fun h7 => ?_))))
      · obtain ⟨j1, j2⟩ := jump_in hl hx h7
        rw [w64 (x := (m : Int) + 1) (by omega) (by omega), w64 (x := (m : Int) + 1 + x.f1) (by omega) (by omega)]
        have e2 : rd_T55 out ((m : Int) + 1 + x.f1) = out.getD (m + 1 + x.f1.toNat) z55 := by unfold rd_T55; rw [show ((m : Int) + 1 + x.f1).toNat = m + 1 + x.f1.toNat by omega]
        rw [e2]
        refine Tot.grd (by omega) (Tot.grd (by omega) (Tot.step (fun _ => rfl) ?_))
        simp only [spec_Threaded.j0]
        rw [e, w64 (x := (m : Int) + 1) (by omega) (by omega), w64 (x := (m : Int) + 1 + x.f1) (by omega) (by omega), w64 (x := (m : Int) - 1) (by omega) (by omega), e2, Int.toNat_natCast]
        refine Tot.both (fun h8 => ?_) (fun h8 => ?_)
        · have h8' := eq_of_beq h8
          exact Tot.grd (by omega) (Tot.grd (by omega) (Tot.grd (by omega) (Tot.grd (by omega) (go _ (by rw [List.length_set]; exact ho) (fun j hj => setZ hj) (by rw [setS (by omega), if_pos ⟨h7, h8'⟩])))))
        · have h8' : ¬ (out.getD (m + 1 + x.f1.toNat) z55).f0 = 8 := fun h => h8 (beq_iff_eq.2 h)
          exact go out ho (fun _ _ => rfl) (by rw [if_neg (fun h => h8' h.2)]; exact h1 m x hx (by omega))
      · refine Tot.step (fun _ => rfl) ?_
        simp only [spec_Threaded.j0]
        rw [w64 (x := (m : Int) - 1) (by omega) (by omega)]
        exact Tot.neg (by simp) (go out ho (fun _ _ => rfl) (by rw [if_neg (fun h => h7 h.1)]; exact h1 m x hx (by omega)))
  exact key l.length l (Nat.le_refl _) rfl (fun i x hx _ => getZ hx) (fun i x hx hi => by have := lt_of hx; omega)
/-- Either as it was, or a Ret out of further on. -/
theorem thr_at {l q : List Iw} (hl : chk l = true) (hq : ThP l q) {i : Nat} {x : Iw} (hx : l[i]? = some x) : q.getD i z55 = x ∨ (x.f0 = 7 ∧ i + 1 + x.f1.toNat < l.length ∧ 0 ≤ x.f1 ∧ q.getD i z55 = q.getD (i + 1 + x.f1.toNat) z55 ∧ (q.getD i z55).f0 = 8) := by
  have h := hq.2 i x hx
  by_cases hc : x.f0 = 7 ∧ (q.getD (i + 1 + x.f1.toNat) z55).f0 = 8
  · rw [if_pos hc] at h
    obtain ⟨j1, j2⟩ := jump_in hl hx hc.1
    exact .inr ⟨hc.1, j2, j1, h, by rw [h]; exact hc.2⟩
  · rw [if_neg hc] at h; exact .inl h
theorem thr_chk {l q : List Iw} (hl : chk l = true) (hq : ThP l q) : chk q = true := by
  obtain ⟨c1, c2, c3⟩ := chk_of hl
  have hlen := hq.1
  have key : ∀ (d i : Nat), l.length - i = d → i < l.length → insOk (q.getD i z55) = true ∧ (i : Int) + farI (q.getD i z55) < l.length := by
    intro d
    induction d using Nat.strongRecOn with
    | _ d ih =>
      intro i hd hi
      have hx := getE' hi
      rcases thr_at hl hq hx with h | ⟨h7, h2, h3, h4, h5⟩
      · rw [h]; exact c3 i _ hx
      · have := ih (l.length - (i + 1 + (l.getD i z55).f1.toNat)) (by omega) _ rfl h2
        rw [← h4] at this
        refine ⟨this.1, ?_⟩
        unfold farI
        rw [if_neg (by omega), if_neg (by omega), if_pos h5]
        omega
  refine chk_intro (by omega) ?_ (fun i x hx => ?_)
  · have hx := getE' (l := l) (i := l.length - 1) (by omega)
    unfold lastRet at c2 ⊢
    rw [hlen]
    have c2' := eq_of_beq c2
    rcases thr_at hl hq hx with h | ⟨h7, _⟩
    · rw [h]; exact c2
    · omega
  · have hi := lt_of hx
    have := key _ i rfl (by omega)
    rw [getZ hx] at this
    rw [hlen]; exact this
theorem reachF_min (S : Nat → Prop) : ∀ (r : List Iw) (i : Nat) (q : List Bool), (∀ j, q.getD j false = true → S j) → (∀ (j : Nat) x, r[j]? = some x → S (i + j) → ∀ k ∈ nextV x ((i + j : Nat) : Int), S k.toNat) → ∀ j, (reachF r i q).getD j false = true → S j
  | [], _, _, h, _, j, hj => h j hj
  | x :: r, i, q, h, hc, j, hj => by
    refine reachF_min S r (i + 1) (reachOne x i q) (fun j hj => ?_) (fun j y hy hs k hk => ?_) j hj
    · unfold reachOne at hj
      split at hj
      · rename_i hi
        rcases (mark_get _ _ _).1 hj with hj | ⟨k, hk, rfl, _⟩
        · exact h j hj
        · exact hc 0 x rfl (h i hi) k hk
      · exact h j hj
    · rw [show i + 1 + j = i + (j + 1) by omega] at hs hk
      exact hc (j + 1) y (by simpa using hy) hs k hk
theorem reach_min {q : List Iw} (hq : chk q = true) (S : Nat → Prop) (h0 : S 0) (hc : ∀ (i : Nat) x, q[i]? = some x → S i → ∀ k ∈ nextV x (i : Int), S k.toNat) : ∀ i, (reachV q).getD i false = true → S i := by
  intro i hi
  unfold reachV at hi
  rw [if_pos hq] at hi
  refine reachF_min S q 0 _ (fun j hj => ?_) (fun j x hx hs k hk => hc j x hx (by simpa using hs) k (by simpa using hk)) i hi
  rw [getD_set] at hj
  split at hj
  · rename_i h; rw [← h.1]; exact h0
  · rw [List.getD_eq_getElem?_getD, List.getElem?_replicate] at hj
    split at hj <;> simp at hj
theorem nums_of (op : Int) : ∀ (l : List Iw) (R : List Bool) (n : Int), n ∈ numsF op l R → ∃ (i : Nat) (x : Iw), l[i]? = some x ∧ R.getD i false = true ∧ x.f0 = op ∧ n = x.f1
  | [], _, n, h => by simp [numsF] at h
  | x :: r, [], n, h => by simp [numsF] at h
  | x :: r, b :: R, n, h => by
    unfold numsF at h
    have next : n ∈ numsF op r R → ∃ (i : Nat) (y : Iw), (x :: r)[i]? = some y ∧ (b :: R).getD i false = true ∧ y.f0 = op ∧ n = y.f1 := fun h => by
      obtain ⟨i, y, h1, h2, h3, h4⟩ := nums_of op r R n h
      exact ⟨i + 1, y, by simpa using h1, by simpa using h2, h3, h4⟩
    split at h
    · rename_i hb
      rcases List.mem_cons.1 h with rfl | h
      · exact ⟨0, x, rfl, by simpa using hb.1, hb.2, rfl⟩
      · exact next h
    · exact next h
theorem said_of (l : List Iw) (op n : Int) (h : n ∈ saidV l op) : ∃ (i : Nat) (x : Iw), l[i]? = some x ∧ (reachV l).getD i false = true ∧ x.f0 = op ∧ n = x.f1 := by
  unfold saidV at h
  rw [(fold_put (numsF op l (reachV l)) [] List.Pairwise.nil).2] at h
  rcases h with h | h
  · exact nums_of op l _ n h
  · simp at h
theorem said_sorted (l : List Iw) (op : Int) : (saidV l op).Pairwise (· < ·) := (fold_put (numsF op l (reachV l)) [] List.Pairwise.nil).1
theorem thr_reach {l q : List Iw} (hl : chk l = true) (hq : ThP l q) : ∀ i, (reachV q).getD i false = true → (reachV l).getD i false = true := by
  obtain ⟨r1, r2, r3⟩ := reachV_closed l hl
  refine reach_min (thr_chk hl hq) _ r2 (fun i x hx hs k hk => ?_)
  have hi := lt_of hx
  have hy := getE' (l := l) (i := i) (by have := hq.1; omega)
  have hqx := getZ hx
  rcases thr_at hl hq hy with h | ⟨_, _, _, _, h5⟩
  · rw [hqx] at h
    rw [h] at hk
    exact r3 i _ hy hs k hk
  · rw [hqx] at h5
    rw [(nextV_nil x _).2 h5] at hk
    simp at hk
theorem thr_said {l q : List Iw} (hl : chk l = true) (hq : ThP l q) (op : Int) (ho : op = 8 ∨ op = 1) (n : Int) (h : n ∈ saidV q op) : n ∈ saidV l op := by
  obtain ⟨r1, r2, r3⟩ := reachV_closed l hl
  obtain ⟨i, x, hx, hr, hop, rfl⟩ := said_of q op n h
  have hlen := hq.1
  have key : ∀ (d i : Nat), l.length - i = d → i < l.length → (reachV l).getD i false = true → (q.getD i z55).f0 = op → (q.getD i z55).f1 ∈ saidV l op := by
    intro d
    induction d using Nat.strongRecOn with
    | _ d ih =>
      intro i hd hi hR hop
      have hx := getE' hi
      rcases thr_at hl hq hx with h | ⟨h7, h2, h3, h4, h5⟩
      · rw [h] at hop ⊢
        exact said_mem l op i _ hx hR hop
      · rw [h4] at hop ⊢
        refine ih _ (by omega) _ rfl h2 ?_ hop
        have := r3 i _ hx hR ((i : Int) + 1 + (l.getD i z55).f1) (by unfold nextV; rw [if_neg (by omega), if_pos h7]; simp)
        rw [show ((i : Int) + 1 + (l.getD i z55).f1).toNat = i + 1 + (l.getD i z55).f1.toNat by omega] at this
        exact this
  have hi := lt_of hx
  have hg := getZ hx
  have := key _ i rfl (by omega) (thr_reach hl hq i hr) (by rw [hg]; exact hop)
  rw [hg] at this
  exact this
def TabP (l : List Iw) (T : List Int) : Prop := ∀ (i : Nat) x, l[i]? = some x → T.getD i 0 = ofL ((nextV x (i : Int)).map (fun k => T.getD k.toNat 0)) ∧ 1 ≤ T.getD i 0
theorem fold_mono : ∀ (ks : List Int) (f g : Int → Int) (p p' : Int), p ≤ p' → (∀ k ∈ ks, f k ≤ g k) → (ks.map f).foldl max p ≤ (ks.map g).foldl max p'
  | [], _, _, p, p', h, _ => h
  | k :: ks, f, g, p, p', h, hk => by
    have := hk k List.mem_cons_self
    exact fold_mono ks f g (max p (f k)) (max p' (g k)) (by omega) (fun j hj => hk j (List.mem_cons_of_mem _ hj))
theorem ofL_mono (ks : List Int) (f g : Int → Int) (h : ∀ k ∈ ks, f k ≤ g k) : ofL (ks.map f) ≤ ofL (ks.map g) := by
  have := fold_mono ks f g 0 0 (Int.le_refl _) h
  unfold ofL; omega
theorem thr_long {l q : List Iw} (hl : chk l = true) (hq : ThP l q) {Tl Tq : List Int} (hTl : TabP l Tl) (hTq : TabP q Tq) : ∀ (d i : Nat), l.length - i = d → i < l.length → Tq.getD i 0 ≤ Tl.getD i 0 := by
  obtain ⟨c1, c2, c3⟩ := chk_of hl
  have hlen := hq.1
  intro d
  induction d using Nat.strongRecOn with
  | _ d ih =>
    intro i hd hi
    have hx := getE' hi
    have hy := getE' (l := q) (i := i) (by omega)
    have t1 := hTl i _ hx
    have t2 := hTq i _ hy
    rcases thr_at hl hq hx with h | ⟨_, _, _, _, h5⟩
    · rw [h] at t2
      rw [t1.1, t2.1]
      refine ofL_mono _ _ _ (fun k hk => ?_)
      have hb := next_bound (n := l.length) (c3 i _ hx).1 (c3 i _ hx).2 k hk
      exact ih (l.length - k.toNat) (by omega) k.toNat rfl (by omega)
    · rw [(nextV_nil _ _).2 h5] at t2
      have e : Tq.getD i 0 = 1 := t2.1
      omega
def cnt (R : List Bool) (i : Nat) : Nat := ((R.take i).filter id).length
theorem cnt_succ {R : List Bool} {i : Nat} (h : i < R.length) : cnt R (i + 1) = cnt R i + if R.getD i false = true then 1 else 0 := by
  have hx : R[i]? = some R[i] := List.getElem?_eq_getElem h
  unfold cnt
  rw [List.take_add_one, List.filter_append, List.length_append, List.getD_eq_getElem?_getD, hx]
  cases R[i] <;> rfl
theorem cnt_step (R : List Bool) (i : Nat) : cnt R i ≤ cnt R (i + 1) := by
  unfold cnt
  rw [List.take_add_one, List.filter_append, List.length_append]; omega
theorem cnt_le {R : List Bool} {i k : Nat} (h : i ≤ k) : cnt R i ≤ cnt R k := by
  induction h with
  | refl => exact Nat.le_refl _
  | step _ ih => exact Nat.le_trans ih (cnt_step _ _)
theorem true_lt {R : List Bool} {i : Nat} (h : R.getD i false = true) : i < R.length := by
  refine Classical.byContradiction fun hn => ?_
  rw [List.getD_eq_getElem?_getD, List.getElem?_eq_none (by omega)] at h
  simp at h
theorem cnt_at {R : List Bool} {i : Nat} (h : R.getD i false = true) : cnt R (i + 1) = cnt R i + 1 := by rw [cnt_succ (true_lt h), if_pos h]
theorem cnt_lt {R : List Bool} {i k : Nat} (h : i < k) (hr : R.getD i false = true) : cnt R i + 1 ≤ cnt R k := by
  have := cnt_le (R := R) (show i + 1 ≤ k by omega)
  rw [cnt_at hr] at this; exact this
theorem cnt_gap {R : List Bool} (i d : Nat) : cnt R (i + d) ≤ cnt R i + d := by
  induction d with
  | zero => exact Nat.le_refl _
  | succ d ih =>
    have : cnt R (i + d + 1) ≤ cnt R (i + d) + 1 := by
      unfold cnt
      rw [List.take_add_one, List.filter_append, List.length_append]
      have : (List.filter id R[i + d]?.toList).length ≤ 1 := Nat.le_trans (List.length_filter_le _ _) (by cases R[i + d]? <;> simp)
      omega
    rw [show i + (d + 1) = i + d + 1 by omega]; omega
theorem cnt_zero (R : List Bool) : cnt R 0 = 0 := rfl
theorem cnt_surj (R : List Bool) : ∀ n, n ≤ R.length → ∀ j, j < cnt R n → ∃ i, i < n ∧ R.getD i false = true ∧ cnt R i = j := by
  intro n
  induction n with
  | zero => intro _ j h; rw [cnt_zero] at h; omega
  | succ n ih =>
    intro hn j h
    rw [cnt_succ (by omega)] at h
    by_cases hj : j < cnt R n
    · obtain ⟨i, h1, h2, h3⟩ := ih (by omega) j hj
      exact ⟨i, by omega, h2, h3⟩
    · by_cases hr : R.getD n false = true
      · rw [if_pos hr] at h; exact ⟨n, by omega, hr, by omega⟩
      · rw [if_neg hr] at h; omega
def tr (R : List Bool) (x : Iw) (i : Nat) : Iw := if x.f0 = 7 then ⟨x.f0, (cnt R (i + 1 + x.f1.toNat) : Int) - cnt R i - 1, x.f2, x.f3⟩ else if 3 ≤ x.f0 ∧ x.f0 ≤ 6 then ⟨x.f0, x.f1, (cnt R (i + 1 + x.f2.toNat) : Int) - cnt R i - 1, (cnt R (i + 1 + x.f3.toNat) : Int) - cnt R i - 1⟩ else x
theorem tr_ok {R : List Bool} {x : Iw} {i n : Nat} (hn : n ≤ 400) (hio : insOk x = true) (hf : (i : Int) + farI x < n) (hr : R.getD i false = true) (hi : i < n) (hc : ∀ k ∈ nextV x (i : Int), R.getD k.toNat false = true) :
    insOk (tr R x i) = true ∧ (cnt R i : Int) + farI (tr R x i) < cnt R n ∧ nextV (tr R x i) (cnt R i : Int) = (nextV x (i : Int)).map (fun k => (cnt R k.toNat : Int)) ∧ (tr R x i).f0 = x.f0 ∧ (x.f0 ≠ 7 → (tr R x i).f1 = x.f1) := by
  have hb := next_bound hio hf
  have hx := insOk_of hio
  obtain ⟨hx0, hx1, hx2, hx3, hx4, hx5, hx6⟩ := insOk_of hio
  have big := cnt_gap (R := R) 0 n
  rw [cnt_zero, Nat.zero_add] at big
  by_cases h7 : x.f0 = 7
  · have hn7 : nextV x (i : Int) = [(i : Int) + 1 + x.f1] := by unfold nextV; rw [if_neg (by omega), if_pos h7]
    rw [hn7] at hc hb ⊢
    have c1 := hc _ List.mem_cons_self
    have b1 := hb _ List.mem_cons_self
    rw [show ((i : Int) + 1 + x.f1).toNat = i + 1 + x.f1.toNat by omega] at c1
    have e : tr R x i = ⟨x.f0, (cnt R (i + 1 + x.f1.toNat) : Int) - cnt R i - 1, x.f2, x.f3⟩ := if_pos h7
    have g1 := cnt_lt (show i < i + 1 + x.f1.toNat by omega) hr
    have g2 := cnt_lt (show i + 1 + x.f1.toNat < n by omega) c1
    have g3 := cnt_gap (R := R) i (1 + x.f1.toNat)
    rw [← Nat.add_assoc] at g3
    have h400 := hx6 h7
    rw [e]
    refine ⟨decide_eq_true ⟨hx0, by dsimp only; omega, hx2, hx3, by dsimp only; omega, by dsimp only; omega, by dsimp only; omega⟩, ?_, ?_, rfl, fun h => absurd h7 h⟩
    · unfold farI; dsimp only; rw [if_neg (by omega), if_pos h7]; omega
    · unfold nextV; dsimp only; rw [if_neg (by omega), if_pos h7]
      simp only [List.map_cons, List.map_nil]
      rw [show ((i : Int) + 1 + x.f1).toNat = i + 1 + x.f1.toNat by omega]
      congr 1; omega
  · by_cases ha : 3 ≤ x.f0 ∧ x.f0 ≤ 6
    · have hna : nextV x (i : Int) = if x.f2 = x.f3 then [(i : Int) + 1 + x.f2] else [(i : Int) + 1 + min x.f2 x.f3, (i : Int) + 1 + max x.f2 x.f3] := by unfold nextV; rw [if_neg (by omega), if_neg h7, if_pos ha]
      have hca : R.getD (i + 1 + x.f2.toNat) false = true ∧ R.getD (i + 1 + x.f3.toNat) false = true := by
        rw [hna] at hc
        by_cases he : x.f2 = x.f3
        · rw [if_pos he] at hc
          have c1 := hc _ List.mem_cons_self
          rw [show ((i : Int) + 1 + x.f2).toNat = i + 1 + x.f2.toNat by omega] at c1
          exact ⟨c1, by rw [← he]; exact c1⟩
        · rw [if_neg he] at hc
          have c1 := hc _ List.mem_cons_self
          have c2 := hc _ (List.mem_cons_of_mem _ List.mem_cons_self)
          by_cases hlt : x.f2 < x.f3
          · rw [show ((i : Int) + 1 + min x.f2 x.f3).toNat = i + 1 + x.f2.toNat by omega] at c1
            rw [show ((i : Int) + 1 + max x.f2 x.f3).toNat = i + 1 + x.f3.toNat by omega] at c2
            exact ⟨c1, c2⟩
          · rw [show ((i : Int) + 1 + min x.f2 x.f3).toNat = i + 1 + x.f3.toNat by omega] at c1
            rw [show ((i : Int) + 1 + max x.f2 x.f3).toNat = i + 1 + x.f2.toNat by omega] at c2
            exact ⟨c2, c1⟩
      have hf' := hf
      unfold farI at hf'
      rw [if_pos ha] at hf'
      have e : tr R x i = ⟨x.f0, x.f1, (cnt R (i + 1 + x.f2.toNat) : Int) - cnt R i - 1, (cnt R (i + 1 + x.f3.toNat) : Int) - cnt R i - 1⟩ := by unfold tr; rw [if_neg h7, if_pos ha]
      have g1 := cnt_lt (show i < i + 1 + x.f2.toNat by omega) hr
      have g2 := cnt_lt (show i < i + 1 + x.f3.toNat by omega) hr
      have g3 := cnt_lt (show i + 1 + x.f2.toNat < n by omega) hca.1
      have g4 := cnt_lt (show i + 1 + x.f3.toNat < n by omega) hca.2
      have g5 := cnt_gap (R := R) i (1 + x.f2.toNat)
      have g6 := cnt_gap (R := R) i (1 + x.f3.toNat)
      rw [← Nat.add_assoc] at g5 g6
      rw [e]
      refine ⟨decide_eq_true ⟨hx0, hx1, by dsimp only; omega, by dsimp only; omega, .inl ha, fun h => by dsimp only at h; omega, fun h => by dsimp only at h; omega⟩, ?_, ?_, rfl, fun _ => rfl⟩
      · unfold farI; dsimp only; rw [if_pos ha]; omega
      · rw [hna]
        unfold nextV; dsimp only; rw [if_neg (by omega), if_neg h7, if_pos ha]
        by_cases he : x.f2 = x.f3
        · rw [if_pos he, if_pos (by rw [he])]
          simp only [List.map_cons, List.map_nil]
          rw [show ((i : Int) + 1 + x.f2).toNat = i + 1 + x.f2.toNat by omega]
          congr 1; omega
        · rw [if_neg he]
          simp only [List.map_cons, List.map_nil]
          by_cases hlt : x.f2 < x.f3
          · have g7 := cnt_lt (show i + 1 + x.f2.toNat < i + 1 + x.f3.toNat by omega) hca.1
            rw [if_neg (by omega), show ((i : Int) + 1 + min x.f2 x.f3).toNat = i + 1 + x.f2.toNat by omega, show ((i : Int) + 1 + max x.f2 x.f3).toNat = i + 1 + x.f3.toNat by omega]
            congr 1
            · omega
            · congr 1; omega
          · have g7 := cnt_lt (show i + 1 + x.f3.toNat < i + 1 + x.f2.toNat by omega) hca.2
            rw [if_neg (by omega), show ((i : Int) + 1 + min x.f2 x.f3).toNat = i + 1 + x.f3.toNat by omega, show ((i : Int) + 1 + max x.f2 x.f3).toNat = i + 1 + x.f2.toNat by omega]
            congr 1
            · omega
            · congr 1; omega
    · have e : tr R x i = x := by unfold tr; rw [if_neg h7, if_neg ha]
      rw [e]
      refine ⟨hio, ?_, ?_, rfl, fun _ => rfl⟩
      · by_cases h8 : x.f0 = 8
        · have := cnt_lt hi hr
          unfold farI; rw [if_neg ha, if_neg h7, if_pos h8]; omega
        · have hn1 : nextV x (i : Int) = [(i : Int) + 1] := by unfold nextV; rw [if_neg h8, if_neg h7, if_neg ha]
          rw [hn1] at hc hb
          have c1 := hc _ List.mem_cons_self
          have b1 := hb _ List.mem_cons_self
          rw [show ((i : Int) + 1).toNat = i + 1 by omega] at c1
          have g1 := cnt_lt (show i + 1 < n by omega) c1
          have g2 := cnt_at hr
          unfold farI; rw [if_neg ha, if_neg h7, if_neg h8]; omega
      · by_cases h8 : x.f0 = 8
        · unfold nextV; rw [if_pos h8, if_pos h8]; rfl
        · unfold nextV; rw [if_neg h8, if_neg h7, if_neg ha, if_neg h8, if_neg h7, if_neg ha]
          simp only [List.map_cons, List.map_nil]
          rw [show ((i : Int) + 1).toNat = i + 1 by omega, cnt_at hr]; rfl
def TrP (l r : List Iw) : Prop := r.length = cnt (reachV l) l.length ∧ ∀ (i : Nat) x, l[i]? = some x → (reachV l).getD i false = true → r.getD (cnt (reachV l) i) z55 = tr (reachV l) x i
theorem trim_tot (l : List Iw) (hl : chk l = true) : Tot (fun k => spec_Trimmed.f k l) (TrP l) := by
  obtain ⟨c1, _, c3⟩ := chk_of hl
  obtain ⟨r1, r2, r3⟩ := reachV_closed l hl
  have hcp := spec_CheckProgram_ev l (by omega)
  rw [hl] at hcp
  have hre := spec_Reached_ev l (by omega)
  unfold spec_Trimmed.f TrP
  generalize reachV l = R at r1 r2 r3 hre
  have big : ∀ j, j ≤ l.length → cnt R j ≤ 400 := fun j hj => by
    have := cnt_gap (R := R) 0 j
    rw [cnt_zero, Nat.zero_add] at this; omega
  refine Tot.bind1 hcp (Tot.pos rfl (Tot.bind1 hre ?_))
  refine Tot.up (fun k (s : List Int × Int) i => spec_Trimmed.l0 k l R s.1 s.2 i) l.length (fun j s => s.1.length = j ∧ s.2 = cnt R j ∧ ∀ i, i < j → s.1.getD i 0 = cnt R i) ?_ ([], 0) ⟨rfl, rfl, fun i h => by omega⟩
  rintro j ⟨at_, n_⟩ hj ⟨s1, s2, s3⟩ next
  dsimp only at s1 s2 s3
  have hbj := big j hj
  refine Tot.step (fun _ => rfl) ?_
  simp only [spec_Trimmed.l0]
  rw [w64 (x := (j : Int) + 1) (by omega) (by omega), rdB]
  have app : ∀ i, i < j + 1 → (at_ ++ [n_]).getD i 0 = cnt R i := fun i hi => by
    by_cases hij : i < j
    · rw [List.getD_eq_getElem?_getD, List.getElem?_append_left (by omega), ← List.getD_eq_getElem?_getD]; exact s3 i hij
    · obtain rfl : i = j := by omega
      rw [List.getD_eq_getElem?_getD, List.getElem?_append_right (by omega), s1, Nat.sub_self, s2]; rfl
  refine Tot.both (fun hlt => Tot.grd (by simp only [List.length_cons, List.length_nil]; omega) (Tot.grd (by omega) (Tot.grd (by omega) (Tot.both (fun hr => ?_) (fun hr => ?_))))) (fun hge => ?_)
  · rw [w64 (x := n_ + 1) (by omega) (by omega)]
    refine next (_, _) (by omega) ⟨by simp only [List.length_append, List.length_cons, List.length_nil]; omega, ?_, app⟩
    rw [cnt_at hr, s2]; rfl
  · refine next (_, _) (by omega) ⟨by simp only [List.length_append, List.length_cons, List.length_nil]; omega, ?_, app⟩
    rw [cnt_succ (by omega), if_neg hr]; exact s2
  · obtain rfl : j = l.length := by omega
    clear next app
    refine Tot.up (fun k (o : List Iw) i => spec_Trimmed.l1 k l R at_ o i) l.length (fun j o => o.length = cnt R j ∧ ∀ (i : Nat) x, i < j → l[i]? = some x → R.getD i false = true → o.getD (cnt R i) z55 = tr R x i) ?_ [] ⟨rfl, fun i x h => by omega⟩
    intro j o hj' ho next
    have hbj' := big j hj'
    refine Tot.step (fun _ => rfl) ?_
    simp only [spec_Trimmed.l1]
    rw [w64 (x := (j : Int) + 1) (by omega) (by omega), rdB]
    refine Tot.both (fun hlt => Tot.grd (by omega) (Tot.grd (by omega) (Tot.both (fun hr => ?_) (fun hr => ?_)))) (fun hge => ?_)
    · have hx : l[j]? = some l[j] := List.getElem?_eq_getElem (by omega)
      generalize l[j] = x at hx
      obtain ⟨hio, hf⟩ := c3 j x hx
      have hi5 := insOk_of hio
      have rat : ∀ i : Nat, i < l.length → rd at_ (i : Int) = cnt R i := fun i hi => by rw [show rd at_ (i : Int) = at_.getD i 0 from by unfold rd; rw [Int.toNat_natCast]]; exact s3 i hi
      have push : ∀ y : Iw, y = tr R x j → Tot (fun k => spec_Trimmed.l1 k l R at_ (o ++ [y]) ((j : Int) + 1)) (fun r => r.length = cnt R l.length ∧ ∀ (i : Nat) x, l[i]? = some x → R.getD i false = true → r.getD (cnt R i) z55 = tr R x i) := fun y hy => by
        refine next _ (by omega) ⟨by rw [List.length_append, cnt_at hr, ho.1]; rfl, fun i z hi hz hrz => ?_⟩
        by_cases hij : i < j
        · have := cnt_lt hij hrz
          rw [List.getD_eq_getElem?_getD, List.getElem?_append_left (by omega), ← List.getD_eq_getElem?_getD]; exact ho.2 i z hij hz hrz
        · obtain rfl : i = j := by omega
          rw [hx] at hz; cases hz
          rw [List.getD_eq_getElem?_getD, List.getElem?_append_right (by omega), ho.1, Nat.sub_self]; exact hy
      rw [rd55 hx, rat j (by omega)]
      refine Tot.both (fun h7 => ?_) (fun h7 => ?_)
      · obtain ⟨j1, j2⟩ := jump_in hl hx h7
        have hbt := big (j + 1 + x.f1.toNat) (by omega)
        rw [w64 (x := (j : Int) + 1 + x.f1) (by omega) (by omega), show (j : Int) + 1 + x.f1 = ((j + 1 + x.f1.toNat : Nat) : Int) by omega, rat _ j2, w64 (x := (cnt R (j + 1 + x.f1.toNat) : Int) - cnt R j) (by omega) (by omega), w64 (x := (cnt R (j + 1 + x.f1.toNat) : Int) - cnt R j - 1) (by omega) (by omega)]
        refine Tot.grd (by omega) (Tot.grd (by omega) (Tot.grd (by omega) (Tot.step (fun _ => rfl) ?_)))
        simp only [spec_Trimmed.j0]
        rw [rd55 hx, w64 (x := (j : Int) + 1) (by omega) (by omega)]
        exact Tot.bindc1 (ask_of _) (Tot.neg (by rw [decide_eq_true_eq]; omega) (Tot.grd (by simp only [List.length_cons, List.length_nil]; omega) (push _ (by unfold tr; rw [if_pos h7]))))
      · refine Tot.step (fun _ => rfl) ?_
        simp only [spec_Trimmed.j0]
        rw [rd55 hx, w64 (x := (j : Int) + 1) (by omega) (by omega), rat j (by omega)]
        refine Tot.bindc1 (ask_of _) (Tot.both (fun ha => ?_) (fun ha => ?_))
        · have ha' := of_decide_eq_true ha
          have hf' := hf
          unfold farI at hf'
          rw [if_pos ha'] at hf'
          have hb1 := big (j + 1 + x.f2.toNat) (by omega)
          have hb2 := big (j + 1 + x.f3.toNat) (by omega)
          rw [w64 (x := (j : Int) + 1 + x.f2) (by omega) (by omega), w64 (x := (j : Int) + 1 + x.f3) (by omega) (by omega), show (j : Int) + 1 + x.f2 = ((j + 1 + x.f2.toNat : Nat) : Int) by omega, show (j : Int) + 1 + x.f3 = ((j + 1 + x.f3.toNat : Nat) : Int) by omega, rat _ (by omega), rat _ (by omega), w64 (x := (cnt R (j + 1 + x.f2.toNat) : Int) - cnt R j) (by omega) (by omega), w64 (x := (cnt R (j + 1 + x.f2.toNat) : Int) - cnt R j - 1) (by omega) (by omega), w64 (x := (cnt R (j + 1 + x.f3.toNat) : Int) - cnt R j) (by omega) (by omega), w64 (x := (cnt R (j + 1 + x.f3.toNat) : Int) - cnt R j - 1) (by omega) (by omega)]
          exact Tot.grd (by omega) (Tot.grd (by omega) (Tot.grd (by omega) (Tot.grd (by omega) (Tot.grd (by omega) (Tot.grd (by simp only [List.length_cons, List.length_nil]; omega) (push _ (by unfold tr; rw [if_neg h7, if_pos ha'])))))))
        · have ha' : ¬ (3 ≤ x.f0 ∧ x.f0 ≤ 6) := fun h => ha (decide_eq_true h)
          exact Tot.grd (by simp only [List.length_cons, List.length_nil]; omega) (push _ (by unfold tr; rw [if_neg h7, if_neg ha']))
    · refine next o (by omega) ⟨by rw [cnt_succ (by omega), if_neg hr]; exact ho.1, fun i x hi hx hrx => ?_⟩
      by_cases hij : i = j
      · subst hij; exact absurd hrx hr
      · exact ho.2 i x (by omega) hx hrx
    · obtain rfl : j = l.length := by omega
      exact Tot.now ⟨ho.1, fun i x hx hrx => ho.2 i x (lt_of hx) hx hrx⟩
theorem trim_at {l r : List Iw} (hl : chk l = true) (hr : TrP l r) {j : Nat} {y : Iw} (hy : r[j]? = some y) : ∃ (i : Nat) (x : Iw), l[i]? = some x ∧ (reachV l).getD i false = true ∧ cnt (reachV l) i = j ∧ y = tr (reachV l) x i := by
  obtain ⟨r1, _, _⟩ := reachV_closed l hl
  have hj := lt_of hy
  obtain ⟨i, h1, h2, h3⟩ := cnt_surj (reachV l) l.length (by omega) j (by rw [← hr.1]; exact hj)
  have hx := getE' h1
  refine ⟨i, _, hx, h2, h3, ?_⟩
  have := hr.2 i _ hx h2
  rw [h3, getZ hy] at this
  exact this
theorem trim_chk {l r : List Iw} (hl : chk l = true) (hr : TrP l r) : chk r = true := by
  obtain ⟨c1, c2, c3⟩ := chk_of hl
  obtain ⟨r1, r2, r3⟩ := reachV_closed l hl
  have big := cnt_gap (R := reachV l) 0 l.length
  rw [cnt_zero, Nat.zero_add] at big
  have h1 := cnt_lt (show 0 < l.length by omega) r2
  rw [cnt_zero] at h1
  have hlen := hr.1
  refine chk_intro (by omega) ?_ (fun j y hy => ?_)
  · have hy := getE' (l := r) (i := r.length - 1) (by omega)
    obtain ⟨i, x, hx, hri, hci, e⟩ := trim_at hl hr hy
    obtain ⟨hio, hf⟩ := c3 i x hx
    have ok := tr_ok (n := l.length) (by omega) hio hf hri (lt_of hx) (r3 i x hx hri)
    unfold lastRet
    rw [e, ok.2.2.2.1]
    refine beq_iff_eq.2 (Classical.byContradiction fun h8 => ?_)
    have hne : nextV x (i : Int) ≠ [] := fun h => h8 ((nextV_nil x _).1 h)
    obtain ⟨k, ks, hk⟩ := List.exists_cons_of_ne_nil hne
    have hm : k ∈ nextV x (i : Int) := by rw [hk]; exact List.mem_cons_self
    have hb := next_bound (n := l.length) hio hf k hm
    have g1 := cnt_lt (show i < k.toNat by omega) hri
    have g2 := cnt_lt (show k.toNat < l.length by omega) (r3 i x hx hri k hm)
    omega
  · obtain ⟨i, x, hx, hri, hci, rfl⟩ := trim_at hl hr hy
    obtain ⟨hio, hf⟩ := c3 i x hx
    have ok := tr_ok (n := l.length) (by omega) hio hf hri (lt_of hx) (r3 i x hx hri)
    rw [hlen, ← hci]
    exact ⟨ok.1, ok.2.1⟩
theorem trim_said {l r : List Iw} (hl : chk l = true) (hr : TrP l r) (op : Int) (ho : op ≠ 7) (n : Int) (h : n ∈ saidV r op) : n ∈ saidV l op := by
  obtain ⟨c1, c2, c3⟩ := chk_of hl
  obtain ⟨r1, r2, r3⟩ := reachV_closed l hl
  obtain ⟨j, y, hy, _, hop, rfl⟩ := said_of r op n h
  obtain ⟨i, x, hx, hri, hci, rfl⟩ := trim_at hl hr hy
  obtain ⟨hio, hf⟩ := c3 i x hx
  have ok := tr_ok (n := l.length) (by omega) hio hf hri (lt_of hx) (r3 i x hx hri)
  rw [ok.2.2.2.1] at hop
  rw [ok.2.2.2.2 (by omega)]
  exact said_mem l op i x hx hri hop
theorem trim_long {l r : List Iw} (hl : chk l = true) (hr : TrP l r) {Tl Tr : List Int} (hTl : TabP l Tl) (hTr : TabP r Tr) : ∀ (d i : Nat), l.length - i = d → i < l.length → (reachV l).getD i false = true → Tr.getD (cnt (reachV l) i) 0 ≤ Tl.getD i 0 := by
  obtain ⟨c1, c2, c3⟩ := chk_of hl
  obtain ⟨r1, r2, r3⟩ := reachV_closed l hl
  intro d
  induction d using Nat.strongRecOn with
  | _ d ih =>
    intro i hd hi hri
    have hx := getE' hi
    obtain ⟨hio, hf⟩ := c3 i _ hx
    have ok := tr_ok (n := l.length) (by omega) hio hf hri hi (r3 i _ hx hri)
    have hlt := cnt_lt hi hri
    have hy := getE' (l := r) (i := cnt (reachV l) i) (by have := hr.1; omega)
    rw [hr.2 i _ hx hri] at hy
    rw [(hTl i _ hx).1, (hTr _ _ hy).1, ok.2.2.1, List.map_map]
    refine ofL_mono _ _ _ (fun k hk => ?_)
    have hb := next_bound (n := l.length) hio hf k hk
    show Tr.getD ((cnt (reachV l) k.toNat : Int)).toNat 0 ≤ _
    rw [Int.toNat_natCast]
    exact ih (l.length - k.toNat) (by omega) k.toNat rfl (by omega) (r3 i _ hx hri k hk)
theorem said_some {l : List Iw} (hl : chk l = true) : 0 < (saidV l 8).length := by
  obtain ⟨c1, c2, c3⟩ := chk_of hl
  obtain ⟨r1, r2, r3⟩ := reachV_closed l hl
  have key : ∀ (d i : Nat), l.length - i = d → i < l.length → (reachV l).getD i false = true → ∃ n, n ∈ saidV l 8 := by
    intro d
    induction d using Nat.strongRecOn with
    | _ d ih =>
      intro i hd hi hri
      have hx := getE' hi
      by_cases h8 : (l.getD i z55).f0 = 8
      · exact ⟨_, said_mem l 8 i _ hx hri h8⟩
      · have hne : nextV (l.getD i z55) (i : Int) ≠ [] := fun h => h8 ((nextV_nil _ _).1 h)
        obtain ⟨k, ks, hk⟩ := List.exists_cons_of_ne_nil hne
        have hm : k ∈ nextV (l.getD i z55) (i : Int) := by rw [hk]; exact List.mem_cons_self
        have hb := next_bound (n := l.length) (c3 i _ hx).1 (c3 i _ hx).2 k hm
        exact ih (l.length - k.toNat) (by omega) k.toNat rfl (by omega) (r3 i _ hx hri k hm)
  obtain ⟨n, hn⟩ := key _ 0 rfl (by omega) r2
  exact List.length_pos_of_mem hn
theorem sameInts_ev (l : List Int) (hl : l.length ≤ 1048576) : Ev (fun k => laws_sameInts.f k l l) true := by
  unfold laws_sameInts.f
  refine Ev.pos rfl ?_
  refine same_ev (fun k i => laws_sameInts.l0 k l l i) l ?_ ?_
  · refine Ev.step (fun _ => rfl) ?_
    simp only [laws_sameInts.l0]; exact Ev.neg (by omega) (Ev.now _)
  · intro i x hx h
    have hi := lt_of hx
    refine Ev.step (fun _ => rfl) ?_
    simp only [laws_sameInts.l0]
    rw [w64 (x := (i : Int) + 1) (by omega) (by omega)]
    exact Ev.pos (by omega) (Ev.pos (by omega) (Ev.pos (by omega) (Ev.pos (by trivial) h)))
theorem long_tab (l : List Iw) (hl : chk l = true) : ∃ T : List Int, Ev (fun k => impl_LongestRun.f k l) (T.getD 0 0) ∧ TabP l T := by
  obtain ⟨T, _, t2, t3⟩ := longest_tab l hl
  exact ⟨T, t2, fun i x hx => ⟨(t3 i x hx).1, (t3 i x hx).2.1⟩⟩
/-- What Short comes to. -/
theorem short_tot (l : List Iw) (hn : l.length ≤ 400) : Tot (fun k => spec_Short.f k l) (fun r => r.length ≤ 400 ∧ (∀ op, op = 8 ∨ op = 1 → ∀ n ∈ saidV r op, n ∈ saidV l op) ∧ (chk l = true → 0 < (saidV r 8).length) ∧ ∃ a b : Int, a ≤ b ∧ Ev (fun k => impl_LongestRun.f k r) a ∧ Ev (fun k => impl_LongestRun.f k l) b) := by
  have hcp := spec_CheckProgram_ev l (by omega)
  unfold spec_Short.f
  cases hc : chk l with
  | false =>
    rw [hc] at hcp
    have g : Ev (fun k => impl_LongestRun.f k l) 0 := by unfold impl_LongestRun.f; exact Ev.bind (runs_w30_no l (by omega) hc) (Ev.now _)
    have t1 : Ev (fun k => spec_Threaded.f k l) l := by
      unfold spec_Threaded.f
      simp only [List.nil_append, List.length_nil]
      exact Ev.pos (by omega) (Ev.bind hcp (Ev.neg (by simp) (Ev.now _)))
    have t2 : Ev (fun k => spec_Trimmed.f k l) l := by
      unfold spec_Trimmed.f
      simp only [List.nil_append, List.length_nil]
      exact Ev.bind hcp (Ev.neg (by simp) (Ev.pos (by omega) (Ev.now _)))
    exact Tot.bind1 t1 (Tot.bind1 t2 (Tot.now ⟨hn, fun _ _ _ h => h, (fun h => by cases h), 0, 0, by omega, g, g⟩))
  | true =>
    refine Tot.bind (thr_tot l hc) (fun q hq => ?_)
    have cq := thr_chk hc hq
    refine Tot.bind (trim_tot q cq) (fun r hr => Tot.now ?_)
    have cr := trim_chk cq hr
    obtain ⟨Tl, e1, hl⟩ := long_tab l hc
    obtain ⟨Tq, _, hTq⟩ := long_tab q cq
    obtain ⟨Tr, e3, hTr⟩ := long_tab r cr
    have n1 := (chk_of hc).1
    have n2 := (chk_of cq).1
    refine ⟨(chk_of cr).1.2, fun op ho n h => thr_said hc hq op ho n (trim_said cq hr op (by omega) n h), fun _ => said_some cr, _, _, ?_, e3, e1⟩
    have h1 := trim_long cq hr hTq hTr _ 0 rfl (by omega) (reachV_closed q cq).2.1
    have h2 := thr_long hc hq hl hTq _ 0 rfl (by omega)
    rw [cnt_zero] at h1
    exact Int.le_trans h1 h2
theorem pl_of {a c d : Int} {l : List S67} (hs : Sm l) (h5 : l.length ≤ 5) (hp : polV a c d l = true) : Pl l := by
  refine ⟨h5, fun r hr => ⟨(hs.2 r hr).1, ?_⟩⟩
  unfold polV at hp
  rw [Bool.and_eq_true, List.all_eq_true] at hp
  have := hp.1 r hr
  unfold ruleV ruleRest at this
  simp only [Bool.and_eq_true, decide_eq_true_eq] at this
  exact this.2.2.2.1
theorem lawTail (P : List Iw) (hP : P.length ≤ 400) : Ev (fun k => laws_FnWaysShort.j0 k P) true := by
  obtain ⟨r, er, hr, hs, hsome, a, b, hab, ea, eb⟩ := short_tot P hP
  have i8 := saidV_length P 8
  have i1 := saidV_length P 1
  have j8 := saidV_length r 8
  have j1 := saidV_length r 1
  have f1 : Ev (fun k => impl_ResultsIn.f k r) (saidV r 8) := by unfold impl_ResultsIn.f; exact Ev.bind (impl_numbersIn_ev r 8 (by omega)) (Ev.now _)
  have f2 : Ev (fun k => impl_ResultsIn.f k P) (saidV P 8) := by unfold impl_ResultsIn.f; exact Ev.bind (impl_numbersIn_ev P 8 (by omega)) (Ev.now _)
  have f3 : Ev (fun k => spec_ResultsIn.f k P) (saidV P 8) := by unfold spec_ResultsIn.f; exact Ev.bind (spec_l23Said_ev P 8 (by omega)) (Ev.now _)
  have g1 : Ev (fun k => impl_FieldsRead.f k r) (saidV r 1) := by unfold impl_FieldsRead.f; exact Ev.bind (impl_numbersIn_ev r 1 (by omega)) (Ev.now _)
  have g2 : Ev (fun k => impl_FieldsRead.f k P) (saidV P 1) := by unfold impl_FieldsRead.f; exact Ev.bind (impl_numbersIn_ev P 1 (by omega)) (Ev.now _)
  have hcp := spec_CheckProgram_ev P (by omega)
  have h8 := hs 8 (.inl rfl)
  have h1 := hs 1 (.inr rfl)
  have hsorted := said_sorted r 8
  have same := sameInts_ev (saidV P 8) (by omega)
  refine Ev.step (fun _ => rfl) ?_
  simp only [laws_FnWaysShort.j0]
  refine Ev.bind er (Ev.bind f1 (Ev.bind f2 ?_))
  generalize saidV r 8 = A at *
  generalize saidV P 8 = B at *
  generalize saidV r 1 = C at *
  generalize saidV P 1 = D at *
  refine same_ev (fun k i => laws_FnWaysShort.l0 k P r A B i) A ?_ ?_
  · refine Ev.step (fun _ => rfl) ?_
    simp only [laws_FnWaysShort.l0]
    refine Ev.neg (by omega) (Ev.bind g1 (Ev.bind g2 ?_))
    refine same_ev (fun k i => laws_FnWaysShort.l1 k P r A B C D i) C ?_ ?_
    · refine Ev.step (fun _ => rfl) ?_
      simp only [laws_FnWaysShort.l1]
      refine Ev.neg (by omega) (Ev.bind hcp ?_)
      have fin : Ev (fun k => (impl_LongestRun.f k r).bind fun t61 => ((impl_LongestRun.f k P).bind fun t63 => (if t61 ≤ t63 then ((spec_ResultsIn.f k P).bind fun t66 => ((laws_sameInts.f k B t66).bind fun t68 => some t68)) else some false))) true := Ev.bind ea (Ev.bind eb (Ev.pos hab (Ev.bind f3 (Ev.bind same (Ev.now _)))))
      cases hc : chk P with
      | false => exact Ev.neg (by simp) fin
      | true => exact Ev.pos rfl (Ev.pos (by have := hsome hc; omega) fin)
    · intro i x hx h
      have hi := lt_of hx
      refine Ev.step (fun _ => rfl) ?_
      simp only [laws_FnWaysShort.l1]
      rw [rdI_of hx, w64 (x := (i : Int) + 1) (by omega) (by omega)]
      exact Ev.pos (by omega) (Ev.pos (by omega) (Ev.bind (hasNum_ev D x (by omega) (h1 x (List.mem_of_getElem? hx))) (Ev.pos rfl h)))
  · intro i x hx h
    have hi := lt_of hx
    refine Ev.step (fun _ => rfl) ?_
    simp only [laws_FnWaysShort.l0]
    rw [rdI_of hx, w64 (x := (i : Int) + 1) (by omega) (by omega)]
    refine Ev.pos (by omega) (Ev.pos (by omega) (Ev.bind (hasNum_ev B x (by omega) (h8 x (List.mem_of_getElem? hx))) (Ev.pos rfl ?_)))
    by_cases hz : (i : Int) > 0
    · rw [w64 (x := (i : Int) - 1) (by omega) (by omega), show (i : Int) - 1 = ((i - 1 : Nat) : Int) by omega]
      have hy : A[i - 1]? = some A[i - 1] := List.getElem?_eq_getElem (by omega)
      rw [rdI_of hy]
      have hlt : A[i - 1] < x := by
        have := List.pairwise_iff_getElem.1 hsorted (i - 1) i (by omega) hi (by omega)
        rw [List.getElem?_eq_getElem hi] at hx
        cases hx; exact this
      exact Ev.pos hz (Ev.pos (by omega) (Ev.pos (by omega) (Ev.neg (by omega) h)))
    · exact Ev.neg hz h
theorem pure : Pure := by
  intro l hl
  refine Ev.rounds ?_
  unfold laws_FnWaysShort.f
  refine Ev.bindc rfl ?_
  by_cases hbig : (l.length : Int) > 1048576
  · exact Ev.pos (by simpa using hbig) (Ev.now _)
  refine Ev.neg (by simpa using hbig) ?_
  have hr : Rd l 0 := ⟨by omega, by omega, by omega⟩
  obtain ⟨s0, n0⟩ := l01New_ev l (by omega)
  have d1 : Tot (fun k => spec_DrawPolicy.f k l) (fun r => Pl r.2.2.2.1) := by
    unfold spec_DrawPolicy.f
    refine Tot.bind1 n0 (Tot.bind (l09Policy_tot l 0 s0 hr) ?_)
    rintro _ ⟨a, c, d, q, i', s', rfl, h', hs, h5, hp⟩
    refine Tot.bind (l04Call_tot l i' s' h') ?_
    rintro _ ⟨x, y, w, i2, s2, rfl, _⟩
    exact Tot.now (pl_of hs h5 hp)
  have d2 : Tot (fun k => spec_DrawProgram.f k l) (fun r => r.length ≤ 20) := by
    unfold spec_DrawProgram.f
    refine Tot.bind1 n0 (Tot.bind (l06Program_tot l 0 s0 hr) ?_)
    rintro _ ⟨q, i', s', rfl, _, _, h⟩
    exact Tot.now h
  obtain ⟨⟨a, c, d, q, x, y, w⟩, e1, hq⟩ := d1
  obtain ⟨P, e2, hP⟩ := d2
  obtain ⟨⟨Q, z⟩, e3, hQ⟩ := compile_tot a c d q hq
  replace hQ : Q.length ≤ 400 := hQ
  refine Ev.bind e1 (Ev.bind e3 (Ev.bind (spec_CheckProgram_ev Q (by omega)) ?_))
  cases hc : chk Q with
  | true => exact Ev.pos rfl (lawTail Q hQ)
  | false => exact Ev.neg (by simp) (Ev.bind e2 (lawTail P (by omega)))
end Go.Proofs.Ytlmpaphlnlgelaa.PFnWaysShort
namespace Go.Proofs.Ytlmpaphlnlgelaa
/-- The given statement. -/
theorem fnWaysShort_holds : Rows.FnWaysShortSaid := AFnWaysShort.row PFnWaysShort.pure
#print axioms fnWaysShort_holds
end Go.Proofs.Ytlmpaphlnlgelaa
