/- laws.FnWays returns true at every input. No condition. -/
import Derived.Test.YthfflkfpmebbbaaExFnWays
import Derived.Test.YthfflkfpmebbbaaArgFnWays
set_option linter.unusedVariables false
set_option linter.unusedSimpArgs false
namespace Go.Proofs.Ythfflkfpmebbbaa.PFnWays
open Go.RowKit Go.Proofs.YthfflkfpmebbbaaA Go.Proofs.YthfflkfpmebbbaaL Go.Proofs.Ythfflkfpmebbbaa.AFnWays
theorem i64_of {x : Int} (h : OkN .i64 x) : -9223372036854775808 ≤ x ∧ x ≤ 9223372036854775807 := bounds_i64 h
theorem rd46 {l : List S46} {i : Nat} {x : S46} (h : l[i]? = some x) : rd_T46 l (i : Int) = x := by
  unfold rd_T46; simpa using get_of l z46 h
theorem rd75 {l : List S75} {i : Nat} {x : S75} (h : l[i]? = some x) : rd_T75 l (i : Int) = x := by
  unfold rd_T75; simpa using get_of l z75 h
theorem spec_l01In_of (x lo hi : Int) : spec_l01In.f x lo hi = some (decide (lo ≤ x ∧ x ≤ hi)) := by
  unfold spec_l01In.f
  rw [ite_some]; congr 1; rw [Bool.eq_iff_iff]
  by_cases h : x ≥ lo <;> simp [h] <;> omega
theorem impl_within_of (x lo hi : Int) : impl_within.f x lo hi = some (decide (lo ≤ x ∧ x ≤ hi)) := spec_l01In_of x lo hi
def insOk (x : S46) : Bool := decide ((1 ≤ x.f0 ∧ x.f0 ≤ 8) ∧ (0 ≤ x.f1 ∧ x.f1 ≤ 4294967295) ∧ (0 ≤ x.f2 ∧ x.f2 ≤ 15) ∧ (0 ≤ x.f3 ∧ x.f3 ≤ 15) ∧ ((3 ≤ x.f0 ∧ x.f0 ≤ 6) ∨ (x.f2 = 0 ∧ x.f3 = 0)) ∧ (x.f0 = 1 → x.f1 < 8) ∧ (x.f0 = 7 → x.f1 < 400))
theorem spec_InsOk_of (k : Nat) (x : S46) : spec_InsOk.f (k + 1) x.f0 x.f1 x.f2 x.f3 = some (insOk x) := by
  simp only [spec_InsOk.f, spec_InsOk.j0, spec_HalfOk.f, spec_l06Ask.f, spec_l01In_of, Option.bind_some, ite_some, decide_eq_true_eq]
  congr 1; rw [Bool.eq_iff_iff]; unfold insOk
  rw [decide_eq_true_eq]
  by_cases h1 : 1 ≤ x.f0 ∧ x.f0 ≤ 8
  · by_cases h2 : 0 ≤ x.f1 ∧ x.f1 ≤ 4294967295
    · by_cases h3 : 0 ≤ x.f2 ∧ x.f2 ≤ 15
      · by_cases h4 : 0 ≤ x.f3 ∧ x.f3 ≤ 15
        · by_cases h5 : 3 ≤ x.f0 ∧ x.f0 ≤ 6
          · have e1 : ¬ x.f0 = 1 := by omega
            have e7 : ¬ x.f0 = 7 := by omega
            simp [h1, h2, h3, h4, h5, e1, e7]
          · by_cases h6 : x.f2 = 0
            · by_cases h7 : x.f3 = 0
              · by_cases e1 : x.f0 = 1
                · simp [h2, h6, h7, e1]
                · by_cases e7 : x.f0 = 7
                  · simp [h2, h6, h7, e7]
                  · simp [h1, h2, h5, h6, h7, e1, e7]
              · simp [h1, h2, h3, h4, h5, h6, h7]
            · simp [h1, h2, h3, h4, h5, h6]
        · simp [h1, h2, h3, h4]
      · simp [h1, h2, h3]
    · simp [h1, h2]
  · simp [h1]
theorem spec_InsOk_ev (x : S46) : Ev (fun k => spec_InsOk.f k x.f0 x.f1 x.f2 x.f3) (insOk x) := ⟨1, fun k hk => by obtain ⟨m, rfl⟩ : ∃ m, k = m + 1 := ⟨k - 1, by omega⟩; exact spec_InsOk_of m x⟩
theorem impl_InsOk_of (x : S46) : impl_InsOk.f x.f0 x.f1 x.f2 x.f3 = some (insOk x) := by
  simp only [impl_InsOk.f, impl_HalfOk.f, impl_Ins_asks.f, impl_within_of, Option.bind_some, ite_some, decide_eq_true_eq]
  congr 1; rw [Bool.eq_iff_iff]; unfold insOk
  rw [decide_eq_true_eq]
  by_cases h5 : 3 ≤ x.f0 ∧ x.f0 ≤ 6
  · have e1 : ¬ x.f0 = 1 := by omega
    have e7 : ¬ x.f0 = 7 := by omega
    have e8 : 1 ≤ x.f0 ∧ x.f0 ≤ 8 := by omega
    by_cases h2 : 0 ≤ x.f1 ∧ x.f1 ≤ 4294967295
    · by_cases h3 : 0 ≤ x.f2 ∧ x.f2 ≤ 15
      · simp [h5, h2, h3, e1, e7, e8]
      · simp [h5, h2, h3]
    · simp [h5, h2]
  · by_cases h6 : x.f2 = 0
    · by_cases h7 : x.f3 = 0
      · by_cases e1 : x.f0 = 1
        · simp [h6, h7, e1]; omega
        · by_cases e7 : x.f0 = 7
          · simp [h6, h7, e7]; omega
          · by_cases e2 : x.f0 = 2
            · simp [h6, h7, e2]
            · by_cases e8 : x.f0 = 8
              · simp [h6, h7, e8]
              · have : ¬ (1 ≤ x.f0 ∧ x.f0 ≤ 8) := by omega
                simp [h5, h6, h7, e1, e2, e7, e8, this]
      · simp [h5, h6, h7]
    · simp [h5, h6]
theorem insOk_of {x : S46} (h : insOk x = true) : (1 ≤ x.f0 ∧ x.f0 ≤ 8) ∧ (0 ≤ x.f1 ∧ x.f1 ≤ 4294967295) ∧ (0 ≤ x.f2 ∧ x.f2 ≤ 15) ∧ (0 ≤ x.f3 ∧ x.f3 ≤ 15) ∧ ((3 ≤ x.f0 ∧ x.f0 ≤ 6) ∨ (x.f2 = 0 ∧ x.f3 = 0)) ∧ (x.f0 = 1 → x.f1 < 8) ∧ (x.f0 = 7 → x.f1 < 400) := of_decide_eq_true h
/-- How far a word goes. -/
def farI (x : S46) : Int := if 3 ≤ x.f0 ∧ x.f0 ≤ 6 then 1 + max x.f2 x.f3 else if x.f0 = 7 then 1 + x.f1 else if x.f0 = 8 then 0 else 1
def lastRet (l : List S46) : Bool := (l.getD (l.length - 1) z46).f0 == 8
def chkOne (n : Nat) (i : Nat) (x : S46) : Bool := insOk x && decide ((i : Int) + farI x < n)
def chk (l : List S46) : Bool := decide (1 ≤ l.length ∧ l.length ≤ 400) && (allI (chkOne l.length) 0 l && lastRet l)
theorem spec_CheckProgram_ev (l : List S46) (hn : l.length ≤ 1048576) : Ev (fun k => spec_CheckProgram.f k l) (chk l) := by
  unfold spec_CheckProgram.f chk
  rw [spec_l01In_of]
  refine Ev.bindc rfl ?_
  by_cases h : 1 ≤ l.length ∧ l.length ≤ 400
  · refine Ev.pos (by simp; omega) ?_
    rw [decide_eq_true h, Bool.true_and]
    refine allI_ev (fun k i => spec_CheckProgram.l0 k l i) l (chkOne l.length) (lastRet l) ?_ ?_ ?_
    · refine Ev.step (f := fun _ => some (lastRet l)) (fun k => ?_) (Ev.now _)
      simp only [spec_CheckProgram.l0]
      rw [if_neg (by omega), w64 (by omega) (by omega), if_pos (by omega), if_pos (by omega)]
      unfold lastRet rd_T46
      rw [show ((l.length : Int) - 1).toNat = l.length - 1 by omega]
    · intro i x hx hp
      have hi := lt_of hx
      unfold chkOne at hp
      have e := spec_InsOk_ev x
      refine Ev.step (f := fun k => (spec_InsOk.f k x.f0 x.f1 x.f2 x.f3).bind fun t => if t = true then (if x.f0 = 8 then spec_CheckProgram.l0 k l (wrap64 ((i : Int) + 1)) else (spec_l07Far.f x.f0 x.f1 x.f2 x.f3).bind fun u => if wrap64 (wrap64 ((i : Int) + 1) + u) ≥ (l.length : Int) then some false else spec_CheckProgram.l0 k l (wrap64 ((i : Int) + 1))) else some false) (fun k => ?_) ?_
      · simp only [spec_CheckProgram.l0]
        rw [if_pos (by omega), if_pos (by omega), rd46 hx]
      · refine Ev.bind e ?_
        cases hio : insOk x with
        | false => exact Ev.neg (by simp) (Ev.now _)
        | true =>
          rw [hio, Bool.true_and] at hp
          have hp' := of_decide_eq_false hp
          have hx5 := insOk_of hio
          refine Ev.pos rfl ?_
          have h8 : ¬ x.f0 = 8 := by
            intro h8
            unfold farI at hp'
            rw [if_neg (by omega), if_neg (by omega), if_pos h8] at hp'
            omega
          refine Ev.neg h8 ?_
          have hf : ∃ u, spec_l07Far.f x.f0 x.f1 x.f2 x.f3 = some u ∧ 1 + u = farI x ∧ 0 ≤ u ∧ u ≤ 4294967295 := by
            unfold spec_l07Far.f farI
            by_cases h7 : x.f0 = 7
            · rw [if_pos h7, if_neg (by omega), if_pos h7]; exact ⟨_, rfl, rfl, by omega, by omega⟩
            · rw [if_neg h7]
              by_cases ha : 3 ≤ x.f0 ∧ x.f0 ≤ 6
              · rw [if_pos ha]
                by_cases hg : x.f2 > x.f3
                · rw [if_pos hg]; exact ⟨_, rfl, by omega, by omega, by omega⟩
                · rw [if_neg hg]; exact ⟨_, rfl, by omega, by omega, by omega⟩
              · rw [if_neg ha, if_neg h7, if_neg h8]
                by_cases hg : x.f2 > x.f3
                · rw [if_pos hg]; exact ⟨_, rfl, by omega, by omega, by omega⟩
                · rw [if_neg hg]; exact ⟨_, rfl, by omega, by omega, by omega⟩
          obtain ⟨u, e1, e2, e3, e4⟩ := hf
          rw [e1]
          refine Ev.bindc rfl ?_
          rw [w64 (x := (i : Int) + 1) (by omega) (by omega), w64 (by omega) (by omega)]
          exact Ev.pos (by omega) (Ev.now _)
    · intro i x r hx hp hr
      have hi := lt_of hx
      unfold chkOne at hp
      rw [Bool.and_eq_true] at hp
      obtain ⟨hio, hp⟩ := hp
      have hp' := of_decide_eq_true hp
      have hx5 := insOk_of hio
      have e := spec_InsOk_ev x
      rw [hio] at e
      refine Ev.step (f := fun k => (spec_InsOk.f k x.f0 x.f1 x.f2 x.f3).bind fun t => if t = true then (if x.f0 = 8 then spec_CheckProgram.l0 k l ((i : Int) + 1) else (spec_l07Far.f x.f0 x.f1 x.f2 x.f3).bind fun u => if wrap64 (((i : Int) + 1) + u) ≥ (l.length : Int) then some false else spec_CheckProgram.l0 k l ((i : Int) + 1)) else some false) (fun k => ?_) ?_
      · simp only [spec_CheckProgram.l0]
        rw [if_pos (by omega), if_pos (by omega), rd46 hx, w64 (x := (i : Int) + 1) (by omega) (by omega)]
      · refine Ev.bind e (Ev.pos rfl ?_)
        by_cases h8 : x.f0 = 8
        · exact Ev.pos h8 hr
        · refine Ev.neg h8 ?_
          have hf : ∃ u, spec_l07Far.f x.f0 x.f1 x.f2 x.f3 = some u ∧ 1 + u = farI x ∧ 0 ≤ u ∧ u ≤ 4294967295 := by
            unfold spec_l07Far.f farI
            by_cases h7 : x.f0 = 7
            · rw [if_pos h7, if_neg (by omega), if_pos h7]; exact ⟨_, rfl, rfl, by omega, by omega⟩
            · rw [if_neg h7]
              by_cases ha : 3 ≤ x.f0 ∧ x.f0 ≤ 6
              · rw [if_pos ha]
                by_cases hg : x.f2 > x.f3
                · rw [if_pos hg]; exact ⟨_, rfl, by omega, by omega, by omega⟩
                · rw [if_neg hg]; exact ⟨_, rfl, by omega, by omega, by omega⟩
              · rw [if_neg ha, if_neg h7, if_neg h8]
                by_cases hg : x.f2 > x.f3
                · rw [if_pos hg]; exact ⟨_, rfl, by omega, by omega, by omega⟩
                · rw [if_neg hg]; exact ⟨_, rfl, by omega, by omega, by omega⟩
          obtain ⟨u, e1, e2, e3, e4⟩ := hf
          rw [e1]
          refine Ev.bindc rfl ?_
          rw [w64 (by omega) (by omega)]
          exact Ev.neg (by omega) hr
  · refine Ev.neg (by simp; omega) ?_
    rw [decide_eq_false h, Bool.false_and]; exact Ev.now _
def chkImpl (n : Nat) (i : Nat) (x : S46) : Bool := insOk x && decide ((i : Int) + (if 3 ≤ x.f0 ∧ x.f0 ≤ 6 then 1 + max x.f2 x.f3 else if x.f0 = 7 then 1 + x.f1 else 0) < n)
theorem impl_farthest_of (x : S46) (i n : Nat) (hn : n ≤ 400) (hi : i < n) (h : insOk x = true) : impl_farthest.f x.f0 x.f1 x.f2 x.f3 (i : Int) = some ((i : Int) + (if 3 ≤ x.f0 ∧ x.f0 ≤ 6 then 1 + max x.f2 x.f3 else if x.f0 = 7 then 1 + x.f1 else 0)) := by
  have hx5 := insOk_of h
  unfold impl_farthest.f impl_Ins_asks.f
  simp only [impl_within_of, Option.bind_some, decide_eq_true_eq]
  by_cases ha : 3 ≤ x.f0 ∧ x.f0 ≤ 6
  · rw [if_pos ha, if_pos ha, w64 (x := (i : Int) + 1) (by omega) (by omega), w64 (by omega) (by omega)]
    congr 1; omega
  · rw [if_neg ha, if_neg ha]
    by_cases h7 : x.f0 = 7
    · rw [if_pos h7, if_pos h7, w64 (x := (i : Int) + 1) (by omega) (by omega), w64 (by omega) (by omega)]
      congr 1; omega
    · rw [if_neg h7, if_neg h7]
      rw [Int.add_zero]
theorem impl_CheckProgram_ev (l : List S46) (hn : l.length ≤ 1048576) : Ev (fun k => impl_CheckProgram.f k l) (chk l) := by
  unfold impl_CheckProgram.f chk
  rw [impl_within_of]
  refine Ev.bindc rfl ?_
  by_cases h : 1 ≤ l.length ∧ l.length ≤ 400
  · refine Ev.pos (by simp; omega) ?_
    rw [decide_eq_true h, Bool.true_and, w64 (by omega) (by omega)]
    refine Ev.pos (by omega) (Ev.pos (by omega) ?_)
    rw [show rd_T46 l ((l.length : Int) - 1) = l.getD (l.length - 1) z46 by unfold rd_T46; rw [show ((l.length : Int) - 1).toNat = l.length - 1 by omega]]
    cases hr : lastRet l with
    | false =>
      unfold lastRet at hr
      rw [Bool.and_false]
      refine Ev.neg (by simpa using hr) (Ev.now _)
    | true =>
      have hr' := hr
      unfold lastRet at hr
      refine Ev.pos (by simpa using hr) ?_
      have hcongr : allI (chkOne l.length) 0 l = allI (chkImpl l.length) 0 l := by
        refine allI_congr l 0 fun j x hx => ?_
        have hj := lt_of hx
        unfold chkOne chkImpl
        cases hio : insOk x with
        | false => simp
        | true =>
          have hx5 := insOk_of hio
          simp only [Bool.true_and]
          rw [Bool.eq_iff_iff, decide_eq_true_eq, decide_eq_true_eq]
          unfold farI
          by_cases ha : 3 ≤ x.f0 ∧ x.f0 ≤ 6
          · rw [if_pos ha, if_pos ha]
          · rw [if_neg ha, if_neg ha]
            by_cases h7 : x.f0 = 7
            · rw [if_pos h7, if_pos h7]
            · rw [if_neg h7, if_neg h7]
              by_cases h8 : x.f0 = 8
              · rw [if_pos h8]
              · rw [if_neg h8]
                have : j ≠ l.length - 1 := by
                  intro e
                  apply h8
                  rw [← e, get_of l z46 hx] at hr
                  simpa using hr
                constructor <;> intro _ <;> omega
      rw [hcongr]
      refine allI_ev (fun k i => impl_CheckProgram.l0 k l i) l (chkImpl l.length) true ?_ ?_ ?_
      · refine Ev.step (f := fun _ => some true) (fun k => ?_) (Ev.now _)
        simp only [impl_CheckProgram.l0]; rw [if_neg (by omega)]
      · intro i x hx hp
        have hi := lt_of hx
        unfold chkImpl at hp
        refine Ev.step (fun _ => rfl) ?_
        simp only [impl_CheckProgram.l0]
        rw [rd46 hx]
        refine Ev.pos (by omega) (Ev.pos (by omega) (Ev.bindc (impl_InsOk_of x) ?_))
        cases hio : insOk x with
        | false => exact Ev.neg (by simp) (Ev.now _)
        | true =>
          rw [hio, Bool.true_and] at hp
          have hp' := of_decide_eq_false hp
          refine Ev.pos rfl (Ev.bindc (impl_farthest_of x i l.length (by omega) hi hio) ?_)
          exact Ev.pos (by omega) (Ev.now _)
      · intro i x r hx hp hr
        have hi := lt_of hx
        unfold chkImpl at hp
        rw [Bool.and_eq_true] at hp
        obtain ⟨hio, hp⟩ := hp
        have hp' := of_decide_eq_true hp
        refine Ev.step (fun _ => rfl) ?_
        simp only [impl_CheckProgram.l0]
        rw [rd46 hx, w64 (x := (i : Int) + 1) (by omega) (by omega)]
        refine Ev.pos (by omega) (Ev.pos (by omega) (Ev.bindc (impl_InsOk_of x) ?_))
        rw [hio]
        refine Ev.pos rfl (Ev.bindc (impl_farthest_of x i l.length (by omega) hi hio) ?_)
        exact Ev.neg (by omega) hr
  · refine Ev.neg (by simp; omega) ?_
    rw [decide_eq_false h, Bool.false_and]; exact Ev.now _
/-- What is known of a program that is looked over. -/
theorem chk_of {l : List S46} (h : chk l = true) : (1 ≤ l.length ∧ l.length ≤ 400) ∧ lastRet l = true ∧ ∀ (i : Nat) x, l[i]? = some x → insOk x = true ∧ (i : Int) + farI x < l.length := by
  unfold chk at h
  rw [Bool.and_eq_true, Bool.and_eq_true] at h
  refine ⟨of_decide_eq_true h.1, h.2.2, fun i x hx => ?_⟩
  have := allI_true l 0 h.2.1 i x hx
  unfold chkOne at this
  rw [Bool.and_eq_true] at this
  exact ⟨this.1, by have := of_decide_eq_true this.2; simpa using this⟩
/-- Where one may go from a word. -/
def nextV (x : S46) (i : Int) : List Int :=
  if x.f0 = 8 then [] else if x.f0 = 7 then [i + 1 + x.f1] else if 3 ≤ x.f0 ∧ x.f0 ≤ 6 then (if x.f2 = x.f3 then [i + 1 + x.f2] else [i + 1 + min x.f2 x.f3, i + 1 + max x.f2 x.f3]) else [i + 1]
theorem impl_ways_ev (i : Nat) (x : S46) (hi : i < 400) (hio : insOk x = true) : Ev (fun k => impl_ways.f k x.f0 x.f1 x.f2 x.f3 (i : Int)) (nextV x i) := by
  have hx5 := insOk_of hio
  refine ⟨1, fun k hk => ?_⟩
  obtain ⟨k, rfl⟩ : ∃ m, k = m + 1 := ⟨k - 1, by omega⟩
  unfold impl_ways.f nextV
  simp only [impl_ways.j0, impl_Ins_asks.f, impl_within_of, Option.bind_some, decide_eq_true_eq]
  rw [w64 (x := (i : Int) + 1) (by omega) (by omega)]
  by_cases h8 : x.f0 = 8
  · rw [if_pos h8, if_pos h8]
  · rw [if_neg h8, if_neg h8]
    by_cases h7 : x.f0 = 7
    · rw [if_pos h7, if_pos h7, w64 (by omega) (by omega)]
    · rw [if_neg h7, if_neg h7]
      by_cases ha : 3 ≤ x.f0 ∧ x.f0 ≤ 6
      · rw [if_pos ha, if_pos ha]
        by_cases he : x.f2 = x.f3
        · rw [if_neg (by simp [he]), if_pos ha, if_pos he, w64 (by omega) (by omega)]
        · rw [if_pos (by simp [he]), if_neg he, w64 (by omega) (by omega), w64 (by omega) (by omega)]
          (try rw [if_pos ha])
      · rw [if_neg ha, if_neg ha, if_neg (by simp), if_neg ha]
def mark (q : List Bool) (ks : List Int) : List Bool := ks.foldl (fun q k => q.set k.toNat true) q
theorem mark_length : ∀ (ks : List Int) (q : List Bool), (mark q ks).length = q.length
  | [], q => rfl
  | k :: ks, q => by show (mark (q.set k.toNat true) ks).length = _; rw [mark_length ks]; simp
def reachOne (x : S46) (i : Nat) (q : List Bool) : List Bool := if q.getD i false = true then mark q (nextV x (i : Int)) else q
theorem reachOne_length (x : S46) (i : Nat) (q : List Bool) : (reachOne x i q).length = q.length := by unfold reachOne; split; exact mark_length _ _; rfl
def reachF : List S46 → Nat → List Bool → List Bool
  | [], _, q => q
  | x :: r, i, q => reachF r (i + 1) (reachOne x i q)
theorem reachF_length : ∀ (l : List S46) (i : Nat) (q : List Bool), (reachF l i q).length = q.length
  | [], _, _ => rfl
  | x :: r, i, q => by show (reachF r (i + 1) (reachOne x i q)).length = _; rw [reachF_length r, reachOne_length]
def reachV (l : List S46) : List Bool := if chk l = true then reachF l 0 ((List.replicate l.length false).set 0 true) else []
theorem reachV_length (l : List S46) : (reachV l).length ≤ l.length := by
  unfold reachV
  split
  · rw [reachF_length]; simp
  · simp
theorem rdB {q : List Bool} {i : Nat} : rdOf false q (i : Int) = q.getD i false := by unfold rdOf; rw [Int.toNat_natCast]
theorem next_bound {x : S46} {i n : Nat} (hio : insOk x = true) (hf : (i : Int) + farI x < n) : ∀ k ∈ nextV x (i : Int), (i : Int) < k ∧ k < (n : Int) := by
  obtain ⟨hx0, hx1, hx2, hx3, -⟩ := insOk_of hio
  intro k hk
  unfold nextV at hk
  unfold farI at hf
  by_cases h8 : x.f0 = 8
  · rw [if_pos h8] at hk; simp at hk
  · rw [if_neg h8] at hk
    by_cases h7 : x.f0 = 7
    · rw [if_pos h7] at hk
      rw [if_neg (by omega), if_pos h7] at hf
      simp at hk; omega
    · rw [if_neg h7] at hk
      by_cases ha : 3 ≤ x.f0 ∧ x.f0 ≤ 6
      · rw [if_pos ha] at hk hf
        by_cases he : x.f2 = x.f3
        · rw [if_pos he] at hk; simp at hk; omega
        · rw [if_neg he] at hk
          simp only [List.mem_cons, List.not_mem_nil, or_false] at hk
          omega
      · rw [if_neg ha] at hk hf
        rw [if_neg h7, if_neg h8] at hf
        simp at hk; omega
theorem impl_mark_loop (l : List S46) (i : Nat) (ks : List Int) (hk : ∀ k ∈ ks, 0 ≤ k ∧ k < (l.length : Int)) (hl : l.length ≤ 400) (hi : i < l.length) (hks : ks.length ≤ 2) (r : List Bool) : ∀ (d j : Nat) (q : List Bool), ks.length - j = d → j ≤ ks.length → q.length = l.length →
    Ev (fun k => impl_Reached.l1 k l (mark q (ks.drop j)) ((i : Int) + 1)) r → Ev (fun k => impl_Reached.l0 k l (i : Int) ks q (j : Int)) r := by
  intro d
  induction d with
  | zero =>
    intro j q hd hj hq h
    rw [List.drop_eq_nil_of_le (by omega)] at h
    refine Ev.step (fun _ => rfl) ?_
    simp only [impl_Reached.l0]
    rw [w64 (x := (i : Int) + 1) (by omega) (by omega)]
    exact Ev.neg (by omega) h
  | succ d ih =>
    intro j q hd hj hq h
    have hx : ks[j]? = some ks[j] := List.getElem?_eq_getElem (by omega)
    rw [List.drop_eq_getElem_cons (by omega)] at h
    have hb := hk ks[j] (List.getElem_mem _)
    generalize ks[j] = y at hx h hb
    have e : rd ks (j : Int) = y := by unfold rd; exact get_of ks 0 hx
    refine Ev.step (fun _ => rfl) ?_
    simp only [impl_Reached.l0]
    rw [e, w64 (x := (j : Int) + 1) (by omega) (by omega)]
    have := ih (j + 1) (q.set y.toNat true) (by omega) (by omega) (by simp [hq]) h
    exact Ev.pos (by omega) (Ev.pos (by omega) (Ev.pos hb.1 (Ev.pos (by omega) (by simpa using this))))
theorem nextV_len (x : S46) (i : Int) : (nextV x i).length ≤ 2 := by
  unfold nextV
  repeat' split
  all_goals simp
theorem impl_reach_loop (l : List S46) (hl : chk l = true) : ∀ (d i : Nat) (q : List Bool), l.length - i = d → i ≤ l.length → q.length = l.length → Ev (fun k => impl_Reached.l1 k l q (i : Int)) (reachF (l.drop i) i q) := by
  obtain ⟨c1, _, c3⟩ := chk_of hl
  intro d
  induction d with
  | zero =>
    intro i q hd hi hq
    rw [List.drop_eq_nil_of_le (by omega)]
    refine Ev.step (fun _ => rfl) ?_
    simp only [impl_Reached.l1]; exact Ev.neg (by omega) (Ev.now _)
  | succ d ih =>
    intro i q hd hi hq
    have hx : l[i]? = some l[i] := List.getElem?_eq_getElem (by omega)
    rw [List.drop_eq_getElem_cons (by omega)]
    generalize l[i] = x at hx
    obtain ⟨hio, hf⟩ := c3 i x hx
    have hb := next_bound (n := l.length) hio hf
    have nx : ∀ q' : List Bool, q'.length = l.length → Ev (fun k => impl_Reached.l1 k l q' ((i : Int) + 1)) (reachF (l.drop (i + 1)) (i + 1) q') := fun q' h => by
      have := ih (i + 1) q' (by omega) (by omega) h
      simpa using this
    show Ev _ (reachF (l.drop (i + 1)) (i + 1) (reachOne x i q))
    refine Ev.step (fun _ => rfl) ?_
    simp only [impl_Reached.l1]
    rw [rd46 hx, w64 (x := (i : Int) + 1) (by omega) (by omega), rdB]
    refine Ev.pos (by omega) (Ev.pos (by omega) (Ev.pos (by omega) ?_))
    unfold reachOne
    by_cases hq1 : q.getD i false = true
    · rw [if_pos hq1]
      refine Ev.pos hq1 (Ev.bind (impl_ways_ev i x (by omega) hio) ?_)
      refine impl_mark_loop l i (nextV x i) (fun k hk => by have := hb k hk; omega) c1.2 (by omega) (nextV_len _ _) _ _ 0 q rfl (Nat.zero_le _) hq ?_
      rw [List.drop_zero]
      exact nx _ (by rw [mark_length]; exact hq)
    · rw [if_neg hq1]
      exact Ev.neg hq1 (nx q hq)
theorem impl_Reached_ev (l : List S46) (hn : l.length ≤ 1048576) : Ev (fun k => impl_Reached.f k l) (reachV l) := by
  unfold impl_Reached.f reachV
  refine Ev.bind (impl_CheckProgram_ev l hn) ?_
  cases h : chk l with
  | false => rw [if_neg (by simp)]; exact Ev.neg (by simp) (Ev.now _)
  | true =>
    obtain ⟨c1, _, _⟩ := chk_of h
    rw [if_pos rfl, Int.toNat_natCast]
    have := impl_reach_loop l h _ 0 ((List.replicate l.length false).set 0 true) rfl (Nat.zero_le _) (by simp)
    exact Ev.pos rfl (Ev.pos (by omega) (Ev.pos (by omega) (Ev.pos (by simp; omega) (by simpa using this))))
/-! Numbers in their order, each once. -/
def insV (n : Int) : List Int → List Int
  | [] => [n]
  | x :: r => if n < x then n :: x :: r else x :: insV n r
theorem insV_mem (n : Int) : ∀ (l : List Int) (y : Int), y ∈ insV n l ↔ y = n ∨ y ∈ l
  | [], y => by simp [insV]
  | x :: r, y => by
    unfold insV
    split
    · simp
    · rw [List.mem_cons, insV_mem n r, List.mem_cons]
      constructor
      · rintro (h | h | h)
        · exact .inr (.inl h)
        · exact .inl h
        · exact .inr (.inr h)
      · rintro (h | h | h)
        · exact .inr (.inl h)
        · exact .inl h
        · exact .inr (.inr h)
theorem insV_length (n : Int) : ∀ l : List Int, (insV n l).length = l.length + 1
  | [] => rfl
  | x :: r => by
    unfold insV
    split
    · rfl
    · simp [insV_length n r]
theorem insV_sorted (n : Int) : ∀ (l : List Int), l.Pairwise (· < ·) → n ∉ l → (insV n l).Pairwise (· < ·)
  | [], _, _ => by simp [insV]
  | x :: r, h, hn => by
    rw [List.pairwise_cons] at h
    unfold insV
    split
    · next hlt =>
      rw [List.pairwise_cons, List.pairwise_cons]
      exact ⟨fun y hy => by rcases List.mem_cons.1 hy with rfl | hy; exact hlt; have := h.1 y hy; omega, h⟩
    · next hge =>
      rw [List.pairwise_cons]
      refine ⟨fun y hy => ?_, insV_sorted n r h.2 (fun hm => hn (List.mem_cons_of_mem _ hm))⟩
      rcases (insV_mem n r y).1 hy with rfl | hy
      · have : y ≠ x := fun e => hn (by rw [e]; exact List.mem_cons_self)
        omega
      · exact h.1 y hy
def putOne (out : List Int) (n : Int) : List Int := if n ∈ out then out else insV n out
theorem sorted_eq : ∀ (a b : List Int), a.Pairwise (· < ·) → b.Pairwise (· < ·) → (∀ x, x ∈ a ↔ x ∈ b) → a = b
  | [], [], _, _, _ => rfl
  | [], y :: b, _, _, h => by have := (h y).2 List.mem_cons_self; simp at this
  | x :: a, [], _, _, h => by have := (h x).1 List.mem_cons_self; simp at this
  | x :: a, y :: b, ha, hb, h => by
    rw [List.pairwise_cons] at ha hb
    have hxy : x = y := by
      have h1 := (h x).1 List.mem_cons_self
      have h2 := (h y).2 List.mem_cons_self
      rcases List.mem_cons.1 h1 with h1 | h1
      · exact h1
      · rcases List.mem_cons.1 h2 with h2 | h2
        · exact h2.symm
        · have := hb.1 x h1; have := ha.1 y h2; omega
    subst hxy
    refine congrArg _ (sorted_eq a b ha.2 hb.2 fun z => ?_)
    constructor
    · intro hz
      have := ha.1 z hz
      rcases List.mem_cons.1 ((h z).1 (List.mem_cons_of_mem _ hz)) with rfl | hz'
      · omega
      · exact hz'
    · intro hz
      have := hb.1 z hz
      rcases List.mem_cons.1 ((h z).2 (List.mem_cons_of_mem _ hz)) with rfl | hz'
      · omega
      · exact hz'
theorem fold_put : ∀ (ks out : List Int), out.Pairwise (· < ·) → (ks.foldl putOne out).Pairwise (· < ·) ∧ ∀ x, x ∈ ks.foldl putOne out ↔ x ∈ ks ∨ x ∈ out
  | [], out, h => ⟨h, fun x => by simp⟩
  | k :: ks, out, h => by
    have h1 : (putOne out k).Pairwise (· < ·) ∧ ∀ x, x ∈ putOne out k ↔ x = k ∨ x ∈ out := by
      unfold putOne
      split
      · next hk => exact ⟨h, fun x => ⟨.inr, fun hx => by rcases hx with rfl | hx; exact hk; exact hx⟩⟩
      · next hk => exact ⟨insV_sorted k out h hk, insV_mem k out⟩
    obtain ⟨h2, h3⟩ := fold_put ks (putOne out k) h1.1
    refine ⟨h2, fun x => ?_⟩
    show x ∈ ks.foldl putOne (putOne out k) ↔ _
    rw [h3, h1.2, List.mem_cons]
    constructor
    · rintro (h | h | h)
      · exact .inl (.inr h)
      · exact .inl (.inl h)
      · exact .inr h
    · rintro ((h | h) | h)
      · exact .inr (.inl h)
      · exact .inl h
      · exact .inr (.inr h)
theorem compact_sorted (l : List Int) (h : l.Pairwise (· ≤ ·)) : (Go.Lib.compact l).Pairwise (· < ·) ∧ ∀ x, x ∈ Go.Lib.compact l ↔ x ∈ l := by
  have get : ∀ j, (hj : j < l.length) → l.toArray[j]! = l[j] := fun j hj => by simp [hj]
  have key : ∀ m, m ≤ l.length → (Go.Lib.compactUpTo l.toArray m).Pairwise (· < ·) ∧ ∀ x, x ∈ Go.Lib.compactUpTo l.toArray m ↔ ∃ j, ∃ hj : j < l.length, j < m ∧ l[j] = x := by
    intro m
    induction m with
    | zero => intro _; exact ⟨by simp [Go.Lib.compactUpTo], fun x => by simp [Go.Lib.compactUpTo]⟩
    | succ m ih =>
      intro hm
      obtain ⟨h1, h2⟩ := ih (by omega)
      have hml : m < l.length := by omega
      rw [Go.Lib.compactUpTo_succ, get m hml]
      have hk : Go.Lib.keeps l.toArray m = decide (m = 0 ∨ l[m] ≠ l.toArray[m - 1]!) := by unfold Go.Lib.keeps; rw [get m hml]
      by_cases hc : m = 0 ∨ l[m] ≠ l.toArray[m - 1]!
      · rw [hk, decide_eq_true hc, if_pos rfl]
        constructor
        · rw [List.pairwise_append]
          refine ⟨h1, List.pairwise_singleton _ _, fun x hx y hy => ?_⟩
          rw [List.mem_singleton] at hy
          subst hy
          obtain ⟨j, hj, hjm, rfl⟩ := (h2 x).1 hx
          rcases hc with hc | hc
          · omega
          · rw [get (m - 1) (by omega)] at hc
            have e1 : l[m - 1] ≤ l[m] := List.pairwise_iff_getElem.1 h (m - 1) m (by omega) hml (by omega)
            have e2 : l[j] ≤ l[m - 1] := by
              by_cases hjm' : j = m - 1
              · subst hjm'; exact Int.le_refl _
              · exact List.pairwise_iff_getElem.1 h j (m - 1) hj (by omega) (by omega)
            omega
        · intro x
          rw [List.mem_append, h2, List.mem_singleton]
          constructor
          · rintro (⟨j, hj, hjm, e⟩ | rfl)
            · exact ⟨j, hj, by omega, e⟩
            · exact ⟨m, hml, by omega, rfl⟩
          · rintro ⟨j, hj, hjm, e⟩
            by_cases hjm' : j = m
            · subst hjm'; exact .inr e.symm
            · exact .inl ⟨j, hj, by omega, e⟩
      · rw [hk, decide_eq_false hc, if_neg (by simp), List.append_nil]
        refine ⟨h1, fun x => ?_⟩
        rw [h2]
        have hc1 : m ≠ 0 := fun e => hc (.inl e)
        have hc2 : l[m] = l[m - 1] := by
          have h3 : l[m] = l.toArray[m - 1]! := Classical.byContradiction fun e => hc (.inr e)
          rw [get (m - 1) (by omega)] at h3
          exact h3
        constructor
        · rintro ⟨j, hj, hjm, e⟩; exact ⟨j, hj, by omega, e⟩
        · rintro ⟨j, hj, hjm, e⟩
          by_cases hjm' : j = m
          · subst hjm'; exact ⟨j - 1, by omega, by omega, by rw [← hc2]; exact e⟩
          · exact ⟨j, hj, by omega, e⟩
  obtain ⟨h1, h2⟩ := key l.length (Nat.le_refl _)
  refine ⟨h1, fun x => (h2 x).trans ?_⟩
  constructor
  · rintro ⟨j, hj, _, rfl⟩; exact List.getElem_mem _
  · intro hx
    obtain ⟨j, hj, rfl⟩ := List.getElem_of_mem hx
    exact ⟨j, hj, hj, rfl⟩
theorem sort_compact (ks : List Int) : Go.Lib.compact (ks.mergeSort fun x y => decide (x ≤ y)) = ks.foldl putOne [] := by
  have hs : (ks.mergeSort fun x y => decide (x ≤ y)).Pairwise (· ≤ ·) := by
    have := List.pairwise_mergeSort (le := fun x y : Int => decide (x ≤ y)) (fun a b c h1 h2 => by simp at h1 h2 ⊢; omega) (fun a b => by simp; omega) ks
    exact this.imp (fun h => by simpa using h)
  obtain ⟨h1, h2⟩ := compact_sorted _ hs
  obtain ⟨h3, h4⟩ := fold_put ks [] List.Pairwise.nil
  refine sorted_eq _ _ h1 h3 fun x => ?_
  rw [h2, h4, List.mem_mergeSort]
  simp
/-- The numbers of words of a kind that are reached. -/
def numsF (op : Int) : List S46 → List Bool → List Int
  | x :: r, b :: q => if b = true ∧ x.f0 = op then x.f1 :: numsF op r q else numsF op r q
  | _, _ => []
theorem numsF_length (op : Int) : ∀ (l : List S46) (q : List Bool), (numsF op l q).length ≤ l.length
  | [], _ => by simp [numsF]
  | x :: r, [] => by simp [numsF]
  | x :: r, b :: q => by
    unfold numsF
    have := numsF_length op r q
    split <;> simp <;> omega
theorem fold_put_length : ∀ (ks out : List Int), (ks.foldl putOne out).length ≤ out.length + ks.length
  | [], out => by simp
  | k :: ks, out => by
    show (ks.foldl putOne (putOne out k)).length ≤ _
    have h1 := fold_put_length ks (putOne out k)
    have h2 : (putOne out k).length ≤ out.length + 1 := by unfold putOne; split; omega; rw [insV_length]; omega
    simp only [List.length_cons]; omega
theorem impl_nums_loop (l : List S46) (op : Int) (R : List Bool) (hl : l.length ≤ 1048576) (hR : R.length ≤ l.length) : ∀ (d i : Nat) (out : List Int), R.length - i = d → i ≤ R.length → out.length ≤ i → Ev (fun k => impl_numbersIn.l0 k l op R out (i : Int)) (Go.Lib.compact ((out ++ numsF op (l.drop i) (R.drop i)).mergeSort fun x y => decide (x ≤ y))) := by
  intro d
  induction d with
  | zero =>
    intro i out hd hi ho
    rw [show R.drop i = [] from List.drop_eq_nil_of_le (by omega)]
    refine Ev.step (fun _ => rfl) ?_
    simp only [impl_numbersIn.l0]
    rw [show out ++ numsF op (l.drop i) [] = out by cases l.drop i <;> simp [numsF]]
    refine Ev.neg (by omega) (Ev.bindc (x := out.mergeSort fun x y => decide (x ≤ y)) ?_ (Ev.bindc (x := Go.Lib.compact (out.mergeSort fun x y => decide (x ≤ y))) ?_ (Ev.now _)))
    · unfold slices_Sort_int_int.f; rw [if_pos (by omega)]
    · unfold slices_Compact_int_int.f; rw [if_pos (by rw [List.length_mergeSort]; omega)]
  | succ d ih =>
    intro i out hd hi ho
    have hx : l[i]? = some l[i] := List.getElem?_eq_getElem (by omega)
    have hb : R[i]? = some R[i] := List.getElem?_eq_getElem (by omega)
    rw [List.drop_eq_getElem_cons (l := R) (by omega), List.drop_eq_getElem_cons (l := l) (by omega)]
    generalize l[i] = x at hx
    generalize R[i] = b at hb
    have e : rdOf false R (i : Int) = b := by rw [rdB]; exact get_of R false hb
    refine Ev.step (fun _ => rfl) ?_
    simp only [impl_numbersIn.l0]
    rw [rd46 hx, e, w64 (x := (i : Int) + 1) (by omega) (by omega), show (i : Int) + 1 = ((i + 1 : Nat) : Int) from rfl]
    refine Ev.pos (by omega) (Ev.pos (by omega) ?_)
    unfold numsF
    have nx := ih (i + 1) out (by omega) (by omega) (by omega)
    by_cases hbt : b = true
    · refine Ev.pos hbt (Ev.pos (by omega) ?_)
      by_cases hop : x.f0 = op
      · rw [if_pos ⟨hbt, hop⟩]
        have := ih (i + 1) (out ++ [x.f1]) (by omega) (by omega) (by simp; omega)
        rw [List.append_assoc, List.singleton_append] at this
        exact Ev.pos hop (Ev.pos (by simp; omega) this)
      · rw [if_neg (fun h => hop h.2)]
        exact Ev.neg hop nx
    · rw [if_neg (fun h => hbt h.1)]
      exact Ev.neg hbt nx
/-- What ResultsIn and FieldsRead tell. -/
def saidV (l : List S46) (op : Int) : List Int := (numsF op l (reachV l)).foldl putOne []
theorem saidV_length (l : List S46) (op : Int) : (saidV l op).length ≤ l.length := by
  unfold saidV
  have h1 := fold_put_length (numsF op l (reachV l)) []
  have h2 := numsF_length op l (reachV l)
  simp at h1; omega
theorem impl_numbersIn_ev (l : List S46) (op : Int) (hn : l.length ≤ 1048576) : Ev (fun k => impl_numbersIn.f k l op) (saidV l op) := by
  unfold impl_numbersIn.f
  refine Ev.bind (impl_Reached_ev l hn) ?_
  have := impl_nums_loop l op (reachV l) hn (reachV_length l) _ 0 [] rfl (Nat.zero_le _) (by simp)
  rw [List.nil_append, List.drop_zero, List.drop_zero, sort_compact] at this
  simpa [saidV] using this
/-- Ends with enough rounds, and what comes out is so. -/
def Tot {α : Type} (g : Nat → Option α) (P : α → Prop) : Prop := ∃ r, Ev g r ∧ P r
section
variable {α β : Type} {P Q : α → Prop} {R : β → Prop}
theorem Tot.now {r : α} (h : P r) : Tot (fun _ => some r) P := ⟨r, Ev.now r, h⟩
theorem Tot.bind {g : Nat → Option α} {f : Nat → α → Option β} (h : Tot g P) (k : ∀ a, P a → Tot (fun n => f n a) R) : Tot (fun n => (g n).bind (f n)) R := by
  obtain ⟨a, ha, hp⟩ := h
  obtain ⟨r, hr, h⟩ := k a hp
  exact ⟨r, Ev.bind ha hr, h⟩
theorem Tot.bindc {a : Option α} {f : Nat → α → Option β} (h : ∃ x, a = some x ∧ P x) (k : ∀ x, P x → Tot (fun n => f n x) R) : Tot (fun n => a.bind (f n)) R := by
  obtain ⟨a, ha, hp⟩ := h
  obtain ⟨r, hr, h⟩ := k a hp
  exact ⟨r, Ev.bindc ha hr, h⟩
theorem Tot.bind1 {g : Nat → Option α} {f : Nat → α → Option β} {a : α} (h : Ev g a) (k : Tot (fun n => f n a) R) : Tot (fun n => (g n).bind (f n)) R := by
  obtain ⟨r, hr, k⟩ := k
  exact ⟨r, Ev.bind h hr, k⟩
theorem Tot.bindc1 {a : Option α} {f : Nat → α → Option β} {x : α} (h : a = some x) (k : Tot (fun n => f n x) R) : Tot (fun n => a.bind (f n)) R := by
  obtain ⟨r, hr, k⟩ := k
  exact ⟨r, Ev.bindc h hr, k⟩
theorem Tot.pos {c : Prop} [Decidable c] {f g : Nat → Option α} (h : c) (k : Tot f P) : Tot (fun n => if c then f n else g n) P := by
  obtain ⟨r, hr, k⟩ := k
  exact ⟨r, Ev.pos h hr, k⟩
theorem Tot.neg {c : Prop} [Decidable c] {f g : Nat → Option α} (h : ¬ c) (k : Tot g P) : Tot (fun n => if c then f n else g n) P := by
  obtain ⟨r, hr, k⟩ := k
  exact ⟨r, Ev.neg h hr, k⟩
theorem Tot.grd {c : Prop} [Decidable c] {f : Nat → Option α} (h : c) (k : Tot f P) : Tot (fun n => if c then f n else none) P := Tot.pos h k
theorem Tot.both {c : Prop} [Decidable c] {f g : Nat → Option α} (h : c → Tot f P) (k : ¬ c → Tot g P) : Tot (fun n => if c then f n else g n) P := by
  by_cases hc : c
  · exact Tot.pos hc (h hc)
  · exact Tot.neg hc (k hc)
theorem Tot.step {g f : Nat → Option α} (h : ∀ k, g (k + 1) = f k) (k : Tot f P) : Tot g P := by
  obtain ⟨r, hr, k⟩ := k
  exact ⟨r, Ev.step h hr, k⟩
theorem Tot.mono {g : Nat → Option α} (h : Tot g P) (k : ∀ r, P r → Q r) : Tot g Q := by
  obtain ⟨r, hr, h⟩ := h
  exact ⟨r, hr, k r h⟩
theorem Tot.one {g : Nat → Option α} {r : α} (h : Ev g r) (k : P r) : Tot g P := ⟨r, h, k⟩
/-- A loop of at most m rounds that keeps Inv. -/
theorem Tot.up {σ : Type} (L : Nat → σ → Int → Option α) (m : Nat) (Inv : Nat → σ → Prop)
    (step : ∀ (j : Nat) s, j ≤ m → Inv j s → (∀ s', j < m → Inv (j + 1) s' → Tot (fun k => L k s' ((j : Int) + 1)) P) → Tot (fun k => L k s (j : Int)) P) :
    ∀ s, Inv 0 s → Tot (fun k => L k s 0) P := by
  have key : ∀ (d j : Nat) s, m - j = d → j ≤ m → Inv j s → Tot (fun k => L k s (j : Int)) P := by
    intro d
    induction d with
    | zero => intro j s hd hj hi; exact step j s hj hi (fun s' h _ => by omega)
    | succ d ih => intro j s hd hj hi; exact step j s hj hi (fun s' h hi' => by have := ih (j + 1) s' (by omega) (by omega) hi'; simpa using this)
  intro s hs
  exact key _ 0 s rfl (Nat.zero_le _) hs
end
theorem and255 (x : Int) : 0 ≤ bits .and .i64 x 255 ∧ bits .and .i64 x 255 ≤ 255 := by
  have h : bits .and .i64 x 255 = (((BitVec.ofInt 64 x).toNat &&& 255 : Nat) : Int) := by
    show IntKind.i64.wrap (((BitVec.ofInt 64 x) &&& (BitVec.ofInt 64 255)).toNat : Int) = _
    rw [BitVec.toNat_and]
    have : (BitVec.ofInt 64 255).toNat = 255 := by decide
    rw [this, IntKind.wrap_i64]
    have h2 : (BitVec.ofInt 64 x).toNat &&& 255 ≤ 255 := Nat.and_le_right
    omega
  rw [h]
  have h2 : (BitVec.ofInt 64 x).toNat &&& 255 ≤ 255 := Nat.and_le_right
  omega
/-- A reader's place. -/
def Rd (b : List Int) (i : Int) : Prop := b.length ≤ 1048576 ∧ 0 ≤ i ∧ i ≤ (b.length : Int)
theorem l01New_ev (b : List Int) (hb : b.length ≤ 1048576) : ∃ s, Ev (fun k => spec_l01New.f k b) (b, 0, s) := by
  have key : ∀ (d i : Nat) (s : Int), b.length - i = d → i ≤ b.length → ∃ s', Ev (fun k => spec_l01New.l0 k b s (i : Int)) (b, 0, s') := by
    intro d
    induction d with
    | zero =>
      intro i s hd hi
      refine ⟨s, Ev.step (fun _ => rfl) ?_⟩
      simp only [spec_l01New.l0]; exact Ev.neg (by omega) (Ev.now _)
    | succ d ih =>
      intro i s hd hi
      by_cases h : (i : Int) < 4000
      · obtain ⟨s', h'⟩ := ih (i + 1) (bits .and .i64 (wrap64 ((wrap64 ((wrap64 (s * 131)) + (wrap64 (rd b i)))) + 7)) 1073741823) (by omega) (by omega)
        refine ⟨s', Ev.step (fun _ => rfl) ?_⟩
        simp only [spec_l01New.l0]; rw [w64 (x := (i : Int) + 1) (by omega) (by omega)]
        exact Ev.pos (by omega) (Ev.pos h (Ev.pos (by omega) h'))
      · refine ⟨s, Ev.step (fun _ => rfl) ?_⟩
        simp only [spec_l01New.l0]; exact Ev.pos (by omega) (Ev.neg h (Ev.now _))
  exact key b.length 0 _ rfl (Nat.zero_le _)
theorem l01Byte_of (b : List Int) (i s : Int) (h : Rd b i) : ∃ v i' s', spec_l01Byte.f b i s = some (v, b, i', s') ∧ Rd b i' ∧ 0 ≤ v ∧ v ≤ 255 := by
  unfold spec_l01Byte.f
  by_cases hi : i < (b.length : Int)
  · rw [if_pos hi, if_pos h.2.1]
    exact ⟨_, _, _, rfl, ⟨h.1, by rw [w64 (by have := h.1; have := h.2.1; omega) (by have := h.1; omega)]; have := h.2.1; omega, by rw [w64 (by have := h.1; have := h.2.1; omega) (by have := h.1; omega)]; omega⟩, and255 _⟩
  · rw [if_neg hi]
    exact ⟨_, _, _, rfl, h, and255 _⟩
theorem tmod_of {v n : Int} (h : 0 ≤ v) (hn : 0 < n) : 0 ≤ v.tmod n ∧ v.tmod n < n := ⟨Int.tmod_nonneg _ h, Int.tmod_lt_of_pos _ hn⟩
theorem l01Below_of (b : List Int) (i s n : Int) (h : Rd b i) (hn : 0 < n) : ∃ v i' s', spec_l01Below.f b i s n = some (v, b, i', s') ∧ Rd b i' ∧ 0 ≤ v ∧ v < n := by
  unfold spec_l01Below.f
  rw [if_neg (by omega)]
  obtain ⟨v1, i1, s1, e1, h1, b1⟩ := l01Byte_of b i s h
  obtain ⟨v2, i2, s2, e2, h2, b2⟩ := l01Byte_of b i1 s1 h1
  obtain ⟨v3, i3, s3, e3, h3, b3⟩ := l01Byte_of b i2 s2 h2
  obtain ⟨v4, i4, s4, e4, h4, b4⟩ := l01Byte_of b i3 s3 h3
  by_cases hn2 : n ≤ 256
  · rw [if_pos hn2, e1]
    simp only [Option.bind_some]
    rw [if_pos (by omega)]
    exact ⟨_, _, _, rfl, h1, tmod_of b1.1 hn⟩
  · rw [if_neg hn2, e1]
    simp only [Option.bind_some, e2, e3, e4]
    rw [if_pos (by omega)]
    refine ⟨_, _, _, rfl, h4, tmod_of ?_ hn⟩
    rw [w64 (x := v1 * 16777216) (by omega) (by omega), w64 (x := v2 * 65536) (by omega) (by omega), w64 (x := v1 * 16777216 + v2 * 65536) (by omega) (by omega), w64 (x := v3 * 256) (by omega) (by omega), w64 (x := v1 * 16777216 + v2 * 65536 + v3 * 256) (by omega) (by omega), w64 (by omega) (by omega)]
    omega
theorem l01PickInt_of (b : List Int) (i s : Int) (l : List Int) (h : Rd b i) (hl : 0 < l.length) : ∃ v i' s', spec_l01PickInt.f b i s l = some (v, b, i', s') ∧ Rd b i' ∧ v ∈ l := by
  obtain ⟨v, i', s', e, h', h0, h1⟩ := l01Below_of b i s l.length h (by omega)
  unfold spec_l01PickInt.f
  rw [e]
  simp only [Option.bind_some]
  rw [if_pos h0, if_pos h1]
  refine ⟨_, _, _, rfl, h', ?_⟩
  have hv : v.toNat < l.length := by omega
  unfold rd
  rw [List.getD_eq_getElem?_getD, List.getElem?_eq_getElem hv]
  exact List.getElem_mem hv
theorem l01Once_of (b : List Int) (i s n : Int) (h : Rd b i) (hn : 0 < n) : ∃ (v : Bool) (i' s' : Int), spec_l01Once.f b i s n = some (v, b, i', s') ∧ Rd b i' := by
  obtain ⟨v, i', s', e, h', h0, h1⟩ := l01Below_of b i s n h hn
  exact ⟨_, _, _, by unfold spec_l01Once.f; rw [e]; rfl, h'⟩
section
variable {α : Type} {P : α → Prop} {b : List Int} {i s n : Int}
theorem Tot.below {f : Nat → (Int × List Int × Int × Int) → Option α} (h : Rd b i) (hn : 0 < n) (k : ∀ v i' s', Rd b i' → 0 ≤ v → v < n → Tot (fun m => f m (v, b, i', s')) P) : Tot (fun m => (spec_l01Below.f b i s n).bind (f m)) P := by
  obtain ⟨v, i', s', e, h', h0, h1⟩ := l01Below_of b i s n h hn
  exact Tot.bindc1 e (k v i' s' h' h0 h1)
theorem Tot.once {f : Nat → (Bool × List Int × Int × Int) → Option α} (h : Rd b i) (hn : 0 < n) (k : ∀ v i' s', Rd b i' → Tot (fun m => f m (v, b, i', s')) P) : Tot (fun m => (spec_l01Once.f b i s n).bind (f m)) P := by
  obtain ⟨v, i', s', e, h'⟩ := l01Once_of b i s n h hn
  exact Tot.bindc1 e (k v i' s' h')
theorem Tot.pick {l : List Int} {f : Nat → (Int × List Int × Int × Int) → Option α} (h : Rd b i) (hl : 0 < l.length) (k : ∀ v i' s', Rd b i' → v ∈ l → Tot (fun m => f m (v, b, i', s')) P) : Tot (fun m => (spec_l01PickInt.f b i s l).bind (f m)) P := by
  obtain ⟨v, i', s', e, h', h0⟩ := l01PickInt_of b i s l h hl
  exact Tot.bindc1 e (k v i' s' h' h0)
end
theorem l04Half_of (b : List Int) (i s : Int) (h : Rd b i) : ∃ (v : Int) (i' s' : Int), spec_l04Half.f b i s = some (v, b, i', s') ∧ Rd b i' ∧ 0 ≤ v ∧ v ≤ 4294967295 := by
  obtain ⟨v, i1, s1, e1, h1, b1, b2⟩ := l01Below_of b i s 12 h (by omega)
  obtain ⟨w, i2, s2, e2, h2, m2⟩ := l01PickInt_of b i1 s1 [0, 1, 2, 3, 5, 7, 255, 4294967295, 2147483648, v] h1 (by simp)
  refine ⟨w, i2, s2, ?_, h2, ?_⟩
  · unfold spec_l04Half.f
    rw [e1]
    simp only [Option.bind_some]
    rw [e2]; rfl
  · simp only [List.mem_cons, List.not_mem_nil, or_false] at m2
    omega
section
variable {α : Type} {P : α → Prop} {b : List Int} {i s : Int}
theorem Tot.half {f : Nat → (Int × List Int × Int × Int) → Option α} (h : Rd b i) (k : ∀ v i' s', Rd b i' → 0 ≤ v → v ≤ 4294967295 → Tot (fun m => f m (v, b, i', s')) P) : Tot (fun m => (spec_l04Half.f b i s).bind (f m)) P := by
  obtain ⟨v, i', s', e, h', h0, h1⟩ := l04Half_of b i s h
  exact Tot.bindc1 e (k v i' s' h' h0 h1)
end
theorem l04Wide_tot (b : List Int) (i s : Int) (h : Rd b i) : Tot (fun _ => spec_l04Wide.f b i s) (fun r => ∃ (x y i' s' : Int), r = (x, y, b, i', s') ∧ Rd b i' ∧ (0 ≤ x ∧ x ≤ 4294967295) ∧ 0 ≤ y ∧ y ≤ 4294967295) := by
  unfold spec_l04Wide.f
  refine Tot.half h (fun v i1 s1 h1 v0 v1 => Tot.once h1 (by omega) (fun w i2 s2 h2 => ?_))
  refine Tot.both (fun _ => ?_) (fun _ => Tot.now ⟨_, _, _, _, rfl, h2, by first | omega | (dsimp only; omega), v0, v1⟩)
  exact Tot.half h2 (fun u i3 s3 h3 u0 u1 => Tot.now ⟨_, _, _, _, rfl, h3, ⟨u0, u1⟩, v0, v1⟩)
theorem Tot.ofc {α β : Type} {a : Option α} {P : α → Prop} {R : β → Prop} {f : Nat → α → Option β} (h : Tot (fun _ => a) P) (k : ∀ x, P x → Tot (fun n => f n x) R) : Tot (fun n => a.bind (f n)) R := Tot.bind h k
theorem l04Call_tot (b : List Int) (i s : Int) (h : Rd b i) : Tot (fun k => spec_l04Call.f k b i s) (fun r => ∃ (x y : Int) (l : List S75) (i' s' : Int), r = (x, y, l, b, i', s') ∧ Rd b i' ∧ l.length = 3 ∧ (∀ w ∈ l, (0 ≤ w.f0 ∧ w.f0 ≤ 4294967295) ∧ 0 ≤ w.f1 ∧ w.f1 ≤ 4294967295) ∧ (0 ≤ x ∧ x ≤ 4294967295) ∧ 0 ≤ y ∧ y ≤ 4294967295) := by
  unfold spec_l04Call.f
  refine Tot.pick h (by simp) (fun v i1 s1 h1 hv => Tot.pick h1 (by simp) (fun w i2 s2 h2 hw => ?_))
  have hv' : 0 ≤ v ∧ v ≤ 4294967295 := by simp at hv; omega
  have hw' : 0 ≤ w ∧ w ≤ 4294967295 := by simp at hw; omega
  clear hv hw
  refine Tot.up (fun k (t : Int × Int × List S75) j => spec_l04Call.l0 k (v, b, i1, s1) (w, b, i2, s2) b t.1 t.2.1 t.2.2 j) 3 (fun j t => Rd b t.1 ∧ t.2.2.length = j ∧ ∀ w ∈ t.2.2, (0 ≤ w.f0 ∧ w.f0 ≤ 4294967295) ∧ 0 ≤ w.f1 ∧ w.f1 ≤ 4294967295) ?_ (i2, s2, []) ⟨h2, rfl, fun w hw => by simp at hw⟩
  rintro j ⟨i3, s3, q⟩ hj ⟨hr, hl, hq⟩ next
  replace hr : Rd b i3 := hr
  replace hl : q.length = j := hl
  replace hq : ∀ w ∈ q, (0 ≤ w.f0 ∧ w.f0 ≤ 4294967295) ∧ 0 ≤ w.f1 ∧ w.f1 ≤ 4294967295 := hq
  refine Tot.step (fun _ => rfl) ?_
  simp only [spec_l04Call.l0]
  rw [w64 (x := (j : Int) + 1) (by omega) (by omega)]
  refine Tot.both (fun hlt => ?_) (fun hge => Tot.now ⟨_, _, _, _, _, rfl, hr, by omega, hq, hv', hw'⟩)
  refine Tot.bind (l04Wide_tot b i3 s3 hr) ?_
  rintro _ ⟨x, y, i4, s4, rfl, h4, hx, hy⟩
  refine Tot.grd (by simp; omega) ?_
  refine next (i4, s4, q ++ [⟨x, y⟩]) (by omega) ⟨h4, by simp; omega, fun w hw => ?_⟩
  rcases List.mem_append.1 hw with hw | hw
  · exact hq w hw
  · rw [List.mem_singleton] at hw; subst hw; exact ⟨hx, hy⟩
theorem resultOf_ex (a d : Int) : ∃ x, spec_ResultOf.f a d = some x := by
  unfold spec_ResultOf.f
  simp only [spec_l01In_of, Option.bind_some]
  split
  · split <;> exact ⟨_, rfl⟩
  · exact ⟨_, rfl⟩
abbrev InsR := Int × Int × Int × Int × List Int × Int × Int
theorem l06Ins_tot (b : List Int) (i s : Int) (h : Rd b i) : Tot (fun k => spec_l06Ins.f k b i s) (fun r : InsR => ∃ (x y z w i' s' : Int), r = (x, y, z, w, b, i', s') ∧ Rd b i') := by
  unfold spec_l06Ins.f
  refine Tot.below h (by omega) (fun v i1 s1 h1 v0 v1 => Tot.half h1 (fun u i2 s2 h2 _ _ => ?_))
  have j1 : ∀ (i' s' x y z : Int), Rd b i' → Tot (fun k => spec_l06Ins.j1 k (v, b, i1, s1) b i' s' x y z) (fun r : InsR => ∃ (x y z w i' s' : Int), r = (x, y, z, w, b, i', s') ∧ Rd b i') := fun i' s' x y z hr => Tot.step (fun _ => rfl) (Tot.now ⟨_, _, _, _, _, _, rfl, hr⟩)
  have j0 : ∀ p, Tot (fun k => spec_l06Ins.j0 k (v, b, i1, s1) (u, b, i2, s2) p) (fun r : InsR => ∃ (x y z w i' s' : Int), r = (x, y, z, w, b, i', s') ∧ Rd b i') := fun p => by
    refine Tot.step (fun _ => rfl) ?_
    simp only [spec_l06Ins.j0]
    refine Tot.both (fun _ => Tot.below h2 (by omega) (fun _ _ _ h3 _ _ => Tot.below h3 (by omega) (fun _ _ _ h4 _ _ => j1 _ _ _ _ _ h4))) (fun _ => Tot.both (fun _ => Tot.below h2 (by omega) (fun x _ _ h3 _ _ => Tot.below h3 (by omega) (fun y _ _ h4 _ _ => ?_))) (fun _ => j1 _ _ _ _ _ h2))
    obtain ⟨z, hz⟩ := resultOf_ex x y
    exact Tot.bindc1 hz (j1 _ _ _ _ _ h4)
  refine Tot.both (fun _ => Tot.below h2 (by omega) (fun _ _ _ h3 _ _ => j1 _ _ _ _ _ h3)) (fun _ => Tot.both (fun _ => Tot.below h2 (by omega) (fun _ _ _ h3 _ _ => j1 _ _ _ _ _ h3)) (fun _ => ?_))
  exact Tot.both (fun _ => j0 _) (fun _ => Tot.both (fun _ => j0 _) (fun _ => Tot.both (fun _ => j0 _) (fun _ => j0 _)))
theorem l06Ask_ex (a : Int) : ∃ x, spec_l06Ask.f a = some x := by
  unfold spec_l06Ask.f
  simp only [spec_l01In_of, Option.bind_some]
  exact ⟨_, rfl⟩
theorem l06Program_tot (b : List Int) (i s : Int) (h : Rd b i) : Tot (fun k => spec_l06Program.f k b i s) (fun r => ∃ (l : List S46) (i' s' : Int), r = (l, b, i', s') ∧ Rd b i' ∧ 1 ≤ l.length ∧ l.length ≤ 20) := by
  unfold spec_l06Program.f
  refine Tot.below h (by omega) (fun v i1 s1 h1 v0 v1 => ?_)
  refine Tot.up (fun k (t : Int × Int × List S46) j => spec_l06Program.l0 k (v, b, i1, s1) b t.1 t.2.1 t.2.2 j) 12 (fun j t => Rd b t.1 ∧ t.2.2.length = j ∧ (j : Int) ≤ 1 + v) ?_ (i1, s1, []) ⟨h1, rfl, by first | omega | (dsimp only; omega)⟩
  rintro j ⟨i3, s3, q⟩ hj ⟨hr, hl, hjv⟩ next
  replace hr : Rd b i3 := hr
  replace hl : q.length = j := hl
  replace hjv : (j : Int) ≤ 1 + v := hjv
  refine Tot.step (fun _ => rfl) ?_
  simp only [spec_l06Program.l0]
  rw [w64 (x := 1 + v) (by omega) (by omega), w64 (x := 1 + v - (j : Int)) (by omega) (by omega)]
  refine Tot.both (fun hlt => ?_) (fun _ => ?_)
  · have hlt' : (j : Int) < 1 + v := hlt
    refine Tot.bind (l06Ins_tot b i3 s3 hr) ?_
    rintro _ ⟨x, y, z, w, i4, s4, rfl, h4⟩
    have jj : ∀ p, Tot (fun k => spec_l06Program.j0 k (v, b, i1, s1) q (j : Int) (x, y, z, w, b, i4, s4) p) (fun r => ∃ (l : List S46) (i' s' : Int), r = (l, b, i', s') ∧ Rd b i' ∧ 1 ≤ l.length ∧ l.length ≤ 20) := fun p => by
      refine Tot.step (fun _ => rfl) ?_
      simp only [spec_l06Program.j0]
      rw [w64 (x := 1 + v) (by omega) (by omega), w64 (x := 1 + v - (j : Int)) (by omega) (by omega), w64 (x := (j : Int) + 1) (by omega) (by omega)]
      obtain ⟨a, ha⟩ := l06Ask_ex x
      refine Tot.bindc1 ha (Tot.both (fun _ => Tot.grd (by omega) (Tot.grd (by simp; omega) ?_)) (fun _ => Tot.grd (by simp; omega) ?_))
      · exact next (i4, s4, _) (by omega) ⟨h4, by simp; omega, by first | omega | (dsimp only; omega)⟩
      · exact next (i4, s4, _) (by omega) ⟨h4, by simp; omega, by first | omega | (dsimp only; omega)⟩
    exact Tot.both (fun _ => Tot.grd (by first | omega | (dsimp only; omega)) (jj _)) (fun _ => jj _)
  · refine Tot.below hr (by omega) (fun x i4 s4 h4 _ _ => Tot.below h4 (by omega) (fun y i5 s5 h5 _ _ => ?_))
    obtain ⟨z, hz⟩ := resultOf_ex x y
    exact Tot.bindc1 hz (Tot.grd (by simp; omega) (Tot.now ⟨_, _, _, rfl, h5, by simp, by simp; omega⟩))
theorem runs_w44_inner (l : List S46) (out : List Int) (i : Nat) (v : Int) (ks : List Int) (hk : ∀ k ∈ ks, 0 ≤ k ∧ k < (out.length : Int)) (hks : ks.length ≤ 2) (r : Int)
    (hc : Ev (fun k => impl_LongestRun_1.f k (ks.map (fun k => out.getD k.toNat 0))) v) (hi : i < out.length) (hr : Ev (fun k => impl_runs_w44.l1 k l (out.set i v) ((i : Int) - 1)) r) (hn : out.length ≤ 400) :
    ∀ (d j : Nat) (q : List Int), ks.length - j = d → j ≤ ks.length → q = (ks.take j).map (fun k => out.getD k.toNat 0) → Ev (fun k => impl_runs_w44.l0 k l out (i : Int) ks q (j : Int)) r := by
  intro d
  induction d with
  | zero =>
    intro j q hd hj hq
    rw [List.take_of_length_le (by omega)] at hq
    subst hq
    refine Ev.step (fun _ => rfl) ?_
    simp only [impl_runs_w44.l0]
    rw [w64 (x := (i : Int) - 1) (by omega) (by omega), Int.toNat_natCast]
    exact Ev.neg (by omega) (Ev.bind hc (Ev.pos (by omega) hr))
  | succ d ih =>
    intro j q hd hj hq
    have hx : ks[j]? = some ks[j] := List.getElem?_eq_getElem (by omega)
    have hb := hk ks[j] (List.getElem_mem _)
    have ht : (ks.take (j + 1)).map (fun k => out.getD k.toNat 0) = q ++ [out.getD ks[j].toNat 0] := by
      rw [List.take_succ_eq_append_getElem (by omega), List.map_append, hq]; rfl
    generalize ks[j] = y at hx hb ht
    have e : rd ks (j : Int) = y := by unfold rd; exact get_of ks 0 hx
    have hql : q.length ≤ 2 := by rw [hq, List.length_map, List.length_take]; omega
    refine Ev.step (fun _ => rfl) ?_
    simp only [impl_runs_w44.l0]
    rw [e, w64 (x := (j : Int) + 1) (by omega) (by omega), show (j : Int) + 1 = ((j + 1 : Nat) : Int) from rfl]
    exact Ev.pos (by omega) (Ev.pos (by omega) (Ev.pos hb.1 (Ev.pos hb.2 (Ev.pos (by simp; omega) (ih (j + 1) _ (by omega) (by omega) ht.symm)))))
/-- The table that runs makes, from its end. -/
theorem runs_w44_ev (l : List S46) (hl : chk l = true) (of : List Int → Int) (P : Nat → Int → Prop)
    (hP : ∀ (i : Nat) x (f : Nat → Int), l[i]? = some x → (∀ k ∈ nextV x (i : Int), P k.toNat (f k.toNat)) → Ev (fun k => impl_LongestRun_1.f k ((nextV x (i : Int)).map (fun k => f k.toNat))) (of ((nextV x (i : Int)).map (fun k => f k.toNat))) ∧ P i (of ((nextV x (i : Int)).map (fun k => f k.toNat)))) :
    ∃ T : List Int, T.length = l.length ∧ Ev (fun k => impl_runs_w44.f k l) (T.getD 0 0) ∧ ∀ (i : Nat) x, l[i]? = some x → T.getD i 0 = of ((nextV x (i : Int)).map (fun k => T.getD k.toNat 0)) ∧ P i (T.getD i 0) := by
  obtain ⟨c1, _, c3⟩ := chk_of hl
  have hg : ∀ (q : List Int) (i j : Nat) (v : Int), i ≠ j → (q.set i v).getD j 0 = q.getD j 0 := fun q i j v h => by rw [List.getD_eq_getElem?_getD, List.getD_eq_getElem?_getD, List.getElem?_set_ne h]
  have hs : ∀ (q : List Int) (i : Nat) (v : Int), i < q.length → (q.set i v).getD i 0 = v := fun q i v h => by rw [List.getD_eq_getElem?_getD, List.getElem?_set_self h]; rfl
  have key : ∀ (m : Nat) (out : List Int), m ≤ l.length → out.length = l.length → (∀ (i : Nat) x, m ≤ i → l[i]? = some x → out.getD i 0 = of ((nextV x (i : Int)).map (fun k => out.getD k.toNat 0)) ∧ P i (out.getD i 0)) →
      ∃ T : List Int, T.length = l.length ∧ Ev (fun k => impl_runs_w44.l1 k l out ((m : Int) - 1)) (T.getD 0 0) ∧ ∀ (i : Nat) x, l[i]? = some x → T.getD i 0 = of ((nextV x (i : Int)).map (fun k => T.getD k.toNat 0)) ∧ P i (T.getD i 0) := by
    intro m
    induction m with
    | zero =>
      intro out hm ho hin
      refine ⟨out, ho, Ev.step (fun _ => rfl) ?_, fun i x hx => hin i x (Nat.zero_le _) hx⟩
      simp only [impl_runs_w44.l1]
      exact Ev.neg (by omega) (Ev.pos (by omega) (Ev.some_ rfl))
    | succ m ih =>
      intro out hm ho hin
      have hx : l[m]? = some l[m] := List.getElem?_eq_getElem (by omega)
      generalize l[m] = x at hx
      obtain ⟨hio, hf⟩ := c3 m x hx
      have hb := next_bound (n := l.length) hio hf
      have hnp : ∀ k ∈ nextV x (m : Int), P k.toNat (out.getD k.toNat 0) := fun k hk => by
        have := hb k hk
        have hy : l[k.toNat]? = some l[k.toNat] := List.getElem?_eq_getElem (by omega)
        exact (hin k.toNat _ (by omega) hy).2
      obtain ⟨q1, q2⟩ := hP m x (fun j => out.getD j 0) hx hnp
      have same : ∀ (v : Int) (i : Nat) y, m ≤ i → l[i]? = some y → (nextV y (i : Int)).map (fun k => (out.set m v).getD k.toNat 0) = (nextV y (i : Int)).map (fun k => out.getD k.toNat 0) := fun v i y hi hy => by
        obtain ⟨hio', hf'⟩ := c3 i y hy
        have hb' := next_bound (n := l.length) hio' hf'
        refine List.map_congr_left fun k hk => hg out m k.toNat v ?_
        have := hb' k hk
        omega
      obtain ⟨T, t1, t2, t3⟩ := ih (out.set m (of ((nextV x (m : Int)).map (fun k => out.getD k.toNat 0)))) (by omega) (by rw [List.length_set]; exact ho) (fun i y hi hy => by
        rw [same _ i y (by omega) hy]
        by_cases hmi : m = i
        · subst hmi
          have : y = x := by rw [hx] at hy; exact (Option.some.inj hy).symm
          subst this
          rw [hs _ _ _ (by omega)]
          exact ⟨rfl, q2⟩
        · rw [hg _ _ _ _ hmi]
          exact hin i y (by omega) hy)
      refine ⟨T, t1, Ev.step (fun _ => rfl) ?_, t3⟩
      simp only [impl_runs_w44.l1]
      rw [show ((m + 1 : Nat) : Int) - 1 = (m : Int) by omega, rd46 hx]
      refine Ev.pos (by omega) (Ev.pos (by omega) (Ev.pos (by omega) (Ev.bind (impl_ways_ev m x (by omega) hio) ?_)))
      exact runs_w44_inner l out m _ (nextV x (m : Int)) (fun k hk => by have := hb k hk; omega) (nextV_len _ _) _ q1 (by omega) t2 (by omega) _ 0 [] rfl (Nat.zero_le _) (by simp)
  obtain ⟨T, t1, t2, t3⟩ := key l.length (List.replicate l.length 0) (Nat.le_refl _) (by simp) (fun i x hi hx => by have := lt_of hx; omega)
  refine ⟨T, t1, ?_, t3⟩
  unfold impl_runs_w44.f
  rw [Int.toNat_natCast, w64 (x := (l.length : Int) - 1) (by omega) (by omega)]
  have hcp := impl_CheckProgram_ev l (by omega)
  rw [hl] at hcp
  exact Ev.bind hcp (Ev.pos rfl (Ev.pos (by omega) (Ev.pos (by omega) t2)))
theorem runs_w44_no (l : List S46) (hn : l.length ≤ 1048576) (hl : chk l = false) : Ev (fun k => impl_runs_w44.f k l) 0 := by
  unfold impl_runs_w44.f
  have hcp := impl_CheckProgram_ev l hn
  rw [hl] at hcp
  exact Ev.bind hcp (Ev.neg (by simp) (Ev.now _))
theorem runs_w45_inner (l : List S46) (out : List Int) (i : Nat) (v : Int) (ks : List Int) (hk : ∀ k ∈ ks, 0 ≤ k ∧ k < (out.length : Int)) (hks : ks.length ≤ 2) (r : Int)
    (hc : Ev (fun k => impl_WaysIn_1.f k (ks.map (fun k => out.getD k.toNat 0))) v) (hi : i < out.length) (hr : Ev (fun k => impl_runs_w45.l1 k l (out.set i v) ((i : Int) - 1)) r) (hn : out.length ≤ 400) :
    ∀ (d j : Nat) (q : List Int), ks.length - j = d → j ≤ ks.length → q = (ks.take j).map (fun k => out.getD k.toNat 0) → Ev (fun k => impl_runs_w45.l0 k l out (i : Int) ks q (j : Int)) r := by
  intro d
  induction d with
  | zero =>
    intro j q hd hj hq
    rw [List.take_of_length_le (by omega)] at hq
    subst hq
    refine Ev.step (fun _ => rfl) ?_
    simp only [impl_runs_w45.l0]
    rw [w64 (x := (i : Int) - 1) (by omega) (by omega), Int.toNat_natCast]
    exact Ev.neg (by omega) (Ev.bind hc (Ev.pos (by omega) hr))
  | succ d ih =>
    intro j q hd hj hq
    have hx : ks[j]? = some ks[j] := List.getElem?_eq_getElem (by omega)
    have hb := hk ks[j] (List.getElem_mem _)
    have ht : (ks.take (j + 1)).map (fun k => out.getD k.toNat 0) = q ++ [out.getD ks[j].toNat 0] := by
      rw [List.take_succ_eq_append_getElem (by omega), List.map_append, hq]; rfl
    generalize ks[j] = y at hx hb ht
    have e : rd ks (j : Int) = y := by unfold rd; exact get_of ks 0 hx
    have hql : q.length ≤ 2 := by rw [hq, List.length_map, List.length_take]; omega
    refine Ev.step (fun _ => rfl) ?_
    simp only [impl_runs_w45.l0]
    rw [e, w64 (x := (j : Int) + 1) (by omega) (by omega), show (j : Int) + 1 = ((j + 1 : Nat) : Int) from rfl]
    exact Ev.pos (by omega) (Ev.pos (by omega) (Ev.pos hb.1 (Ev.pos hb.2 (Ev.pos (by simp; omega) (ih (j + 1) _ (by omega) (by omega) ht.symm)))))
/-- The table that runs makes, from its end. -/
theorem runs_w45_ev (l : List S46) (hl : chk l = true) (of : List Int → Int) (P : Nat → Int → Prop)
    (hP : ∀ (i : Nat) x (f : Nat → Int), l[i]? = some x → (∀ k ∈ nextV x (i : Int), P k.toNat (f k.toNat)) → Ev (fun k => impl_WaysIn_1.f k ((nextV x (i : Int)).map (fun k => f k.toNat))) (of ((nextV x (i : Int)).map (fun k => f k.toNat))) ∧ P i (of ((nextV x (i : Int)).map (fun k => f k.toNat)))) :
    ∃ T : List Int, T.length = l.length ∧ Ev (fun k => impl_runs_w45.f k l) (T.getD 0 0) ∧ ∀ (i : Nat) x, l[i]? = some x → T.getD i 0 = of ((nextV x (i : Int)).map (fun k => T.getD k.toNat 0)) ∧ P i (T.getD i 0) := by
  obtain ⟨c1, _, c3⟩ := chk_of hl
  have hg : ∀ (q : List Int) (i j : Nat) (v : Int), i ≠ j → (q.set i v).getD j 0 = q.getD j 0 := fun q i j v h => by rw [List.getD_eq_getElem?_getD, List.getD_eq_getElem?_getD, List.getElem?_set_ne h]
  have hs : ∀ (q : List Int) (i : Nat) (v : Int), i < q.length → (q.set i v).getD i 0 = v := fun q i v h => by rw [List.getD_eq_getElem?_getD, List.getElem?_set_self h]; rfl
  have key : ∀ (m : Nat) (out : List Int), m ≤ l.length → out.length = l.length → (∀ (i : Nat) x, m ≤ i → l[i]? = some x → out.getD i 0 = of ((nextV x (i : Int)).map (fun k => out.getD k.toNat 0)) ∧ P i (out.getD i 0)) →
      ∃ T : List Int, T.length = l.length ∧ Ev (fun k => impl_runs_w45.l1 k l out ((m : Int) - 1)) (T.getD 0 0) ∧ ∀ (i : Nat) x, l[i]? = some x → T.getD i 0 = of ((nextV x (i : Int)).map (fun k => T.getD k.toNat 0)) ∧ P i (T.getD i 0) := by
    intro m
    induction m with
    | zero =>
      intro out hm ho hin
      refine ⟨out, ho, Ev.step (fun _ => rfl) ?_, fun i x hx => hin i x (Nat.zero_le _) hx⟩
      simp only [impl_runs_w45.l1]
      exact Ev.neg (by omega) (Ev.pos (by omega) (Ev.some_ rfl))
    | succ m ih =>
      intro out hm ho hin
      have hx : l[m]? = some l[m] := List.getElem?_eq_getElem (by omega)
      generalize l[m] = x at hx
      obtain ⟨hio, hf⟩ := c3 m x hx
      have hb := next_bound (n := l.length) hio hf
      have hnp : ∀ k ∈ nextV x (m : Int), P k.toNat (out.getD k.toNat 0) := fun k hk => by
        have := hb k hk
        have hy : l[k.toNat]? = some l[k.toNat] := List.getElem?_eq_getElem (by omega)
        exact (hin k.toNat _ (by omega) hy).2
      obtain ⟨q1, q2⟩ := hP m x (fun j => out.getD j 0) hx hnp
      have same : ∀ (v : Int) (i : Nat) y, m ≤ i → l[i]? = some y → (nextV y (i : Int)).map (fun k => (out.set m v).getD k.toNat 0) = (nextV y (i : Int)).map (fun k => out.getD k.toNat 0) := fun v i y hi hy => by
        obtain ⟨hio', hf'⟩ := c3 i y hy
        have hb' := next_bound (n := l.length) hio' hf'
        refine List.map_congr_left fun k hk => hg out m k.toNat v ?_
        have := hb' k hk
        omega
      obtain ⟨T, t1, t2, t3⟩ := ih (out.set m (of ((nextV x (m : Int)).map (fun k => out.getD k.toNat 0)))) (by omega) (by rw [List.length_set]; exact ho) (fun i y hi hy => by
        rw [same _ i y (by omega) hy]
        by_cases hmi : m = i
        · subst hmi
          have : y = x := by rw [hx] at hy; exact (Option.some.inj hy).symm
          subst this
          rw [hs _ _ _ (by omega)]
          exact ⟨rfl, q2⟩
        · rw [hg _ _ _ _ hmi]
          exact hin i y (by omega) hy)
      refine ⟨T, t1, Ev.step (fun _ => rfl) ?_, t3⟩
      simp only [impl_runs_w45.l1]
      rw [show ((m + 1 : Nat) : Int) - 1 = (m : Int) by omega, rd46 hx]
      refine Ev.pos (by omega) (Ev.pos (by omega) (Ev.pos (by omega) (Ev.bind (impl_ways_ev m x (by omega) hio) ?_)))
      exact runs_w45_inner l out m _ (nextV x (m : Int)) (fun k hk => by have := hb k hk; omega) (nextV_len _ _) _ q1 (by omega) t2 (by omega) _ 0 [] rfl (Nat.zero_le _) (by simp)
  obtain ⟨T, t1, t2, t3⟩ := key l.length (List.replicate l.length 0) (Nat.le_refl _) (by simp) (fun i x hi hx => by have := lt_of hx; omega)
  refine ⟨T, t1, ?_, t3⟩
  unfold impl_runs_w45.f
  rw [Int.toNat_natCast, w64 (x := (l.length : Int) - 1) (by omega) (by omega)]
  have hcp := impl_CheckProgram_ev l (by omega)
  rw [hl] at hcp
  exact Ev.bind hcp (Ev.pos rfl (Ev.pos (by omega) (Ev.pos (by omega) t2)))
theorem runs_w45_no (l : List S46) (hn : l.length ≤ 1048576) (hl : chk l = false) : Ev (fun k => impl_runs_w45.f k l) 0 := by
  unfold impl_runs_w45.f
  have hcp := impl_CheckProgram_ev l hn
  rw [hl] at hcp
  exact Ev.bind hcp (Ev.neg (by simp) (Ev.now _))
theorem runs_w53_inner (l : List S46) (out : List Int) (i : Nat) (v : Int) (ks : List Int) (hk : ∀ k ∈ ks, 0 ≤ k ∧ k < (out.length : Int)) (hks : ks.length ≤ 2) (r : Int)
    (hc : Ev (fun k => impl_ShortestRun_1.f k (ks.map (fun k => out.getD k.toNat 0))) v) (hi : i < out.length) (hr : Ev (fun k => impl_runs_w53.l1 k l (out.set i v) ((i : Int) - 1)) r) (hn : out.length ≤ 400) :
    ∀ (d j : Nat) (q : List Int), ks.length - j = d → j ≤ ks.length → q = (ks.take j).map (fun k => out.getD k.toNat 0) → Ev (fun k => impl_runs_w53.l0 k l out (i : Int) ks q (j : Int)) r := by
  intro d
  induction d with
  | zero =>
    intro j q hd hj hq
    rw [List.take_of_length_le (by omega)] at hq
    subst hq
    refine Ev.step (fun _ => rfl) ?_
    simp only [impl_runs_w53.l0]
    rw [w64 (x := (i : Int) - 1) (by omega) (by omega), Int.toNat_natCast]
    exact Ev.neg (by omega) (Ev.bind hc (Ev.pos (by omega) hr))
  | succ d ih =>
    intro j q hd hj hq
    have hx : ks[j]? = some ks[j] := List.getElem?_eq_getElem (by omega)
    have hb := hk ks[j] (List.getElem_mem _)
    have ht : (ks.take (j + 1)).map (fun k => out.getD k.toNat 0) = q ++ [out.getD ks[j].toNat 0] := by
      rw [List.take_succ_eq_append_getElem (by omega), List.map_append, hq]; rfl
    generalize ks[j] = y at hx hb ht
    have e : rd ks (j : Int) = y := by unfold rd; exact get_of ks 0 hx
    have hql : q.length ≤ 2 := by rw [hq, List.length_map, List.length_take]; omega
    refine Ev.step (fun _ => rfl) ?_
    simp only [impl_runs_w53.l0]
    rw [e, w64 (x := (j : Int) + 1) (by omega) (by omega), show (j : Int) + 1 = ((j + 1 : Nat) : Int) from rfl]
    exact Ev.pos (by omega) (Ev.pos (by omega) (Ev.pos hb.1 (Ev.pos hb.2 (Ev.pos (by simp; omega) (ih (j + 1) _ (by omega) (by omega) ht.symm)))))
/-- The table that runs makes, from its end. -/
theorem runs_w53_ev (l : List S46) (hl : chk l = true) (of : List Int → Int) (P : Nat → Int → Prop)
    (hP : ∀ (i : Nat) x (f : Nat → Int), l[i]? = some x → (∀ k ∈ nextV x (i : Int), P k.toNat (f k.toNat)) → Ev (fun k => impl_ShortestRun_1.f k ((nextV x (i : Int)).map (fun k => f k.toNat))) (of ((nextV x (i : Int)).map (fun k => f k.toNat))) ∧ P i (of ((nextV x (i : Int)).map (fun k => f k.toNat)))) :
    ∃ T : List Int, T.length = l.length ∧ Ev (fun k => impl_runs_w53.f k l) (T.getD 0 0) ∧ ∀ (i : Nat) x, l[i]? = some x → T.getD i 0 = of ((nextV x (i : Int)).map (fun k => T.getD k.toNat 0)) ∧ P i (T.getD i 0) := by
  obtain ⟨c1, _, c3⟩ := chk_of hl
  have hg : ∀ (q : List Int) (i j : Nat) (v : Int), i ≠ j → (q.set i v).getD j 0 = q.getD j 0 := fun q i j v h => by rw [List.getD_eq_getElem?_getD, List.getD_eq_getElem?_getD, List.getElem?_set_ne h]
  have hs : ∀ (q : List Int) (i : Nat) (v : Int), i < q.length → (q.set i v).getD i 0 = v := fun q i v h => by rw [List.getD_eq_getElem?_getD, List.getElem?_set_self h]; rfl
  have key : ∀ (m : Nat) (out : List Int), m ≤ l.length → out.length = l.length → (∀ (i : Nat) x, m ≤ i → l[i]? = some x → out.getD i 0 = of ((nextV x (i : Int)).map (fun k => out.getD k.toNat 0)) ∧ P i (out.getD i 0)) →
      ∃ T : List Int, T.length = l.length ∧ Ev (fun k => impl_runs_w53.l1 k l out ((m : Int) - 1)) (T.getD 0 0) ∧ ∀ (i : Nat) x, l[i]? = some x → T.getD i 0 = of ((nextV x (i : Int)).map (fun k => T.getD k.toNat 0)) ∧ P i (T.getD i 0) := by
    intro m
    induction m with
    | zero =>
      intro out hm ho hin
      refine ⟨out, ho, Ev.step (fun _ => rfl) ?_, fun i x hx => hin i x (Nat.zero_le _) hx⟩
      simp only [impl_runs_w53.l1]
      exact Ev.neg (by omega) (Ev.pos (by omega) (Ev.some_ rfl))
    | succ m ih =>
      intro out hm ho hin
      have hx : l[m]? = some l[m] := List.getElem?_eq_getElem (by omega)
      generalize l[m] = x at hx
      obtain ⟨hio, hf⟩ := c3 m x hx
      have hb := next_bound (n := l.length) hio hf
      have hnp : ∀ k ∈ nextV x (m : Int), P k.toNat (out.getD k.toNat 0) := fun k hk => by
        have := hb k hk
        have hy : l[k.toNat]? = some l[k.toNat] := List.getElem?_eq_getElem (by omega)
        exact (hin k.toNat _ (by omega) hy).2
      obtain ⟨q1, q2⟩ := hP m x (fun j => out.getD j 0) hx hnp
      have same : ∀ (v : Int) (i : Nat) y, m ≤ i → l[i]? = some y → (nextV y (i : Int)).map (fun k => (out.set m v).getD k.toNat 0) = (nextV y (i : Int)).map (fun k => out.getD k.toNat 0) := fun v i y hi hy => by
        obtain ⟨hio', hf'⟩ := c3 i y hy
        have hb' := next_bound (n := l.length) hio' hf'
        refine List.map_congr_left fun k hk => hg out m k.toNat v ?_
        have := hb' k hk
        omega
      obtain ⟨T, t1, t2, t3⟩ := ih (out.set m (of ((nextV x (m : Int)).map (fun k => out.getD k.toNat 0)))) (by omega) (by rw [List.length_set]; exact ho) (fun i y hi hy => by
        rw [same _ i y (by omega) hy]
        by_cases hmi : m = i
        · subst hmi
          have : y = x := by rw [hx] at hy; exact (Option.some.inj hy).symm
          subst this
          rw [hs _ _ _ (by omega)]
          exact ⟨rfl, q2⟩
        · rw [hg _ _ _ _ hmi]
          exact hin i y (by omega) hy)
      refine ⟨T, t1, Ev.step (fun _ => rfl) ?_, t3⟩
      simp only [impl_runs_w53.l1]
      rw [show ((m + 1 : Nat) : Int) - 1 = (m : Int) by omega, rd46 hx]
      refine Ev.pos (by omega) (Ev.pos (by omega) (Ev.pos (by omega) (Ev.bind (impl_ways_ev m x (by omega) hio) ?_)))
      exact runs_w53_inner l out m _ (nextV x (m : Int)) (fun k hk => by have := hb k hk; omega) (nextV_len _ _) _ q1 (by omega) t2 (by omega) _ 0 [] rfl (Nat.zero_le _) (by simp)
  obtain ⟨T, t1, t2, t3⟩ := key l.length (List.replicate l.length 0) (Nat.le_refl _) (by simp) (fun i x hi hx => by have := lt_of hx; omega)
  refine ⟨T, t1, ?_, t3⟩
  unfold impl_runs_w53.f
  rw [Int.toNat_natCast, w64 (x := (l.length : Int) - 1) (by omega) (by omega)]
  have hcp := impl_CheckProgram_ev l (by omega)
  rw [hl] at hcp
  exact Ev.bind hcp (Ev.pos rfl (Ev.pos (by omega) (Ev.pos (by omega) t2)))
theorem runs_w53_no (l : List S46) (hn : l.length ≤ 1048576) (hl : chk l = false) : Ev (fun k => impl_runs_w53.f k l) 0 := by
  unfold impl_runs_w53.f
  have hcp := impl_CheckProgram_ev l hn
  rw [hl] at hcp
  exact Ev.bind hcp (Ev.neg (by simp) (Ev.now _))
def ofL (xs : List Int) : Int := xs.foldl max 0 + 1
def ofS (xs : List Int) : Int := match xs with
  | [] => 1
  | x :: r => r.foldl min x + 1
def ofW (xs : List Int) : Int := match xs with
  | [] => 1
  | x :: r => min ((x :: r).foldl (· + ·) 0) 1000000
theorem fold_loop {β : Type} (L : Nat → β → Int → Option Int) (xs : List Int) (f : β → Int → β) (fin : β → Int) (hx : xs.length ≤ 1000)
    (stop : ∀ p, Ev (fun k => L k p (xs.length : Int)) (fin p)) (step : ∀ (j : Nat) y p r, xs[j]? = some y → Ev (fun k => L k (f p y) ((j : Int) + 1)) r → Ev (fun k => L k p (j : Int)) r) :
    ∀ (d j : Nat) (p : β), xs.length - j = d → j ≤ xs.length → Ev (fun k => L k p (j : Int)) (fin ((xs.drop j).foldl f p)) := by
  intro d
  induction d with
  | zero =>
    intro j p hd hj
    have : j = xs.length := by omega
    subst this
    rw [List.drop_length]
    exact stop p
  | succ d ih =>
    intro j p hd hj
    have hx : xs[j]? = some xs[j] := List.getElem?_eq_getElem (by omega)
    rw [List.drop_eq_getElem_cons (by omega), List.foldl_cons]
    exact step j _ p _ hx (by have := ih (j + 1) (f p xs[j]) (by omega) (by omega); simpa using this)
theorem longest_clo (xs : List Int) (hl : xs.length ≤ 2) (hb : ∀ v ∈ xs, 0 ≤ v ∧ v ≤ 1000) : Ev (fun k => impl_LongestRun_1.f k xs) (ofL xs) := by
  unfold impl_LongestRun_1.f
  have bound : ∀ (ys : List Int) (p : Int), (∀ v ∈ ys, 0 ≤ v ∧ v ≤ 1000) → 0 ≤ p → p ≤ 1000 → 0 ≤ ys.foldl max p ∧ ys.foldl max p ≤ 1000 := by
    intro ys
    induction ys with
    | nil => intro p _ h0 h1; exact ⟨h0, h1⟩
    | cons y ys ih => intro p h h0 h1; have := h y List.mem_cons_self; exact ih (max p y) (fun v hv => h v (List.mem_cons_of_mem _ hv)) (by omega) (by omega)
  have h := fold_loop (fun k p j => impl_LongestRun_1.l0 k xs p j) xs max (fun p => wrap64 (p + 1)) (by omega) (fun p => Ev.step (fun _ => rfl) (by simp only [impl_LongestRun_1.l0]; exact Ev.neg (by omega) (Ev.now _))) (fun j y p r hy h => by
    have hj := lt_of hy
    have e : rd xs (j : Int) = y := by unfold rd; exact get_of xs 0 hy
    refine Ev.step (fun _ => rfl) ?_
    simp only [impl_LongestRun_1.l0]
    rw [e, w64 (x := (j : Int) + 1) (by omega) (by omega)]
    exact Ev.pos (by omega) (Ev.pos (by omega) h)) xs.length 0 0 rfl (Nat.zero_le _)
  rw [List.drop_zero] at h
  have hbd := bound xs 0 hb (by omega) (by omega)
  rw [w64 (by omega) (by omega)] at h
  exact h
theorem shortest_clo (xs : List Int) (hl : xs.length ≤ 2) (hb : ∀ v ∈ xs, 0 ≤ v ∧ v ≤ 1000) : Ev (fun k => impl_ShortestRun_1.f k xs) (ofS xs) := by
  unfold impl_ShortestRun_1.f
  cases xs with
  | nil => exact Ev.pos rfl (Ev.now _)
  | cons x r =>
    have bound : ∀ (ys : List Int) (p : Int), (∀ v ∈ ys, 0 ≤ v ∧ v ≤ 1000) → 0 ≤ p → p ≤ 1000 → 0 ≤ ys.foldl min p ∧ ys.foldl min p ≤ 1000 := by
      intro ys
      induction ys with
      | nil => intro p _ h0 h1; exact ⟨h0, h1⟩
      | cons y ys ih => intro p h h0 h1; have := h y List.mem_cons_self; exact ih (min p y) (fun v hv => h v (List.mem_cons_of_mem _ hv)) (by omega) (by omega)
    have hx0 := hb x List.mem_cons_self
    have hbd := bound r x (fun v hv => hb v (List.mem_cons_of_mem _ hv)) hx0.1 hx0.2
    simp only [List.length_cons] at hl
    refine Ev.neg (by simp only [List.length_cons]; omega) (Ev.bind (a := r.foldl min x) ?_ (Ev.some_ (by rw [w64 (by omega) (by omega)]; rfl)))
    unfold slices_Min_int_int.f
    refine Ev.neg (by simp only [List.length_cons]; omega) (Ev.pos (by simp only [List.length_cons]; omega) ?_)
    have h := fold_loop (fun k p j => slices_Min_int_int.l0 k (x :: r) p j) (x :: r) min (fun p => p) (by simp only [List.length_cons]; omega) (fun p => Ev.step (fun _ => rfl) (by simp only [slices_Min_int_int.l0]; exact Ev.neg (by omega) (Ev.now _))) (fun j y p r' hy h => by
      have hj := lt_of hy
      have e : rd (x :: r) (j : Int) = y := by unfold rd; exact get_of (x :: r) 0 hy
      simp only [List.length_cons] at hj
      refine Ev.step (fun _ => rfl) ?_
      simp only [slices_Min_int_int.l0]
      rw [e, w64 (x := (j : Int) + 1) (by omega) (by omega)]
      exact Ev.pos (by simp only [List.length_cons]; omega) (Ev.pos (by omega) h)) r.length 1 x (by simp) (by simp)
    rw [show rd (x :: r) 0 = x from rfl]
    simpa using h
theorem ways_clo (xs : List Int) (hl : xs.length ≤ 2) (hb : ∀ v ∈ xs, 0 ≤ v ∧ v ≤ 1000000) : Ev (fun k => impl_WaysIn_1.f k xs) (ofW xs) := by
  unfold impl_WaysIn_1.f
  have e0 : ∀ y ys, xs = y :: ys → Ev (fun k => impl_WaysIn_1.l0 k xs 0 0) (min (xs.foldl (fun p y => wrap64 (p + y)) 0) 1000000) := fun y ys hxy => by
    have h := fold_loop (fun k p j => impl_WaysIn_1.l0 k xs p j) xs (fun p y => wrap64 (p + y)) (fun p => min p 1000000) (by omega) (fun p => Ev.step (fun _ => rfl) (by simp only [impl_WaysIn_1.l0]; exact Ev.neg (by omega) (Ev.now _))) (fun j y p r hy h => by
      have hj := lt_of hy
      have e : rd xs (j : Int) = y := by unfold rd; exact get_of xs 0 hy
      refine Ev.step (fun _ => rfl) ?_
      simp only [impl_WaysIn_1.l0]
      rw [e, w64 (x := (j : Int) + 1) (by omega) (by omega)]
      exact Ev.pos (by omega) (Ev.pos (by omega) h)) xs.length 0 0 rfl (Nat.zero_le _)
    rwa [List.drop_zero] at h
  match xs, hl, hb, e0 with
  | [], _, _, _ => exact Ev.pos rfl (Ev.now _)
  | [a], _, hb, e0 =>
    have ha := hb a (by simp)
    refine Ev.neg (by simp) ?_
    have := e0 a [] rfl
    simp only [List.foldl_cons, List.foldl_nil] at this
    rw [w64 (by omega) (by omega)] at this
    simpa [ofW] using this
  | [a, b], _, hb, e0 =>
    have ha := hb a (by simp)
    have hb' := hb b (by simp)
    refine Ev.neg (by simp) ?_
    have := e0 a [b] rfl
    simp only [List.foldl_cons, List.foldl_nil] at this
    rw [w64 (x := 0 + a) (by omega) (by omega), w64 (by omega) (by omega)] at this
    simpa [ofW] using this
  | _ :: _ :: _ :: _, hl, _, _ => simp at hl
theorem fold_max_le : ∀ (xs : List Int) (p B : Int), p ≤ B → (∀ v ∈ xs, v ≤ B) → xs.foldl max p ≤ B
  | [], p, B, h, _ => h
  | x :: r, p, B, h, hx => fold_max_le r (max p x) B (by have := hx x List.mem_cons_self; omega) (fun v hv => hx v (List.mem_cons_of_mem _ hv))
theorem fold_max_ge : ∀ (xs : List Int) (p : Int), p ≤ xs.foldl max p ∧ ∀ v ∈ xs, v ≤ xs.foldl max p
  | [], p => ⟨Int.le_refl _, fun v hv => by simp at hv⟩
  | x :: r, p => by
    obtain ⟨h1, h2⟩ := fold_max_ge r (max p x)
    refine ⟨by show p ≤ r.foldl max (max p x); omega, fun v hv => ?_⟩
    show v ≤ r.foldl max (max p x)
    rcases List.mem_cons.1 hv with rfl | hv
    · omega
    · exact h2 v hv
theorem fold_min_le : ∀ (xs : List Int) (p : Int), xs.foldl min p ≤ p ∧ ∀ v ∈ xs, xs.foldl min p ≤ v
  | [], p => ⟨Int.le_refl _, fun v hv => by simp at hv⟩
  | x :: r, p => by
    obtain ⟨h1, h2⟩ := fold_min_le r (min p x)
    refine ⟨by show r.foldl min (min p x) ≤ p; omega, fun v hv => ?_⟩
    show r.foldl min (min p x) ≤ v
    rcases List.mem_cons.1 hv with rfl | hv
    · omega
    · exact h2 v hv
theorem fold_min_ge : ∀ (xs : List Int) (p B : Int), B ≤ p → (∀ v ∈ xs, B ≤ v) → B ≤ xs.foldl min p
  | [], p, B, h, _ => h
  | x :: r, p, B, h, hx => fold_min_ge r (min p x) B (by have := hx x List.mem_cons_self; omega) (fun v hv => hx v (List.mem_cons_of_mem _ hv))
theorem nextV_nil (x : S46) (i : Int) : nextV x i = [] ↔ x.f0 = 8 := by
  unfold nextV
  by_cases h8 : x.f0 = 8
  · simp [h8]
  · rw [if_neg h8]
    repeat' split
    all_goals simp [h8]
/-- Longest, shortest, ways: the tables, and what is known of them. -/
theorem longest_ev (l : List S46) (hl : chk l = true) : ∃ T : List Int, Ev (fun k => impl_LongestRun.f k l) (T.getD 0 0) ∧ ∀ (i : Nat) x, l[i]? = some x → (1 ≤ T.getD i 0 ∧ T.getD i 0 ≤ (l.length : Int) - i) ∧ ∀ k ∈ nextV x (i : Int), T.getD k.toNat 0 + 1 ≤ T.getD i 0 := by
  obtain ⟨c1, _, c3⟩ := chk_of hl
  obtain ⟨T, t1, t2, t3⟩ := runs_w44_ev l hl ofL (fun i v => 1 ≤ v ∧ v ≤ (l.length : Int) - i) (fun i x f hx hn => by
    obtain ⟨hio, hf⟩ := c3 i x hx
    have hb := next_bound (n := l.length) hio hf
    have hi := lt_of hx
    have hbb : ∀ v ∈ (nextV x (i : Int)).map (fun k => f k.toNat), 0 ≤ v ∧ v ≤ (l.length : Int) - i - 1 := fun v hv => by
      obtain ⟨k, hk, rfl⟩ := List.mem_map.1 hv
      have h1 := hb k hk
      have h2 := hn k hk
      omega
    refine ⟨longest_clo _ (by rw [List.length_map]; exact nextV_len _ _) (fun v hv => by have := hbb v hv; omega), ?_⟩
    unfold ofL
    have h1 := (fold_max_ge ((nextV x (i : Int)).map (fun k => f k.toNat)) 0).1
    have h2 := fold_max_le ((nextV x (i : Int)).map (fun k => f k.toNat)) 0 ((l.length : Int) - i - 1) (by omega) (fun v hv => (hbb v hv).2)
    omega)
  refine ⟨T, by unfold impl_LongestRun.f; exact Ev.bind t2 (Ev.now _), fun i x hx => ⟨(t3 i x hx).2, fun k hk => ?_⟩⟩
  rw [(t3 i x hx).1]
  have := (fold_max_ge ((nextV x (i : Int)).map (fun k => T.getD k.toNat 0)) 0).2 (T.getD k.toNat 0) (List.mem_map.2 ⟨k, hk, rfl⟩)
  unfold ofL
  omega
theorem shortest_ev (l : List S46) (hl : chk l = true) : ∃ T : List Int, Ev (fun k => impl_ShortestRun.f k l) (T.getD 0 0) ∧ ∀ (i : Nat) x, l[i]? = some x → 1 ≤ T.getD i 0 ∧ (x.f0 = 8 → T.getD i 0 = 1) ∧ ∀ k ∈ nextV x (i : Int), T.getD i 0 ≤ T.getD k.toNat 0 + 1 := by
  obtain ⟨c1, _, c3⟩ := chk_of hl
  obtain ⟨T, t1, t2, t3⟩ := runs_w53_ev l hl ofS (fun i v => 1 ≤ v ∧ v ≤ (l.length : Int) - i) (fun i x f hx hn => by
    obtain ⟨hio, hf⟩ := c3 i x hx
    have hb := next_bound (n := l.length) hio hf
    have hi := lt_of hx
    have hbb : ∀ v ∈ (nextV x (i : Int)).map (fun k => f k.toNat), 1 ≤ v ∧ v ≤ (l.length : Int) - i - 1 := fun v hv => by
      obtain ⟨k, hk, rfl⟩ := List.mem_map.1 hv
      have h1 := hb k hk
      have h2 := hn k hk
      omega
    refine ⟨shortest_clo _ (by rw [List.length_map]; exact nextV_len _ _) (fun v hv => by have := hbb v hv; omega), ?_⟩
    generalize (nextV x (i : Int)).map (fun k => f k.toNat) = xs at hbb
    cases xs with
    | nil => show (1 : Int) ≤ 1 ∧ (1 : Int) ≤ _; omega
    | cons y r =>
      show 1 ≤ r.foldl min y + 1 ∧ r.foldl min y + 1 ≤ _
      have h1 := fold_min_ge r y 1 (hbb y List.mem_cons_self).1 (fun v hv => (hbb v (List.mem_cons_of_mem _ hv)).1)
      have h2 := (fold_min_le r y).1
      have h3 := hbb y List.mem_cons_self
      omega)
  refine ⟨T, by unfold impl_ShortestRun.f; exact Ev.bind t2 (Ev.now _), fun i x hx => ⟨(t3 i x hx).2.1, fun h8 => ?_, fun k hk => ?_⟩⟩
  · rw [(t3 i x hx).1, (nextV_nil x _).2 h8]; rfl
  · rw [(t3 i x hx).1]
    have hm : T.getD k.toNat 0 ∈ (nextV x (i : Int)).map (fun k => T.getD k.toNat 0) := List.mem_map.2 ⟨k, hk, rfl⟩
    generalize (nextV x (i : Int)).map (fun k => T.getD k.toNat 0) = xs at hm
    cases xs with
    | nil => simp at hm
    | cons y r =>
      show r.foldl min y + 1 ≤ _
      rcases List.mem_cons.1 hm with hm | hm
      · have := (fold_min_le r y).1; omega
      · have := (fold_min_le r y).2 _ hm; omega
theorem ways_ev (l : List S46) (hl : chk l = true) : ∃ T : List Int, Ev (fun k => impl_WaysIn.f k l) (T.getD 0 0) ∧ ∀ (i : Nat) x, l[i]? = some x → 1 ≤ T.getD i 0 := by
  obtain ⟨T, t1, t2, t3⟩ := runs_w45_ev l hl ofW (fun i v => 1 ≤ v ∧ v ≤ 1000000) (fun i x f hx hn => by
    have hbb : ∀ v ∈ (nextV x (i : Int)).map (fun k => f k.toNat), 1 ≤ v ∧ v ≤ 1000000 := fun v hv => by
      obtain ⟨k, hk, rfl⟩ := List.mem_map.1 hv
      exact hn k hk
    have hlen : ((nextV x (i : Int)).map (fun k => f k.toNat)).length ≤ 2 := by rw [List.length_map]; exact nextV_len _ _
    refine ⟨ways_clo _ hlen (fun v hv => by have := hbb v hv; omega), ?_⟩
    generalize (nextV x (i : Int)).map (fun k => f k.toNat) = xs at hbb hlen
    match xs, hbb, hlen with
    | [], _, _ => exact ⟨by decide, by decide⟩
    | [a], hbb, _ => have ha := hbb a (by simp); simp only [ofW, List.foldl_cons, List.foldl_nil]; omega
    | [a, b], hbb, _ => have ha := hbb a (by simp); have hb := hbb b (by simp); simp only [ofW, List.foldl_cons, List.foldl_nil]; omega
    | _ :: _ :: _ :: _, _, hlen => simp at hlen)
  exact ⟨T, by unfold impl_WaysIn.f; exact Ev.bind t2 (Ev.now _), fun i x hx => (t3 i x hx).2.1⟩
theorem getD_set (q : List Bool) (i j : Nat) (v : Bool) : (q.set i v).getD j false = if i = j ∧ i < q.length then v else q.getD j false := by
  rw [List.getD_eq_getElem?_getD, List.getD_eq_getElem?_getD, List.getElem?_set]
  by_cases h : i = j
  · subst h
    by_cases hl : i < q.length
    · simp [hl]
    · simp [hl]
  · simp [h]
theorem mark_get : ∀ (ks : List Int) (q : List Bool) (j : Nat), (mark q ks).getD j false = true ↔ q.getD j false = true ∨ ∃ k ∈ ks, k.toNat = j ∧ j < q.length
  | [], q, j => by simp [mark]
  | k :: ks, q, j => by
    show (mark (q.set k.toNat true) ks).getD j false = true ↔ _
    rw [mark_get ks, getD_set]
    by_cases h : k.toNat = j ∧ k.toNat < q.length
    · rw [if_pos h]
      exact ⟨fun _ => .inr ⟨k, List.mem_cons_self, h.1, by omega⟩, fun _ => .inl rfl⟩
    · rw [if_neg h]
      constructor
      · rintro (h1 | ⟨k', h1, h2, h3⟩)
        · exact .inl h1
        · exact .inr ⟨k', List.mem_cons_of_mem _ h1, h2, by simpa using h3⟩
      · rintro (h1 | ⟨k', h1, h2, h3⟩)
        · exact .inl h1
        · rcases List.mem_cons.1 h1 with rfl | h1
          · exact absurd ⟨h2, by omega⟩ h
          · exact .inr ⟨k', h1, h2, by simpa using h3⟩
/-- What is reached goes on being reached; and what is not yet passed over comes from before. -/
theorem reachF_closed : ∀ (r : List S46) (i : Nat) (q : List Bool), q.length = i + r.length → (∀ (j : Nat) x, r[j]? = some x → ∀ k ∈ nextV x ((i + j : Nat) : Int), ((i + j : Nat) : Int) < k ∧ k < (q.length : Int)) →
    (∀ j, q.getD j false = true → (reachF r i q).getD j false = true) ∧ (∀ j, j ≤ i → (reachF r i q).getD j false = q.getD j false) ∧ (∀ (j : Nat) x, r[j]? = some x → (reachF r i q).getD (i + j) false = true → ∀ k ∈ nextV x ((i + j : Nat) : Int), (reachF r i q).getD k.toNat false = true)
  | [], i, q, _, _ => ⟨fun _ h => h, fun _ _ => rfl, fun j x h => by simp at h⟩
  | x :: r, i, q, hq, hn => by
    have hb : ∀ k ∈ nextV x (i : Int), (i : Int) < k ∧ k < (q.length : Int) := fun k hk => hn 0 x rfl k (by simpa using hk)
    have hone : ∀ j, q.getD j false = true → (reachOne x i q).getD j false = true := fun j h => by
      unfold reachOne
      split
      · exact (mark_get _ _ _).2 (.inl h)
      · exact h
    have hlow : ∀ j, j ≤ i → (reachOne x i q).getD j false = q.getD j false := fun j h => by
      unfold reachOne
      split
      · rw [Bool.eq_iff_iff, mark_get]
        refine ⟨fun h' => ?_, .inl⟩
        rcases h' with h' | ⟨k, hk, hkj, _⟩
        · exact h'
        · have := hb k hk; omega
      · rfl
    obtain ⟨h1, h2, h3⟩ := reachF_closed r (i + 1) (reachOne x i q) (by rw [reachOne_length, hq]; simp; omega) (fun j y hy k hk => by
      rw [reachOne_length]
      have := hn (j + 1) y (by simpa using hy) k (by rw [show i + (j + 1) = i + 1 + j by omega]; exact hk)
      rw [show i + 1 + j = i + (j + 1) by omega]; exact this)
    refine ⟨fun j h => h1 j (hone j h), fun j h => (h2 j (by omega)).trans (hlow j h), fun j y hy h k hk => ?_⟩
    cases j with
    | zero =>
      have hxy : y = x := by simpa using hy.symm
      subst hxy
      rw [Nat.add_zero] at h hk
      have hqi : q.getD i false = true := by
        have := (h2 i (by omega)).trans (hlow i (Nat.le_refl _))
        rw [← this]; exact h
      refine h1 k.toNat ?_
      unfold reachOne
      rw [if_pos hqi]
      have := hb k hk
      exact (mark_get _ _ _).2 (.inr ⟨k, hk, rfl, by omega⟩)
    | succ j =>
      rw [show i + (j + 1) = i + 1 + j by omega] at h hk
      exact h3 j y (by simpa using hy) h k hk
theorem reachV_closed (l : List S46) (hl : chk l = true) : (reachV l).length = l.length ∧ (reachV l).getD 0 false = true ∧ ∀ (i : Nat) x, l[i]? = some x → (reachV l).getD i false = true → ∀ k ∈ nextV x (i : Int), (reachV l).getD k.toNat false = true := by
  obtain ⟨c1, _, c3⟩ := chk_of hl
  have hlen : ((List.replicate l.length false).set 0 true).length = l.length := by simp
  obtain ⟨h1, h2, h3⟩ := reachF_closed l 0 ((List.replicate l.length false).set 0 true) (by rw [hlen]; omega) (fun j x hx k hk => by
    rw [hlen]
    have := next_bound (n := l.length) (c3 j x hx).1 (c3 j x hx).2 k (by simpa using hk)
    simpa using this)
  unfold reachV
  rw [if_pos hl]
  refine ⟨by rw [reachF_length, hlen], h1 0 (by rw [getD_set, if_pos ⟨rfl, by simp; omega⟩]), fun i x hx h k hk => ?_⟩
  have := h3 i x hx (by simpa using h) k (by simpa using hk)
  exact this
theorem nums_mem (op : Int) : ∀ (l : List S46) (R : List Bool) (i : Nat) (x : S46), l[i]? = some x → R.getD i false = true → x.f0 = op → x.f1 ∈ numsF op l R
  | [], _, i, x, h, _, _ => by simp at h
  | y :: r, [], i, x, _, h, _ => by simp at h
  | y :: r, b :: R, 0, x, h, hb, ho => by
    simp at h hb
    subst h
    unfold numsF
    rw [if_pos ⟨hb, ho⟩]; exact List.mem_cons_self
  | y :: r, b :: R, i + 1, x, h, hb, ho => by
    have := nums_mem op r R i x (by simpa using h) (by simpa using hb) ho
    unfold numsF
    split
    · exact List.mem_cons_of_mem _ this
    · exact this
theorem said_mem (l : List S46) (op : Int) (i : Nat) (x : S46) (h : l[i]? = some x) (hr : (reachV l).getD i false = true) (ho : x.f0 = op) : x.f1 ∈ saidV l op := by
  unfold saidV
  rw [(fold_put (numsF op l (reachV l)) [] List.Pairwise.nil).2]
  exact .inl (nums_mem op l (reachV l) i x h hr ho)
theorem spec_HalfOk_of (a : Int) : spec_HalfOk.f a = some (decide (0 ≤ a ∧ a ≤ 4294967295)) := by
  unfold spec_HalfOk.f; rw [spec_l01In_of]; rfl
theorem spec_WideOk_of (a b : Int) : spec_WideOk.f a b = some (decide (0 ≤ a ∧ a ≤ 4294967295) && decide (0 ≤ b ∧ b ≤ 4294967295)) := by
  unfold spec_WideOk.f
  simp only [spec_HalfOk_of, Option.bind_some]
  by_cases h : 0 ≤ a ∧ a ≤ 4294967295
  · rw [if_pos (decide_eq_true h), decide_eq_true h]; rfl
  · rw [if_neg (by simpa using h), decide_eq_false h]; rfl
def callOkV (a n : Int) (l : List S75) : Bool := l.all (fun w => decide (0 ≤ w.f0 ∧ w.f0 ≤ 4294967295) && decide (0 ≤ w.f1 ∧ w.f1 ≤ 4294967295)) && (decide (0 ≤ a ∧ a ≤ 4294967295) && (decide (0 ≤ n ∧ n ≤ 4294967295) && ((l.length : Int) == 3)))
theorem spec_CallOk_ev (a n : Int) (l : List S75) (hl : l.length ≤ 1048576) : Ev (fun k => spec_CallOk.f k a n l) (callOkV a n l) := by
  unfold spec_CallOk.f callOkV
  have key : ∀ (d i : Nat), l.length - i = d → i ≤ l.length → Ev (fun k => spec_CallOk.l0 k a n l (i : Int)) ((l.drop i).all (fun w => decide (0 ≤ w.f0 ∧ w.f0 ≤ 4294967295) && decide (0 ≤ w.f1 ∧ w.f1 ≤ 4294967295)) && (decide (0 ≤ a ∧ a ≤ 4294967295) && (decide (0 ≤ n ∧ n ≤ 4294967295) && ((l.length : Int) == 3)))) := by
    intro d
    induction d with
    | zero =>
      intro i hd hi
      rw [List.drop_eq_nil_of_le (by omega)]
      refine Ev.step (fun _ => rfl) ?_
      simp only [spec_CallOk.l0]
      refine Ev.neg (by omega) (Ev.bindc (spec_HalfOk_of a) ?_)
      by_cases ha : 0 ≤ a ∧ a ≤ 4294967295
      · refine Ev.pos (decide_eq_true ha) (Ev.bindc (spec_HalfOk_of n) ?_)
        rw [decide_eq_true ha]
        by_cases hn : 0 ≤ n ∧ n ≤ 4294967295
        · refine Ev.pos (decide_eq_true hn) (Ev.some_ ?_)
          rw [decide_eq_true hn]; simp
        · refine Ev.neg (by simpa using hn) (Ev.some_ ?_)
          rw [decide_eq_false hn]; simp
      · refine Ev.neg (by simpa using ha) (Ev.some_ ?_)
        rw [decide_eq_false ha]; simp
    | succ d ih =>
      intro i hd hi
      have hx : l[i]? = some l[i] := List.getElem?_eq_getElem (by omega)
      rw [List.drop_eq_getElem_cons (by omega), List.all_cons]
      generalize l[i] = w at hx
      refine Ev.step (fun _ => rfl) ?_
      simp only [spec_CallOk.l0]
      rw [rd75 hx, w64 (x := (i : Int) + 1) (by omega) (by omega), show (i : Int) + 1 = ((i + 1 : Nat) : Int) from rfl]
      refine Ev.pos (by omega) (Ev.pos (by omega) (Ev.bindc (spec_WideOk_of _ _) ?_))
      cases hw : (decide (0 ≤ w.f0 ∧ w.f0 ≤ 4294967295) && decide (0 ≤ w.f1 ∧ w.f1 ≤ 4294967295)) with
      | true => rw [Bool.true_and]; exact Ev.pos rfl (ih (i + 1) (by omega) (by omega))
      | false => rw [Bool.false_and, Bool.false_and]; exact Ev.neg (by simp) (Ev.now _)
  have := key l.length 0 rfl (Nat.zero_le _)
  simpa using this
theorem fieldAt_ex (a n : Int) (l : List S75) (hc : callOkV a n l = true) (hl : l.length ≤ 1048576) (q : Int) (hq : 0 ≤ q ∧ q < 8) : ∃ r, Ev (fun k => spec_FieldAt.f k a n l q) r := by
  have h3 : l.length = 3 := by
    unfold callOkV at hc
    simp only [Bool.and_eq_true] at hc
    have := beq_iff_eq.1 hc.2.2.2; omega
  have e := spec_CallOk_ev a n l hl
  rw [hc] at e
  unfold spec_FieldAt.f
  by_cases h0 : q = 0
  · exact ⟨_, Ev.bind e (Ev.pos rfl (Ev.bindc (spec_l01In_of _ _ _) (Ev.pos (decide_eq_true (by omega)) (Ev.pos h0 (Ev.now _)))))⟩
  · by_cases h1 : q = 1
    · exact ⟨_, Ev.bind e (Ev.pos rfl (Ev.bindc (spec_l01In_of _ _ _) (Ev.pos (decide_eq_true (by omega)) (Ev.neg h0 (Ev.pos h1 (Ev.now _))))))⟩
    · have hd : wrap64 ((wrap64 (q - 2)).tdiv 2) = (q - 2) / 2 := by
        rw [w64 (x := q - 2) (by omega) (by omega), Int.tdiv_eq_ediv_of_nonneg (by omega), w64 (by omega) (by omega)]
      rw [hd]
      by_cases hm : q.tmod 2 = 0
      · exact ⟨_, Ev.bind e (Ev.pos rfl (Ev.bindc (spec_l01In_of _ _ _) (Ev.pos (decide_eq_true (by omega)) (Ev.neg h0 (Ev.neg h1 (Ev.pos (by omega) (Ev.pos (by omega) (Ev.pos hm (Ev.now _)))))))))⟩
      · exact ⟨_, Ev.bind e (Ev.pos rfl (Ev.bindc (spec_l01In_of _ _ _) (Ev.pos (decide_eq_true (by omega)) (Ev.neg h0 (Ev.neg h1 (Ev.pos (by omega) (Ev.pos (by omega) (Ev.neg hm (Ev.now _)))))))))⟩
/-- A run keeps within what is told. -/
theorem run_loop (l : List S46) (hl : chk l = true) (a n : Int) (w : List S75) (hc : callOkV a n w = true) (hw : w.length ≤ 1048576) (TL TS : List Int)
    (hL : ∀ (i : Nat) x, l[i]? = some x → (1 ≤ TL.getD i 0 ∧ TL.getD i 0 ≤ (l.length : Int) - i) ∧ ∀ k ∈ nextV x (i : Int), TL.getD k.toNat 0 + 1 ≤ TL.getD i 0)
    (hS : ∀ (i : Nat) x, l[i]? = some x → 1 ≤ TS.getD i 0 ∧ (x.f0 = 8 → TS.getD i 0 = 1) ∧ ∀ k ∈ nextV x (i : Int), TS.getD i 0 ≤ TS.getD k.toNat 0 + 1) :
    ∀ (d i : Nat) (reg s : Int), l.length - i ≤ d → i < l.length → 0 ≤ s → s ≤ i → (reachV l).getD i false = true → ∃ r m, Ev (fun k => spec_Run.l0 k l a n w reg s (i : Int)) (r, s + m) ∧ TS.getD i 0 ≤ m ∧ m ≤ TL.getD i 0 ∧ r ∈ saidV l 8 := by
  obtain ⟨c1, _, c3⟩ := chk_of hl
  obtain ⟨r1, r2, r3⟩ := reachV_closed l hl
  intro d
  induction d with
  | zero => intro i reg s hd hi; omega
  | succ d ih =>
    intro i reg s hd hi s0 s1 hri
    have hx : l[i]? = some l[i] := List.getElem?_eq_getElem hi
    generalize l[i] = x at hx
    obtain ⟨hio, hf⟩ := c3 i x hx
    have hb := next_bound (n := l.length) hio hf
    have hLi := hL i x hx
    have hSi := hS i x hx
    have hri' := r3 i x hx hri
    -- one step, to k
    have go : ∀ (k : Int) (reg' p : Int), k ∈ nextV x (i : Int) → p + 1 = k → -9223372036854775808 ≤ p → ∃ r m, Ev (fun kk => spec_Run.j0 kk l a n w s reg' p) (r, s + m) ∧ TS.getD i 0 ≤ m ∧ m ≤ TL.getD i 0 ∧ r ∈ saidV l 8 := by
      intro k reg' p hk hpk hp
      have hbk := hb k hk
      obtain ⟨r, m, e, m1, m2, m3⟩ := ih k.toNat reg' (s + 1) (by omega) (by omega) (by omega) (by omega) (hri' k hk)
      have h1 := hLi.2 k hk
      have h2 := hSi.2.2 k hk
      refine ⟨r, m + 1, Ev.step (fun _ => rfl) ?_, by omega, by omega, m3⟩
      simp only [spec_Run.j0]
      rw [w64 (x := s + 1) (by omega) (by omega), w64 (x := p + 1) (by omega) (by omega), hpk, show s + (m + 1) = s + 1 + m by omega]
      rw [show ((k.toNat : Nat) : Int) = k by omega] at e
      exact e
    obtain ⟨hx0, hx1, hx2, hx3, -⟩ := insOk_of hio
    by_cases h1 : x.f0 = 1
    · obtain ⟨⟨rv, rb⟩, er⟩ := fieldAt_ex a n w hc hw x.f1 ⟨hx1.1, (insOk_of hio).2.2.2.2.2.1 h1⟩
      have hk : (i : Int) + 1 ∈ nextV x (i : Int) := by unfold nextV; rw [if_neg (by omega), if_neg (by omega), if_neg (by omega)]; simp
      obtain ⟨r, m, e, m1, m2, m3⟩ := go _ rv (i : Int) hk rfl (by omega)
      refine ⟨r, m, Ev.step (fun _ => rfl) ?_, m1, m2, m3⟩
      simp only [spec_Run.l0]
      rw [rd46 hx]
      exact Ev.pos (by omega) (Ev.pos (by omega) (Ev.pos h1 (Ev.bind er e)))
    by_cases h2 : x.f0 = 2
    · have hk : (i : Int) + 1 ∈ nextV x (i : Int) := by unfold nextV; rw [if_neg (by omega), if_neg (by omega), if_neg (by omega)]; simp
      obtain ⟨r, m, e, m1, m2, m3⟩ := go _ (bits .and .i64 reg x.f1) (i : Int) hk rfl (by omega)
      refine ⟨r, m, Ev.step (fun _ => rfl) ?_, m1, m2, m3⟩
      simp only [spec_Run.l0]
      rw [rd46 hx]
      exact Ev.pos (by omega) (Ev.pos (by omega) (Ev.neg h1 (Ev.pos h2 e)))
    by_cases h7 : x.f0 = 7
    · have hk : (i : Int) + 1 + x.f1 ∈ nextV x (i : Int) := by unfold nextV; rw [if_neg (by omega), if_pos h7]; simp
      obtain ⟨r, m, e, m1, m2, m3⟩ := go _ reg ((i : Int) + x.f1) hk (by omega) (by omega)
      refine ⟨r, m, Ev.step (fun _ => rfl) ?_, m1, m2, m3⟩
      simp only [spec_Run.l0]
      rw [rd46 hx, w64 (x := (i : Int) + x.f1) (by omega) (by omega)]
      exact Ev.pos (by omega) (Ev.pos (by omega) (Ev.neg h1 (Ev.neg h2 (Ev.pos h7 e))))
    by_cases h8 : x.f0 = 8
    · refine ⟨x.f1, 1, Ev.step (fun _ => rfl) ?_, by have := hSi.2.1 h8; omega, hLi.1.1, said_mem l 8 i x hx hri h8⟩
      simp only [spec_Run.l0]
      rw [rd46 hx, w64 (x := s + 1) (by omega) (by omega)]
      exact Ev.pos (by omega) (Ev.pos (by omega) (Ev.neg h1 (Ev.neg h2 (Ev.neg h7 (Ev.pos h8 (Ev.now _))))))
    · have ha : 3 ≤ x.f0 ∧ x.f0 ≤ 6 := by omega
      have hk2 : (i : Int) + 1 + x.f2 ∈ nextV x (i : Int) ∧ (i : Int) + 1 + x.f3 ∈ nextV x (i : Int) := by
        unfold nextV
        rw [if_neg h8, if_neg h7, if_pos ha]
        by_cases he : x.f2 = x.f3
        · rw [if_pos he, he]; simp
        · rw [if_neg he]
          by_cases hlt : x.f2 < x.f3
          · rw [Int.min_eq_left (by omega), Int.max_eq_right (by omega)]; simp
          · rw [Int.min_eq_right (by omega), Int.max_eq_left (by omega)]; simp
      have hask : ∃ b, spec_l07Asks.f x.f0 x.f1 x.f2 x.f3 reg = some b := by
        unfold spec_l07Asks.f
        repeat' split
        all_goals exact ⟨_, rfl⟩
      obtain ⟨bq, hbq⟩ := hask
      have hy := hb _ hk2.1
      have hz := hb _ hk2.2
      cases bq with
      | true =>
        obtain ⟨r, m, e, m1, m2, m3⟩ := go _ reg ((i : Int) + x.f2) hk2.1 (by omega) (by omega)
        refine ⟨r, m, Ev.step (fun _ => rfl) ?_, m1, m2, m3⟩
        simp only [spec_Run.l0]
        rw [rd46 hx, w64 (x := (i : Int) + x.f2) (by omega) (by omega)]
        exact Ev.pos (by omega) (Ev.pos (by omega) (Ev.neg h1 (Ev.neg h2 (Ev.neg h7 (Ev.neg h8 (Ev.bindc hbq (Ev.pos rfl e)))))))
      | false =>
        obtain ⟨r, m, e, m1, m2, m3⟩ := go _ reg ((i : Int) + x.f3) hk2.2 (by omega) (by omega)
        refine ⟨r, m, Ev.step (fun _ => rfl) ?_, m1, m2, m3⟩
        simp only [spec_Run.l0]
        rw [rd46 hx, w64 (x := (i : Int) + x.f3) (by omega) (by omega)]
        exact Ev.pos (by omega) (Ev.pos (by omega) (Ev.neg h1 (Ev.neg h2 (Ev.neg h7 (Ev.neg h8 (Ev.bindc hbq (Ev.neg (by simp) e)))))))
theorem hasNum_ev (l : List Int) (n : Int) (hl : l.length ≤ 1048576) (hm : n ∈ l) : Ev (fun k => laws_hasNum.f k l n) true := by
  unfold laws_hasNum.f
  have key : ∀ (d i : Nat), l.length - i = d → i ≤ l.length → n ∈ l.drop i → Ev (fun k => laws_hasNum.l0 k l n (i : Int)) true := by
    intro d
    induction d with
    | zero => intro i hd hi h; rw [List.drop_eq_nil_of_le (by omega)] at h; simp at h
    | succ d ih =>
      intro i hd hi h
      have hx : l[i]? = some l[i] := List.getElem?_eq_getElem (by omega)
      rw [List.drop_eq_getElem_cons (by omega)] at h
      generalize l[i] = x at hx h
      have e : rd l (i : Int) = x := by unfold rd; exact get_of l 0 hx
      refine Ev.step (fun _ => rfl) ?_
      simp only [laws_hasNum.l0]
      rw [e, w64 (x := (i : Int) + 1) (by omega) (by omega)]
      refine Ev.pos (by omega) (Ev.pos (by omega) ?_)
      by_cases hxn : x = n
      · exact Ev.pos hxn (Ev.now _)
      · refine Ev.neg hxn (ih (i + 1) (by omega) (by omega) ?_)
        rcases List.mem_cons.1 h with h | h
        · exact absurd h.symm hxn
        · exact h
  exact key l.length 0 rfl (Nat.zero_le _) (by simpa using hm)
theorem impl_ResultsIn_ev (l : List S46) (hn : l.length ≤ 1048576) : Ev (fun k => impl_ResultsIn.f k l) (saidV l 8) := by
  unfold impl_ResultsIn.f
  exact Ev.bind (impl_numbersIn_ev l 8 hn) (Ev.now _)
theorem impl_NextOf_at (l : List S46) (hl : chk l = true) (i : Nat) (x : S46) (hx : l[i]? = some x) : Ev (fun k => impl_NextOf.f k l (i : Int)) (nextV x (i : Int)) := by
  obtain ⟨c1, _, c3⟩ := chk_of hl
  have hi := lt_of hx
  have hcp := impl_CheckProgram_ev l (by omega)
  rw [hl] at hcp
  unfold impl_NextOf.f
  rw [w64 (x := (l.length : Int) - 1) (by omega) (by omega), rd46 hx]
  exact Ev.bind hcp (Ev.pos rfl (Ev.bindc (impl_within_of _ _ _) (Ev.pos (decide_eq_true (by omega)) (Ev.pos (by omega) (Ev.pos (by omega) (Ev.bind (impl_ways_ev i x (by omega) (c3 i x hx).1) (Ev.now _)))))))
theorem pure : Pure := by
  intro l hl
  refine Ev.rounds ?_
  unfold laws_FnWays.f
  refine Ev.bindc rfl ?_
  by_cases hbig : (l.length : Int) > 1048576
  · exact Ev.pos (by simpa using hbig) (Ev.now _)
  refine Ev.neg (by simpa using hbig) ?_
  have hr : Rd l 0 := ⟨by omega, by omega, by omega⟩
  obtain ⟨s0, n0⟩ := l01New_ev l (by omega)
  have d1 : Tot (fun k => spec_DrawProgram.f k l) (fun r => 1 ≤ r.length ∧ r.length ≤ 20) := by
    unfold spec_DrawProgram.f
    refine Tot.bind1 n0 (Tot.bind (l06Program_tot l 0 s0 hr) ?_)
    rintro _ ⟨q, i', s', rfl, _, h⟩
    exact Tot.now h
  have d2 : Tot (fun k => spec_DrawCall.f k l) (fun r => r.2.2.length = 3) := by
    unfold spec_DrawCall.f
    refine Tot.bind1 n0 (Tot.bind (l04Call_tot l 0 s0 hr) ?_)
    rintro _ ⟨x, y, q, i', s', rfl, _, h, _⟩
    exact Tot.now h
  obtain ⟨P, e1, hP⟩ := d1
  obtain ⟨⟨a, n, w⟩, e2, hw⟩ := d2
  replace hw : w.length = 3 := hw
  have hcp := spec_CheckProgram_ev P (by omega)
  refine Ev.bind e1 (Ev.bind e2 (Ev.bind hcp ?_))
  have hres := impl_ResultsIn_ev P (by omega)
  have hsl := saidV_length P 8
  cases hc : chk P with
  | false =>
    have hz : saidV P 8 = [] := by
      have : reachV P = [] := by unfold reachV; rw [hc]; rfl
      unfold saidV
      rw [this]
      cases P <;> rfl
    rw [hz] at hres
    have g1 : Ev (fun k => impl_LongestRun.f k P) 0 := by unfold impl_LongestRun.f; exact Ev.bind (runs_w44_no P (by omega) hc) (Ev.now _)
    have g2 : Ev (fun k => impl_WaysIn.f k P) 0 := by unfold impl_WaysIn.f; exact Ev.bind (runs_w45_no P (by omega) hc) (Ev.now _)
    exact Ev.neg (by simp) (Ev.bind g1 (Ev.pos rfl (Ev.bind g2 (Ev.pos rfl (Ev.bind hres (Ev.some_ (by simp)))))))
  | true =>
    refine Ev.pos rfl ?_
    obtain ⟨c1, _, c3⟩ := chk_of hc
    obtain ⟨TL, gl, hL⟩ := longest_ev P hc
    obtain ⟨TS, gs, hS⟩ := shortest_ev P hc
    obtain ⟨TW, gw, hW⟩ := ways_ev P hc
    obtain ⟨r1, r2, r3⟩ := reachV_closed P hc
    have hx0 : P[0]? = some P[0] := List.getElem?_eq_getElem (by omega)
    have hL0 := (hL 0 _ hx0).1
    have hS0 := (hS 0 _ hx0).1
    have hW0 := hW 0 _ hx0
    have hcall := spec_CallOk_ev a n w (by omega)
    -- the run
    have hrun : ∃ r m : Int, Ev (fun k => spec_Run.f k P a n w) (r, m) ∧ (callOkV a n w = true → TS.getD 0 0 ≤ m ∧ m ≤ TL.getD 0 0 ∧ r ∈ saidV P 8) := by
      unfold spec_Run.f
      rw [hc] at hcp
      cases hco : callOkV a n w with
      | false => rw [hco] at hcall; exact ⟨0, 0, Ev.bind hcp (Ev.pos rfl (Ev.bind hcall (Ev.neg (by simp) (Ev.now _)))), fun h => by cases h⟩
      | true =>
        rw [hco] at hcall
        obtain ⟨r, m, e, m1, m2, m3⟩ := run_loop P hc a n w hco (by omega) TL TS hL hS P.length 0 0 0 (by omega) (by omega) (by omega) (by omega) r2
        rw [Int.zero_add] at e
        exact ⟨r, m, Ev.bind hcp (Ev.pos rfl (Ev.bind hcall (Ev.pos rfl e))), fun _ => ⟨m1, m2, m3⟩⟩
    obtain ⟨r, m, er, hm⟩ := hrun
    refine Ev.bind er ?_
    try dsimp only
    have tail : Ev (fun k => (impl_LongestRun.f k P).bind fun t81 => (if t81 ≤ (P.length : Int) then ((impl_ShortestRun.f k P).bind fun t84 => (if t84 ≥ 1 then ((impl_WaysIn.f k P).bind fun t87 => some (decide (t87 ≥ 1))) else some false)) else some false)) true :=
      Ev.bind gl (Ev.pos (by omega) (Ev.bind gs (Ev.pos hS0 (Ev.bind gw (Ev.some_ (decide_eq_true hW0))))))
    refine same_ev (fun k i => laws_FnWays.l1 k P (a, n, w) (r, m) i) P ?_ ?_
    · refine Ev.step (fun _ => rfl) ?_
      simp only [laws_FnWays.l1]
      refine Ev.neg (by omega) (Ev.bind hcall ?_)
      cases hco : callOkV a n w with
      | false => exact Ev.neg (by simp) tail
      | true =>
        obtain ⟨m1, m2, m3⟩ := hm hco
        exact Ev.pos rfl (Ev.bind gs (Ev.pos m1 (Ev.bind gl (Ev.pos m2 (Ev.bind hres (Ev.bind (hasNum_ev _ _ (by omega) m3) (Ev.pos rfl tail)))))))
    · intro i x hx h
      have hi := lt_of hx
      have hb := next_bound (n := P.length) (c3 i x hx).1 (c3 i x hx).2
      refine Ev.step (fun _ => rfl) ?_
      simp only [laws_FnWays.l1]
      refine Ev.pos (by omega) (Ev.bind (impl_NextOf_at P hc i x hx) ?_)
      have hlen := nextV_len x (i : Int)
      have hnil := nextV_nil x (i : Int)
      generalize nextV x (i : Int) = ks at hb hlen hnil
      refine same_ev (fun k j => laws_FnWays.l0 k P (a, n, w) (r, m) (i : Int) ks j) ks ?_ ?_
      · refine Ev.step (fun _ => rfl) ?_
        simp only [laws_FnWays.l0]
        rw [rd46 hx, w64 (x := (i : Int) + 1) (by omega) (by omega)]
        refine Ev.neg (by omega) (Ev.pos (by omega) (Ev.pos ?_ h))
        rw [Bool.eq_iff_iff, beq_iff_eq, beq_iff_eq, ← hnil]
        cases ks <;> simp
        omega
      · intro j y hy h'
        have hj := lt_of hy
        have e : rd ks (j : Int) = y := by unfold rd; exact get_of ks 0 hy
        have hby := hb y (List.mem_of_getElem? hy)
        refine Ev.step (fun _ => rfl) ?_
        simp only [laws_FnWays.l0]
        rw [e, w64 (x := (j : Int) + 1) (by omega) (by omega)]
        exact Ev.pos (by omega) (Ev.pos (by omega) (Ev.neg (by omega) (Ev.neg (by omega) h')))
end Go.Proofs.Ythfflkfpmebbbaa.PFnWays
namespace Go.Proofs.Ythfflkfpmebbbaa
/-- The given statement. -/
theorem fnWays_holds : Rows.FnWaysSaid := AFnWays.row PFnWays.pure
#print axioms fnWays_holds
end Go.Proofs.Ythfflkfpmebbbaa
