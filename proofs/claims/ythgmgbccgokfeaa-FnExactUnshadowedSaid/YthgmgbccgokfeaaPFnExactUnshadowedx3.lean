import Derived.Test.YthgmgbccgokfeaaPFnExactUnshadowedx2
set_option linter.unusedVariables false
set_option linter.unusedSimpArgs false
set_option maxRecDepth 100000
namespace Go.Proofs.Ythgmgbccgokfeaa.PFnExactUnshadowed
open Go Go.RowKit Go.Proofs.YthgmgbccgokfeaaA
/-! laws_heldPolicy -/
def laws_heldPolicy.f (k : Nat) (a0_0 : Int) (a0_1 : Int) (a0_2 : Int) (l0_3 : List S60) (a1 : Int) : Option (Int) := (laws_heldRuleS.f k l0_3 a1).bind fun t1 => if t1 < 0 then some (-1) else some t1
theorem laws_heldPolicy.ok {k : Nat} {a0_0 : Int} {a0_1 : Int} {a0_2 : Int} {l0_3 : List S60} {a1 : Int} {r : Int} (H : laws_heldPolicy.f k a0_0 a0_1 a0_2 l0_3 a1 = some r) : ACalls Try.prog 19 [] [.agg [.lit (.int .i64 a0_0), .lit (.int .i64 a0_1), .lit (.int .i64 a0_2), .sl .o 4 (l0_3.map e60)], .lit (.int .i64 a1)] [] (.lit (.int .i64 r)) := by
 refine acalls (fn := Try.f19) (nt := 12) Try.func19 rfl rfl (Nat.le_of_ble_eq_true rfl) fun E hE => ?_
 rw [laws_heldPolicy.f] at H
 refine aw_grp1 ?_
 refine wk_start ?_
 refine kb g0 (bxA 0) ?_
 refine kv g0 (asg) ?_
 refine wk_end ?_
 refine ac_next ?_
 refine aw_grp1 ?_
 refine wk_start ?_
 refine kv g0 (faB 3 3) ?_
 refine kv g0 (ldB) ?_
 refine kv g0 (mv) ?_
 obtain ⟨t1, A2, H⟩ := of_bind H
 refine kcS0 8 (.lit (.int .i64 t1)) [] g0 (cal (laws_heldRuleS.ok A2) [] 9999 .n (hf := Try.func51)) rfl rfl ?_
 refine kv g0 (asg) ?_
 refine wk_end ?_
 refine ac_next ?_
 refine aw_grp1 ?_
 refine aw_grp1 ?_
 refine wk_start ?_
 refine kv g0 (mv) ?_
 refine kv g0 (lss) ?_
 refine wk_end ?_
 refine ac_next ?_
 by_cases c3 : t1 < 0
 ·rw [if_pos c3] at H
  refine aw_ifT ?_ (decide_eq_true c3)
  refine aw_grp1 ?_
  refine wk_start ?_
  refine kv g0 (asg) ?_
  refine wk_end ?_
  refine ac_next ?_
  refine aw_ret ?_
  refine ac_thenR ?_
  obtain rfl := Option.some.inj H
  exact acr hE [.tmp 4] (.tmp .nil) (.one _) [] 9999
 rw [if_neg c3] at H
 refine aw_ifF ?_ (decide_eq_false c3)
 refine aw_skip ?_
 refine ac_next ?_
 refine aw_grp1 ?_
 refine wk_start ?_
 refine kv g0 (mv) ?_
 refine kv g0 (asg) ?_
 refine wk_end ?_
 refine ac_next ?_
 refine aw_ret ?_
 obtain rfl := Option.some.inj H
 exact acr hE [.tmp 4] (.tmp .nil) (.one _) [] 9999
/-! laws_FnExactUnshadowed -/
def laws_FnExactUnshadowed.f (k : Nat) (a0_0 : Int) (a0_1 : Int) (a0_2 : Int) (l0_3 : List S86) : Option (Bool) := (laws_szPolicy.f k a0_0 a0_1 a0_2 l0_3 1048576).bind fun t1 => if t1 < 0 then some true else (laws_toPolicy.f k a0_0 a0_1 a0_2 l0_3).bind fun t4 => ((spec_Unshadowed.f k t4.1 t4.2.1 t4.2.2.1 t4.2.2.2).bind fun t6 => (laws_toPolicy.f k a0_0 a0_1 a0_2 l0_3).bind fun t8 => (impl_Unshadowed.f k t8.1 t8.2.1 t8.2.2.1 t8.2.2.2).bind fun t10 => (laws_eqPolicy.f k t10.1 t10.2.1 t10.2.2.1 t10.2.2.2 t6.1 t6.2.1 t6.2.2.1 t6.2.2.2).bind fun t12 => if t12 = true then (laws_toPolicy.f k a0_0 a0_1 a0_2 l0_3).bind fun t15 => ((laws_eqPolicy.f k t8.1 t8.2.1 t8.2.2.1 t8.2.2.2 t15.1 t15.2.1 t15.2.2.1 t15.2.2.2).bind fun t17 => if t17 = true then (laws_markPolicy.f k t8.1 t8.2.1 t8.2.2.1 t8.2.2.2 1).bind fun t20 => if t20.1 < 0 then some false else ((laws_eqPolicy.f k t10.1 t10.2.1 t10.2.2.1 t10.2.2.2 t6.1 t6.2.1 t6.2.2.1 t6.2.2.2).bind fun t23 => if t23 = true then (laws_markPolicy.f k t10.1 t10.2.1 t10.2.2.1 t10.2.2.2 1).bind fun t26 => (laws_heldPolicy.f k t10.1 t10.2.1 t10.2.2.1 t26.2 1).bind fun t28 => if t28 < 0 then some false else if t28 = t26.1 then (laws_toPolicy.f k a0_0 a0_1 a0_2 l0_3).bind fun t32 => ((impl_Unshadowed.f k t32.1 t32.2.1 t32.2.2.1 t32.2.2.2).bind fun t34 => (laws_eqPolicy.f k t34.1 t34.2.1 t34.2.2.1 t34.2.2.2 t6.1 t6.2.1 t6.2.2.1 t6.2.2.2).bind fun t36 => if t36 = true then (laws_heldPolicy.f k t10.1 t10.2.1 t10.2.2.1 t26.2 1).bind fun t39 => if t39 < 0 then some false else if t39 = t26.1 then some true else some false else some false) else some false else some false) else some false) else some false)
theorem laws_FnExactUnshadowed.ok {k : Nat} {a0_0 : Int} {a0_1 : Int} {a0_2 : Int} {l0_3 : List S86} {r : Bool} (H : laws_FnExactUnshadowed.f k a0_0 a0_1 a0_2 l0_3 = some r) : ACalls Try.prog 5 [] [.agg [.lit (.int .i64 a0_0), .lit (.int .i64 a0_1), .lit (.int .i64 a0_2), .sl .o 4 (l0_3.map e86)]] [] (.lit (.bool r)) := by
 refine acalls (fn := Try.f5) (nt := 69) Try.func5 rfl rfl (Nat.le_of_ble_eq_true rfl) fun E hE => ?_
 rw [laws_FnExactUnshadowed.f] at H
 refine aw_grp1 ?_
 refine wk_start ?_
 refine kb g0 (bxA 0) ?_
 refine kv g0 (asg) ?_
 refine wk_end ?_
 refine ac_next ?_
 refine aw_grp1 ?_
 refine wk_start ?_
 refine kv g0 (asg) ?_
 refine wk_end ?_
 refine ac_next ?_
 refine aw_grp1 ?_
 refine wk_start ?_
 refine kv g0 (ldBA 4 [.lit (.int .i64 a0_0), .lit (.int .i64 a0_1), .lit (.int .i64 a0_2), .sl .o 4 (l0_3.map e86)]) ?_
 refine kv g0 (mv) ?_
 obtain ⟨t1, A2, H⟩ := of_bind H
 refine kcS0 13 (.lit (.int .i64 t1)) [] g0 (cal (laws_szPolicy.ok A2) [] 9999 .n (hf := Try.func8)) rfl rfl ?_
 refine kv g0 (asg) ?_
 refine wk_end ?_
 refine ac_next ?_
 refine aw_grp1 ?_
 refine aw_grp1 ?_
 refine wk_start ?_
 refine kv g0 (mv) ?_
 refine kv g0 (lss) ?_
 refine wk_end ?_
 refine ac_next ?_
 by_cases c3 : t1 < 0
 ·rw [if_pos c3] at H
  refine aw_ifT ?_ (decide_eq_true c3)
  refine aw_grp1 ?_
  refine wk_start ?_
  refine kv g0 (asg) ?_
  refine wk_end ?_
  refine ac_next ?_
  refine aw_ret ?_
  refine ac_thenR ?_
  obtain rfl := Option.some.inj H
  exact acr hE [.tmp 2] (.tmp .nil) (.one _) [] 9999
 rw [if_neg c3] at H
 refine aw_ifF ?_ (decide_eq_false c3)
 refine aw_skip ?_
 refine ac_next ?_
 refine aw_grp1 ?_
 refine wk_start ?_
 refine kv g0 (ldBA 4 [.lit (.int .i64 a0_0), .lit (.int .i64 a0_1), .lit (.int .i64 a0_2), .sl .o 4 (l0_3.map e86)]) ?_
 obtain ⟨t4, A5, H⟩ := of_bind H
 refine kcS1 17 (.agg [.lit (.int .i64 t4.1), .lit (.int .i64 t4.2.1), .lit (.int .i64 t4.2.2.1), .row 1]) [(1, .drow false ds60 60 4 (t4.2.2.2.map e60))] g0 (cal (laws_toPolicy.ok A5) [1] 9999 .n (hf := Try.func10)) rfl rfl ?_
 obtain ⟨t6, A7, H⟩ := of_bind H
 refine kcS1 18 (.agg [.lit (.int .i64 t6.1), .lit (.int .i64 t6.2.1), .lit (.int .i64 t6.2.2.1), .row 2]) [(2, .row 60 4 (t6.2.2.2.map e60))] g0 (cal (spec_Unshadowed.ok A7) [2] 9999 .n (hf := Try.func20)) rfl rfl ?_
 refine kb g0 (alc 3 [.int .i64 0, .int .i64 0, .int .i64 0, .slice none 0 0] [.lit (.int .i64 0), .lit (.int .i64 0), .lit (.int .i64 0), .lit (.slice none 0 0)]) ?_
 refine ks g0 (stB 4 [.lit (.int .i64 t6.1), .lit (.int .i64 t6.2.1), .lit (.int .i64 t6.2.2.1), .row 2]) ?_
 refine wk_end ?_
 refine ac_next ?_
 refine aw_grp1 ?_
 refine wk_start ?_
 refine kv g0 (ldBA 4 [.lit (.int .i64 a0_0), .lit (.int .i64 a0_1), .lit (.int .i64 a0_2), .sl .o 4 (l0_3.map e86)]) ?_
 obtain ⟨t8, A9, H⟩ := of_bind H
 refine kcS1 20 (.agg [.lit (.int .i64 t8.1), .lit (.int .i64 t8.2.1), .lit (.int .i64 t8.2.2.1), .row 4]) [(4, .drow false ds60 60 4 (t8.2.2.2.map e60))] g0 (cal (laws_toPolicy.ok A9) [4] 9999 .n (hf := Try.func10)) rfl rfl ?_
 refine kb g0 (alc 5 [.int .i64 0, .int .i64 0, .int .i64 0, .slice none 0 0] [.lit (.int .i64 0), .lit (.int .i64 0), .lit (.int .i64 0), .lit (.slice none 0 0)]) ?_
 refine ks g0 (stB 4 [.lit (.int .i64 t8.1), .lit (.int .i64 t8.2.1), .lit (.int .i64 t8.2.2.1), .row 4]) ?_
 refine wk_end ?_
 refine ac_next ?_
 refine aw_grp1 ?_
 refine wk_start ?_
 refine kv g0 (ldBA 4 [.lit (.int .i64 t8.1), .lit (.int .i64 t8.2.1), .lit (.int .i64 t8.2.2.1), .row 4]) ?_
 obtain ⟨t10, A11, H⟩ := of_bind H
 refine kcS1 22 (.agg [.lit (.int .i64 t10.1), .lit (.int .i64 t10.2.1), .lit (.int .i64 t10.2.2.1), .row 6]) [(6, .drow false ds60 60 4 (t10.2.2.2.map e60))] g0 (cal (impl_Unshadowed.ok A11) [6] 9999 .n (hf := Try.func21)) rfl rfl ?_
 refine kb g0 (alc 7 [.int .i64 0, .int .i64 0, .int .i64 0, .slice none 0 0] [.lit (.int .i64 0), .lit (.int .i64 0), .lit (.int .i64 0), .lit (.slice none 0 0)]) ?_
 refine ks g0 (stB 4 [.lit (.int .i64 t10.1), .lit (.int .i64 t10.2.1), .lit (.int .i64 t10.2.2.1), .row 6]) ?_
 refine wk_end ?_
 refine ac_next ?_
 refine aw_grp1 ?_
 refine aw_grp1 ?_
 refine wk_start ?_
 refine kv g0 (ldBA 4 [.lit (.int .i64 t10.1), .lit (.int .i64 t10.2.1), .lit (.int .i64 t10.2.2.1), .row 6]) ?_
 refine kv g0 (ldBA 4 [.lit (.int .i64 t6.1), .lit (.int .i64 t6.2.1), .lit (.int .i64 t6.2.2.1), .row 2]) ?_
 obtain ⟨t12, A13, H⟩ := of_bind H
 refine kcS0 25 (.lit (.bool t12)) [] g0 (cal (laws_eqPolicy.ok A13) [] 9999 .n (hf := Try.func13)) rfl rfl ?_
 refine kv g0 (not_) ?_
 refine wk_end ?_
 refine ac_next ?_
 by_cases c14 : t12 = true
 ·rw [if_pos c14] at H
  refine aw_ifF ?_ (nF c14)
  refine aw_skip ?_
  refine ac_next ?_
  refine aw_grp1 ?_
  refine aw_grp1 ?_
  refine wk_start ?_
  refine kv g0 (ldBA 4 [.lit (.int .i64 t8.1), .lit (.int .i64 t8.2.1), .lit (.int .i64 t8.2.2.1), .row 4]) ?_
  refine kv g0 (ldBA 4 [.lit (.int .i64 a0_0), .lit (.int .i64 a0_1), .lit (.int .i64 a0_2), .sl .o 4 (l0_3.map e86)]) ?_
  obtain ⟨t15, A16, H⟩ := of_bind H
  refine kcS1 29 (.agg [.lit (.int .i64 t15.1), .lit (.int .i64 t15.2.1), .lit (.int .i64 t15.2.2.1), .row 8]) [(8, .drow false ds60 60 4 (t15.2.2.2.map e60))] g0 (cal (laws_toPolicy.ok A16) [8] 9999 .n (hf := Try.func10)) rfl rfl ?_
  obtain ⟨t17, A18, H⟩ := of_bind H
  refine kcS0 30 (.lit (.bool t17)) [] g0 (cal (laws_eqPolicy.ok A18) [] 9999 .n (hf := Try.func13)) rfl rfl ?_
  refine kv g0 (not_) ?_
  refine wk_end_draw hM (by kernel_rfl) ?_
  refine ac_next ?_
  by_cases c19 : t17 = true
  ·rw [if_pos c19] at H
   refine aw_ifF ?_ (nF c19)
   refine aw_skip ?_
   refine ac_next ?_
   refine aw_grp1 ?_
   refine wk_start ?_
   refine kv g0 (asg) ?_
   refine wk_end ?_
   refine ac_next ?_
   refine aw_grp1 ?_
   refine wk_start ?_
   refine kv g0 (ldBA 4 [.lit (.int .i64 t8.1), .lit (.int .i64 t8.2.1), .lit (.int .i64 t8.2.2.1), .row 4]) ?_
   refine kv g0 (mv) ?_
   obtain ⟨t20, A21, H⟩ := of_bind H
   refine kcS1 34 (.lit (.int .i64 t20.1)) [(4, .drow false ds60 60 4 (t20.2.map e60))] g0 (cal (laws_markPolicy.ok A21) [4] 9999 .n (hf := Try.func14)) rfl rfl ?_
   refine kv g0 (asg) ?_
   refine wk_end ?_
   refine ac_next ?_
   refine aw_grp1 ?_
   refine aw_grp1 ?_
   refine wk_start ?_
   refine kv g0 (mv) ?_
   refine kv g0 (lss) ?_
   refine kv g0 (mv) ?_
   by_cases c22 : t20.1 < 0
   ·rw [if_pos c22] at H
    refine kx (hF (decide_eq_true c22)) ?_
    refine kx (hF (decide_eq_true c22)) ?_
    refine kx (hF (decide_eq_true c22)) ?_
    refine kx (hF (decide_eq_true c22)) ?_
    refine kv g0 (pkT (decide_eq_true c22)) ?_
    refine wk_end ?_
    refine ac_next ?_
    refine aw_ifT ?_ rfl
    refine aw_grp1 ?_
    refine wk_start ?_
    refine kv g0 (asg) ?_
    refine wk_end ?_
    refine ac_next ?_
    refine aw_ret ?_
    refine ac_thenR ?_
    obtain rfl := Option.some.inj H
    exact acr hE [.tmp 2] (.tmp .nil) (.one _) [] 9999
   rw [if_neg c22] at H
   refine kv (g1 (decide_eq_false c22)) (ldBA 4 [.lit (.int .i64 t10.1), .lit (.int .i64 t10.2.1), .lit (.int .i64 t10.2.2.1), .row 6]) ?_
   refine kv (g1 (decide_eq_false c22)) (ldBA 4 [.lit (.int .i64 t6.1), .lit (.int .i64 t6.2.1), .lit (.int .i64 t6.2.2.1), .row 2]) ?_
   obtain ⟨t23, A24, H⟩ := of_bind H
   refine kcS0 40 (.lit (.bool t23)) [] (g1 (decide_eq_false c22)) (cal (laws_eqPolicy.ok A24) [] 9999 .n (hf := Try.func13)) rfl rfl ?_
   refine kv (g1 (decide_eq_false c22)) (not_) ?_
   refine kv g0 (pkF (decide_eq_false c22)) ?_
   refine wk_end ?_
   refine ac_next ?_
   by_cases c25 : t23 = true
   ·rw [if_pos c25] at H
    refine aw_ifF ?_ (nF c25)
    refine aw_skip ?_
    refine ac_next ?_
    refine aw_grp1 ?_
    refine wk_start ?_
    refine kv g0 (asg) ?_
    refine wk_end ?_
    refine ac_next ?_
    refine aw_grp1 ?_
    refine wk_start ?_
    refine kv g0 (ldBA 4 [.lit (.int .i64 t10.1), .lit (.int .i64 t10.2.1), .lit (.int .i64 t10.2.2.1), .row 6]) ?_
    refine kv g0 (mv) ?_
    obtain ⟨t26, A27, H⟩ := of_bind H
    refine kcS1 45 (.lit (.int .i64 t26.1)) [(6, .drow false ds60 60 4 (t26.2.map e60))] g0 (cal (laws_markPolicy.ok A27) [6] 9999 .n (hf := Try.func14)) rfl rfl ?_
    refine kv g0 (asg) ?_
    refine wk_end ?_
    refine ac_next ?_
    refine aw_grp1 ?_
    refine wk_start ?_
    refine kv g0 (asg) ?_
    refine wk_end ?_
    refine ac_next ?_
    refine aw_grp1 ?_
    refine wk_start ?_
    refine kv g0 (ldBA 4 [.lit (.int .i64 t10.1), .lit (.int .i64 t10.2.1), .lit (.int .i64 t10.2.2.1), .row 6]) ?_
    refine kv g0 (mv) ?_
    obtain ⟨t28, A29, H⟩ := of_bind H
    refine kcS0 48 (.lit (.int .i64 t28)) [] g0 (cal (laws_heldPolicy.ok A29) [] 9999 .n (hf := Try.func19)) rfl rfl ?_
    refine kv g0 (asg) ?_
    refine wk_end ?_
    refine ac_next ?_
    refine aw_grp1 ?_
    refine aw_grp1 ?_
    refine wk_start ?_
    refine kv g0 (mv) ?_
    refine kv g0 (lss) ?_
    refine wk_end ?_
    refine ac_next ?_
    by_cases c30 : t28 < 0
    ·rw [if_pos c30] at H
     refine aw_ifT ?_ (decide_eq_true c30)
     refine aw_grp1 ?_
     refine wk_start ?_
     refine kv g0 (asg) ?_
     refine wk_end ?_
     refine ac_next ?_
     refine aw_ret ?_
     refine ac_thenR ?_
     obtain rfl := Option.some.inj H
     exact acr hE [.tmp 2] (.tmp .nil) (.one _) [] 9999
    rw [if_neg c30] at H
    refine aw_ifF ?_ (decide_eq_false c30)
    refine aw_skip ?_
    refine ac_next ?_
    refine aw_grp1 ?_
    refine aw_grp1 ?_
    refine wk_start ?_
    refine kv g0 (mv) ?_
    refine kv g0 (mv) ?_
    refine kv g0 (neq) ?_
    refine wk_end ?_
    refine ac_next ?_
    by_cases c31 : t28 = t26.1
    ·rw [if_pos c31] at H
     refine aw_ifF ?_ (eM c31)
     refine aw_skip ?_
     refine ac_next ?_
     refine aw_grp1 ?_
     refine wk_start ?_
     refine kv g0 (ldBA 4 [.lit (.int .i64 a0_0), .lit (.int .i64 a0_1), .lit (.int .i64 a0_2), .sl .o 4 (l0_3.map e86)]) ?_
     obtain ⟨t32, A33, H⟩ := of_bind H
     refine kcS1 55 (.agg [.lit (.int .i64 t32.1), .lit (.int .i64 t32.2.1), .lit (.int .i64 t32.2.2.1), .row 9]) [(9, .drow false ds60 60 4 (t32.2.2.2.map e60))] g0 (cal (laws_toPolicy.ok A33) [9] 9999 .n (hf := Try.func10)) rfl rfl ?_
     obtain ⟨t34, A35, H⟩ := of_bind H
     refine kcS1 56 (.agg [.lit (.int .i64 t34.1), .lit (.int .i64 t34.2.1), .lit (.int .i64 t34.2.2.1), .row 10]) [(10, .drow false ds60 60 4 (t34.2.2.2.map e60))] g0 (cal (impl_Unshadowed.ok A35) [10] 9999 .n (hf := Try.func21)) rfl rfl ?_
     refine kb g0 (alc 11 [.int .i64 0, .int .i64 0, .int .i64 0, .slice none 0 0] [.lit (.int .i64 0), .lit (.int .i64 0), .lit (.int .i64 0), .lit (.slice none 0 0)]) ?_
     refine ks g0 (stB 4 [.lit (.int .i64 t34.1), .lit (.int .i64 t34.2.1), .lit (.int .i64 t34.2.2.1), .row 10]) ?_
     refine wk_end ?_
     refine ac_next ?_
     refine aw_grp1 ?_
     refine aw_grp1 ?_
     refine wk_start ?_
     refine kv g0 (ldBA 4 [.lit (.int .i64 t34.1), .lit (.int .i64 t34.2.1), .lit (.int .i64 t34.2.2.1), .row 10]) ?_
     refine kv g0 (ldBA 4 [.lit (.int .i64 t6.1), .lit (.int .i64 t6.2.1), .lit (.int .i64 t6.2.2.1), .row 2]) ?_
     obtain ⟨t36, A37, H⟩ := of_bind H
     refine kcS0 59 (.lit (.bool t36)) [] g0 (cal (laws_eqPolicy.ok A37) [] 9999 .n (hf := Try.func13)) rfl rfl ?_
     refine kv g0 (not_) ?_
     refine wk_end ?_
     refine ac_next ?_
     by_cases c38 : t36 = true
     ·rw [if_pos c38] at H
      refine aw_ifF ?_ (nF c38)
      refine aw_skip ?_
      refine ac_next ?_
      refine aw_grp1 ?_
      refine wk_start ?_
      refine kv g0 (asg) ?_
      refine wk_end ?_
      refine ac_next ?_
      refine aw_grp1 ?_
      refine wk_start ?_
      refine kv g0 (ldBA 4 [.lit (.int .i64 t10.1), .lit (.int .i64 t10.2.1), .lit (.int .i64 t10.2.2.1), .row 6]) ?_
      refine kv g0 (mv) ?_
      obtain ⟨t39, A40, H⟩ := of_bind H
      refine kcS0 63 (.lit (.int .i64 t39)) [] g0 (cal (laws_heldPolicy.ok A40) [] 9999 .n (hf := Try.func19)) rfl rfl ?_
      refine kv g0 (asg) ?_
      refine wk_end ?_
      refine ac_next ?_
      refine aw_grp1 ?_
      refine aw_grp1 ?_
      refine wk_start ?_
      refine kv g0 (mv) ?_
      refine kv g0 (lss) ?_
      refine wk_end ?_
      refine ac_next ?_
      by_cases c41 : t39 < 0
      ·rw [if_pos c41] at H
       refine aw_ifT ?_ (decide_eq_true c41)
       refine aw_grp1 ?_
       refine wk_start ?_
       refine kv g0 (asg) ?_
       refine wk_end ?_
       refine ac_next ?_
       refine aw_ret ?_
       refine ac_thenR ?_
       obtain rfl := Option.some.inj H
       exact acr hE [.tmp 2] (.tmp .nil) (.one _) [] 9999
      rw [if_neg c41] at H
      refine aw_ifF ?_ (decide_eq_false c41)
      refine aw_skip ?_
      refine ac_next ?_
      refine aw_grp1 ?_
      refine aw_grp1 ?_
      refine wk_start ?_
      refine kv g0 (mv) ?_
      refine kv g0 (mv) ?_
      refine kv g0 (neq) ?_
      refine wk_end ?_
      refine ac_next ?_
      by_cases c42 : t39 = t26.1
      ·rw [if_pos c42] at H
       refine aw_ifF ?_ (eM c42)
       refine aw_skip ?_
       refine ac_next ?_
       refine aw_grp1 ?_
       refine wk_start ?_
       refine kv g0 (asg) ?_
       refine wk_end ?_
       refine ac_next ?_
       refine aw_ret ?_
       obtain rfl := Option.some.inj H
       exact acr hE [.tmp 2] (.tmp .nil) (.one _) [] 9999
      rw [if_neg c42] at H
      refine aw_ifT ?_ (eN c42)
      refine aw_grp1 ?_
      refine wk_start ?_
      refine kv g0 (asg) ?_
      refine wk_end ?_
      refine ac_next ?_
      refine aw_ret ?_
      refine ac_thenR ?_
      obtain rfl := Option.some.inj H
      exact acr hE [.tmp 2] (.tmp .nil) (.one _) [] 9999
     rw [if_neg c38] at H
     refine aw_ifT ?_ (nT (bF c38))
     refine aw_grp1 ?_
     refine wk_start ?_
     refine kv g0 (asg) ?_
     refine wk_end ?_
     refine ac_next ?_
     refine aw_ret ?_
     refine ac_thenR ?_
     obtain rfl := Option.some.inj H
     exact acr hE [.tmp 2] (.tmp .nil) (.one _) [] 9999
    rw [if_neg c31] at H
    refine aw_ifT ?_ (eN c31)
    refine aw_grp1 ?_
    refine wk_start ?_
    refine kv g0 (asg) ?_
    refine wk_end ?_
    refine ac_next ?_
    refine aw_ret ?_
    refine ac_thenR ?_
    obtain rfl := Option.some.inj H
    exact acr hE [.tmp 2] (.tmp .nil) (.one _) [] 9999
   rw [if_neg c25] at H
   refine aw_ifT ?_ (nT (bF c25))
   refine aw_grp1 ?_
   refine wk_start ?_
   refine kv g0 (asg) ?_
   refine wk_end ?_
   refine ac_next ?_
   refine aw_ret ?_
   refine ac_thenR ?_
   obtain rfl := Option.some.inj H
   exact acr hE [.tmp 2] (.tmp .nil) (.one _) [] 9999
  rw [if_neg c19] at H
  refine aw_ifT ?_ (nT (bF c19))
  refine aw_grp1 ?_
  refine wk_start ?_
  refine kv g0 (asg) ?_
  refine wk_end ?_
  refine ac_next ?_
  refine aw_ret ?_
  refine ac_thenR ?_
  obtain rfl := Option.some.inj H
  exact acr hE [.tmp 2] (.tmp .nil) (.one _) [] 9999
 rw [if_neg c14] at H
 refine aw_ifT ?_ (nT (bF c14))
 refine aw_grp1 ?_
 refine wk_start ?_
 refine kv g0 (asg) ?_
 refine wk_end ?_
 refine ac_next ?_
 refine aw_ret ?_
 refine ac_thenR ?_
 obtain rfl := Option.some.inj H
 exact acr hE [.tmp 2] (.tmp .nil) (.one _) [] 9999
end Go.Proofs.Ythgmgbccgokfeaa.PFnExactUnshadowed
