import Derived.Test.YtlmpaphlnlgelaaGreatPFnWaysToldx4
set_option linter.unusedVariables false
set_option linter.unusedSimpArgs false
set_option maxRecDepth 100000
namespace Go.Proofs.YtlmpaphlnlgelaaGreat.PFnWaysTold
open Go Go.RowKit Go.Proofs.YtlmpaphlnlgelaaGreatA
/-! laws_FnWaysTold -/
def laws_FnWaysTold.f (k : Nat) (l0 : List Int) : Option (Bool) := (laws_big.f l0).bind fun t1 => if t1 = true then some true else (spec_DrawNextOf.f k l0).bind fun t4 => (spec_DrawWaysIn.f k l0).bind fun t6 => (impl_NextOf.f k t4.1 t4.2).bind fun t8 => ((spec_NextOf.f k t4.1 t4.2).bind fun t10 => ((laws_sameInts.f k t8 t10).bind fun t12 => (if t12 = true then ((impl_LongestRun.f k t6).bind fun t15 => ((spec_LongestRun.f k t6).bind fun t17 => (if t15 = t17 then ((impl_ShortestRun.f k t6).bind fun t20 => ((spec_ShortestRun.f k t6).bind fun t22 => (if t20 = t22 then ((impl_WaysIn.f k t6).bind fun t25 => ((spec_WaysIn.f k t6).bind fun t27 => (if t25 = t27 then ((impl_ResultsIn.f k t6).bind fun t30 => ((spec_ResultsIn.f k t6).bind fun t32 => ((laws_sameInts.f k t30 t32).bind fun t34 => (if t34 = true then ((impl_FieldsRead.f k t6).bind fun t37 => ((spec_FieldsRead.f k t6).bind fun t39 => ((laws_sameInts.f k t37 t39).bind fun t41 => some t41))) else some false)))) else some false))) else some false))) else some false))) else some false)))
theorem laws_FnWaysTold.ok {k : Nat} {l0 : List Int} {r : Bool} (H : laws_FnWaysTold.f k l0 = some r) : ACalls Tryz.prog 3 [] [.sl .o 1 (l0.map (eI .u8))] [] (.lit (.bool r)) := by
 refine acalls (fn := Tryz.f3) (nt := 57) Tryz.func3 rfl rfl (Nat.le_of_ble_eq_true rfl) fun E hE => ?_
 rw [laws_FnWaysTold.f] at H
 refine aw_grp1 ?_
 refine wk_start ?_
 refine kv g0 (asg) ?_
 refine wk_end ?_
 refine ac_next ?_
 refine aw_grp1 ?_
 refine aw_grp1 ?_
 refine wk_start ?_
 refine kv g0 (mv) ?_
 obtain ⟨t1, A2, H⟩ := of_bind H
 refine kcS0 7 (.lit (.bool t1)) [] g0 (cal (laws_big.ok A2) [] 9999 .n (hf := Tryz.func4)) rfl rfl ?_
 refine wk_end ?_
 refine ac_next ?_
 by_cases c3 : t1 = true
 ·rw [if_pos c3] at H
  refine aw_ifT ?_ c3
  refine aw_grp1 ?_
  refine wk_start ?_
  refine kv g0 (asg) ?_
  refine wk_end ?_
  refine ac_next ?_
  refine aw_ret ?_
  refine ac_thenR ?_
  obtain rfl := Option.some.inj H
  exact acr hE [.tmp 2] (.tmp .nil) (.one _) [] 9999
 rw [if_neg c3] at H
 refine aw_ifF ?_ (bF c3)
 refine aw_skip ?_
 refine ac_next ?_
 refine aw_grp1 ?_
 refine wk_start ?_
 refine kv g0 (mv) ?_
 obtain ⟨t4, A5, H⟩ := of_bind H
 refine kcS1 10 (.tup [.row 0, .lit (.int .i64 t4.2)]) [(0, .row 41 4 (t4.1.map e41))] g0 (cal (spec_DrawNextOf.ok A5) [0] 9999 .n (hf := Tryz.func5)) rfl rfl ?_
 refine kv g0 (mv) ?_
 refine kv g0 (ext) ?_
 refine kv g0 (ext) ?_
 refine kv g0 (asg) ?_
 refine kv g0 (asg) ?_
 refine wk_end ?_
 refine ac_next ?_
 refine aw_grp1 ?_
 refine wk_start ?_
 refine kv g0 (mv) ?_
 obtain ⟨t6, A7, H⟩ := of_bind H
 refine kcS1 14 (.row 1) [(1, .row 41 4 (t6.map e41))] g0 (cal (spec_DrawWaysIn.ok A7) [1] 9999 .n (hf := Tryz.func6)) rfl rfl ?_
 refine kv g0 (asg) ?_
 refine wk_end ?_
 refine ac_next ?_
 refine aw_grp1 ?_
 refine wk_start ?_
 refine kv g0 (mv) ?_
 refine kv g0 (mv) ?_
 obtain ⟨t8, A9, H⟩ := of_bind H
 refine kcS1 17 (.row 2) [(2, .row 3 1 (t8.map (eI .i64)))] g0 (cal (impl_NextOf.ok A9) [2] 9999 .n (hf := Tryz.func8)) rfl rfl ?_
 refine kv g0 (mv) ?_
 refine kv g0 (mv) ?_
 obtain ⟨t10, A11, H⟩ := of_bind H
 refine kcS1 20 (.row 3) [(3, .row 3 1 (t10.map (eI .i64)))] g0 (cal (spec_NextOf.ok A11) [3] 9999 .n (hf := Tryz.func9)) rfl rfl ?_
 obtain ⟨t12, A13, H⟩ := of_bind H
 refine kcS0 21 (.lit (.bool t12)) [] g0 (cal (laws_sameInts.ok A13) [] 9999 .n (hf := Tryz.func7)) rfl rfl ?_
 refine kv g0 (mv) ?_
 by_cases c14 : t12 = true
 ·rw [if_pos c14] at H
  refine kv (g1 c14) (mv) ?_
  obtain ⟨t15, A16, H⟩ := of_bind H
  refine kcS0 24 (.lit (.int .i64 t15)) [] (g1 c14) (cal (impl_LongestRun.ok A16) [] 9999 .n (hf := Tryz.func10)) rfl rfl ?_
  refine kv (g1 c14) (mv) ?_
  obtain ⟨t17, A18, H⟩ := of_bind H
  refine kcS0 26 (.lit (.int .i64 t17)) [] (g1 c14) (cal (spec_LongestRun.ok A18) [] 9999 .n (hf := Tryz.func11)) rfl rfl ?_
  refine kv (g1 c14) (eql) ?_
  refine kv g0 (pkT c14) ?_
  refine kv g0 (mv) ?_
  by_cases c19 : t15 = t17
  ·rw [if_pos c19] at H
   refine kv (g1 (eT c19)) (mv) ?_
   obtain ⟨t20, A21, H⟩ := of_bind H
   refine kcS0 31 (.lit (.int .i64 t20)) [] (g1 (eT c19)) (cal (impl_ShortestRun.ok A21) [] 9999 .n (hf := Tryz.func12)) rfl rfl ?_
   refine kv (g1 (eT c19)) (mv) ?_
   obtain ⟨t22, A23, H⟩ := of_bind H
   refine kcS0 33 (.lit (.int .i64 t22)) [] (g1 (eT c19)) (cal (spec_ShortestRun.ok A23) [] 9999 .n (hf := Tryz.func13)) rfl rfl ?_
   refine kv (g1 (eT c19)) (eql) ?_
   refine kv g0 (pkT (eT c19)) ?_
   refine kv g0 (mv) ?_
   by_cases c24 : t20 = t22
   ·rw [if_pos c24] at H
    refine kv (g1 (eT c24)) (mv) ?_
    obtain ⟨t25, A26, H⟩ := of_bind H
    refine kcS0 38 (.lit (.int .i64 t25)) [] (g1 (eT c24)) (cal (impl_WaysIn.ok A26) [] 9999 .n (hf := Tryz.func14)) rfl rfl ?_
    refine kv (g1 (eT c24)) (mv) ?_
    obtain ⟨t27, A28, H⟩ := of_bind H
    refine kcS0 40 (.lit (.int .i64 t27)) [] (g1 (eT c24)) (cal (spec_WaysIn.ok A28) [] 9999 .n (hf := Tryz.func15)) rfl rfl ?_
    refine kv (g1 (eT c24)) (eql) ?_
    refine kv g0 (pkT (eT c24)) ?_
    refine kv g0 (mv) ?_
    by_cases c29 : t25 = t27
    ·rw [if_pos c29] at H
     refine kv (g1 (eT c29)) (mv) ?_
     obtain ⟨t30, A31, H⟩ := of_bind H
     refine kcS1 45 (.row 4) [(4, .row 3 1 (t30.map (eI .i64)))] (g1 (eT c29)) (cal (impl_ResultsIn.ok A31) [4] 9999 .n (hf := Tryz.func16)) rfl rfl ?_
     refine kv (g1 (eT c29)) (mv) ?_
     obtain ⟨t32, A33, H⟩ := of_bind H
     refine kcS1 47 (.row 5) [(5, .row 3 1 (t32.map (eI .i64)))] (g1 (eT c29)) (cal (spec_ResultsIn.ok A33) [5] 9999 .n (hf := Tryz.func17)) rfl rfl ?_
     obtain ⟨t34, A35, H⟩ := of_bind H
     refine kcS0 48 (.lit (.bool t34)) [] (g1 (eT c29)) (cal (laws_sameInts.ok A35) [] 9999 .n (hf := Tryz.func7)) rfl rfl ?_
     refine kv g0 (pkT (eT c29)) ?_
     refine kv g0 (mv) ?_
     by_cases c36 : t34 = true
     ·rw [if_pos c36] at H
      refine kv (g1 c36) (mv) ?_
      obtain ⟨t37, A38, H⟩ := of_bind H
      refine kcS1 52 (.row 6) [(6, .row 3 1 (t37.map (eI .i64)))] (g1 c36) (cal (impl_FieldsRead.ok A38) [6] 9999 .n (hf := Tryz.func18)) rfl rfl ?_
      refine kv (g1 c36) (mv) ?_
      obtain ⟨t39, A40, H⟩ := of_bind H
      refine kcS1 54 (.row 7) [(7, .row 3 1 (t39.map (eI .i64)))] (g1 c36) (cal (spec_FieldsRead.ok A40) [7] 9999 .n (hf := Tryz.func19)) rfl rfl ?_
      obtain ⟨t41, A42, H⟩ := of_bind H
      refine kcS0 55 (.lit (.bool t41)) [] (g1 c36) (cal (laws_sameInts.ok A42) [] 9999 .n (hf := Tryz.func7)) rfl rfl ?_
      refine kv g0 (pkT c36) ?_
      refine kv g0 (asg) ?_
      refine wk_end ?_
      refine ac_next ?_
      refine aw_ret ?_
      obtain rfl := Option.some.inj H
      exact acr hE [.tmp 2] (.tmp .nil) (.one _) [] 9999
     rw [if_neg c36] at H
     refine kx (hT (bF c36)) ?_
     refine kx (hT (bF c36)) ?_
     refine kx (hT (bF c36)) ?_
     refine kx (hT (bF c36)) ?_
     refine kx (hT (bF c36)) ?_
     refine kv g0 (pkF (bF c36)) ?_
     refine kv g0 (asg) ?_
     refine wk_end ?_
     refine ac_next ?_
     refine aw_ret ?_
     obtain rfl := Option.some.inj H
     exact acr hE [.tmp 2] (.tmp .nil) (.one _) [] 9999
    rw [if_neg c29] at H
    refine kx (hT (eF c29)) ?_
    refine kx (hT (eF c29)) ?_
    refine kx (hT (eF c29)) ?_
    refine kx (hT (eF c29)) ?_
    refine kx (hT (eF c29)) ?_
    refine kv g0 (pkF (eF c29)) ?_
    refine kv g0 (mv) ?_
    refine kx (hT rfl) ?_
    refine kx (hT rfl) ?_
    refine kx (hT rfl) ?_
    refine kx (hT rfl) ?_
    refine kx (hT rfl) ?_
    refine kv g0 (pkF rfl) ?_
    refine kv g0 (asg) ?_
    refine wk_end ?_
    refine ac_next ?_
    refine aw_ret ?_
    obtain rfl := Option.some.inj H
    exact acr hE [.tmp 2] (.tmp .nil) (.one _) [] 9999
   rw [if_neg c24] at H
   refine kx (hT (eF c24)) ?_
   refine kx (hT (eF c24)) ?_
   refine kx (hT (eF c24)) ?_
   refine kx (hT (eF c24)) ?_
   refine kx (hT (eF c24)) ?_
   refine kv g0 (pkF (eF c24)) ?_
   refine kv g0 (mv) ?_
   refine kx (hT rfl) ?_
   refine kx (hT rfl) ?_
   refine kx (hT rfl) ?_
   refine kx (hT rfl) ?_
   refine kx (hT rfl) ?_
   refine kv g0 (pkF rfl) ?_
   refine kv g0 (mv) ?_
   refine kx (hT rfl) ?_
   refine kx (hT rfl) ?_
   refine kx (hT rfl) ?_
   refine kx (hT rfl) ?_
   refine kx (hT rfl) ?_
   refine kv g0 (pkF rfl) ?_
   refine kv g0 (asg) ?_
   refine wk_end ?_
   refine ac_next ?_
   refine aw_ret ?_
   obtain rfl := Option.some.inj H
   exact acr hE [.tmp 2] (.tmp .nil) (.one _) [] 9999
  rw [if_neg c19] at H
  refine kx (hT (eF c19)) ?_
  refine kx (hT (eF c19)) ?_
  refine kx (hT (eF c19)) ?_
  refine kx (hT (eF c19)) ?_
  refine kx (hT (eF c19)) ?_
  refine kv g0 (pkF (eF c19)) ?_
  refine kv g0 (mv) ?_
  refine kx (hT rfl) ?_
  refine kx (hT rfl) ?_
  refine kx (hT rfl) ?_
  refine kx (hT rfl) ?_
  refine kx (hT rfl) ?_
  refine kv g0 (pkF rfl) ?_
  refine kv g0 (mv) ?_
  refine kx (hT rfl) ?_
  refine kx (hT rfl) ?_
  refine kx (hT rfl) ?_
  refine kx (hT rfl) ?_
  refine kx (hT rfl) ?_
  refine kv g0 (pkF rfl) ?_
  refine kv g0 (mv) ?_
  refine kx (hT rfl) ?_
  refine kx (hT rfl) ?_
  refine kx (hT rfl) ?_
  refine kx (hT rfl) ?_
  refine kx (hT rfl) ?_
  refine kv g0 (pkF rfl) ?_
  refine kv g0 (asg) ?_
  refine wk_end ?_
  refine ac_next ?_
  refine aw_ret ?_
  obtain rfl := Option.some.inj H
  exact acr hE [.tmp 2] (.tmp .nil) (.one _) [] 9999
 rw [if_neg c14] at H
 refine kx (hT (bF c14)) ?_
 refine kx (hT (bF c14)) ?_
 refine kx (hT (bF c14)) ?_
 refine kx (hT (bF c14)) ?_
 refine kx (hT (bF c14)) ?_
 refine kv g0 (pkF (bF c14)) ?_
 refine kv g0 (mv) ?_
 refine kx (hT rfl) ?_
 refine kx (hT rfl) ?_
 refine kx (hT rfl) ?_
 refine kx (hT rfl) ?_
 refine kx (hT rfl) ?_
 refine kv g0 (pkF rfl) ?_
 refine kv g0 (mv) ?_
 refine kx (hT rfl) ?_
 refine kx (hT rfl) ?_
 refine kx (hT rfl) ?_
 refine kx (hT rfl) ?_
 refine kx (hT rfl) ?_
 refine kv g0 (pkF rfl) ?_
 refine kv g0 (mv) ?_
 refine kx (hT rfl) ?_
 refine kx (hT rfl) ?_
 refine kx (hT rfl) ?_
 refine kx (hT rfl) ?_
 refine kx (hT rfl) ?_
 refine kv g0 (pkF rfl) ?_
 refine kv g0 (mv) ?_
 refine kx (hT rfl) ?_
 refine kx (hT rfl) ?_
 refine kx (hT rfl) ?_
 refine kx (hT rfl) ?_
 refine kx (hT rfl) ?_
 refine kv g0 (pkF rfl) ?_
 refine kv g0 (asg) ?_
 refine wk_end ?_
 refine ac_next ?_
 refine aw_ret ?_
 obtain rfl := Option.some.inj H
 exact acr hE [.tmp 2] (.tmp .nil) (.one _) [] 9999
end Go.Proofs.YtlmpaphlnlgelaaGreat.PFnWaysTold
