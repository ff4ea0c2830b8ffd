import Derived.Test.YtfeaemlakniijaaPFnExactLogRightx3
set_option linter.unusedVariables false
set_option linter.unusedSimpArgs false
set_option maxRecDepth 100000
namespace Go.Proofs.Ytfeaemlakniijaa.PFnExactLogRight
open Go Go.RowKit Go.Proofs.YtfeaemlakniijaaA
/-! laws_eqWorld -/
def laws_eqWorld.f (k : Nat) (l0_0 : List (List (List S212))) (l0_1 : List S164) (l0_2 : List S75) (l0_3 : List S98) (l0_4 : List Int) (l0_5 : List S97) (a0_6 : Int) (l0_7 : List Int) (l0_8 : List S169) (a0_9 : Int) (l0_10 : List Int) (l0_11 : List S160) (l1_0 : List (List (List S212))) (l1_1 : List S164) (l1_2 : List S75) (l1_3 : List S98) (l1_4 : List Int) (l1_5 : List S97) (a1_6 : Int) (l1_7 : List Int) (l1_8 : List S169) (a1_9 : Int) (l1_10 : List Int) (l1_11 : List S160) : Option (Bool) := (laws_eqInsSSS.f k l0_0 l1_0).bind fun t1 => if t1 = true then (laws_eqRingS.f k l0_1 l1_1).bind fun t4 => if t4 = true then (laws_eqSenderS.f k l0_2 l1_2).bind fun t7 => if t7 = true then (laws_eqKeeper.f k l0_3 l0_4 l0_5 a0_6 l0_7 l1_3 l1_4 l1_5 a1_6 l1_7).bind fun t10 => if t10 = true then (laws_eqLetterS.f k l0_8 l1_8).bind fun t13 => if t13 = true then if a0_9 = a1_9 then (laws_eqIntS.f k l0_10 l1_10).bind fun t17 => if t17 = true then (laws_eqSeenS.f k l0_11 l1_11).bind fun t20 => if t20 = true then some true else some false else some false else some false else some false else some false else some false else some false else some false
theorem laws_eqWorld.ok {k : Nat} {l0_0 : List (List (List S212))} {l0_1 : List S164} {l0_2 : List S75} {l0_3 : List S98} {l0_4 : List Int} {l0_5 : List S97} {a0_6 : Int} {l0_7 : List Int} {l0_8 : List S169} {a0_9 : Int} {l0_10 : List Int} {l0_11 : List S160} {l1_0 : List (List (List S212))} {l1_1 : List S164} {l1_2 : List S75} {l1_3 : List S98} {l1_4 : List Int} {l1_5 : List S97} {a1_6 : Int} {l1_7 : List Int} {l1_8 : List S169} {a1_9 : Int} {l1_10 : List Int} {l1_11 : List S160} {r : Bool} (H : laws_eqWorld.f k l0_0 l0_1 l0_2 l0_3 l0_4 l0_5 a0_6 l0_7 l0_8 a0_9 l0_10 l0_11 l1_0 l1_1 l1_2 l1_3 l1_4 l1_5 a1_6 l1_7 l1_8 a1_9 l1_10 l1_11 = some r) : ACalls Try.prog 34 [] [.agg [.sl .o 1 (l0_0.map (eL 1 (eL 4 (e212)))), .sl .o 4 (l0_1.map e164), .sl .o 5 (l0_2.map e75), .sl .o 6 (l0_3.map e98), .sl .o 1 (l0_4.map (eI .i64)), .sl .o 6 (l0_5.map e97), .lit (.int .i64 a0_6), .sl .o 1 (l0_7.map (eI .i64)), .sl .o 3 (l0_8.map e169), .lit (.int .i64 a0_9), .sl .o 1 (l0_10.map (eI .i64)), .sl .o 4 (l0_11.map e160)], .agg [.sl .o 1 (l1_0.map (eL 1 (eL 4 (e212)))), .sl .o 4 (l1_1.map e164), .sl .o 5 (l1_2.map e75), .sl .o 6 (l1_3.map e98), .sl .o 1 (l1_4.map (eI .i64)), .sl .o 6 (l1_5.map e97), .lit (.int .i64 a1_6), .sl .o 1 (l1_7.map (eI .i64)), .sl .o 3 (l1_8.map e169), .lit (.int .i64 a1_9), .sl .o 1 (l1_10.map (eI .i64)), .sl .o 4 (l1_11.map e160)]] [] (.lit (.bool r)) := by
 refine acalls (fn := Try.f34) (nt := 52) Try.func34 rfl rfl (Nat.le_of_ble_eq_true rfl) fun E hE => ?_
 rw [laws_eqWorld.f] at H
 refine aw_grp1 ?_
 refine wk_start ?_
 refine kb g0 (bxA 0) ?_
 refine kb g0 (bxA 1) ?_
 refine kv g0 (asg) ?_
 refine wk_end ?_
 refine ac_next ?_
 refine aw_grp1 ?_
 refine aw_grp1 ?_
 refine wk_start ?_
 refine kv g0 (faB 0 0) ?_
 refine kv g0 (ldB) ?_
 refine kv g0 (faB 0 0) ?_
 refine kv g0 (ldB) ?_
 obtain ⟨t1, A2, H⟩ := of_bind H
 refine kcS0 9 (.lit (.bool t1)) [] g0 (cal (laws_eqInsSSS.ok A2) [] 9999 .n (hf := Try.func88)) rfl rfl ?_
 refine kv g0 (not_) ?_
 refine wk_end ?_
 refine ac_next ?_
 by_cases c3 : t1 = true
 ·rw [if_pos c3] at H
  refine aw_ifF ?_ (nF c3)
  refine aw_skip ?_
  refine ac_next ?_
  refine aw_grp1 ?_
  refine aw_grp1 ?_
  refine wk_start ?_
  refine kv g0 (faB 1 1) ?_
  refine kv g0 (ldB) ?_
  refine kv g0 (faB 1 1) ?_
  refine kv g0 (ldB) ?_
  obtain ⟨t4, A5, H⟩ := of_bind H
  refine kcS0 15 (.lit (.bool t4)) [] g0 (cal (laws_eqRingS.ok A5) [] 9999 .n (hf := Try.func89)) rfl rfl ?_
  refine kv g0 (not_) ?_
  refine wk_end ?_
  refine ac_next ?_
  by_cases c6 : t4 = true
  ·rw [if_pos c6] at H
   refine aw_ifF ?_ (nF c6)
   refine aw_skip ?_
   refine ac_next ?_
   refine aw_grp1 ?_
   refine aw_grp1 ?_
   refine wk_start ?_
   refine kv g0 (faB 2 2) ?_
   refine kv g0 (ldB) ?_
   refine kv g0 (faB 2 2) ?_
   refine kv g0 (ldB) ?_
   obtain ⟨t7, A8, H⟩ := of_bind H
   refine kcS0 21 (.lit (.bool t7)) [] g0 (cal (laws_eqSenderS.ok A8) [] 9999 .n (hf := Try.func90)) rfl rfl ?_
   refine kv g0 (not_) ?_
   refine wk_end ?_
   refine ac_next ?_
   by_cases c9 : t7 = true
   ·rw [if_pos c9] at H
    refine aw_ifF ?_ (nF c9)
    refine aw_skip ?_
    refine ac_next ?_
    refine aw_grp1 ?_
    refine aw_grp1 ?_
    refine wk_start ?_
    refine kv g0 (faB 3 3) ?_
    refine kv g0 (ldBA 5 [.sl .o 6 (l0_3.map e98), .sl .o 1 (l0_4.map (eI .i64)), .sl .o 6 (l0_5.map e97), .lit (.int .i64 a0_6), .sl .o 1 (l0_7.map (eI .i64))]) ?_
    refine kv g0 (faB 3 3) ?_
    refine kv g0 (ldBA 5 [.sl .o 6 (l1_3.map e98), .sl .o 1 (l1_4.map (eI .i64)), .sl .o 6 (l1_5.map e97), .lit (.int .i64 a1_6), .sl .o 1 (l1_7.map (eI .i64))]) ?_
    obtain ⟨t10, A11, H⟩ := of_bind H
    refine kcS0 27 (.lit (.bool t10)) [] g0 (cal (laws_eqKeeper.ok A11) [] 9999 .n (hf := Try.func91)) rfl rfl ?_
    refine kv g0 (not_) ?_
    refine wk_end ?_
    refine ac_next ?_
    by_cases c12 : t10 = true
    ·rw [if_pos c12] at H
     refine aw_ifF ?_ (nF c12)
     refine aw_skip ?_
     refine ac_next ?_
     refine aw_grp1 ?_
     refine aw_grp1 ?_
     refine wk_start ?_
     refine kv g0 (faB 8 8) ?_
     refine kv g0 (ldB) ?_
     refine kv g0 (faB 8 8) ?_
     refine kv g0 (ldB) ?_
     obtain ⟨t13, A14, H⟩ := of_bind H
     refine kcS0 33 (.lit (.bool t13)) [] g0 (cal (laws_eqLetterS.ok A14) [] 9999 .n (hf := Try.func92)) rfl rfl ?_
     refine kv g0 (not_) ?_
     refine wk_end ?_
     refine ac_next ?_
     by_cases c15 : t13 = true
     ·rw [if_pos c15] at H
      refine aw_ifF ?_ (nF c15)
      refine aw_skip ?_
      refine ac_next ?_
      refine aw_grp1 ?_
      refine aw_grp1 ?_
      refine wk_start ?_
      refine kv g0 (faB 9 9) ?_
      refine kv g0 (ldB) ?_
      refine kv g0 (faB 9 9) ?_
      refine kv g0 (ldB) ?_
      refine kv g0 (neq) ?_
      refine wk_end ?_
      refine ac_next ?_
      by_cases c16 : a0_9 = a1_9
      ·rw [if_pos c16] at H
       refine aw_ifF ?_ (eM c16)
       refine aw_skip ?_
       refine ac_next ?_
       refine aw_grp1 ?_
       refine aw_grp1 ?_
       refine wk_start ?_
       refine kv g0 (faB 10 10) ?_
       refine kv g0 (ldB) ?_
       refine kv g0 (faB 10 10) ?_
       refine kv g0 (ldB) ?_
       obtain ⟨t17, A18, H⟩ := of_bind H
       refine kcS0 44 (.lit (.bool t17)) [] g0 (cal (laws_eqIntS.ok A18) [] 9999 .n (hf := Try.func93)) rfl rfl ?_
       refine kv g0 (not_) ?_
       refine wk_end ?_
       refine ac_next ?_
       by_cases c19 : t17 = true
       ·rw [if_pos c19] at H
        refine aw_ifF ?_ (nF c19)
        refine aw_skip ?_
        refine ac_next ?_
        refine aw_grp1 ?_
        refine aw_grp1 ?_
        refine wk_start ?_
        refine kv g0 (faB 11 11) ?_
        refine kv g0 (ldB) ?_
        refine kv g0 (faB 11 11) ?_
        refine kv g0 (ldB) ?_
        obtain ⟨t20, A21, H⟩ := of_bind H
        refine kcS0 50 (.lit (.bool t20)) [] g0 (cal (laws_eqSeenS.ok A21) [] 9999 .n (hf := Try.func94)) rfl rfl ?_
        refine kv g0 (not_) ?_
        refine wk_end ?_
        refine ac_next ?_
        by_cases c22 : t20 = true
        ·rw [if_pos c22] at H
         refine aw_ifF ?_ (nF c22)
         refine aw_skip ?_
         refine ac_next ?_
         refine aw_grp1 ?_
         refine wk_start ?_
         refine kv g0 (asg) ?_
         refine wk_end ?_
         refine ac_next ?_
         refine aw_ret ?_
         obtain rfl := Option.some.inj H
         exact acr hE [.tmp 4] (.tmp .nil) (.one _) [] 9999
        rw [if_neg c22] at H
        refine aw_ifT ?_ (nT (bF c22))
        refine aw_grp1 ?_
        refine wk_start ?_
        refine kv g0 (asg) ?_
        refine wk_end ?_
        refine ac_next ?_
        refine aw_ret ?_
        refine ac_thenR ?_
        obtain rfl := Option.some.inj H
        exact acr hE [.tmp 4] (.tmp .nil) (.one _) [] 9999
       rw [if_neg c19] at H
       refine aw_ifT ?_ (nT (bF c19))
       refine aw_grp1 ?_
       refine wk_start ?_
       refine kv g0 (asg) ?_
       refine wk_end ?_
       refine ac_next ?_
       refine aw_ret ?_
       refine ac_thenR ?_
       obtain rfl := Option.some.inj H
       exact acr hE [.tmp 4] (.tmp .nil) (.one _) [] 9999
      rw [if_neg c16] at H
      refine aw_ifT ?_ (eN c16)
      refine aw_grp1 ?_
      refine wk_start ?_
      refine kv g0 (asg) ?_
      refine wk_end ?_
      refine ac_next ?_
      refine aw_ret ?_
      refine ac_thenR ?_
      obtain rfl := Option.some.inj H
      exact acr hE [.tmp 4] (.tmp .nil) (.one _) [] 9999
     rw [if_neg c15] at H
     refine aw_ifT ?_ (nT (bF c15))
     refine aw_grp1 ?_
     refine wk_start ?_
     refine kv g0 (asg) ?_
     refine wk_end ?_
     refine ac_next ?_
     refine aw_ret ?_
     refine ac_thenR ?_
     obtain rfl := Option.some.inj H
     exact acr hE [.tmp 4] (.tmp .nil) (.one _) [] 9999
    rw [if_neg c12] at H
    refine aw_ifT ?_ (nT (bF c12))
    refine aw_grp1 ?_
    refine wk_start ?_
    refine kv g0 (asg) ?_
    refine wk_end ?_
    refine ac_next ?_
    refine aw_ret ?_
    refine ac_thenR ?_
    obtain rfl := Option.some.inj H
    exact acr hE [.tmp 4] (.tmp .nil) (.one _) [] 9999
   rw [if_neg c9] at H
   refine aw_ifT ?_ (nT (bF c9))
   refine aw_grp1 ?_
   refine wk_start ?_
   refine kv g0 (asg) ?_
   refine wk_end ?_
   refine ac_next ?_
   refine aw_ret ?_
   refine ac_thenR ?_
   obtain rfl := Option.some.inj H
   exact acr hE [.tmp 4] (.tmp .nil) (.one _) [] 9999
  rw [if_neg c6] at H
  refine aw_ifT ?_ (nT (bF c6))
  refine aw_grp1 ?_
  refine wk_start ?_
  refine kv g0 (asg) ?_
  refine wk_end ?_
  refine ac_next ?_
  refine aw_ret ?_
  refine ac_thenR ?_
  obtain rfl := Option.some.inj H
  exact acr hE [.tmp 4] (.tmp .nil) (.one _) [] 9999
 rw [if_neg c3] at H
 refine aw_ifT ?_ (nT (bF c3))
 refine aw_grp1 ?_
 refine wk_start ?_
 refine kv g0 (asg) ?_
 refine wk_end ?_
 refine ac_next ?_
 refine aw_ret ?_
 refine ac_thenR ?_
 obtain rfl := Option.some.inj H
 exact acr hE [.tmp 4] (.tmp .nil) (.one _) [] 9999
/-! laws_FnExactLogRight -/
def laws_FnExactLogRight.f (k : Nat) (l0_0 : List (List (List S214))) (l0_1 : List S150) (l0_2 : List S153) (l0_3 : List S196) (l0_4 : List Int) (l0_5 : List S198) (a0_6 : Int) (l0_7 : List Int) (l0_8 : List S158) (a0_9 : Int) (l0_10 : List Int) (l0_11 : List S172) : Option (Bool) := (laws_szWorld.f k l0_0 l0_1 l0_2 l0_3 l0_4 l0_5 a0_6 l0_7 l0_8 a0_9 l0_10 l0_11 1048576).bind fun t1 => if t1 < 0 then some true else (laws_toWorld.f k l0_0 l0_1 l0_2 l0_3 l0_4 l0_5 a0_6 l0_7 l0_8 a0_9 l0_10 l0_11).bind fun t4 => ((spec_LogRight.f k t4.1 t4.2.1 t4.2.2.1 t4.2.2.2.1 t4.2.2.2.2.1 t4.2.2.2.2.2.1 t4.2.2.2.2.2.2.1 t4.2.2.2.2.2.2.2.1 t4.2.2.2.2.2.2.2.2.1 t4.2.2.2.2.2.2.2.2.2.1 t4.2.2.2.2.2.2.2.2.2.2.1 t4.2.2.2.2.2.2.2.2.2.2.2).bind fun t6 => (laws_toWorld.f k l0_0 l0_1 l0_2 l0_3 l0_4 l0_5 a0_6 l0_7 l0_8 a0_9 l0_10 l0_11).bind fun t8 => (impl_LogRight.f k t8.1 t8.2.1 t8.2.2.1 t8.2.2.2.1 t8.2.2.2.2.1 t8.2.2.2.2.2.1 t8.2.2.2.2.2.2.1 t8.2.2.2.2.2.2.2.1 t8.2.2.2.2.2.2.2.2.1 t8.2.2.2.2.2.2.2.2.2.1 t8.2.2.2.2.2.2.2.2.2.2.1 t8.2.2.2.2.2.2.2.2.2.2.2).bind fun t10 => if t10 = t6 then (laws_toWorld.f k l0_0 l0_1 l0_2 l0_3 l0_4 l0_5 a0_6 l0_7 l0_8 a0_9 l0_10 l0_11).bind fun t13 => ((laws_eqWorld.f k t8.1 t8.2.1 t8.2.2.1 t8.2.2.2.1 t8.2.2.2.2.1 t8.2.2.2.2.2.1 t8.2.2.2.2.2.2.1 t8.2.2.2.2.2.2.2.1 t8.2.2.2.2.2.2.2.2.1 t8.2.2.2.2.2.2.2.2.2.1 t8.2.2.2.2.2.2.2.2.2.2.1 t8.2.2.2.2.2.2.2.2.2.2.2 t13.1 t13.2.1 t13.2.2.1 t13.2.2.2.1 t13.2.2.2.2.1 t13.2.2.2.2.2.1 t13.2.2.2.2.2.2.1 t13.2.2.2.2.2.2.2.1 t13.2.2.2.2.2.2.2.2.1 t13.2.2.2.2.2.2.2.2.2.1 t13.2.2.2.2.2.2.2.2.2.2.1 t13.2.2.2.2.2.2.2.2.2.2.2).bind fun t15 => if t15 = true then some true else some false) else some false)
theorem laws_FnExactLogRight.ok {k : Nat} {l0_0 : List (List (List S214))} {l0_1 : List S150} {l0_2 : List S153} {l0_3 : List S196} {l0_4 : List Int} {l0_5 : List S198} {a0_6 : Int} {l0_7 : List Int} {l0_8 : List S158} {a0_9 : Int} {l0_10 : List Int} {l0_11 : List S172} {r : Bool} (H : laws_FnExactLogRight.f k l0_0 l0_1 l0_2 l0_3 l0_4 l0_5 a0_6 l0_7 l0_8 a0_9 l0_10 l0_11 = some r) : ACalls Try.prog 5 [] [.agg [.sl .o 1 (l0_0.map (eL 1 (eL 4 (e214)))), .sl .o 4 (l0_1.map e150), .sl .o 5 (l0_2.map e153), .sl .o 6 (l0_3.map e196), .sl .o 1 (l0_4.map (eI .i64)), .sl .o 6 (l0_5.map e198), .lit (.int .i64 a0_6), .sl .o 1 (l0_7.map (eI .i64)), .sl .o 3 (l0_8.map e158), .lit (.int .i64 a0_9), .sl .o 1 (l0_10.map (eI .i64)), .sl .o 4 (l0_11.map e172)]] [] (.lit (.bool r)) := by
 refine acalls (fn := Try.f5) (nt := 27) Try.func5 rfl rfl (Nat.le_of_ble_eq_true rfl) fun E hE => ?_
 rw [laws_FnExactLogRight.f] at H
 refine aw_grp1 ?_
 refine wk_start ?_
 refine kb g0 (bxA 0) ?_
 refine kv g0 (asg) ?_
 refine wk_end ?_
 refine ac_next ?_
 refine aw_grp1 ?_
 refine wk_start ?_
 refine kv g0 (asg) ?_
 refine wk_end ?_
 refine ac_next ?_
 refine aw_grp1 ?_
 refine wk_start ?_
 refine kv g0 (ldBA 12 [.sl .o 1 (l0_0.map (eL 1 (eL 4 (e214)))), .sl .o 4 (l0_1.map e150), .sl .o 5 (l0_2.map e153), .sl .o 6 (l0_3.map e196), .sl .o 1 (l0_4.map (eI .i64)), .sl .o 6 (l0_5.map e198), .lit (.int .i64 a0_6), .sl .o 1 (l0_7.map (eI .i64)), .sl .o 3 (l0_8.map e158), .lit (.int .i64 a0_9), .sl .o 1 (l0_10.map (eI .i64)), .sl .o 4 (l0_11.map e172)]) ?_
 refine kv g0 (mv) ?_
 obtain ⟨t1, A2, H⟩ := of_bind H
 refine kcS0 9 (.lit (.int .i64 t1)) [] g0 (cal (laws_szWorld.ok A2) [] 9999 .n (hf := Try.func30)) rfl rfl ?_
 refine kv g0 (asg) ?_
 refine wk_end ?_
 refine ac_next ?_
 refine aw_grp1 ?_
 refine aw_grp1 ?_
 refine wk_start ?_
 refine kv g0 (mv) ?_
 refine kv g0 (lss) ?_
 refine wk_end ?_
 refine ac_next ?_
 by_cases c3 : t1 < 0
 ·rw [if_pos c3] at H
  refine aw_ifT ?_ (decide_eq_true c3)
  refine aw_grp1 ?_
  refine wk_start ?_
  refine kv g0 (asg) ?_
  refine wk_end ?_
  refine ac_next ?_
  refine aw_ret ?_
  refine ac_thenR ?_
  obtain rfl := Option.some.inj H
  exact acr hE [.tmp 2] (.tmp .nil) (.one _) [] 9999
 rw [if_neg c3] at H
 refine aw_ifF ?_ (decide_eq_false c3)
 refine aw_skip ?_
 refine ac_next ?_
 refine aw_grp1 ?_
 refine wk_start ?_
 refine kv g0 (ldBA 12 [.sl .o 1 (l0_0.map (eL 1 (eL 4 (e214)))), .sl .o 4 (l0_1.map e150), .sl .o 5 (l0_2.map e153), .sl .o 6 (l0_3.map e196), .sl .o 1 (l0_4.map (eI .i64)), .sl .o 6 (l0_5.map e198), .lit (.int .i64 a0_6), .sl .o 1 (l0_7.map (eI .i64)), .sl .o 3 (l0_8.map e158), .lit (.int .i64 a0_9), .sl .o 1 (l0_10.map (eI .i64)), .sl .o 4 (l0_11.map e172)]) ?_
 obtain ⟨t4, A5, H⟩ := of_bind H
 refine kcS10 13 (.agg [.row 1, .row 2, .row 3, .row 4, .row 5, .row 6, .lit (.int .i64 t4.2.2.2.2.2.2.1), .row 7, .row 8, .lit (.int .i64 t4.2.2.2.2.2.2.2.2.2.1), .row 9, .row 10]) [(1, .row 161 1 (t4.1.map (eL 1 (eL 4 (e212))))), (2, .row 164 4 (t4.2.1.map e164)), (3, .row 75 5 (t4.2.2.1.map e75)), (4, .row 98 6 (t4.2.2.2.1.map e98)), (5, .row 3 1 (t4.2.2.2.2.1.map (eI .i64))), (6, .row 97 6 (t4.2.2.2.2.2.1.map e97)), (7, .row 3 1 (t4.2.2.2.2.2.2.2.1.map (eI .i64))), (8, .row 169 3 (t4.2.2.2.2.2.2.2.2.1.map e169)), (9, .row 3 1 (t4.2.2.2.2.2.2.2.2.2.2.1.map (eI .i64))), (10, .row 160 4 (t4.2.2.2.2.2.2.2.2.2.2.2.map e160))] g0 (cal (laws_toWorld.ok A5) [1, 2, 3, 4, 5, 6, 7, 8, 9, 10] 9999 .n (hf := Try.func32)) rfl rfl ?_
 obtain ⟨t6, A7, H⟩ := of_bind H
 refine kcS0 14 (.lit (.bool t6)) [] g0 (cal (spec_LogRight.ok A7) [] 9999 .n (hf := Try.func31)) rfl rfl ?_
 refine kv g0 (asg) ?_
 refine wk_end ?_
 refine ac_next ?_
 refine aw_grp1 ?_
 refine wk_start ?_
 refine kv g0 (ldBA 12 [.sl .o 1 (l0_0.map (eL 1 (eL 4 (e214)))), .sl .o 4 (l0_1.map e150), .sl .o 5 (l0_2.map e153), .sl .o 6 (l0_3.map e196), .sl .o 1 (l0_4.map (eI .i64)), .sl .o 6 (l0_5.map e198), .lit (.int .i64 a0_6), .sl .o 1 (l0_7.map (eI .i64)), .sl .o 3 (l0_8.map e158), .lit (.int .i64 a0_9), .sl .o 1 (l0_10.map (eI .i64)), .sl .o 4 (l0_11.map e172)]) ?_
 obtain ⟨t8, A9, H⟩ := of_bind H
 refine kcS10 16 (.agg [.row 11, .row 12, .row 13, .row 14, .row 15, .row 16, .lit (.int .i64 t8.2.2.2.2.2.2.1), .row 17, .row 18, .lit (.int .i64 t8.2.2.2.2.2.2.2.2.2.1), .row 19, .row 20]) [(11, .row 161 1 (t8.1.map (eL 1 (eL 4 (e212))))), (12, .row 164 4 (t8.2.1.map e164)), (13, .row 75 5 (t8.2.2.1.map e75)), (14, .row 98 6 (t8.2.2.2.1.map e98)), (15, .row 3 1 (t8.2.2.2.2.1.map (eI .i64))), (16, .row 97 6 (t8.2.2.2.2.2.1.map e97)), (17, .row 3 1 (t8.2.2.2.2.2.2.2.1.map (eI .i64))), (18, .row 169 3 (t8.2.2.2.2.2.2.2.2.1.map e169)), (19, .row 3 1 (t8.2.2.2.2.2.2.2.2.2.2.1.map (eI .i64))), (20, .row 160 4 (t8.2.2.2.2.2.2.2.2.2.2.2.map e160))] g0 (cal (laws_toWorld.ok A9) [11, 12, 13, 14, 15, 16, 17, 18, 19, 20] 9999 .n (hf := Try.func32)) rfl rfl ?_
 refine kb g0 (alc 21 [.slice none 0 0, .slice none 0 0, .slice none 0 0, .slice none 0 0, .slice none 0 0, .slice none 0 0, .int .i64 0, .slice none 0 0, .slice none 0 0, .int .i64 0, .slice none 0 0, .slice none 0 0] [.lit (.slice none 0 0), .lit (.slice none 0 0), .lit (.slice none 0 0), .lit (.slice none 0 0), .lit (.slice none 0 0), .lit (.slice none 0 0), .lit (.int .i64 0), .lit (.slice none 0 0), .lit (.slice none 0 0), .lit (.int .i64 0), .lit (.slice none 0 0), .lit (.slice none 0 0)]) ?_
 refine ks g0 (stB 12 [.row 11, .row 12, .row 13, .row 14, .row 15, .row 16, .lit (.int .i64 t8.2.2.2.2.2.2.1), .row 17, .row 18, .lit (.int .i64 t8.2.2.2.2.2.2.2.2.2.1), .row 19, .row 20]) ?_
 refine wk_end ?_
 refine ac_next ?_
 refine aw_grp1 ?_
 refine wk_start ?_
 refine kv g0 (ldBA 12 [.row 11, .row 12, .row 13, .row 14, .row 15, .row 16, .lit (.int .i64 t8.2.2.2.2.2.2.1), .row 17, .row 18, .lit (.int .i64 t8.2.2.2.2.2.2.2.2.2.1), .row 19, .row 20]) ?_
 obtain ⟨t10, A11, H⟩ := of_bind H
 refine kcS0 18 (.lit (.bool t10)) [] g0 (cal (impl_LogRight.ok A11) [] 9999 .n (hf := Try.func33)) rfl rfl ?_
 refine kv g0 (asg) ?_
 refine wk_end ?_
 refine ac_next ?_
 refine aw_grp1 ?_
 refine aw_grp1 ?_
 refine wk_start ?_
 refine kv g0 (mv) ?_
 refine kv g0 (mv) ?_
 refine kv g0 (bne) ?_
 refine wk_end ?_
 refine ac_next ?_
 by_cases c12 : t10 = t6
 ·rw [if_pos c12] at H
  refine aw_ifF ?_ (nF (eTb c12))
  refine aw_skip ?_
  refine ac_next ?_
  refine aw_grp1 ?_
  refine aw_grp1 ?_
  refine wk_start ?_
  refine kv g0 (ldBA 12 [.row 11, .row 12, .row 13, .row 14, .row 15, .row 16, .lit (.int .i64 t8.2.2.2.2.2.2.1), .row 17, .row 18, .lit (.int .i64 t8.2.2.2.2.2.2.2.2.2.1), .row 19, .row 20]) ?_
  refine kv g0 (ldBA 12 [.sl .o 1 (l0_0.map (eL 1 (eL 4 (e214)))), .sl .o 4 (l0_1.map e150), .sl .o 5 (l0_2.map e153), .sl .o 6 (l0_3.map e196), .sl .o 1 (l0_4.map (eI .i64)), .sl .o 6 (l0_5.map e198), .lit (.int .i64 a0_6), .sl .o 1 (l0_7.map (eI .i64)), .sl .o 3 (l0_8.map e158), .lit (.int .i64 a0_9), .sl .o 1 (l0_10.map (eI .i64)), .sl .o 4 (l0_11.map e172)]) ?_
  obtain ⟨t13, A14, H⟩ := of_bind H
  refine kcS10 24 (.agg [.row 22, .row 23, .row 24, .row 25, .row 26, .row 27, .lit (.int .i64 t13.2.2.2.2.2.2.1), .row 28, .row 29, .lit (.int .i64 t13.2.2.2.2.2.2.2.2.2.1), .row 30, .row 31]) [(22, .row 161 1 (t13.1.map (eL 1 (eL 4 (e212))))), (23, .row 164 4 (t13.2.1.map e164)), (24, .row 75 5 (t13.2.2.1.map e75)), (25, .row 98 6 (t13.2.2.2.1.map e98)), (26, .row 3 1 (t13.2.2.2.2.1.map (eI .i64))), (27, .row 97 6 (t13.2.2.2.2.2.1.map e97)), (28, .row 3 1 (t13.2.2.2.2.2.2.2.1.map (eI .i64))), (29, .row 169 3 (t13.2.2.2.2.2.2.2.2.1.map e169)), (30, .row 3 1 (t13.2.2.2.2.2.2.2.2.2.2.1.map (eI .i64))), (31, .row 160 4 (t13.2.2.2.2.2.2.2.2.2.2.2.map e160))] g0 (cal (laws_toWorld.ok A14) [22, 23, 24, 25, 26, 27, 28, 29, 30, 31] 9999 .n (hf := Try.func32)) rfl rfl ?_
  obtain ⟨t15, A16, H⟩ := of_bind H
  refine kcS0 25 (.lit (.bool t15)) [] g0 (cal (laws_eqWorld.ok A16) [] 9999 .n (hf := Try.func34)) rfl rfl ?_
  refine kv g0 (not_) ?_
  refine wk_end_draw hM (by kernel_rfl) ?_
  refine ac_next ?_
  by_cases c17 : t15 = true
  ·rw [if_pos c17] at H
   refine aw_ifF ?_ (nF c17)
   refine aw_skip ?_
   refine ac_next ?_
   refine aw_grp1 ?_
   refine wk_start ?_
   refine kv g0 (asg) ?_
   refine wk_end ?_
   refine ac_next ?_
   refine aw_ret ?_
   obtain rfl := Option.some.inj H
   exact acr hE [.tmp 2] (.tmp .nil) (.one _) [] 9999
  rw [if_neg c17] at H
  refine aw_ifT ?_ (nT (bF c17))
  refine aw_grp1 ?_
  refine wk_start ?_
  refine kv g0 (asg) ?_
  refine wk_end ?_
  refine ac_next ?_
  refine aw_ret ?_
  refine ac_thenR ?_
  obtain rfl := Option.some.inj H
  exact acr hE [.tmp 2] (.tmp .nil) (.one _) [] 9999
 rw [if_neg c12] at H
 refine aw_ifT ?_ (nT (eFb c12))
 refine aw_grp1 ?_
 refine wk_start ?_
 refine kv g0 (asg) ?_
 refine wk_end ?_
 refine ac_next ?_
 refine aw_ret ?_
 refine ac_thenR ?_
 obtain rfl := Option.some.inj H
 exact acr hE [.tmp 2] (.tmp .nil) (.one _) [] 9999
end Go.Proofs.Ytfeaemlakniijaa.PFnExactLogRight
