import Derived.Test.YtcdmhlmfpnkhiaaPFnFramesx1
set_option linter.unusedVariables false
set_option linter.unusedSimpArgs false
set_option maxRecDepth 100000
namespace Go.Proofs.Ytcdmhlmfpnkhiaa.PFnFrames
open Go Go.RowKit Go.Proofs.YtcdmhlmfpnkhiaaA
/-! spec_SumOf -/
def spec_SumOf.f (k : Nat) (a0 : ByteArray) : Option (Int) := (spec_SumMore.f k 4294967295 a0).bind fun t1 => some t1
theorem spec_SumOf.ok {k : Nat} {a0 : ByteArray} {r : Int} (H : spec_SumOf.f k a0 = some r) : ACalls Try.prog 41 [] [.lit (.string a0)] [] (.lit (.int .u32 r)) := by
 refine acalls (fn := Try.f41) (nt := 5) Try.func41 rfl rfl (Nat.le_of_ble_eq_true rfl) fun E hE => ?_
 rw [spec_SumOf.f] at H
 refine aw_grp1 ?_
 refine wk_start ?_
 refine kv g0 (asg) ?_
 refine wk_end ?_
 refine ac_next ?_
 refine aw_grp1 ?_
 refine wk_start ?_
 refine kv g0 (mv) ?_
 obtain ⟨t1, A2, H⟩ := of_bind H
 refine kcS0 4 (.lit (.int .u32 t1)) [] g0 (cal (spec_SumMore.ok A2) [] 9999 .n (hf := Try.func48)) rfl rfl ?_
 refine kv g0 (asg) ?_
 refine wk_end ?_
 refine ac_next ?_
 refine aw_ret ?_
 obtain rfl := Option.some.inj H
 exact acr hE [.tmp 2] (.tmp .nil) (.one _) [] 9999
/-! spec_l02Four -/
def spec_l02Four.f (a0 : Int) : Option (ByteArray) := some (strOfNums ([IntKind.u8.wrap (a0.fdiv (2 ^ 24)), IntKind.u8.wrap (a0.fdiv (2 ^ 16)), IntKind.u8.wrap (a0.fdiv (2 ^ 8)), IntKind.u8.wrap a0] : List Int))
theorem spec_l02Four.ok {a0 : Int} {r : ByteArray} (H : spec_l02Four.f a0 = some r) : ACalls Try.prog 40 [] [.lit (.int .u32 a0)] [] (.lit (.string r)) := by
 refine acalls (fn := Try.f40) (nt := 16) Try.func40 rfl rfl (Nat.le_of_ble_eq_true rfl) fun E hE => ?_
 rw [spec_l02Four.f] at H
 refine aw_grp1 ?_
 refine wk_start ?_
 refine kv g0 (asg) ?_
 refine wk_end ?_
 refine ac_next ?_
 refine aw_grp1 ?_
 refine wk_start ?_
 refine kv g0 (mv) ?_
 refine kv g0 (shr (by decide : (0 : Int) ≤ 24)) ?_
 refine kv g0 (cnv .u8) ?_
 refine kv g0 (mv) ?_
 refine kv g0 (shr (by decide : (0 : Int) ≤ 16)) ?_
 refine kv g0 (cnv .u8) ?_
 refine kv g0 (mv) ?_
 refine kv g0 (shr (by decide : (0 : Int) ≤ 8)) ?_
 refine kv g0 (cnv .u8) ?_
 refine kv g0 (mv) ?_
 refine kv g0 (cnv .u8) ?_
 refine kb g0 (bsl 0 5 1 [.int .u8 0] (([IntKind.u8.wrap (a0.fdiv (2 ^ 24)), IntKind.u8.wrap (a0.fdiv (2 ^ 16)), IntKind.u8.wrap (a0.fdiv (2 ^ 8)), IntKind.u8.wrap a0] : List Int).map (eI .u8))) ?_
 refine kv g0 (cvB (.row rfl)) ?_
 refine kv g0 (asg) ?_
 refine wk_end ?_
 refine ac_next ?_
 refine aw_ret ?_
 obtain rfl := Option.some.inj H
 exact acr hE [.tmp 2] (.tmp .nil) (.one _) [] 9999
/-! spec_Sealed -/
def spec_Sealed.f (k : Nat) (a0 : ByteArray) : Option (ByteArray × Bool) := if (a0.size : Int) > 20000 then some (ByteArray.empty, false) else (spec_SumOf.f k a0).bind fun t2 => ((spec_l02Four.f t2).bind fun t4 => (if a0.size + t4.size ≤ 9223372036854775807 then some (a0 ++ t4, true) else none))
theorem spec_Sealed.ok {k : Nat} {a0 : ByteArray} {r : ByteArray × Bool} (H : spec_Sealed.f k a0 = some r) : ACalls Try.prog 27 [] [.lit (.string a0)] [] (.tup [.lit (.string r.1), .lit (.bool r.2)]) := by
 refine acalls (fn := Try.f27) (nt := 12) Try.func27 rfl rfl (Nat.le_of_ble_eq_true rfl) fun E hE => ?_
 rw [spec_Sealed.f] at H
 refine aw_grp1 ?_
 refine wk_start ?_
 refine kv g0 (asg) ?_
 refine kv g0 (asg) ?_
 refine wk_end ?_
 refine ac_next ?_
 refine aw_grp1 ?_
 refine aw_grp1 ?_
 refine wk_start ?_
 refine kv g0 (mv) ?_
 refine kv g0 (lnT) ?_
 refine kv g0 (gtr) ?_
 refine wk_end ?_
 refine ac_next ?_
 by_cases c1 : (a0.size : Int) > 20000
 ·rw [if_pos c1] at H
  refine aw_ifT ?_ (decide_eq_true c1)
  refine aw_grp1 ?_
  refine wk_start ?_
  refine kv g0 (asg) ?_
  refine kv g0 (asg) ?_
  refine wk_end ?_
  refine ac_next ?_
  refine aw_ret ?_
  refine ac_thenR ?_
  obtain rfl := Option.some.inj H
  exact acr hE [.tmp 2, .tmp 3] (.tmp (.tmp .nil)) (.many _ _ _) [] 9999
 rw [if_neg c1] at H
 refine aw_ifF ?_ (decide_eq_false c1)
 refine aw_skip ?_
 refine ac_next ?_
 refine aw_grp1 ?_
 refine wk_start ?_
 refine kv g0 (mv) ?_
 refine kv g0 (mv) ?_
 obtain ⟨t2, A3, H⟩ := of_bind H
 refine kcS0 9 (.lit (.int .u32 t2)) [] g0 (cal (spec_SumOf.ok A3) [] 9999 .n (hf := Try.func41)) rfl rfl ?_
 obtain ⟨t4, A5, H⟩ := of_bind H
 refine kcS0 10 (.lit (.string t4)) [] g0 (cal (spec_l02Four.ok A5) [] 9999 .n (hf := Try.func40)) rfl rfl ?_
 obtain ⟨c6, H⟩ := of_if H
 refine kv g0 (cat c6) ?_
 refine kv g0 (asg) ?_
 refine kv g0 (asg) ?_
 refine wk_end ?_
 refine ac_next ?_
 refine aw_ret ?_
 obtain rfl := Option.some.inj H
 exact acr hE [.tmp 2, .tmp 3] (.tmp (.tmp .nil)) (.many _ _ _) [] 9999
/-! spec_FrameText -/
def spec_FrameText.f (k : Nat) (a0_0 : Int) (a0_1 : Int) (a0_2 : Int) (a0_3 : Int) (a0_4 : Int) (a0_5 : Int) (a0_6 : Int) : Option (ByteArray × Bool) := (spec_FrameOk.f a0_0 a0_1 a0_2 a0_3 a0_4 a0_5 a0_6).bind fun t1 => if t1 = true then (spec_l01Var.f k a0_2).bind fun t4 => (if (strOfNums ([IntKind.u8.wrap a0_0, IntKind.u8.wrap a0_1] : List Int)).size + t4.size ≤ 9223372036854775807 then (if ((strOfNums ([IntKind.u8.wrap a0_0, IntKind.u8.wrap a0_1] : List Int)) ++ t4).size + (strOfNums ([IntKind.u8.wrap a0_3] : List Int)).size ≤ 9223372036854775807 then ((spec_l06Four.f a0_4).bind fun t8 => (if (((strOfNums ([IntKind.u8.wrap a0_0, IntKind.u8.wrap a0_1] : List Int)) ++ t4) ++ (strOfNums ([IntKind.u8.wrap a0_3] : List Int))).size + t8.size ≤ 9223372036854775807 then ((spec_l06Four.f a0_5).bind fun t11 => (if ((((strOfNums ([IntKind.u8.wrap a0_0, IntKind.u8.wrap a0_1] : List Int)) ++ t4) ++ (strOfNums ([IntKind.u8.wrap a0_3] : List Int))) ++ t8).size + t11.size ≤ 9223372036854775807 then ((spec_l01Var.f k a0_6).bind fun t14 => (if (((((strOfNums ([IntKind.u8.wrap a0_0, IntKind.u8.wrap a0_1] : List Int)) ++ t4) ++ (strOfNums ([IntKind.u8.wrap a0_3] : List Int))) ++ t8) ++ t11).size + t14.size ≤ 9223372036854775807 then ((spec_Sealed.f k ((((((strOfNums ([IntKind.u8.wrap a0_0, IntKind.u8.wrap a0_1] : List Int)) ++ t4) ++ (strOfNums ([IntKind.u8.wrap a0_3] : List Int))) ++ t8) ++ t11) ++ t14)).bind fun t17 => some (t17.1, t17.2)) else none)) else none)) else none)) else none) else none) else some (ByteArray.empty, false)
theorem spec_FrameText.ok {k : Nat} {a0_0 : Int} {a0_1 : Int} {a0_2 : Int} {a0_3 : Int} {a0_4 : Int} {a0_5 : Int} {a0_6 : Int} {r : ByteArray × Bool} (H : spec_FrameText.f k a0_0 a0_1 a0_2 a0_3 a0_4 a0_5 a0_6 = some r) : ACalls Try.prog 13 [] [.agg [.lit (.int .i64 a0_0), .lit (.int .i64 a0_1), .lit (.int .i64 a0_2), .lit (.int .i64 a0_3), .lit (.int .i64 a0_4), .lit (.int .i64 a0_5), .lit (.int .i64 a0_6)]] [] (.tup [.lit (.string r.1), .lit (.bool r.2)]) := by
 refine acalls (fn := Try.f13) (nt := 43) Try.func13 rfl rfl (Nat.le_of_ble_eq_true rfl) fun E hE => ?_
 rw [spec_FrameText.f] at H
 refine aw_grp1 ?_
 refine wk_start ?_
 refine kb g0 (bxA 0) ?_
 refine kv g0 (asg) ?_
 refine kv g0 (asg) ?_
 refine wk_end ?_
 refine ac_next ?_
 refine aw_grp1 ?_
 refine aw_grp1 ?_
 refine wk_start ?_
 refine kv g0 (ldBA 7 [.lit (.int .i64 a0_0), .lit (.int .i64 a0_1), .lit (.int .i64 a0_2), .lit (.int .i64 a0_3), .lit (.int .i64 a0_4), .lit (.int .i64 a0_5), .lit (.int .i64 a0_6)]) ?_
 obtain ⟨t1, A2, H⟩ := of_bind H
 refine kcS0 6 (.lit (.bool t1)) [] g0 (cal (spec_FrameOk.ok A2) [] 9999 .n (hf := Try.func31)) rfl rfl ?_
 refine kv g0 (not_) ?_
 refine wk_end ?_
 refine ac_next ?_
 by_cases c3 : t1 = true
 ·rw [if_pos c3] at H
  refine aw_ifF ?_ (nF c3)
  refine aw_skip ?_
  refine ac_next ?_
  refine aw_grp1 ?_
  refine wk_start ?_
  refine kv g0 (faB 3 3) ?_
  refine kv g0 (ldBA 4 [.lit (.int .i64 a0_3), .lit (.int .i64 a0_4), .lit (.int .i64 a0_5), .lit (.int .i64 a0_6)]) ?_
  refine kb g0 (alc 1 [.int .i64 0, .int .i64 0, .int .i64 0, .int .i64 0] [.lit (.int .i64 0), .lit (.int .i64 0), .lit (.int .i64 0), .lit (.int .i64 0)]) ?_
  refine ks g0 (stB 4 [.lit (.int .i64 a0_3), .lit (.int .i64 a0_4), .lit (.int .i64 a0_5), .lit (.int .i64 a0_6)]) ?_
  refine wk_end ?_
  refine ac_next ?_
  refine aw_grp1 ?_
  refine wk_start ?_
  refine kv g0 (faB 0 0) ?_
  refine kv g0 (ldB) ?_
  refine kv g0 (cnv .u8) ?_
  refine kv g0 (faB 1 1) ?_
  refine kv g0 (ldB) ?_
  refine kv g0 (cnv .u8) ?_
  refine kb g0 (bsl 2 5 1 [.int .u8 0] (([IntKind.u8.wrap a0_0, IntKind.u8.wrap a0_1] : List Int).map (eI .u8))) ?_
  refine kv g0 (cvB (.row rfl)) ?_
  refine kv g0 (faB 2 2) ?_
  refine kv g0 (ldB) ?_
  obtain ⟨t4, A5, H⟩ := of_bind H
  refine kcS0 20 (.lit (.string t4)) [] g0 (cal (spec_l01Var.ok A5) [] 9999 .n (hf := Try.func32)) rfl rfl ?_
  obtain ⟨c6, H⟩ := of_if H
  refine kv g0 (cat c6) ?_
  refine kv g0 (faB 0 0) ?_
  refine kv g0 (ldB) ?_
  refine kv g0 (cnv .u8) ?_
  refine kb g0 (bsl 3 5 1 [.int .u8 0] (([IntKind.u8.wrap a0_3] : List Int).map (eI .u8))) ?_
  refine kv g0 (cvB (.row rfl)) ?_
  obtain ⟨c7, H⟩ := of_if H
  refine kv g0 (cat c7) ?_
  refine kv g0 (faB 1 1) ?_
  refine kv g0 (ldB) ?_
  obtain ⟨t8, A9, H⟩ := of_bind H
  refine kcS0 30 (.lit (.string t8)) [] g0 (cal (spec_l06Four.ok A9) [] 9999 .n (hf := Try.func33)) rfl rfl ?_
  obtain ⟨c10, H⟩ := of_if H
  refine kv g0 (cat c10) ?_
  refine kv g0 (faB 2 2) ?_
  refine kv g0 (ldB) ?_
  obtain ⟨t11, A12, H⟩ := of_bind H
  refine kcS0 34 (.lit (.string t11)) [] g0 (cal (spec_l06Four.ok A12) [] 9999 .n (hf := Try.func33)) rfl rfl ?_
  obtain ⟨c13, H⟩ := of_if H
  refine kv g0 (cat c13) ?_
  refine kv g0 (faB 3 3) ?_
  refine kv g0 (ldB) ?_
  obtain ⟨t14, A15, H⟩ := of_bind H
  refine kcS0 38 (.lit (.string t14)) [] g0 (cal (spec_l01Var.ok A15) [] 9999 .n (hf := Try.func32)) rfl rfl ?_
  obtain ⟨c16, H⟩ := of_if H
  refine kv g0 (cat c16) ?_
  obtain ⟨t17, A18, H⟩ := of_bind H
  refine kcS0 40 (.tup [.lit (.string t17.1), .lit (.bool t17.2)]) [] g0 (cal (spec_Sealed.ok A18) [] 9999 .n (hf := Try.func27)) rfl rfl ?_
  refine kv g0 (ext) ?_
  refine kv g0 (ext) ?_
  refine kv g0 (asg) ?_
  refine kv g0 (asg) ?_
  refine wk_end_draw hM (by kernel_rfl) ?_
  refine ac_next ?_
  refine aw_ret ?_
  obtain rfl := Option.some.inj H
  exact acr hE [.tmp 2, .tmp 3] (.tmp (.tmp .nil)) (.many _ _ _) [] 9999
 rw [if_neg c3] at H
 refine aw_ifT ?_ (nT (bF c3))
 refine aw_grp1 ?_
 refine wk_start ?_
 refine kv g0 (asg) ?_
 refine kv g0 (asg) ?_
 refine wk_end ?_
 refine ac_next ?_
 refine aw_ret ?_
 refine ac_thenR ?_
 obtain rfl := Option.some.inj H
 exact acr hE [.tmp 2, .tmp 3] (.tmp (.tmp .nil)) (.many _ _ _) [] 9999
/-! spec_Unsealed -/
def spec_Unsealed.f (k : Nat) (a0 : ByteArray) : Option (ByteArray × Bool) := if (wrap64 ((a0.size : Int) - 4)) < 0 then some (ByteArray.empty, false) else (if (wrap64 ((a0.size : Int) - 4)) > 20000 then some (ByteArray.empty, false) else (if 0 ≤ (wrap64 ((a0.size : Int) - 4)) then (if (wrap64 ((a0.size : Int) - 4)) ≤ (a0.size : Int) then ((spec_SumOf.f k (a0.extract 0 (wrap64 ((a0.size : Int) - 4)).toNat)).bind fun t5 => ((spec_l02Four.f t5).bind fun t7 => if ((a0.extract (wrap64 ((a0.size : Int) - 4)).toNat a0.size).toList == t7.toList) = true then some (a0.extract 0 (wrap64 ((a0.size : Int) - 4)).toNat, true) else some (ByteArray.empty, false))) else none) else none))
theorem spec_Unsealed.ok {k : Nat} {a0 : ByteArray} {r : ByteArray × Bool} (H : spec_Unsealed.f k a0 = some r) : ACalls Try.prog 26 [] [.lit (.string a0)] [] (.tup [.lit (.string r.1), .lit (.bool r.2)]) := by
 refine acalls (fn := Try.f26) (nt := 28) Try.func26 rfl rfl (Nat.le_of_ble_eq_true rfl) fun E hE => ?_
 rw [spec_Unsealed.f] at H
 refine aw_grp1 ?_
 refine wk_start ?_
 refine kv g0 (asg) ?_
 refine kv g0 (asg) ?_
 refine wk_end ?_
 refine ac_next ?_
 refine aw_grp1 ?_
 refine wk_start ?_
 refine kv g0 (mv) ?_
 refine kv g0 (lnT) ?_
 refine kv g0 (sub6) ?_
 refine kv g0 (asg) ?_
 refine wk_end ?_
 refine ac_next ?_
 refine aw_grp1 ?_
 refine aw_grp1 ?_
 refine wk_start ?_
 refine kv g0 (mv) ?_
 refine kv g0 (lss) ?_
 refine kv g0 (mv) ?_
 by_cases c1 : (wrap64 ((a0.size : Int) - 4)) < 0
 ·rw [if_pos c1] at H
  refine kx (hF (decide_eq_true c1)) ?_
  refine kx (hF (decide_eq_true c1)) ?_
  refine kv g0 (pkT (decide_eq_true c1)) ?_
  refine kv g0 (mv) ?_
  refine kx (hF rfl) ?_
  refine kx (hF rfl) ?_
  refine kx (hF rfl) ?_
  refine kx (hF rfl) ?_
  refine kx (hF rfl) ?_
  refine kx (hF rfl) ?_
  refine kx (hF rfl) ?_
  refine kx (hF rfl) ?_
  refine kx (hF rfl) ?_
  refine kv g0 (pkT rfl) ?_
  refine wk_end_draw hM (by kernel_rfl) ?_
  refine ac_next ?_
  refine aw_ifT ?_ rfl
  refine aw_grp1 ?_
  refine wk_start ?_
  refine kv g0 (asg) ?_
  refine kv g0 (asg) ?_
  refine wk_end ?_
  refine ac_next ?_
  refine aw_ret ?_
  refine ac_thenR ?_
  obtain rfl := Option.some.inj H
  exact acr hE [.tmp 2, .tmp 3] (.tmp (.tmp .nil)) (.many _ _ _) [] 9999
 rw [if_neg c1] at H
 refine kv (g1 (decide_eq_false c1)) (mv) ?_
 refine kv (g1 (decide_eq_false c1)) (gtr) ?_
 refine kv g0 (pkF (decide_eq_false c1)) ?_
 refine kv g0 (mv) ?_
 by_cases c2 : (wrap64 ((a0.size : Int) - 4)) > 20000
 ·rw [if_pos c2] at H
  refine kx (hF (decide_eq_true c2)) ?_
  refine kx (hF (decide_eq_true c2)) ?_
  refine kx (hF (decide_eq_true c2)) ?_
  refine kx (hF (decide_eq_true c2)) ?_
  refine kx (hF (decide_eq_true c2)) ?_
  refine kx (hF (decide_eq_true c2)) ?_
  refine kx (hF (decide_eq_true c2)) ?_
  refine kx (hF (decide_eq_true c2)) ?_
  refine kx (hF (decide_eq_true c2)) ?_
  refine kv g0 (pkT (decide_eq_true c2)) ?_
  refine wk_end_draw hM (by kernel_rfl) ?_
  refine ac_next ?_
  refine aw_ifT ?_ rfl
  refine aw_grp1 ?_
  refine wk_start ?_
  refine kv g0 (asg) ?_
  refine kv g0 (asg) ?_
  refine wk_end ?_
  refine ac_next ?_
  refine aw_ret ?_
  refine ac_thenR ?_
  obtain rfl := Option.some.inj H
  exact acr hE [.tmp 2, .tmp 3] (.tmp (.tmp .nil)) (.many _ _ _) [] 9999
 rw [if_neg c2] at H
 refine kv (g1 (decide_eq_false c2)) (mv) ?_
 refine kv (g1 (decide_eq_false c2)) (mv) ?_
 obtain ⟨c3, H⟩ := of_if H
 obtain ⟨c4, H⟩ := of_if H
 refine kv (g1 (decide_eq_false c2)) (tsL c3 c4) ?_
 refine kv (g1 (decide_eq_false c2)) (mv) ?_
 refine kv (g1 (decide_eq_false c2)) (mv) ?_
 refine kv (g1 (decide_eq_false c2)) (tsH c3 c4) ?_
 obtain ⟨t5, A6, H⟩ := of_bind H
 refine kcS0 21 (.lit (.int .u32 t5)) [] (g1 (decide_eq_false c2)) (cal (spec_SumOf.ok A6) [] 9999 .n (hf := Try.func41)) rfl rfl ?_
 obtain ⟨t7, A8, H⟩ := of_bind H
 refine kcS0 22 (.lit (.string t7)) [] (g1 (decide_eq_false c2)) (cal (spec_l02Four.ok A8) [] 9999 .n (hf := Try.func40)) rfl rfl ?_
 refine kv (g1 (decide_eq_false c2)) (sne) ?_
 refine kv g0 (pkF (decide_eq_false c2)) ?_
 refine wk_end_draw hM (by kernel_rfl) ?_
 refine ac_next ?_
 by_cases c9 : ((a0.extract (wrap64 ((a0.size : Int) - 4)).toNat a0.size).toList == t7.toList) = true
 ·rw [if_pos c9] at H
  refine aw_ifF ?_ (nF c9)
  refine aw_skip ?_
  refine ac_next ?_
  refine aw_grp1 ?_
  refine wk_start ?_
  refine kv g0 (mv) ?_
  refine kv g0 (mv) ?_
  refine kv g0 (tsH c3 c4) ?_
  refine kv g0 (asg) ?_
  refine kv g0 (asg) ?_
  refine wk_end ?_
  refine ac_next ?_
  refine aw_ret ?_
  obtain rfl := Option.some.inj H
  exact acr hE [.tmp 2, .tmp 3] (.tmp (.tmp .nil)) (.many _ _ _) [] 9999
 rw [if_neg c9] at H
 refine aw_ifT ?_ (nT (bF c9))
 refine aw_grp1 ?_
 refine wk_start ?_
 refine kv g0 (asg) ?_
 refine kv g0 (asg) ?_
 refine wk_end ?_
 refine ac_next ?_
 refine aw_ret ?_
 refine ac_thenR ?_
 obtain rfl := Option.some.inj H
 exact acr hE [.tmp 2, .tmp 3] (.tmp (.tmp .nil)) (.many _ _ _) [] 9999
/-! spec_l01Text -/
mutual
def spec_l01Text.l0 : Nat → Int → (List Int) → Int → Int → (List Int) → Int → Option (ByteArray × (List Int) × Int × Int)
 | 0, _, _, _, _, _, _ => none
 | k14 + 1, p2, q9, p10, p11, q12, p13 => if p13 < p2 then (spec_l01Byte.f q9 p10 p11).bind fun t16 => (if q12.length + ([IntKind.u8.wrap t16.1] : List Int).length < 140737488355328 then spec_l01Text.l0 k14 p2 t16.2.1 t16.2.2.1 t16.2.2.2 (q12 ++ ([IntKind.u8.wrap t16.1] : List Int)) (wrap64 (p13 + 1)) else none) else some (strOfNums q12, q9, p10, p11)
def spec_l01Text.j0 : Nat → (List Int) → Int → Int → Int → Option (ByteArray × (List Int) × Int × Int)
 | 0, _, _, _, _ => none
 | k3 + 1, l0_0, a0_1, a0_2, p2 => spec_l01Text.l0 k3 p2 l0_0 a0_1 a0_2 ([] : List Int) 0
end
def spec_l01Text.f (k : Nat) (l0_0 : List Int) (a0_1 : Int) (a0_2 : Int) (a1 : Int) : Option (ByteArray × (List Int) × Int × Int) := if a1 > 5000 then spec_l01Text.j0 k l0_0 a0_1 a0_2 5000 else spec_l01Text.j0 k l0_0 a0_1 a0_2 a1
theorem spec_l01Text.ok {k : Nat} {l0_0 : List Int} {a0_1 : Int} {a0_2 : Int} {a1 : Int} {r : ByteArray × (List Int) × Int × Int} (H : spec_l01Text.f k l0_0 a0_1 a0_2 a1 = some r) : ACalls Try.prog 42 [(0, .box 56 [.sl .u 1 (l0_0.map (eI .u8)), .lit (.int .i64 a0_1), .lit (.int .i64 a0_2)])] [.box 0 0, .lit (.int .i64 a1)] [(0, .box 56 [.sl .u 1 (r.2.1.map (eI .u8)), .lit (.int .i64 r.2.2.1), .lit (.int .i64 r.2.2.2)])] (.lit (.string r.1)) := by
 refine acalls (fn := Try.f42) (nt := 23) Try.func42 rfl rfl (Nat.le_of_ble_eq_true rfl) fun E hE => ?_
 rw [spec_l01Text.f] at H
 refine aw_grp1 ?_
 refine wk_start ?_
 refine kv g0 (asg) ?_
 refine wk_end ?_
 refine ac_next ?_
 refine aw_cut1 (J := fun K_ => ∀ (k_ : Nat) (p2 : Int), k_ ≤ k → spec_l01Text.j0 k_ l0_0 a0_1 a0_2 p2 = some r → ACont E 23 ⟨[(0, .box 0 0), (1, .lit (.int .i64 p2))], [(0, .box 56 [.sl .u 1 (l0_0.map (eI .u8)), .lit (.int .i64 a0_1), .lit (.int .i64 a0_2)])]⟩ K_) ?_ ?_
 ·intro K_ hJ21
  refine aw_grp1 ?_
  refine wk_start ?_
  refine kv g0 (mv) ?_
  refine kv g0 (gtr) ?_
  refine wk_end ?_
  refine ac_next ?_
  by_cases c1 : a1 > 5000
  ·rw [if_pos c1] at H
   refine aw_ifT ?_ (decide_eq_true c1)
   refine wk_start ?_
   refine kv g0 (asg) ?_
   refine wk_end ?_
   refine ac_k ?_
   exact acw hE [(0, 0)] 9999 (hJ21 k 5000 (Nat.le_refl _) H)
  rw [if_neg c1] at H
  refine aw_ifF ?_ (decide_eq_false c1)
  refine aw_skip ?_
  refine ac_k ?_
  exact acw hE [(0, 0)] 9999 (hJ21 k a1 (Nat.le_refl _) H)
 intro k_ p2 hk_ H
 rcases k_ with _ | k3
 ·rw [spec_l01Text.j0.eq_1] at H; cases H
 have hk3 : k3 ≤ k := by omega
 clear hk_
 rw [spec_l01Text.j0.eq_2] at H
 refine aw_grp1 ?_
 refine wk_start ?_
 refine kb g0 (bsl 1 5 1 [.int .u8 0] (([] : List Int).map (eI .u8))) ?_
 refine kv g0 (asg) ?_
 refine wk_end ?_
 refine ac_next ?_
 refine aw_grp1 ?_
 refine aw_grp1 ?_
 refine wk_start ?_
 refine kv g0 (asg) ?_
 refine wk_end ?_
 refine ac_next ?_
 refine aw_block ?_
 refine aw_loop5 (fun (k_ : Nat) (q9 : List Int) (p10 : Int) (p11 : Int) (q12 : List Int) (p13 : Int) => k_ ≤ k3 ∧ spec_l01Text.l0 k_ p2 q9 p10 p11 q12 p13 = some r) (fun (q9 : List Int) (p10 : Int) (p11 : Int) (q12 : List Int) (p13 : Int) => ⟨[(0, .box 0 0), (1, .lit (.int .i64 p2)), (5, .row 1), (6, .lit (.int .i64 p13))], [(0, .box 56 [.sl .u 1 (q9.map (eI .u8)), .lit (.int .i64 p10), .lit (.int .i64 p11)]), (1, .row 5 1 (q12.map (eI .u8)))]⟩) k3 l0_0 a0_1 a0_2 ([] : List Int) 0 ⟨Nat.le_refl _, H⟩ (fun K_ h_ => acw hE [(0, 0), (1, 1)] 9999 h_) (fun _ _ _ _ _ => by intro h_; have h_ := h_.2; rw [spec_l01Text.l0.eq_1] at h_; cases h_) ?_
 intro k14 q9 p10 p11 q12 p13 hq_ K19 hK20
 have hk14 := hq_.1
 have H := hq_.2
 clear hq_
 rw [spec_l01Text.l0.eq_2] at H
 refine aw_grp1 ?_
 refine aw_grp1 ?_
 refine wk_start ?_
 refine kv g0 (mv) ?_
 refine kv g0 (mv) ?_
 refine kv g0 (lss) ?_
 refine wk_end ?_
 refine ac_next ?_
 by_cases c15 : p13 < p2
 ·rw [if_pos c15] at H
  refine aw_ifT ?_ (decide_eq_true c15)
  refine aw_skip ?_
  refine ac_next ?_
  refine aw_grp1 ?_
  refine aw_block ?_
  refine wk_start ?_
  refine kv g0 (mv) ?_
  refine kv g0 (mv) ?_
  obtain ⟨t16, A17, H⟩ := of_bind H
  refine kcS1 17 (.lit (.int .i64 t16.1)) [(0, .box 56 [.sl .u 1 (t16.2.1.map (eI .u8)), .lit (.int .i64 t16.2.2.1), .lit (.int .i64 t16.2.2.2)])] g0 (cal (spec_l01Byte.ok A17) [0] 9999 .u (hf := Try.func23)) rfl rfl ?_
  refine kv g0 (cnv .u8) ?_
  refine kb g0 (bsl 2 5 1 [.int .u8 0] (([IntKind.u8.wrap t16.1] : List Int).map (eI .u8))) ?_
  obtain ⟨c18, H⟩ := of_if H
  refine kc g0 (apR 3 5 1 1 [.int .u8 0] ((q12 ++ ([IntKind.u8.wrap t16.1] : List Int)).map (eI .u8)) (.row rfl) (apb c18 rfl) appE) ?_
  refine kv g0 (asg) ?_
  refine wk_end ?_
  refine ac_blkN ?_
  refine ac_next ?_
  refine wk_start ?_
  refine kv g0 (mv) ?_
  refine kv g0 (add6) ?_
  refine kv g0 (asg) ?_
  refine wk_end ?_
  refine ac_k ?_
  exact acw hE [(0, 0), (1, 3)] 9999 (hK20 k14 t16.2.1 t16.2.2.1 t16.2.2.2 (q12 ++ ([IntKind.u8.wrap t16.1] : List Int)) (wrap64 (p13 + 1)) (Nat.le_refl _) ⟨by omega, H⟩)
 rw [if_neg c15] at H
 refine aw_ifF ?_ (decide_eq_false c15)
 refine aw_exit ?_
 refine ac_then ?_
 refine ac_then ?_
 refine ac_hit rfl ?_
 refine ac_next ?_
 refine aw_grp1 ?_
 refine wk_start ?_
 refine kv g0 (mv) ?_
 refine kv g0 (cvB (.row rfl)) ?_
 refine kv g0 (asg) ?_
 refine wk_end ?_
 refine ac_next ?_
 refine aw_ret ?_
 obtain rfl := Option.some.inj H
 exact acr hE [.tmp 4] (.tmp .nil) (.one _) [(0, 0)] 9999
/-! spec_l02Spoilt -/
def spec_l02Spoilt.j0 : Nat → ByteArray → (Int × (List Int) × Int × Int) → Bool → Option (ByteArray × (List Int) × Int × Int)
 | 0, _, _, _ => none
 | k14 + 1, a1, t1, p13 => if p13 = true then if (a1.size : Int) > 0 then ((spec_l01Below.f t1.2.1 t1.2.2.1 t1.2.2.2 (a1.size : Int)).bind fun t17 => if 0 ≤ t17.1 then (if t17.1 ≤ (a1.size : Int) then ((spec_l01Text.f k14 t17.2.1 t17.2.2.1 t17.2.2.2 1).bind fun t21 => (if (a1.extract 0 t17.1.toNat).size + t21.1.size ≤ 9223372036854775807 then (if 0 ≤ (wrap64 (t17.1 + 1)) then (if (wrap64 (t17.1 + 1)) ≤ (a1.size : Int) then (if ((a1.extract 0 t17.1.toNat) ++ t21.1).size + (a1.extract (wrap64 (t17.1 + 1)).toNat a1.size).size ≤ 9223372036854775807 then some (((a1.extract 0 t17.1.toNat) ++ t21.1) ++ (a1.extract (wrap64 (t17.1 + 1)).toNat a1.size), t21.2.1, t21.2.2.1, t21.2.2.2) else none) else none) else none) else none)) else none) else none) else some (a1, t1.2.1, t1.2.2.1, t1.2.2.2) else some (a1, t1.2.1, t1.2.2.1, t1.2.2.2)
def spec_l02Spoilt.f (k : Nat) (l0_0 : List Int) (a0_1 : Int) (a0_2 : Int) (a1 : ByteArray) : Option (ByteArray × (List Int) × Int × Int) := (spec_l01Below.f l0_0 a0_1 a0_2 12).bind fun t1 => if t1.1 = 0 then ((spec_l01Text.f k t1.2.1 t1.2.2.1 t1.2.2.2 1).bind fun t4 => (if a1.size + t4.1.size ≤ 9223372036854775807 then some (a1 ++ t4.1, t4.2.1, t4.2.2.1, t4.2.2.2) else none)) else if t1.1 = 1 then ((spec_l01Below.f t1.2.1 t1.2.2.1 t1.2.2.2 (wrap64 ((a1.size : Int) + 1))).bind fun t8 => (if 0 ≤ t8.1 then (if t8.1 ≤ (a1.size : Int) then some (a1.extract 0 t8.1.toNat, t8.2.1, t8.2.2.1, t8.2.2.2) else none) else none)) else if t1.1 = 2 then spec_l02Spoilt.j0 k a1 t1 (t1.1 == 2) else spec_l02Spoilt.j0 k a1 t1 (t1.1 == 3)
theorem spec_l02Spoilt.ok {k : Nat} {l0_0 : List Int} {a0_1 : Int} {a0_2 : Int} {a1 : ByteArray} {r : ByteArray × (List Int) × Int × Int} (H : spec_l02Spoilt.f k l0_0 a0_1 a0_2 a1 = some r) : ACalls Try.prog 28 [(0, .box 56 [.sl .u 1 (l0_0.map (eI .u8)), .lit (.int .i64 a0_1), .lit (.int .i64 a0_2)])] [.box 0 0, .lit (.string a1)] [(0, .box 56 [.sl .u 1 (r.2.1.map (eI .u8)), .lit (.int .i64 r.2.2.1), .lit (.int .i64 r.2.2.2)])] (.lit (.string r.1)) := by
 refine acalls (fn := Try.f28) (nt := 45) Try.func28 rfl rfl (Nat.le_of_ble_eq_true rfl) fun E hE => ?_
 rw [spec_l02Spoilt.f] at H
 refine aw_grp1 ?_
 refine wk_start ?_
 refine kv g0 (asg) ?_
 refine wk_end ?_
 refine ac_next ?_
 refine aw_grp1 ?_
 refine aw_grp1 ?_
 refine wk_start ?_
 refine kv g0 (mv) ?_
 obtain ⟨t1, A2, H⟩ := of_bind H
 refine kcS1 7 (.lit (.int .i64 t1.1)) [(0, .box 56 [.sl .u 1 (t1.2.1.map (eI .u8)), .lit (.int .i64 t1.2.2.1), .lit (.int .i64 t1.2.2.2)])] g0 (cal (spec_l01Below.ok A2) [0] 9999 .u (hf := Try.func24)) rfl rfl ?_
 refine wk_end ?_
 refine ac_next ?_
 refine aw_block ?_
 refine aw_grp1 ?_
 refine wk_start ?_
 refine kv g0 (eql) ?_
 refine kv g0 (asg) ?_
 refine wk_end ?_
 refine ac_next ?_
 by_cases c3 : t1.1 = 0
 ·rw [if_pos c3] at H
  refine aw_ifT ?_ (eT c3)
  refine aw_grp1 ?_
  refine wk_start ?_
  refine kv g0 (mv) ?_
  refine kv g0 (mv) ?_
  obtain ⟨t4, A5, H⟩ := of_bind H
  refine kcS1 12 (.lit (.string t4.1)) [(0, .box 56 [.sl .u 1 (t4.2.1.map (eI .u8)), .lit (.int .i64 t4.2.2.1), .lit (.int .i64 t4.2.2.2)])] g0 (cal (spec_l01Text.ok A5) [0] 9999 .u (hf := Try.func42)) rfl rfl ?_
  obtain ⟨c6, H⟩ := of_if H
  refine kv g0 (cat c6) ?_
  refine kv g0 (asg) ?_
  refine wk_end ?_
  refine ac_next ?_
  refine aw_ret ?_
  refine ac_blkR ?_
  refine ac_thenR ?_
  obtain rfl := Option.some.inj H
  exact acr hE [.tmp 4] (.tmp .nil) (.one _) [(0, 0)] 9999
 rw [if_neg c3] at H
 refine aw_ifF ?_ (eF c3)
 refine aw_grp1 ?_
 refine wk_start ?_
 refine kv g0 (eql) ?_
 refine kv g0 (asg) ?_
 refine wk_end ?_
 refine ac_next ?_
 by_cases c7 : t1.1 = 1
 ·rw [if_pos c7] at H
  refine aw_ifT ?_ (eT c7)
  refine aw_grp1 ?_
  refine wk_start ?_
  refine kv g0 (mv) ?_
  refine kv g0 (mv) ?_
  refine kv g0 (mv) ?_
  refine kv g0 (lnT) ?_
  refine kv g0 (add6) ?_
  obtain ⟨t8, A9, H⟩ := of_bind H
  refine kcS1 21 (.lit (.int .i64 t8.1)) [(0, .box 56 [.sl .u 1 (t8.2.1.map (eI .u8)), .lit (.int .i64 t8.2.2.1), .lit (.int .i64 t8.2.2.2)])] g0 (cal (spec_l01Below.ok A9) [0] 9999 .u (hf := Try.func24)) rfl rfl ?_
  obtain ⟨c10, H⟩ := of_if H
  obtain ⟨c11, H⟩ := of_if H
  refine kv g0 (tsH c10 c11) ?_
  refine kv g0 (asg) ?_
  refine wk_end ?_
  refine ac_next ?_
  refine aw_ret ?_
  refine ac_blkR ?_
  refine ac_thenR ?_
  obtain rfl := Option.some.inj H
  exact acr hE [.tmp 4] (.tmp .nil) (.one _) [(0, 0)] 9999
 rw [if_neg c7] at H
 refine aw_ifF ?_ (eF c7)
 refine aw_cut1 (J := fun K_ => ∀ (k_ : Nat) (p13 : Bool), k_ ≤ k → spec_l02Spoilt.j0 k_ a1 t1 p13 = some r → ACont E 45 ⟨[(0, .box 0 0), (1, .lit (.string a1)), (23, .lit (.bool p13))], [(0, .box 56 [.sl .u 1 (t1.2.1.map (eI .u8)), .lit (.int .i64 t1.2.2.1), .lit (.int .i64 t1.2.2.2)])]⟩ K_) ?_ ?_
 ·intro K_ hJ27
  refine aw_grp1 ?_
  refine wk_start ?_
  refine kv g0 (eql) ?_
  refine kv g0 (asg) ?_
  refine wk_end ?_
  refine ac_next ?_
  by_cases c12 : t1.1 = 2
  ·rw [if_pos c12] at H
   refine aw_ifT ?_ (eT c12)
   refine aw_skip ?_
   refine ac_k ?_
   exact acw hE [(0, 0)] 9999 (hJ27 k (t1.1 == 2) (Nat.le_refl _) H)
  rw [if_neg c12] at H
  refine aw_ifF ?_ (eF c12)
  refine wk_start ?_
  refine kv g0 (eql) ?_
  refine kv g0 (asg) ?_
  refine wk_end ?_
  refine ac_k ?_
  exact acw hE [(0, 0)] 9999 (hJ27 k (t1.1 == 3) (Nat.le_refl _) H)
 intro k_ p13 hk_ H
 rcases k_ with _ | k14
 ·rw [spec_l02Spoilt.j0.eq_1] at H; cases H
 have hk14 : k14 ≤ k := by omega
 clear hk_
 rw [spec_l02Spoilt.j0.eq_2] at H
 by_cases c15 : p13 = true
 ·rw [if_pos c15] at H
  refine aw_ifT ?_ c15
  refine aw_grp1 ?_
  refine wk_start ?_
  refine kv g0 (mv) ?_
  refine kv g0 (lnT) ?_
  refine kv g0 (gtr) ?_
  refine wk_end ?_
  refine ac_next ?_
  by_cases c16 : (a1.size : Int) > 0
  ·rw [if_pos c16] at H
   refine aw_ifT ?_ (decide_eq_true c16)
   refine aw_grp1 ?_
   refine wk_start ?_
   refine kv g0 (mv) ?_
   refine kv g0 (mv) ?_
   refine kv g0 (lnT) ?_
   obtain ⟨t17, A18, H⟩ := of_bind H
   refine kcS1 32 (.lit (.int .i64 t17.1)) [(0, .box 56 [.sl .u 1 (t17.2.1.map (eI .u8)), .lit (.int .i64 t17.2.2.1), .lit (.int .i64 t17.2.2.2)])] g0 (cal (spec_l01Below.ok A18) [0] 9999 .u (hf := Try.func24)) rfl rfl ?_
   refine kv g0 (asg) ?_
   refine wk_end ?_
   refine ac_next ?_
   refine aw_grp1 ?_
   refine wk_start ?_
   refine kv g0 (mv) ?_
   refine kv g0 (mv) ?_
   obtain ⟨c19, H⟩ := of_if H
   obtain ⟨c20, H⟩ := of_if H
   refine kv g0 (tsH c19 c20) ?_
   refine kv g0 (mv) ?_
   obtain ⟨t21, A22, H⟩ := of_bind H
   refine kcS1 37 (.lit (.string t21.1)) [(0, .box 56 [.sl .u 1 (t21.2.1.map (eI .u8)), .lit (.int .i64 t21.2.2.1), .lit (.int .i64 t21.2.2.2)])] g0 (cal (spec_l01Text.ok A22) [0] 9999 .u (hf := Try.func42)) rfl rfl ?_
   obtain ⟨c23, H⟩ := of_if H
   refine kv g0 (cat c23) ?_
   refine kv g0 (mv) ?_
   refine kv g0 (mv) ?_
   refine kv g0 (add6) ?_
   obtain ⟨c24, H⟩ := of_if H
   obtain ⟨c25, H⟩ := of_if H
   refine kv g0 (tsL c24 c25) ?_
   obtain ⟨c26, H⟩ := of_if H
   refine kv g0 (cat c26) ?_
   refine kv g0 (asg) ?_
   refine wk_end_draw hM (by kernel_rfl) ?_
   refine ac_next ?_
   refine aw_ret ?_
   refine ac_blkR ?_
   refine ac_thenR ?_
   obtain rfl := Option.some.inj H
   exact acr hE [.tmp 4] (.tmp .nil) (.one _) [(0, 0)] 9999
  rw [if_neg c16] at H
  refine aw_ifF ?_ (decide_eq_false c16)
  refine aw_skip ?_
  refine ac_blkN ?_
  refine ac_next ?_
  refine aw_grp1 ?_
  refine wk_start ?_
  refine kv g0 (mv) ?_
  refine kv g0 (asg) ?_
  refine wk_end ?_
  refine ac_next ?_
  refine aw_ret ?_
  obtain rfl := Option.some.inj H
  exact acr hE [.tmp 4] (.tmp .nil) (.one _) [(0, 0)] 9999
 rw [if_neg c15] at H
 refine aw_ifF ?_ (bF c15)
 refine aw_skip ?_
 refine ac_blkN ?_
 refine ac_next ?_
 refine aw_grp1 ?_
 refine wk_start ?_
 refine kv g0 (mv) ?_
 refine kv g0 (asg) ?_
 refine wk_end ?_
 refine ac_next ?_
 refine aw_ret ?_
 obtain rfl := Option.some.inj H
 exact acr hE [.tmp 4] (.tmp .nil) (.one _) [(0, 0)] 9999
/-! spec_DrawReadFrame -/
def spec_DrawReadFrame.f (k : Nat) (l0 : List Int) : Option (ByteArray) := (spec_l01New.f k l0).bind fun t1 => (spec_l01Below.f t1.1 t1.2.1 t1.2.2 4).bind fun t3 => (spec_l17Any.f k t3.2.1 t3.2.2.1 t3.2.2.2).bind fun t5 => ((spec_FrameText.f k t5.1 t5.2.1 t5.2.2.1 t5.2.2.2.1 t5.2.2.2.2.1 t5.2.2.2.2.2.1 t5.2.2.2.2.2.2.1).bind fun t7 => if t3.1 = 0 then ((spec_Unsealed.f k t7.1).bind fun t10 => if t10.2 = true then ((spec_l02Spoilt.f k t5.2.2.2.2.2.2.2.1 t5.2.2.2.2.2.2.2.2.1 t5.2.2.2.2.2.2.2.2.2 t10.1).bind fun t13 => ((spec_Sealed.f k t13.1).bind fun t15 => some t15.1)) else some t7.1) else if t3.1 = 1 then ((spec_l02Spoilt.f k t5.2.2.2.2.2.2.2.1 t5.2.2.2.2.2.2.2.2.1 t5.2.2.2.2.2.2.2.2.2 t7.1).bind fun t18 => some t18.1) else some t7.1)
theorem spec_DrawReadFrame.ok {k : Nat} {l0 : List Int} {r : ByteArray} (H : spec_DrawReadFrame.f k l0 = some r) : ACalls Try.prog 10 [] [.sl .o 1 (l0.map (eI .u8))] [] (.lit (.string r)) := by
 refine acalls (fn := Try.f10) (nt := 41) Try.func10 rfl rfl (Nat.le_of_ble_eq_true rfl) fun E hE => ?_
 rw [spec_DrawReadFrame.f] at H
 refine aw_grp1 ?_
 refine wk_start ?_
 refine kv g0 (asg) ?_
 refine wk_end ?_
 refine ac_next ?_
 refine aw_grp1 ?_
 refine wk_start ?_
 refine kv g0 (mv) ?_
 obtain ⟨t1, A2, H⟩ := of_bind H
 refine kcS1 10 (.box 0 0) [(0, .box 56 [.sl .o 1 (t1.1.map (eI .u8)), .lit (.int .i64 t1.2.1), .lit (.int .i64 t1.2.2)])] g0 (cal (spec_l01New.ok A2) [0] 9999 .o (hf := Try.func16)) rfl rfl ?_
 refine kv g0 (asg) ?_
 refine wk_end ?_
 refine ac_next ?_
 refine aw_grp1 ?_
 refine wk_start ?_
 refine kv g0 (mv) ?_
 obtain ⟨t3, A4, H⟩ := of_bind H
 refine kcS1 12 (.lit (.int .i64 t3.1)) [(0, .box 56 [.sl .o 1 (t3.2.1.map (eI .u8)), .lit (.int .i64 t3.2.2.1), .lit (.int .i64 t3.2.2.2)])] g0 (cal (spec_l01Below.ok A4) [0] 9999 .o (hf := Try.func24)) rfl rfl ?_
 refine kv g0 (asg) ?_
 refine wk_end ?_
 refine ac_next ?_
 refine aw_grp1 ?_
 refine wk_start ?_
 refine kv g0 (mv) ?_
 obtain ⟨t5, A6, H⟩ := of_bind H
 refine kcS1 15 (.agg [.lit (.int .i64 t5.1), .lit (.int .i64 t5.2.1), .lit (.int .i64 t5.2.2.1), .lit (.int .i64 t5.2.2.2.1), .lit (.int .i64 t5.2.2.2.2.1), .lit (.int .i64 t5.2.2.2.2.2.1), .lit (.int .i64 t5.2.2.2.2.2.2.1)]) [(0, .box 56 [.sl .o 1 (t5.2.2.2.2.2.2.2.1.map (eI .u8)), .lit (.int .i64 t5.2.2.2.2.2.2.2.2.1), .lit (.int .i64 t5.2.2.2.2.2.2.2.2.2)])] g0 (cal (spec_l17Any.ok A6) [0] 9999 .o (hf := Try.func25)) rfl rfl ?_
 obtain ⟨t7, A8, H⟩ := of_bind H
 refine kcS0 16 (.tup [.lit (.string t7.1), .lit (.bool t7.2)]) [] g0 (cal (spec_FrameText.ok A8) [] 9999 .n (hf := Try.func13)) rfl rfl ?_
 refine kv g0 (mv) ?_
 refine kv g0 (ext) ?_
 refine kv g0 (ext) ?_
 refine kv g0 (asg) ?_
 refine kv g0 (asg) ?_
 refine wk_end ?_
 refine ac_next ?_
 refine aw_grp1 ?_
 refine aw_grp1 ?_
 refine wk_start ?_
 refine kv g0 (mv) ?_
 refine wk_end ?_
 refine ac_next ?_
 refine aw_block ?_
 refine aw_grp1 ?_
 refine wk_start ?_
 refine kv g0 (eql) ?_
 refine kv g0 (asg) ?_
 refine wk_end ?_
 refine ac_next ?_
 by_cases c9 : t3.1 = 0
 ·rw [if_pos c9] at H
  refine aw_ifT ?_ (eT c9)
  refine aw_grp1 ?_
  refine wk_start ?_
  refine kv g0 (mv) ?_
  obtain ⟨t10, A11, H⟩ := of_bind H
  refine kcS0 24 (.tup [.lit (.string t10.1), .lit (.bool t10.2)]) [] g0 (cal (spec_Unsealed.ok A11) [] 9999 .n (hf := Try.func26)) rfl rfl ?_
  refine kv g0 (mv) ?_
  refine kv g0 (ext) ?_
  refine kv g0 (ext) ?_
  refine kv g0 (asg) ?_
  refine kv g0 (asg) ?_
  refine wk_end ?_
  refine ac_next ?_
  refine aw_grp1 ?_
  refine wk_start ?_
  refine kv g0 (mv) ?_
  refine wk_end ?_
  refine ac_next ?_
  by_cases c12 : t10.2 = true
  ·rw [if_pos c12] at H
   refine aw_ifT ?_ c12
   refine wk_start ?_
   refine kv g0 (mv) ?_
   refine kv g0 (mv) ?_
   obtain ⟨t13, A14, H⟩ := of_bind H
   refine kcS1 31 (.lit (.string t13.1)) [(0, .box 56 [.sl .o 1 (t13.2.1.map (eI .u8)), .lit (.int .i64 t13.2.2.1), .lit (.int .i64 t13.2.2.2)])] g0 (cal (spec_l02Spoilt.ok A14) [0] 9999 .o (hf := Try.func28)) rfl rfl ?_
   obtain ⟨t15, A16, H⟩ := of_bind H
   refine kcS0 32 (.tup [.lit (.string t15.1), .lit (.bool t15.2)]) [] g0 (cal (spec_Sealed.ok A16) [] 9999 .n (hf := Try.func27)) rfl rfl ?_
   refine kv g0 (mv) ?_
   refine kv g0 (ext) ?_
   refine kv g0 (ext) ?_
   refine kv g0 (asg) ?_
   refine wk_end ?_
   refine ac_blkN ?_
   refine ac_next ?_
   refine aw_grp1 ?_
   refine wk_start ?_
   refine kv g0 (mv) ?_
   refine kv g0 (asg) ?_
   refine wk_end ?_
   refine ac_next ?_
   refine aw_ret ?_
   obtain rfl := Option.some.inj H
   exact acr hE [.tmp 2] (.tmp .nil) (.one _) [] 9999
  rw [if_neg c12] at H
  refine aw_ifF ?_ (bF c12)
  refine aw_skip ?_
  refine ac_blkN ?_
  refine ac_next ?_
  refine aw_grp1 ?_
  refine wk_start ?_
  refine kv g0 (mv) ?_
  refine kv g0 (asg) ?_
  refine wk_end ?_
  refine ac_next ?_
  refine aw_ret ?_
  obtain rfl := Option.some.inj H
  exact acr hE [.tmp 2] (.tmp .nil) (.one _) [] 9999
 rw [if_neg c9] at H
 refine aw_ifF ?_ (eF c9)
 refine aw_grp1 ?_
 refine wk_start ?_
 refine kv g0 (eql) ?_
 refine kv g0 (asg) ?_
 refine wk_end ?_
 refine ac_next ?_
 by_cases c17 : t3.1 = 1
 ·rw [if_pos c17] at H
  refine aw_ifT ?_ (eT c17)
  refine aw_grp1 ?_
  refine wk_start ?_
  refine kv g0 (mv) ?_
  refine kv g0 (mv) ?_
  obtain ⟨t18, A19, H⟩ := of_bind H
  refine kcS1 39 (.lit (.string t18.1)) [(0, .box 56 [.sl .o 1 (t18.2.1.map (eI .u8)), .lit (.int .i64 t18.2.2.1), .lit (.int .i64 t18.2.2.2)])] g0 (cal (spec_l02Spoilt.ok A19) [0] 9999 .o (hf := Try.func28)) rfl rfl ?_
  refine kv g0 (asg) ?_
  refine wk_end ?_
  refine ac_next ?_
  refine aw_ret ?_
  refine ac_blkR ?_
  refine ac_thenR ?_
  obtain rfl := Option.some.inj H
  exact acr hE [.tmp 2] (.tmp .nil) (.one _) [] 9999
 rw [if_neg c17] at H
 refine aw_ifF ?_ (eF c17)
 refine aw_skip ?_
 refine ac_blkN ?_
 refine ac_next ?_
 refine aw_grp1 ?_
 refine wk_start ?_
 refine kv g0 (mv) ?_
 refine kv g0 (asg) ?_
 refine wk_end ?_
 refine ac_next ?_
 refine aw_ret ?_
 obtain rfl := Option.some.inj H
 exact acr hE [.tmp 2] (.tmp .nil) (.one _) [] 9999
/-! spec_ReadVar -/
def spec_ReadVar.l0 : Nat → ByteArray → Int → Int → Int → Int → Option (Int × Int × Bool)
 | 0, _, _, _, _, _ => none
 | k18 + 1, a0, a1, p15, p16, p17 => if p17 < (a0.size : Int) then if p17 < (wrap64 (a1 + 5)) then if 0 ≤ p17 then if (bt a0 p17) < 128 then (if (wrap64 (p15 + (wrap64 (((wrap64 (bt a0 p17)).tmod 128) * p16)))) > 1000000000 then some (0, 0, false) else ((spec_l01Var.f k18 (wrap64 (p15 + (wrap64 (((wrap64 (bt a0 p17)).tmod 128) * p16))))).bind fun t24 => (if 0 ≤ a1 then (if a1 ≤ (wrap64 (p17 + 1)) then (if (wrap64 (p17 + 1)) ≤ (a0.size : Int) then if (t24.toList == (a0.extract a1.toNat (wrap64 (p17 + 1)).toNat).toList) = true then some (wrap64 (p15 + (wrap64 (((wrap64 (bt a0 p17)).tmod 128) * p16))), wrap64 (p17 + 1), true) else some (0, 0, false) else none) else none) else none))) else spec_ReadVar.l0 k18 a0 a1 (wrap64 (p15 + (wrap64 (((wrap64 (bt a0 p17)).tmod 128) * p16)))) (wrap64 (p16 * 128)) (wrap64 (p17 + 1)) else none else some (0, 0, false) else some (0, 0, false)
def spec_ReadVar.f (k : Nat) (a0 : ByteArray) (a1 : Int) : Option (Int × Int × Bool) := (spec_l01In.f a1 0 (a0.size : Int)).bind fun t1 => if t1 = true then spec_ReadVar.l0 k a0 a1 0 1 a1 else some (0, 0, false)
theorem spec_ReadVar.ok {k : Nat} {a0 : ByteArray} {a1 : Int} {r : Int × Int × Bool} (H : spec_ReadVar.f k a0 a1 = some r) : ACalls Try.prog 29 [] [.lit (.string a0), .lit (.int .i64 a1)] [] (.tup [.lit (.int .i64 r.1), .lit (.int .i64 r.2.1), .lit (.bool r.2.2)]) := by
 refine acalls (fn := Try.f29) (nt := 58) Try.func29 rfl rfl (Nat.le_of_ble_eq_true rfl) fun E hE => ?_
 rw [spec_ReadVar.f] at H
 refine aw_grp1 ?_
 refine wk_start ?_
 refine kv g0 (asg) ?_
 refine kv g0 (asg) ?_
 refine kv g0 (asg) ?_
 refine wk_end ?_
 refine ac_next ?_
 refine aw_grp1 ?_
 refine aw_grp1 ?_
 refine wk_start ?_
 refine kv g0 (mv) ?_
 refine kv g0 (mv) ?_
 refine kv g0 (lnT) ?_
 obtain ⟨t1, A2, H⟩ := of_bind H
 refine kcS0 13 (.lit (.bool t1)) [] g0 (cal (spec_l01In.ok A2) [] 9999 .n (hf := Try.func43)) rfl rfl ?_
 refine kv g0 (not_) ?_
 refine wk_end ?_
 refine ac_next ?_
 by_cases c3 : t1 = true
 ·rw [if_pos c3] at H
  refine aw_ifF ?_ (nF c3)
  refine aw_skip ?_
  refine ac_next ?_
  refine aw_grp1 ?_
  refine wk_start ?_
  refine kv g0 (asg) ?_
  refine wk_end ?_
  refine ac_next ?_
  refine aw_grp1 ?_
  refine wk_start ?_
  refine kv g0 (asg) ?_
  refine wk_end ?_
  refine ac_next ?_
  refine aw_grp1 ?_
  refine aw_grp1 ?_
  refine wk_start ?_
  refine kv g0 (mv) ?_
  refine kv g0 (asg) ?_
  refine wk_end ?_
  refine ac_next ?_
  refine aw_block ?_
  refine aw_loop3 (fun (k_ : Nat) (p15 : Int) (p16 : Int) (p17 : Int) => k_ ≤ k ∧ spec_ReadVar.l0 k_ a0 a1 p15 p16 p17 = some r) (fun (p15 : Int) (p16 : Int) (p17 : Int) => ⟨[(0, .lit (.string a0)), (1, .lit (.int .i64 a1)), (7, .lit (.int .i64 p15)), (8, .lit (.int .i64 p16)), (9, .lit (.int .i64 p17))], []⟩) k 0 1 a1 ⟨Nat.le_refl _, H⟩ (fun K_ h_ => acw hE [] 9999 h_) (fun _ _ _ => by intro h_; have h_ := h_.2; rw [spec_ReadVar.l0.eq_1] at h_; cases h_) ?_
  intro k18 p15 p16 p17 hq_ K30 hK31
  have hk18 := hq_.1
  have H := hq_.2
  clear hq_
  rw [spec_ReadVar.l0.eq_2] at H
  refine aw_grp1 ?_
  refine aw_grp1 ?_
  refine wk_start ?_
  refine kv g0 (mv) ?_
  refine kv g0 (mv) ?_
  refine kv g0 (lnT) ?_
  refine kv g0 (lss) ?_
  refine kv g0 (mv) ?_
  by_cases c19 : p17 < (a0.size : Int)
  ·rw [if_pos c19] at H
   refine kv (g1 (decide_eq_true c19)) (mv) ?_
   refine kv (g1 (decide_eq_true c19)) (mv) ?_
   refine kv (g1 (decide_eq_true c19)) (add6) ?_
   refine kv (g1 (decide_eq_true c19)) (lss) ?_
   refine kv g0 (pkT (decide_eq_true c19)) ?_
   refine wk_end ?_
   refine ac_next ?_
   by_cases c20 : p17 < (wrap64 (a1 + 5))
   ·rw [if_pos c20] at H
    refine aw_ifT ?_ (decide_eq_true c20)
    refine aw_skip ?_
    refine ac_next ?_
    refine aw_grp1 ?_
    refine aw_block ?_
    refine aw_grp1 ?_
    refine wk_start ?_
    refine kv g0 (mv) ?_
    refine kv g0 (mv) ?_
    refine kv g0 (mv) ?_
    obtain ⟨c21, H⟩ := of_if H
    refine kv g0 (ixT c21 c19) ?_
    refine kv g0 (cnv6) ?_
    refine kv g0 (rem (by decide : (128 : Int) ≠ 0)) ?_
    refine kv g0 (mv) ?_
    refine kv g0 (mul6) ?_
    refine kv g0 (add6) ?_
    refine kv g0 (asg) ?_
    refine wk_end ?_
    refine ac_next ?_
    refine aw_grp1 ?_
    refine wk_start ?_
    refine kv g0 (mv) ?_
    refine kv g0 (mul6) ?_
    refine kv g0 (asg) ?_
    refine wk_end ?_
    refine ac_next ?_
    refine aw_grp1 ?_
    refine wk_start ?_
    refine kv g0 (mv) ?_
    refine kv g0 (mv) ?_
    refine kv g0 (ixT c21 c19) ?_
    refine kv g0 (lss) ?_
    refine wk_end ?_
    refine ac_next ?_
    by_cases c22 : (bt a0 p17) < 128
    ·rw [if_pos c22] at H
     refine aw_ifT ?_ (decide_eq_true c22)
     refine aw_grp1 ?_
     refine aw_grp1 ?_
     refine wk_start ?_
     refine kv g0 (mv) ?_
     refine kv g0 (gtr) ?_
     refine kv g0 (mv) ?_
     by_cases c23 : (wrap64 (p15 + (wrap64 (((wrap64 (bt a0 p17)).tmod 128) * p16)))) > 1000000000
     ·rw [if_pos c23] at H
      refine kx (hF (decide_eq_true c23)) ?_
      refine kx (hF (decide_eq_true c23)) ?_
      refine kx (hF (decide_eq_true c23)) ?_
      refine kx (hF (decide_eq_true c23)) ?_
      refine kx (hF (decide_eq_true c23)) ?_
      refine kx (hF (decide_eq_true c23)) ?_
      refine kx (hF (decide_eq_true c23)) ?_
      refine kx (hF (decide_eq_true c23)) ?_
      refine kv g0 (pkT (decide_eq_true c23)) ?_
      refine wk_end_draw hM (by kernel_rfl) ?_
      refine ac_next ?_
      refine aw_ifT ?_ rfl
      refine aw_grp1 ?_
      refine wk_start ?_
      refine kv g0 (asg) ?_
      refine kv g0 (asg) ?_
      refine kv g0 (asg) ?_
      refine wk_end ?_
      refine ac_next ?_
      refine aw_ret ?_
      refine ac_thenR ?_
      refine ac_blkR ?_
      refine ac_thenR ?_
      refine ac_thenR ?_
      refine ac_blkR ?_
      refine ac_thenR ?_
      obtain rfl := Option.some.inj H
      exact acr hE [.tmp 4, .tmp 5, .tmp 6] (.tmp (.tmp (.tmp .nil))) (.many _ _ _) [] 9999
     rw [if_neg c23] at H
     refine kv (g1 (decide_eq_false c23)) (mv) ?_
     obtain ⟨t24, A25, H⟩ := of_bind H
     refine kcS0 47 (.lit (.string t24)) [] (g1 (decide_eq_false c23)) (cal (spec_l01Var.ok A25) [] 9999 .n (hf := Try.func32)) rfl rfl ?_
     refine kv (g1 (decide_eq_false c23)) (mv) ?_
     refine kv (g1 (decide_eq_false c23)) (mv) ?_
     refine kv (g1 (decide_eq_false c23)) (mv) ?_
     refine kv (g1 (decide_eq_false c23)) (add6) ?_
     obtain ⟨c26, H⟩ := of_if H
     obtain ⟨c27, H⟩ := of_if H
     obtain ⟨c28, H⟩ := of_if H
     refine kv (g1 (decide_eq_false c23)) (tsLH c26 c27 c28) ?_
     refine kv (g1 (decide_eq_false c23)) (sne) ?_
     refine kv g0 (pkF (decide_eq_false c23)) ?_
     refine wk_end_draw hM (by kernel_rfl) ?_
     refine ac_next ?_
     by_cases c29 : (t24.toList == (a0.extract a1.toNat (wrap64 (p17 + 1)).toNat).toList) = true
     ·rw [if_pos c29] at H
      refine aw_ifF ?_ (nF c29)
      refine aw_skip ?_
      refine ac_next ?_
      refine aw_grp1 ?_
      refine wk_start ?_
      refine kv g0 (mv) ?_
      refine kv g0 (mv) ?_
      refine kv g0 (add6) ?_
      refine kv g0 (asg) ?_
      refine kv g0 (asg) ?_
      refine kv g0 (asg) ?_
      refine wk_end ?_
      refine ac_next ?_
      refine aw_ret ?_
      refine ac_blkR ?_
      refine ac_thenR ?_
      refine ac_thenR ?_
      refine ac_blkR ?_
      refine ac_thenR ?_
      obtain rfl := Option.some.inj H
      exact acr hE [.tmp 4, .tmp 5, .tmp 6] (.tmp (.tmp (.tmp .nil))) (.many _ _ _) [] 9999
     rw [if_neg c29] at H
     refine aw_ifT ?_ (nT (bF c29))
     refine aw_grp1 ?_
     refine wk_start ?_
     refine kv g0 (asg) ?_
     refine kv g0 (asg) ?_
     refine kv g0 (asg) ?_
     refine wk_end ?_
     refine ac_next ?_
     refine aw_ret ?_
     refine ac_thenR ?_
     refine ac_blkR ?_
     refine ac_thenR ?_
     refine ac_thenR ?_
     refine ac_blkR ?_
     refine ac_thenR ?_
     obtain rfl := Option.some.inj H
     exact acr hE [.tmp 4, .tmp 5, .tmp 6] (.tmp (.tmp (.tmp .nil))) (.many _ _ _) [] 9999
    rw [if_neg c22] at H
    refine aw_ifF ?_ (decide_eq_false c22)
    refine aw_skip ?_
    refine ac_blkN ?_
    refine ac_next ?_
    refine wk_start ?_
    refine kv g0 (mv) ?_
    refine kv g0 (add6) ?_
    refine kv g0 (asg) ?_
    refine wk_end ?_
    refine ac_k ?_
    exact acw hE [] 9999 (hK31 k18 (wrap64 (p15 + (wrap64 (((wrap64 (bt a0 p17)).tmod 128) * p16)))) (wrap64 (p16 * 128)) (wrap64 (p17 + 1)) (Nat.le_refl _) ⟨by omega, H⟩)
   rw [if_neg c20] at H
   refine aw_ifF ?_ (decide_eq_false c20)
   refine aw_exit ?_
   refine ac_then ?_
   refine ac_then ?_
   refine ac_hit rfl ?_
   refine ac_next ?_
   refine aw_grp1 ?_
   refine wk_start ?_
   refine kv g0 (asg) ?_
   refine kv g0 (asg) ?_
   refine kv g0 (asg) ?_
   refine wk_end ?_
   refine ac_next ?_
   refine aw_ret ?_
   obtain rfl := Option.some.inj H
   exact acr hE [.tmp 4, .tmp 5, .tmp 6] (.tmp (.tmp (.tmp .nil))) (.many _ _ _) [] 9999
  rw [if_neg c19] at H
  refine kx (hT (decide_eq_false c19)) ?_
  refine kx (hT (decide_eq_false c19)) ?_
  refine kx (hT (decide_eq_false c19)) ?_
  refine kx (hT (decide_eq_false c19)) ?_
  refine kv g0 (pkF (decide_eq_false c19)) ?_
  refine wk_end ?_
  refine ac_next ?_
  refine aw_ifF ?_ rfl
  refine aw_exit ?_
  refine ac_then ?_
  refine ac_then ?_
  refine ac_hit rfl ?_
  refine ac_next ?_
  refine aw_grp1 ?_
  refine wk_start ?_
  refine kv g0 (asg) ?_
  refine kv g0 (asg) ?_
  refine kv g0 (asg) ?_
  refine wk_end ?_
  refine ac_next ?_
  refine aw_ret ?_
  obtain rfl := Option.some.inj H
  exact acr hE [.tmp 4, .tmp 5, .tmp 6] (.tmp (.tmp (.tmp .nil))) (.many _ _ _) [] 9999
 rw [if_neg c3] at H
 refine aw_ifT ?_ (nT (bF c3))
 refine aw_grp1 ?_
 refine wk_start ?_
 refine kv g0 (asg) ?_
 refine kv g0 (asg) ?_
 refine kv g0 (asg) ?_
 refine wk_end ?_
 refine ac_next ?_
 refine aw_ret ?_
 refine ac_thenR ?_
 obtain rfl := Option.some.inj H
 exact acr hE [.tmp 4, .tmp 5, .tmp 6] (.tmp (.tmp (.tmp .nil))) (.many _ _ _) [] 9999
/-! spec_l17Four -/
def spec_l17Four.f (a0 : ByteArray) (a1 : Int) : Option (Int) := if 0 ≤ a1 then (if a1 < (a0.size : Int) then (if 0 ≤ (wrap64 (a1 + 1)) then (if (wrap64 (a1 + 1)) < (a0.size : Int) then (if 0 ≤ (wrap64 (a1 + 2)) then (if (wrap64 (a1 + 2)) < (a0.size : Int) then (if 0 ≤ (wrap64 (a1 + 3)) then (if (wrap64 (a1 + 3)) < (a0.size : Int) then some (bits .or .i64 (bits .or .i64 (bits .or .i64 (wrap64 ((wrap64 (bt a0 a1)) * 2 ^ 24)) (wrap64 ((wrap64 (bt a0 (wrap64 (a1 + 1)))) * 2 ^ 16))) (wrap64 ((wrap64 (bt a0 (wrap64 (a1 + 2)))) * 2 ^ 8))) (wrap64 (bt a0 (wrap64 (a1 + 3))))) else none) else none) else none) else none) else none) else none) else none) else none
theorem spec_l17Four.ok {a0 : ByteArray} {a1 : Int} {r : Int} (H : spec_l17Four.f a0 a1 = some r) : ACalls Try.prog 30 [] [.lit (.string a0), .lit (.int .i64 a1)] [] (.lit (.int .i64 r)) := by
 refine acalls (fn := Try.f30) (nt := 30) Try.func30 rfl rfl (Nat.le_of_ble_eq_true rfl) fun E hE => ?_
 rw [spec_l17Four.f] at H
 refine aw_grp1 ?_
 refine wk_start ?_
 refine kv g0 (asg) ?_
 refine wk_end ?_
 refine ac_next ?_
 refine aw_grp1 ?_
 refine wk_start ?_
 refine kv g0 (mv) ?_
 refine kv g0 (mv) ?_
 obtain ⟨c1, H⟩ := of_if H
 obtain ⟨c2, H⟩ := of_if H
 refine kv g0 (ixT c1 c2) ?_
 refine kv g0 (cnv6) ?_
 refine kv g0 (shl6 (by decide : (0 : Int) ≤ 24)) ?_
 refine kv g0 (mv) ?_
 refine kv g0 (mv) ?_
 refine kv g0 (add6) ?_
 obtain ⟨c3, H⟩ := of_if H
 obtain ⟨c4, H⟩ := of_if H
 refine kv g0 (ixT c3 c4) ?_
 refine kv g0 (cnv6) ?_
 refine kv g0 (shl6 (by decide : (0 : Int) ≤ 16)) ?_
 refine kv g0 (bor) ?_
 refine kv g0 (mv) ?_
 refine kv g0 (mv) ?_
 refine kv g0 (add6) ?_
 obtain ⟨c5, H⟩ := of_if H
 obtain ⟨c6, H⟩ := of_if H
 refine kv g0 (ixT c5 c6) ?_
 refine kv g0 (cnv6) ?_
 refine kv g0 (shl6 (by decide : (0 : Int) ≤ 8)) ?_
 refine kv g0 (bor) ?_
 refine kv g0 (mv) ?_
 refine kv g0 (mv) ?_
 refine kv g0 (add6) ?_
 obtain ⟨c7, H⟩ := of_if H
 obtain ⟨c8, H⟩ := of_if H
 refine kv g0 (ixT c7 c8) ?_
 refine kv g0 (cnv6) ?_
 refine kv g0 (bor) ?_
 refine kv g0 (asg) ?_
 refine wk_end_draw hM (by kernel_rfl) ?_
 refine ac_next ?_
 refine aw_ret ?_
 obtain rfl := Option.some.inj H
 exact acr hE [.tmp 4] (.tmp .nil) (.one _) [] 9999
/-! spec_ReadFrame -/
def spec_ReadFrame.f (k : Nat) (a0 : ByteArray) : Option (Int × Int × Int × Int × Int × Int × Int × Bool) := (spec_Unsealed.f k a0).bind fun t1 => if t1.2 = true then if (t1.1.size : Int) < 2 then some (0, 0, 0, 0, 0, 0, 0, false) else (spec_ReadVar.f k t1.1 2).bind fun t5 => if t5.2.2 = true then if (wrap64 ((t1.1.size : Int) - t5.2.1)) < 9 then some (0, 0, 0, 0, 0, 0, 0, false) else (spec_ReadVar.f k t1.1 (wrap64 (t5.2.1 + 9))).bind fun t9 => if 0 < (t1.1.size : Int) then (if 1 < (t1.1.size : Int) then (if 0 ≤ t5.2.1 then (if t5.2.1 < (t1.1.size : Int) then ((spec_l17Four.f t1.1 (wrap64 (t5.2.1 + 1))).bind fun t15 => ((spec_l17Four.f t1.1 (wrap64 (t5.2.1 + 5))).bind fun t17 => (spec_FrameText.f k (wrap64 (bt t1.1 0)) (wrap64 (bt t1.1 1)) t5.1 (wrap64 (bt t1.1 t5.2.1)) t15 t17 t9.1).bind fun t19 => if t9.2.2 = true then (if t19.2 = true then if (t19.1.toList == a0.toList) = true then some (wrap64 (bt t1.1 0), wrap64 (bt t1.1 1), t5.1, wrap64 (bt t1.1 t5.2.1), t15, t17, t9.1, true) else some (0, 0, 0, 0, 0, 0, 0, false) else some (0, 0, 0, 0, 0, 0, 0, false)) else some (0, 0, 0, 0, 0, 0, 0, false))) else none) else none) else none) else none else some (0, 0, 0, 0, 0, 0, 0, false) else some (0, 0, 0, 0, 0, 0, 0, false)
theorem spec_ReadFrame.ok {k : Nat} {a0 : ByteArray} {r : Int × Int × Int × Int × Int × Int × Int × Bool} (H : spec_ReadFrame.f k a0 = some r) : ACalls Try.prog 11 [] [.lit (.string a0)] [] (.tup [.agg [.lit (.int .i64 r.1), .lit (.int .i64 r.2.1), .lit (.int .i64 r.2.2.1), .lit (.int .i64 r.2.2.2.1), .lit (.int .i64 r.2.2.2.2.1), .lit (.int .i64 r.2.2.2.2.2.1), .lit (.int .i64 r.2.2.2.2.2.2.1)], .lit (.bool r.2.2.2.2.2.2.2)]) := by
 refine acalls (fn := Try.f11) (nt := 92) Try.func11 rfl rfl (Nat.le_of_ble_eq_true rfl) fun E hE => ?_
 rw [spec_ReadFrame.f] at H
 refine aw_grp1 ?_
 refine wk_start ?_
 refine kb g0 (alc 0 [.int .i64 0, .int .i64 0, .int .i64 0, .int .i64 0, .int .i64 0, .int .i64 0, .int .i64 0] [.lit (.int .i64 0), .lit (.int .i64 0), .lit (.int .i64 0), .lit (.int .i64 0), .lit (.int .i64 0), .lit (.int .i64 0), .lit (.int .i64 0)]) ?_
 refine kv g0 (asg) ?_
 refine wk_end ?_
 refine ac_next ?_
 refine aw_grp1 ?_
 refine wk_start ?_
 refine kv g0 (mv) ?_
 obtain ⟨t1, A2, H⟩ := of_bind H
 refine kcS0 17 (.tup [.lit (.string t1.1), .lit (.bool t1.2)]) [] g0 (cal (spec_Unsealed.ok A2) [] 9999 .n (hf := Try.func26)) rfl rfl ?_
 refine kv g0 (mv) ?_
 refine kv g0 (ext) ?_
 refine kv g0 (ext) ?_
 refine kv g0 (asg) ?_
 refine kv g0 (asg) ?_
 refine wk_end ?_
 refine ac_next ?_
 refine aw_grp1 ?_
 refine aw_grp1 ?_
 refine wk_start ?_
 refine kv g0 (mv) ?_
 refine kv g0 (not_) ?_
 refine kv g0 (mv) ?_
 by_cases c3 : t1.2 = true
 ·rw [if_pos c3] at H
  refine kv (g1 (nF c3)) (mv) ?_
  refine kv (g1 (nF c3)) (lnT) ?_
  refine kv (g1 (nF c3)) (lss) ?_
  refine kv g0 (pkF (nF c3)) ?_
  refine wk_end ?_
  refine ac_next ?_
  by_cases c4 : (t1.1.size : Int) < 2
  ·rw [if_pos c4] at H
   refine aw_ifT ?_ (decide_eq_true c4)
   refine aw_grp1 ?_
   refine wk_start ?_
   refine kv g0 (bld [(0, 1), (1, 1), (2, 1), (3, 4)] [.int .i64 0, .int .i64 0, .int .i64 0, .int .i64 0, .int .i64 0, .int .i64 0, .int .i64 0] [.lit (.int .i64 0), .lit (.int .i64 0), .lit (.int .i64 0), .lit (.int .i64 0), .lit (.int .i64 0), .lit (.int .i64 0), .lit (.int .i64 0)]) ?_
   refine ks g0 (stB 7 [.lit (.int .i64 0), .lit (.int .i64 0), .lit (.int .i64 0), .lit (.int .i64 0), .lit (.int .i64 0), .lit (.int .i64 0), .lit (.int .i64 0)]) ?_
   refine kv g0 (asg) ?_
   refine wk_end ?_
   refine ac_next ?_
   refine aw_ret ?_
   refine ac_thenR ?_
   obtain rfl := Option.some.inj H
   exact acr hE [.cell 2 27, .tmp 3] (rcA 7 (.tmp .nil)) (.many _ _ _) [] 9999
  rw [if_neg c4] at H
  refine aw_ifF ?_ (decide_eq_false c4)
  refine aw_skip ?_
  refine ac_next ?_
  refine aw_grp1 ?_
  refine wk_start ?_
  refine kv g0 (mv) ?_
  obtain ⟨t5, A6, H⟩ := of_bind H
  refine kcS0 30 (.tup [.lit (.int .i64 t5.1), .lit (.int .i64 t5.2.1), .lit (.bool t5.2.2)]) [] g0 (cal (spec_ReadVar.ok A6) [] 9999 .n (hf := Try.func29)) rfl rfl ?_
  refine kv g0 (mv) ?_
  refine kv g0 (ext) ?_
  refine kv g0 (ext) ?_
  refine kv g0 (ext) ?_
  refine kv g0 (asg) ?_
  refine kv g0 (asg) ?_
  refine kv g0 (asg) ?_
  refine wk_end ?_
  refine ac_next ?_
  refine aw_grp1 ?_
  refine aw_grp1 ?_
  refine wk_start ?_
  refine kv g0 (mv) ?_
  refine kv g0 (not_) ?_
  refine kv g0 (mv) ?_
  by_cases c7 : t5.2.2 = true
  ·rw [if_pos c7] at H
   refine kv (g1 (nF c7)) (mv) ?_
   refine kv (g1 (nF c7)) (lnT) ?_
   refine kv (g1 (nF c7)) (mv) ?_
   refine kv (g1 (nF c7)) (sub6) ?_
   refine kv (g1 (nF c7)) (lss) ?_
   refine kv g0 (pkF (nF c7)) ?_
   refine wk_end ?_
   refine ac_next ?_
   by_cases c8 : (wrap64 ((t1.1.size : Int) - t5.2.1)) < 9
   ·rw [if_pos c8] at H
    refine aw_ifT ?_ (decide_eq_true c8)
    refine aw_grp1 ?_
    refine wk_start ?_
    refine kv g0 (bld [(0, 1), (1, 1), (2, 1), (3, 4)] [.int .i64 0, .int .i64 0, .int .i64 0, .int .i64 0, .int .i64 0, .int .i64 0, .int .i64 0] [.lit (.int .i64 0), .lit (.int .i64 0), .lit (.int .i64 0), .lit (.int .i64 0), .lit (.int .i64 0), .lit (.int .i64 0), .lit (.int .i64 0)]) ?_
    refine ks g0 (stB 7 [.lit (.int .i64 0), .lit (.int .i64 0), .lit (.int .i64 0), .lit (.int .i64 0), .lit (.int .i64 0), .lit (.int .i64 0), .lit (.int .i64 0)]) ?_
    refine kv g0 (asg) ?_
    refine wk_end ?_
    refine ac_next ?_
    refine aw_ret ?_
    refine ac_thenR ?_
    obtain rfl := Option.some.inj H
    exact acr hE [.cell 2 27, .tmp 3] (rcA 7 (.tmp .nil)) (.many _ _ _) [] 9999
   rw [if_neg c8] at H
   refine aw_ifF ?_ (decide_eq_false c8)
   refine aw_skip ?_
   refine ac_next ?_
   refine aw_grp1 ?_
   refine wk_start ?_
   refine kv g0 (mv) ?_
   refine kv g0 (mv) ?_
   refine kv g0 (add6) ?_
   obtain ⟨t9, A10, H⟩ := of_bind H
   refine kcS0 48 (.tup [.lit (.int .i64 t9.1), .lit (.int .i64 t9.2.1), .lit (.bool t9.2.2)]) [] g0 (cal (spec_ReadVar.ok A10) [] 9999 .n (hf := Try.func29)) rfl rfl ?_
   refine kv g0 (mv) ?_
   refine kv g0 (ext) ?_
   refine kv g0 (ext) ?_
   refine kv g0 (ext) ?_
   refine kv g0 (asg) ?_
   refine kv g0 (asg) ?_
   refine kv g0 (asg) ?_
   refine wk_end ?_
   refine ac_next ?_
   refine aw_grp1 ?_
   refine wk_start ?_
   refine kv g0 (mv) ?_
   obtain ⟨c11, H⟩ := of_if H
   refine kv g0 (ixT (by decide : (0 : Int) ≤ 0) c11) ?_
   refine kv g0 (cnv6) ?_
   refine kv g0 (mv) ?_
   obtain ⟨c12, H⟩ := of_if H
   refine kv g0 (ixT (by decide : (0 : Int) ≤ 1) c12) ?_
   refine kv g0 (cnv6) ?_
   refine kv g0 (mv) ?_
   refine kv g0 (mv) ?_
   refine kv g0 (mv) ?_
   obtain ⟨c13, H⟩ := of_if H
   obtain ⟨c14, H⟩ := of_if H
   refine kv g0 (ixT c13 c14) ?_
   refine kv g0 (cnv6) ?_
   refine kv g0 (mv) ?_
   refine kv g0 (mv) ?_
   refine kv g0 (add6) ?_
   obtain ⟨t15, A16, H⟩ := of_bind H
   refine kcS0 66 (.lit (.int .i64 t15)) [] g0 (cal (spec_l17Four.ok A16) [] 9999 .n (hf := Try.func30)) rfl rfl ?_
   refine kv g0 (mv) ?_
   refine kv g0 (mv) ?_
   refine kv g0 (add6) ?_
   obtain ⟨t17, A18, H⟩ := of_bind H
   refine kcS0 70 (.lit (.int .i64 t17)) [] g0 (cal (spec_l17Four.ok A18) [] 9999 .n (hf := Try.func30)) rfl rfl ?_
   refine kv g0 (mv) ?_
   refine kv g0 (bld [(0, 1), (1, 1), (2, 1), (3, 1)] [.int .i64 0, .int .i64 0, .int .i64 0, .int .i64 0] [.lit (.int .i64 (wrap64 (bt t1.1 t5.2.1))), .lit (.int .i64 t15), .lit (.int .i64 t17), .lit (.int .i64 t9.1)]) ?_
   refine kv g0 (bld [(0, 1), (1, 1), (2, 1), (3, 4)] [.int .i64 0, .int .i64 0, .int .i64 0, .int .i64 0, .int .i64 0, .int .i64 0, .int .i64 0] [.lit (.int .i64 (wrap64 (bt t1.1 0))), .lit (.int .i64 (wrap64 (bt t1.1 1))), .lit (.int .i64 t5.1), .lit (.int .i64 (wrap64 (bt t1.1 t5.2.1))), .lit (.int .i64 t15), .lit (.int .i64 t17), .lit (.int .i64 t9.1)]) ?_
   refine kb g0 (alc 1 [.int .i64 0, .int .i64 0, .int .i64 0, .int .i64 0, .int .i64 0, .int .i64 0, .int .i64 0] [.lit (.int .i64 0), .lit (.int .i64 0), .lit (.int .i64 0), .lit (.int .i64 0), .lit (.int .i64 0), .lit (.int .i64 0), .lit (.int .i64 0)]) ?_
   refine ks g0 (stB 7 [.lit (.int .i64 (wrap64 (bt t1.1 0))), .lit (.int .i64 (wrap64 (bt t1.1 1))), .lit (.int .i64 t5.1), .lit (.int .i64 (wrap64 (bt t1.1 t5.2.1))), .lit (.int .i64 t15), .lit (.int .i64 t17), .lit (.int .i64 t9.1)]) ?_
   refine wk_end_draw hM (by kernel_rfl) ?_
   refine ac_next ?_
   refine aw_grp1 ?_
   refine wk_start ?_
   refine kv g0 (ldBA 7 [.lit (.int .i64 (wrap64 (bt t1.1 0))), .lit (.int .i64 (wrap64 (bt t1.1 1))), .lit (.int .i64 t5.1), .lit (.int .i64 (wrap64 (bt t1.1 t5.2.1))), .lit (.int .i64 t15), .lit (.int .i64 t17), .lit (.int .i64 t9.1)]) ?_
   obtain ⟨t19, A20, H⟩ := of_bind H
   refine kcS0 76 (.tup [.lit (.string t19.1), .lit (.bool t19.2)]) [] g0 (cal (spec_FrameText.ok A20) [] 9999 .n (hf := Try.func13)) rfl rfl ?_
   refine kv g0 (mv) ?_
   refine kv g0 (ext) ?_
   refine kv g0 (ext) ?_
   refine kv g0 (asg) ?_
   refine kv g0 (asg) ?_
   refine wk_end ?_
   refine ac_next ?_
   refine aw_grp1 ?_
   refine aw_grp1 ?_
   refine wk_start ?_
   refine kv g0 (mv) ?_
   refine kv g0 (not_) ?_
   refine kv g0 (mv) ?_
   by_cases c21 : t9.2.2 = true
   ·rw [if_pos c21] at H
    refine kv (g1 (nF c21)) (mv) ?_
    refine kv (g1 (nF c21)) (not_) ?_
    refine kv g0 (pkF (nF c21)) ?_
    refine kv g0 (mv) ?_
    by_cases c22 : t19.2 = true
    ·rw [if_pos c22] at H
     refine kv (g1 (nF c22)) (mv) ?_
     refine kv (g1 (nF c22)) (mv) ?_
     refine kv (g1 (nF c22)) (sne) ?_
     refine kv g0 (pkF (nF c22)) ?_
     refine wk_end ?_
     refine ac_next ?_
     by_cases c23 : (t19.1.toList == a0.toList) = true
     ·rw [if_pos c23] at H
      refine aw_ifF ?_ (nF c23)
      refine aw_skip ?_
      refine ac_next ?_
      refine aw_grp1 ?_
      refine wk_start ?_
      refine kv g0 (ldBA 7 [.lit (.int .i64 (wrap64 (bt t1.1 0))), .lit (.int .i64 (wrap64 (bt t1.1 1))), .lit (.int .i64 t5.1), .lit (.int .i64 (wrap64 (bt t1.1 t5.2.1))), .lit (.int .i64 t15), .lit (.int .i64 t17), .lit (.int .i64 t9.1)]) ?_
      refine ks g0 (stB 7 [.lit (.int .i64 (wrap64 (bt t1.1 0))), .lit (.int .i64 (wrap64 (bt t1.1 1))), .lit (.int .i64 t5.1), .lit (.int .i64 (wrap64 (bt t1.1 t5.2.1))), .lit (.int .i64 t15), .lit (.int .i64 t17), .lit (.int .i64 t9.1)]) ?_
      refine kv g0 (asg) ?_
      refine wk_end ?_
      refine ac_next ?_
      refine aw_ret ?_
      obtain rfl := Option.some.inj H
      exact acr hE [.cell 2 27, .tmp 3] (rcA 7 (.tmp .nil)) (.many _ _ _) [] 9999
     rw [if_neg c23] at H
     refine aw_ifT ?_ (nT (bF c23))
     refine aw_grp1 ?_
     refine wk_start ?_
     refine kv g0 (bld [(0, 1), (1, 1), (2, 1), (3, 4)] [.int .i64 0, .int .i64 0, .int .i64 0, .int .i64 0, .int .i64 0, .int .i64 0, .int .i64 0] [.lit (.int .i64 0), .lit (.int .i64 0), .lit (.int .i64 0), .lit (.int .i64 0), .lit (.int .i64 0), .lit (.int .i64 0), .lit (.int .i64 0)]) ?_
     refine ks g0 (stB 7 [.lit (.int .i64 0), .lit (.int .i64 0), .lit (.int .i64 0), .lit (.int .i64 0), .lit (.int .i64 0), .lit (.int .i64 0), .lit (.int .i64 0)]) ?_
     refine kv g0 (asg) ?_
     refine wk_end ?_
     refine ac_next ?_
     refine aw_ret ?_
     refine ac_thenR ?_
     obtain rfl := Option.some.inj H
     exact acr hE [.cell 2 27, .tmp 3] (rcA 7 (.tmp .nil)) (.many _ _ _) [] 9999
    rw [if_neg c22] at H
    refine kx (hF (nT (bF c22))) ?_
    refine kx (hF (nT (bF c22))) ?_
    refine kx (hF (nT (bF c22))) ?_
    refine kv g0 (pkT (nT (bF c22))) ?_
    refine wk_end ?_
    refine ac_next ?_
    refine aw_ifT ?_ rfl
    refine aw_grp1 ?_
    refine wk_start ?_
    refine kv g0 (bld [(0, 1), (1, 1), (2, 1), (3, 4)] [.int .i64 0, .int .i64 0, .int .i64 0, .int .i64 0, .int .i64 0, .int .i64 0, .int .i64 0] [.lit (.int .i64 0), .lit (.int .i64 0), .lit (.int .i64 0), .lit (.int .i64 0), .lit (.int .i64 0), .lit (.int .i64 0), .lit (.int .i64 0)]) ?_
    refine ks g0 (stB 7 [.lit (.int .i64 0), .lit (.int .i64 0), .lit (.int .i64 0), .lit (.int .i64 0), .lit (.int .i64 0), .lit (.int .i64 0), .lit (.int .i64 0)]) ?_
    refine kv g0 (asg) ?_
    refine wk_end ?_
    refine ac_next ?_
    refine aw_ret ?_
    refine ac_thenR ?_
    obtain rfl := Option.some.inj H
    exact acr hE [.cell 2 27, .tmp 3] (rcA 7 (.tmp .nil)) (.many _ _ _) [] 9999
   rw [if_neg c21] at H
   refine kx (hF (nT (bF c21))) ?_
   refine kx (hF (nT (bF c21))) ?_
   refine kv g0 (pkT (nT (bF c21))) ?_
   refine kv g0 (mv) ?_
   refine kx (hF rfl) ?_
   refine kx (hF rfl) ?_
   refine kx (hF rfl) ?_
   refine kv g0 (pkT rfl) ?_
   refine wk_end ?_
   refine ac_next ?_
   refine aw_ifT ?_ rfl
   refine aw_grp1 ?_
   refine wk_start ?_
   refine kv g0 (bld [(0, 1), (1, 1), (2, 1), (3, 4)] [.int .i64 0, .int .i64 0, .int .i64 0, .int .i64 0, .int .i64 0, .int .i64 0, .int .i64 0] [.lit (.int .i64 0), .lit (.int .i64 0), .lit (.int .i64 0), .lit (.int .i64 0), .lit (.int .i64 0), .lit (.int .i64 0), .lit (.int .i64 0)]) ?_
   refine ks g0 (stB 7 [.lit (.int .i64 0), .lit (.int .i64 0), .lit (.int .i64 0), .lit (.int .i64 0), .lit (.int .i64 0), .lit (.int .i64 0), .lit (.int .i64 0)]) ?_
   refine kv g0 (asg) ?_
   refine wk_end ?_
   refine ac_next ?_
   refine aw_ret ?_
   refine ac_thenR ?_
   obtain rfl := Option.some.inj H
   exact acr hE [.cell 2 27, .tmp 3] (rcA 7 (.tmp .nil)) (.many _ _ _) [] 9999
  rw [if_neg c7] at H
  refine kx (hF (nT (bF c7))) ?_
  refine kx (hF (nT (bF c7))) ?_
  refine kx (hF (nT (bF c7))) ?_
  refine kx (hF (nT (bF c7))) ?_
  refine kx (hF (nT (bF c7))) ?_
  refine kv g0 (pkT (nT (bF c7))) ?_
  refine wk_end ?_
  refine ac_next ?_
  refine aw_ifT ?_ rfl
  refine aw_grp1 ?_
  refine wk_start ?_
  refine kv g0 (bld [(0, 1), (1, 1), (2, 1), (3, 4)] [.int .i64 0, .int .i64 0, .int .i64 0, .int .i64 0, .int .i64 0, .int .i64 0, .int .i64 0] [.lit (.int .i64 0), .lit (.int .i64 0), .lit (.int .i64 0), .lit (.int .i64 0), .lit (.int .i64 0), .lit (.int .i64 0), .lit (.int .i64 0)]) ?_
  refine ks g0 (stB 7 [.lit (.int .i64 0), .lit (.int .i64 0), .lit (.int .i64 0), .lit (.int .i64 0), .lit (.int .i64 0), .lit (.int .i64 0), .lit (.int .i64 0)]) ?_
  refine kv g0 (asg) ?_
  refine wk_end ?_
  refine ac_next ?_
  refine aw_ret ?_
  refine ac_thenR ?_
  obtain rfl := Option.some.inj H
  exact acr hE [.cell 2 27, .tmp 3] (rcA 7 (.tmp .nil)) (.many _ _ _) [] 9999
 rw [if_neg c3] at H
 refine kx (hF (nT (bF c3))) ?_
 refine kx (hF (nT (bF c3))) ?_
 refine kx (hF (nT (bF c3))) ?_
 refine kv g0 (pkT (nT (bF c3))) ?_
 refine wk_end ?_
 refine ac_next ?_
 refine aw_ifT ?_ rfl
 refine aw_grp1 ?_
 refine wk_start ?_
 refine kv g0 (bld [(0, 1), (1, 1), (2, 1), (3, 4)] [.int .i64 0, .int .i64 0, .int .i64 0, .int .i64 0, .int .i64 0, .int .i64 0, .int .i64 0] [.lit (.int .i64 0), .lit (.int .i64 0), .lit (.int .i64 0), .lit (.int .i64 0), .lit (.int .i64 0), .lit (.int .i64 0), .lit (.int .i64 0)]) ?_
 refine ks g0 (stB 7 [.lit (.int .i64 0), .lit (.int .i64 0), .lit (.int .i64 0), .lit (.int .i64 0), .lit (.int .i64 0), .lit (.int .i64 0), .lit (.int .i64 0)]) ?_
 refine kv g0 (asg) ?_
 refine wk_end ?_
 refine ac_next ?_
 refine aw_ret ?_
 refine ac_thenR ?_
 obtain rfl := Option.some.inj H
 exact acr hE [.cell 2 27, .tmp 3] (rcA 7 (.tmp .nil)) (.many _ _ _) [] 9999
/-! spec_DrawFrameText -/
def spec_DrawFrameText.f (k : Nat) (l0 : List Int) : Option (Int × Int × Int × Int × Int × Int × Int) := (spec_l01New.f k l0).bind fun t1 => ((spec_l17Any.f k t1.1 t1.2.1 t1.2.2).bind fun t3 => some (t3.1, t3.2.1, t3.2.2.1, t3.2.2.2.1, t3.2.2.2.2.1, t3.2.2.2.2.2.1, t3.2.2.2.2.2.2.1))
theorem spec_DrawFrameText.ok {k : Nat} {l0 : List Int} {r : Int × Int × Int × Int × Int × Int × Int} (H : spec_DrawFrameText.f k l0 = some r) : ACalls Try.prog 12 [] [.sl .o 1 (l0.map (eI .u8))] [] (.agg [.lit (.int .i64 r.1), .lit (.int .i64 r.2.1), .lit (.int .i64 r.2.2.1), .lit (.int .i64 r.2.2.2.1), .lit (.int .i64 r.2.2.2.2.1), .lit (.int .i64 r.2.2.2.2.2.1), .lit (.int .i64 r.2.2.2.2.2.2)]) := by
 refine acalls (fn := Try.f12) (nt := 6) Try.func12 rfl rfl (Nat.le_of_ble_eq_true rfl) fun E hE => ?_
 rw [spec_DrawFrameText.f] at H
 refine aw_grp1 ?_
 refine wk_start ?_
 refine kb g0 (alc 0 [.int .i64 0, .int .i64 0, .int .i64 0, .int .i64 0, .int .i64 0, .int .i64 0, .int .i64 0] [.lit (.int .i64 0), .lit (.int .i64 0), .lit (.int .i64 0), .lit (.int .i64 0), .lit (.int .i64 0), .lit (.int .i64 0), .lit (.int .i64 0)]) ?_
 refine wk_end ?_
 refine ac_next ?_
 refine aw_grp1 ?_
 refine wk_start ?_
 refine kv g0 (mv) ?_
 obtain ⟨t1, A2, H⟩ := of_bind H
 refine kcS1 4 (.box 1 0) [(1, .box 56 [.sl .o 1 (t1.1.map (eI .u8)), .lit (.int .i64 t1.2.1), .lit (.int .i64 t1.2.2)])] g0 (cal (spec_l01New.ok A2) [1] 9999 .o (hf := Try.func16)) rfl rfl ?_
 obtain ⟨t3, A4, H⟩ := of_bind H
 refine kcS1 5 (.agg [.lit (.int .i64 t3.1), .lit (.int .i64 t3.2.1), .lit (.int .i64 t3.2.2.1), .lit (.int .i64 t3.2.2.2.1), .lit (.int .i64 t3.2.2.2.2.1), .lit (.int .i64 t3.2.2.2.2.2.1), .lit (.int .i64 t3.2.2.2.2.2.2.1)]) [(1, .box 56 [.sl .o 1 (t3.2.2.2.2.2.2.2.1.map (eI .u8)), .lit (.int .i64 t3.2.2.2.2.2.2.2.2.1), .lit (.int .i64 t3.2.2.2.2.2.2.2.2.2)])] g0 (cal (spec_l17Any.ok A4) [1] 9999 .o (hf := Try.func25)) rfl rfl ?_
 refine ks g0 (stB 7 [.lit (.int .i64 t3.1), .lit (.int .i64 t3.2.1), .lit (.int .i64 t3.2.2.1), .lit (.int .i64 t3.2.2.2.1), .lit (.int .i64 t3.2.2.2.2.1), .lit (.int .i64 t3.2.2.2.2.2.1), .lit (.int .i64 t3.2.2.2.2.2.2.1)]) ?_
 refine wk_end ?_
 refine ac_next ?_
 refine aw_ret ?_
 obtain rfl := Option.some.inj H
 exact acr hE [.cell 2 27] (rcA 7 .nil) (.one _) [] 9999
/-! laws_FnFrames -/
def laws_FnFrames.f (k : Nat) (l0 : List Int) : Option (Bool) := (laws_big.f l0).bind fun t1 => if t1 = true then some true else (spec_DrawFrame.f k l0).bind fun t4 => (impl_FrameText.f k t4.1 t4.2.1 t4.2.2.1 t4.2.2.2.1 t4.2.2.2.2.1 t4.2.2.2.2.2.1 t4.2.2.2.2.2.2).bind fun t6 => (impl_ReadFrame.f k t6.1).bind fun t8 => (spec_DrawPlaces.f k l0).bind fun t10 => ((laws_turned.f t6.1 t10).bind fun t12 => ((impl_ReadFrame.f k t12).bind fun t14 => (spec_DrawReadFrame.f k l0).bind fun t16 => (impl_ReadFrame.f k t16).bind fun t18 => (spec_ReadFrame.f k t16).bind fun t20 => (impl_FrameText.f k t18.1 t18.2.1 t18.2.2.1 t18.2.2.2.1 t18.2.2.2.2.1 t18.2.2.2.2.2.1 t18.2.2.2.2.2.2.1).bind fun t22 => (spec_DrawFrameText.f k l0).bind fun t24 => (impl_FrameText.f k t24.1 t24.2.1 t24.2.2.1 t24.2.2.2.1 t24.2.2.2.2.1 t24.2.2.2.2.2.1 t24.2.2.2.2.2.2).bind fun t26 => (spec_FrameText.f k t24.1 t24.2.1 t24.2.2.1 t24.2.2.2.1 t24.2.2.2.2.1 t24.2.2.2.2.2.1 t24.2.2.2.2.2.2).bind fun t28 => if t6.2 = true then (if t8.2.2.2.2.2.2.2 = true then (if (t8.1 == t4.1 && (t8.2.1 == t4.2.1 && (t8.2.2.1 == t4.2.2.1 && ((t8.2.2.2.1 == t4.2.2.2.1 && (t8.2.2.2.2.1 == t4.2.2.2.2.1 && (t8.2.2.2.2.2.1 == t4.2.2.2.2.2.1 && (t8.2.2.2.2.2.2.1 == t4.2.2.2.2.2.2)))))))) = true then (if t14.2.2.2.2.2.2.2 = true then some false else (if t18.2.2.2.2.2.2.2 = t20.2.2.2.2.2.2.2 then (if t18.2.2.2.2.2.2.2 = true then (if (t22.1.toList == t16.toList) = true then (if t26.2 = t28.2 then (if (t26.1.toList == t28.1.toList) = true then ((impl_FrameOk.f t4.1 t4.2.1 t4.2.2.1 t4.2.2.2.1 t4.2.2.2.2.1 t4.2.2.2.2.2.1 t4.2.2.2.2.2.2).bind fun t39 => (if t39 = true then ((impl_FrameOk.f t24.1 t24.2.1 t24.2.2.1 t24.2.2.2.1 t24.2.2.2.2.1 t24.2.2.2.2.2.1 t24.2.2.2.2.2.2).bind fun t42 => some (t42 == t26.2)) else some false)) else some false) else some false) else some false) else (if t26.2 = t28.2 then (if (t26.1.toList == t28.1.toList) = true then ((impl_FrameOk.f t4.1 t4.2.1 t4.2.2.1 t4.2.2.2.1 t4.2.2.2.2.1 t4.2.2.2.2.2.1 t4.2.2.2.2.2.2).bind fun t46 => (if t46 = true then ((impl_FrameOk.f t24.1 t24.2.1 t24.2.2.1 t24.2.2.2.1 t24.2.2.2.2.1 t24.2.2.2.2.2.1 t24.2.2.2.2.2.2).bind fun t49 => some (t49 == t26.2)) else some false)) else some false) else some false)) else some false)) else some false) else some false) else some false))
theorem laws_FnFrames.ok {k : Nat} {l0 : List Int} {r : Bool} (H : laws_FnFrames.f k l0 = some r) : ACalls Try.prog 3 [] [.sl .o 1 (l0.map (eI .u8))] [] (.lit (.bool r)) := by
 refine acalls (fn := Try.f3) (nt := 120) Try.func3 rfl rfl (Nat.le_of_ble_eq_true rfl) fun E hE => ?_
 rw [laws_FnFrames.f] at H
 refine aw_grp1 ?_
 refine wk_start ?_
 refine kv g0 (asg) ?_
 refine wk_end ?_
 refine ac_next ?_
 refine aw_grp1 ?_
 refine aw_grp1 ?_
 refine wk_start ?_
 refine kv g0 (mv) ?_
 obtain ⟨t1, A2, H⟩ := of_bind H
 refine kcS0 23 (.lit (.bool t1)) [] g0 (cal (laws_big.ok A2) [] 9999 .n (hf := Try.func4)) rfl rfl ?_
 refine wk_end ?_
 refine ac_next ?_
 by_cases c3 : t1 = true
 ·rw [if_pos c3] at H
  refine aw_ifT ?_ c3
  refine aw_grp1 ?_
  refine wk_start ?_
  refine kv g0 (asg) ?_
  refine wk_end ?_
  refine ac_next ?_
  refine aw_ret ?_
  refine ac_thenR ?_
  obtain rfl := Option.some.inj H
  exact acr hE [.tmp 2] (.tmp .nil) (.one _) [] 9999
 rw [if_neg c3] at H
 refine aw_ifF ?_ (bF c3)
 refine aw_skip ?_
 refine ac_next ?_
 refine aw_grp1 ?_
 refine wk_start ?_
 refine kv g0 (mv) ?_
 obtain ⟨t4, A5, H⟩ := of_bind H
 refine kcS0 25 (.agg [.lit (.int .i64 t4.1), .lit (.int .i64 t4.2.1), .lit (.int .i64 t4.2.2.1), .lit (.int .i64 t4.2.2.2.1), .lit (.int .i64 t4.2.2.2.2.1), .lit (.int .i64 t4.2.2.2.2.2.1), .lit (.int .i64 t4.2.2.2.2.2.2)]) [] g0 (cal (spec_DrawFrame.ok A5) [] 9999 .n (hf := Try.func5)) rfl rfl ?_
 refine kb g0 (alc 0 [.int .i64 0, .int .i64 0, .int .i64 0, .int .i64 0, .int .i64 0, .int .i64 0, .int .i64 0] [.lit (.int .i64 0), .lit (.int .i64 0), .lit (.int .i64 0), .lit (.int .i64 0), .lit (.int .i64 0), .lit (.int .i64 0), .lit (.int .i64 0)]) ?_
 refine ks g0 (stB 7 [.lit (.int .i64 t4.1), .lit (.int .i64 t4.2.1), .lit (.int .i64 t4.2.2.1), .lit (.int .i64 t4.2.2.2.1), .lit (.int .i64 t4.2.2.2.2.1), .lit (.int .i64 t4.2.2.2.2.2.1), .lit (.int .i64 t4.2.2.2.2.2.2)]) ?_
 refine wk_end ?_
 refine ac_next ?_
 refine aw_grp1 ?_
 refine wk_start ?_
 refine kv g0 (ldBA 7 [.lit (.int .i64 t4.1), .lit (.int .i64 t4.2.1), .lit (.int .i64 t4.2.2.1), .lit (.int .i64 t4.2.2.2.1), .lit (.int .i64 t4.2.2.2.2.1), .lit (.int .i64 t4.2.2.2.2.2.1), .lit (.int .i64 t4.2.2.2.2.2.2)]) ?_
 obtain ⟨t6, A7, H⟩ := of_bind H
 refine kcS0 28 (.tup [.lit (.string t6.1), .lit (.bool t6.2)]) [] g0 (cal (impl_FrameText.ok A7) [] 9999 .n (hf := Try.func6)) rfl rfl ?_
 refine kv g0 (mv) ?_
 refine kv g0 (ext) ?_
 refine kv g0 (ext) ?_
 refine kv g0 (asg) ?_
 refine kv g0 (asg) ?_
 refine wk_end ?_
 refine ac_next ?_
 refine aw_grp1 ?_
 refine wk_start ?_
 refine kv g0 (mv) ?_
 obtain ⟨t8, A9, H⟩ := of_bind H
 refine kcS0 33 (.tup [.agg [.lit (.int .i64 t8.1), .lit (.int .i64 t8.2.1), .lit (.int .i64 t8.2.2.1), .lit (.int .i64 t8.2.2.2.1), .lit (.int .i64 t8.2.2.2.2.1), .lit (.int .i64 t8.2.2.2.2.2.1), .lit (.int .i64 t8.2.2.2.2.2.2.1)], .lit (.bool t8.2.2.2.2.2.2.2)]) [] g0 (cal (impl_ReadFrame.ok A9) [] 9999 .n (hf := Try.func7)) rfl rfl ?_
 refine kv g0 (mv) ?_
 refine kv g0 (ext) ?_
 refine kv g0 (ext) ?_
 refine kb g0 (alc 1 [.int .i64 0, .int .i64 0, .int .i64 0, .int .i64 0, .int .i64 0, .int .i64 0, .int .i64 0] [.lit (.int .i64 0), .lit (.int .i64 0), .lit (.int .i64 0), .lit (.int .i64 0), .lit (.int .i64 0), .lit (.int .i64 0), .lit (.int .i64 0)]) ?_
 refine ks g0 (stB 7 [.lit (.int .i64 t8.1), .lit (.int .i64 t8.2.1), .lit (.int .i64 t8.2.2.1), .lit (.int .i64 t8.2.2.2.1), .lit (.int .i64 t8.2.2.2.2.1), .lit (.int .i64 t8.2.2.2.2.2.1), .lit (.int .i64 t8.2.2.2.2.2.2.1)]) ?_
 refine kv g0 (asg) ?_
 refine wk_end ?_
 refine ac_next ?_
 refine aw_grp1 ?_
 refine wk_start ?_
 refine kv g0 (mv) ?_
 refine kv g0 (mv) ?_
 obtain ⟨t10, A11, H⟩ := of_bind H
 refine kcS1 39 (.row 2) [(2, .row 3 1 (t10.map (eI .i64)))] g0 (cal (spec_DrawPlaces.ok A11) [2] 9999 .n (hf := Try.func9)) rfl rfl ?_
 obtain ⟨t12, A13, H⟩ := of_bind H
 refine kcS0 40 (.lit (.string t12)) [] g0 (cal (laws_turned.ok A13) [] 9999 .n (hf := Try.func8)) rfl rfl ?_
 obtain ⟨t14, A15, H⟩ := of_bind H
 refine kcS0 41 (.tup [.agg [.lit (.int .i64 t14.1), .lit (.int .i64 t14.2.1), .lit (.int .i64 t14.2.2.1), .lit (.int .i64 t14.2.2.2.1), .lit (.int .i64 t14.2.2.2.2.1), .lit (.int .i64 t14.2.2.2.2.2.1), .lit (.int .i64 t14.2.2.2.2.2.2.1)], .lit (.bool t14.2.2.2.2.2.2.2)]) [] g0 (cal (impl_ReadFrame.ok A15) [] 9999 .n (hf := Try.func7)) rfl rfl ?_
 refine kv g0 (mv) ?_
 refine kv g0 (ext) ?_
 refine kv g0 (ext) ?_
 refine kb g0 (alc 3 [.int .i64 0, .int .i64 0, .int .i64 0, .int .i64 0, .int .i64 0, .int .i64 0, .int .i64 0] [.lit (.int .i64 0), .lit (.int .i64 0), .lit (.int .i64 0), .lit (.int .i64 0), .lit (.int .i64 0), .lit (.int .i64 0), .lit (.int .i64 0)]) ?_
 refine ks g0 (stB 7 [.lit (.int .i64 t14.1), .lit (.int .i64 t14.2.1), .lit (.int .i64 t14.2.2.1), .lit (.int .i64 t14.2.2.2.1), .lit (.int .i64 t14.2.2.2.2.1), .lit (.int .i64 t14.2.2.2.2.2.1), .lit (.int .i64 t14.2.2.2.2.2.2.1)]) ?_
 refine kv g0 (asg) ?_
 refine wk_end ?_
 refine ac_next ?_
 refine aw_grp1 ?_
 refine wk_start ?_
 refine kv g0 (mv) ?_
 obtain ⟨t16, A17, H⟩ := of_bind H
 refine kcS0 45 (.lit (.string t16)) [] g0 (cal (spec_DrawReadFrame.ok A17) [] 9999 .n (hf := Try.func10)) rfl rfl ?_
 refine kv g0 (asg) ?_
 refine wk_end ?_
 refine ac_next ?_
 refine aw_grp1 ?_
 refine wk_start ?_
 refine kv g0 (mv) ?_
 obtain ⟨t18, A19, H⟩ := of_bind H
 refine kcS0 48 (.tup [.agg [.lit (.int .i64 t18.1), .lit (.int .i64 t18.2.1), .lit (.int .i64 t18.2.2.1), .lit (.int .i64 t18.2.2.2.1), .lit (.int .i64 t18.2.2.2.2.1), .lit (.int .i64 t18.2.2.2.2.2.1), .lit (.int .i64 t18.2.2.2.2.2.2.1)], .lit (.bool t18.2.2.2.2.2.2.2)]) [] g0 (cal (impl_ReadFrame.ok A19) [] 9999 .n (hf := Try.func7)) rfl rfl ?_
 refine kv g0 (mv) ?_
 refine kv g0 (ext) ?_
 refine kv g0 (ext) ?_
 refine kb g0 (alc 4 [.int .i64 0, .int .i64 0, .int .i64 0, .int .i64 0, .int .i64 0, .int .i64 0, .int .i64 0] [.lit (.int .i64 0), .lit (.int .i64 0), .lit (.int .i64 0), .lit (.int .i64 0), .lit (.int .i64 0), .lit (.int .i64 0), .lit (.int .i64 0)]) ?_
 refine ks g0 (stB 7 [.lit (.int .i64 t18.1), .lit (.int .i64 t18.2.1), .lit (.int .i64 t18.2.2.1), .lit (.int .i64 t18.2.2.2.1), .lit (.int .i64 t18.2.2.2.2.1), .lit (.int .i64 t18.2.2.2.2.2.1), .lit (.int .i64 t18.2.2.2.2.2.2.1)]) ?_
 refine kv g0 (asg) ?_
 refine wk_end ?_
 refine ac_next ?_
 refine aw_grp1 ?_
 refine wk_start ?_
 refine kv g0 (mv) ?_
 obtain ⟨t20, A21, H⟩ := of_bind H
 refine kcS0 53 (.tup [.agg [.lit (.int .i64 t20.1), .lit (.int .i64 t20.2.1), .lit (.int .i64 t20.2.2.1), .lit (.int .i64 t20.2.2.2.1), .lit (.int .i64 t20.2.2.2.2.1), .lit (.int .i64 t20.2.2.2.2.2.1), .lit (.int .i64 t20.2.2.2.2.2.2.1)], .lit (.bool t20.2.2.2.2.2.2.2)]) [] g0 (cal (spec_ReadFrame.ok A21) [] 9999 .n (hf := Try.func11)) rfl rfl ?_
 refine kv g0 (mv) ?_
 refine kv g0 (ext) ?_
 refine kv g0 (ext) ?_
 refine kb g0 (alc 5 [.int .i64 0, .int .i64 0, .int .i64 0, .int .i64 0, .int .i64 0, .int .i64 0, .int .i64 0] [.lit (.int .i64 0), .lit (.int .i64 0), .lit (.int .i64 0), .lit (.int .i64 0), .lit (.int .i64 0), .lit (.int .i64 0), .lit (.int .i64 0)]) ?_
 refine ks g0 (stB 7 [.lit (.int .i64 t20.1), .lit (.int .i64 t20.2.1), .lit (.int .i64 t20.2.2.1), .lit (.int .i64 t20.2.2.2.1), .lit (.int .i64 t20.2.2.2.2.1), .lit (.int .i64 t20.2.2.2.2.2.1), .lit (.int .i64 t20.2.2.2.2.2.2.1)]) ?_
 refine kv g0 (asg) ?_
 refine wk_end ?_
 refine ac_next ?_
 refine aw_grp1 ?_
 refine wk_start ?_
 refine kv g0 (ldBA 7 [.lit (.int .i64 t18.1), .lit (.int .i64 t18.2.1), .lit (.int .i64 t18.2.2.1), .lit (.int .i64 t18.2.2.2.1), .lit (.int .i64 t18.2.2.2.2.1), .lit (.int .i64 t18.2.2.2.2.2.1), .lit (.int .i64 t18.2.2.2.2.2.2.1)]) ?_
 obtain ⟨t22, A23, H⟩ := of_bind H
 refine kcS0 58 (.tup [.lit (.string t22.1), .lit (.bool t22.2)]) [] g0 (cal (impl_FrameText.ok A23) [] 9999 .n (hf := Try.func6)) rfl rfl ?_
 refine kv g0 (mv) ?_
 refine kv g0 (ext) ?_
 refine kv g0 (ext) ?_
 refine kv g0 (asg) ?_
 refine kv g0 (asg) ?_
 refine wk_end ?_
 refine ac_next ?_
 refine aw_grp1 ?_
 refine wk_start ?_
 refine kv g0 (mv) ?_
 obtain ⟨t24, A25, H⟩ := of_bind H
 refine kcS0 62 (.agg [.lit (.int .i64 t24.1), .lit (.int .i64 t24.2.1), .lit (.int .i64 t24.2.2.1), .lit (.int .i64 t24.2.2.2.1), .lit (.int .i64 t24.2.2.2.2.1), .lit (.int .i64 t24.2.2.2.2.2.1), .lit (.int .i64 t24.2.2.2.2.2.2)]) [] g0 (cal (spec_DrawFrameText.ok A25) [] 9999 .n (hf := Try.func12)) rfl rfl ?_
 refine kb g0 (alc 6 [.int .i64 0, .int .i64 0, .int .i64 0, .int .i64 0, .int .i64 0, .int .i64 0, .int .i64 0] [.lit (.int .i64 0), .lit (.int .i64 0), .lit (.int .i64 0), .lit (.int .i64 0), .lit (.int .i64 0), .lit (.int .i64 0), .lit (.int .i64 0)]) ?_
 refine ks g0 (stB 7 [.lit (.int .i64 t24.1), .lit (.int .i64 t24.2.1), .lit (.int .i64 t24.2.2.1), .lit (.int .i64 t24.2.2.2.1), .lit (.int .i64 t24.2.2.2.2.1), .lit (.int .i64 t24.2.2.2.2.2.1), .lit (.int .i64 t24.2.2.2.2.2.2)]) ?_
 refine wk_end ?_
 refine ac_next ?_
 refine aw_grp1 ?_
 refine wk_start ?_
 refine kv g0 (ldBA 7 [.lit (.int .i64 t24.1), .lit (.int .i64 t24.2.1), .lit (.int .i64 t24.2.2.1), .lit (.int .i64 t24.2.2.2.1), .lit (.int .i64 t24.2.2.2.2.1), .lit (.int .i64 t24.2.2.2.2.2.1), .lit (.int .i64 t24.2.2.2.2.2.2)]) ?_
 obtain ⟨t26, A27, H⟩ := of_bind H
 refine kcS0 65 (.tup [.lit (.string t26.1), .lit (.bool t26.2)]) [] g0 (cal (impl_FrameText.ok A27) [] 9999 .n (hf := Try.func6)) rfl rfl ?_
 refine kv g0 (mv) ?_
 refine kv g0 (ext) ?_
 refine kv g0 (ext) ?_
 refine kv g0 (asg) ?_
 refine kv g0 (asg) ?_
 refine wk_end ?_
 refine ac_next ?_
 refine aw_grp1 ?_
 refine wk_start ?_
 refine kv g0 (ldBA 7 [.lit (.int .i64 t24.1), .lit (.int .i64 t24.2.1), .lit (.int .i64 t24.2.2.1), .lit (.int .i64 t24.2.2.2.1), .lit (.int .i64 t24.2.2.2.2.1), .lit (.int .i64 t24.2.2.2.2.2.1), .lit (.int .i64 t24.2.2.2.2.2.2)]) ?_
 obtain ⟨t28, A29, H⟩ := of_bind H
 refine kcS0 70 (.tup [.lit (.string t28.1), .lit (.bool t28.2)]) [] g0 (cal (spec_FrameText.ok A29) [] 9999 .n (hf := Try.func13)) rfl rfl ?_
 refine kv g0 (mv) ?_
 refine kv g0 (ext) ?_
 refine kv g0 (ext) ?_
 refine kv g0 (asg) ?_
 refine kv g0 (asg) ?_
 refine wk_end ?_
 refine ac_next ?_
 refine aw_grp1 ?_
 refine wk_start ?_
 refine kv g0 (mv) ?_
 refine kv g0 (mv) ?_
 by_cases c30 : t6.2 = true
 ·rw [if_pos c30] at H
  refine kv (g1 c30) (mv) ?_
  refine kv g0 (pkT c30) ?_
  refine kv g0 (mv) ?_
  by_cases c31 : t8.2.2.2.2.2.2.2 = true
  ·rw [if_pos c31] at H
   refine kv (g1 c31) (ldBA 7 [.lit (.int .i64 t8.1), .lit (.int .i64 t8.2.1), .lit (.int .i64 t8.2.2.1), .lit (.int .i64 t8.2.2.2.1), .lit (.int .i64 t8.2.2.2.2.1), .lit (.int .i64 t8.2.2.2.2.2.1), .lit (.int .i64 t8.2.2.2.2.2.2.1)]) ?_
   refine kv (g1 c31) (ldBA 7 [.lit (.int .i64 t4.1), .lit (.int .i64 t4.2.1), .lit (.int .i64 t4.2.2.1), .lit (.int .i64 t4.2.2.2.1), .lit (.int .i64 t4.2.2.2.2.1), .lit (.int .i64 t4.2.2.2.2.2.1), .lit (.int .i64 t4.2.2.2.2.2.2)]) ?_
   refine kv (g1 c31) (eqS (fun w => eq27 _ w t8.1 t8.2.1 t8.2.2.1 t8.2.2.2.1 t8.2.2.2.2.1 t8.2.2.2.2.2.1 t8.2.2.2.2.2.2.1 t4.1 t4.2.1 t4.2.2.1 t4.2.2.2.1 t4.2.2.2.2.1 t4.2.2.2.2.2.1 t4.2.2.2.2.2.2)) ?_
   refine kv g0 (pkT c31) ?_
   refine kv g0 (mv) ?_
   by_cases c32 : (t8.1 == t4.1 && (t8.2.1 == t4.2.1 && (t8.2.2.1 == t4.2.2.1 && ((t8.2.2.2.1 == t4.2.2.2.1 && (t8.2.2.2.2.1 == t4.2.2.2.2.1 && (t8.2.2.2.2.2.1 == t4.2.2.2.2.2.1 && (t8.2.2.2.2.2.2.1 == t4.2.2.2.2.2.2)))))))) = true
   ·rw [if_pos c32] at H
    refine kv (g1 c32) (mv) ?_
    refine kv (g1 c32) (not_) ?_
    refine kv g0 (pkT c32) ?_
    refine kv g0 (mv) ?_
    by_cases c33 : t14.2.2.2.2.2.2.2 = true
    ·rw [if_pos c33] at H
     refine kx (hT (nF c33)) ?_
     refine kx (hT (nF c33)) ?_
     refine kx (hT (nF c33)) ?_
     refine kv g0 (pkF (nF c33)) ?_
     refine kv g0 (mv) ?_
     refine kx (hT rfl) ?_
     refine kx (hT rfl) ?_
     refine ku (neT (hT rfl)) ?_
     refine ku neU ?_
     refine ku neU ?_
     refine ku neU ?_
     refine kx (hT rfl) ?_
     refine kv g0 (pkF rfl) ?_
     refine kv g0 (mv) ?_
     refine kx (hT rfl) ?_
     refine kx (hT rfl) ?_
     refine kx (hT rfl) ?_
     refine kv g0 (pkF rfl) ?_
     refine kv g0 (mv) ?_
     refine kx (hT rfl) ?_
     refine kx (hT rfl) ?_
     refine kx (hT rfl) ?_
     refine kv g0 (pkF rfl) ?_
     refine kv g0 (mv) ?_
     refine kx (hT rfl) ?_
     refine kx (hT rfl) ?_
     refine kv g0 (pkF rfl) ?_
     refine kv g0 (mv) ?_
     refine kx (hT rfl) ?_
     refine kx (hT rfl) ?_
     refine kx (hT rfl) ?_
     refine kx (hT rfl) ?_
     refine kv g0 (pkF rfl) ?_
     refine kv g0 (asg) ?_
     refine wk_end ?_
     refine ac_next ?_
     refine aw_ret ?_
     obtain rfl := Option.some.inj H
     exact acr hE [.tmp 2] (.tmp .nil) (.one _) [] 9999
    rw [if_neg c33] at H
    refine kv (g1 (nT (bF c33))) (mv) ?_
    refine kv (g1 (nT (bF c33))) (mv) ?_
    refine kv (g1 (nT (bF c33))) (beq) ?_
    refine kv g0 (pkT (nT (bF c33))) ?_
    refine kv g0 (mv) ?_
    by_cases c34 : t18.2.2.2.2.2.2.2 = t20.2.2.2.2.2.2.2
    ·rw [if_pos c34] at H
     refine kv (g1 (eTb c34)) (mv) ?_
     refine kv (g1 (eTb c34)) (not_) ?_
     refine kv (g1 (eTb c34)) (mv) ?_
     by_cases c35 : t18.2.2.2.2.2.2.2 = true
     ·rw [if_pos c35] at H
      refine kv (g1 (nF c35)) (mv) ?_
      refine kv (g1 (nF c35)) (mv) ?_
      refine kv (g1 (nF c35)) (seq) ?_
      refine kv (g1 (eTb c34)) (pkF (nF c35)) ?_
      refine kv g0 (pkT (eTb c34)) ?_
      refine kv g0 (mv) ?_
      by_cases c36 : (t22.1.toList == t16.toList) = true
      ·rw [if_pos c36] at H
       refine kv (g1 c36) (mv) ?_
       refine kv (g1 c36) (mv) ?_
       refine kv (g1 c36) (beq) ?_
       refine kv g0 (pkT c36) ?_
       refine kv g0 (mv) ?_
       by_cases c37 : t26.2 = t28.2
       ·rw [if_pos c37] at H
        refine kv (g1 (eTb c37)) (mv) ?_
        refine kv (g1 (eTb c37)) (mv) ?_
        refine kv (g1 (eTb c37)) (seq) ?_
        refine kv g0 (pkT (eTb c37)) ?_
        refine kv g0 (mv) ?_
        by_cases c38 : (t26.1.toList == t28.1.toList) = true
        ·rw [if_pos c38] at H
         refine kv (g1 c38) (ldBA 7 [.lit (.int .i64 t4.1), .lit (.int .i64 t4.2.1), .lit (.int .i64 t4.2.2.1), .lit (.int .i64 t4.2.2.2.1), .lit (.int .i64 t4.2.2.2.2.1), .lit (.int .i64 t4.2.2.2.2.2.1), .lit (.int .i64 t4.2.2.2.2.2.2)]) ?_
         obtain ⟨t39, A40, H⟩ := of_bind H
         refine kcS0 112 (.lit (.bool t39)) [] (g1 c38) (cal (impl_FrameOk.ok A40) [] 9999 .n (hf := Try.func14)) rfl rfl ?_
         refine kv g0 (pkT c38) ?_
         refine kv g0 (mv) ?_
         by_cases c41 : t39 = true
         ·rw [if_pos c41] at H
          refine kv (g1 c41) (ldBA 7 [.lit (.int .i64 t24.1), .lit (.int .i64 t24.2.1), .lit (.int .i64 t24.2.2.1), .lit (.int .i64 t24.2.2.2.1), .lit (.int .i64 t24.2.2.2.2.1), .lit (.int .i64 t24.2.2.2.2.2.1), .lit (.int .i64 t24.2.2.2.2.2.2)]) ?_
          obtain ⟨t42, A43, H⟩ := of_bind H
          refine kcS0 116 (.lit (.bool t42)) [] (g1 c41) (cal (impl_FrameOk.ok A43) [] 9999 .n (hf := Try.func14)) rfl rfl ?_
          refine kv (g1 c41) (mv) ?_
          refine kv (g1 c41) (beq) ?_
          refine kv g0 (pkT c41) ?_
          refine kv g0 (asg) ?_
          refine wk_end ?_
          refine ac_next ?_
          refine aw_ret ?_
          obtain rfl := Option.some.inj H
          exact acr hE [.tmp 2] (.tmp .nil) (.one _) [] 9999
         rw [if_neg c41] at H
         refine kx (hT (bF c41)) ?_
         refine kx (hT (bF c41)) ?_
         refine kx (hT (bF c41)) ?_
         refine kx (hT (bF c41)) ?_
         refine kv g0 (pkF (bF c41)) ?_
         refine kv g0 (asg) ?_
         refine wk_end ?_
         refine ac_next ?_
         refine aw_ret ?_
         obtain rfl := Option.some.inj H
         exact acr hE [.tmp 2] (.tmp .nil) (.one _) [] 9999
        rw [if_neg c38] at H
        refine kx (hT (bF c38)) ?_
        refine kx (hT (bF c38)) ?_
        refine kv g0 (pkF (bF c38)) ?_
        refine kv g0 (mv) ?_
        refine kx (hT rfl) ?_
        refine kx (hT rfl) ?_
        refine kx (hT rfl) ?_
        refine kx (hT rfl) ?_
        refine kv g0 (pkF rfl) ?_
        refine kv g0 (asg) ?_
        refine wk_end ?_
        refine ac_next ?_
        refine aw_ret ?_
        obtain rfl := Option.some.inj H
        exact acr hE [.tmp 2] (.tmp .nil) (.one _) [] 9999
       rw [if_neg c37] at H
       refine kx (hT (eFb c37)) ?_
       refine kx (hT (eFb c37)) ?_
       refine kx (hT (eFb c37)) ?_
       refine kv g0 (pkF (eFb c37)) ?_
       refine kv g0 (mv) ?_
       refine kx (hT rfl) ?_
       refine kx (hT rfl) ?_
       refine kv g0 (pkF rfl) ?_
       refine kv g0 (mv) ?_
       refine kx (hT rfl) ?_
       refine kx (hT rfl) ?_
       refine kx (hT rfl) ?_
       refine kx (hT rfl) ?_
       refine kv g0 (pkF rfl) ?_
       refine kv g0 (asg) ?_
       refine wk_end ?_
       refine ac_next ?_
       refine aw_ret ?_
       obtain rfl := Option.some.inj H
       exact acr hE [.tmp 2] (.tmp .nil) (.one _) [] 9999
      rw [if_neg c36] at H
      refine kx (hT (bF c36)) ?_
      refine kx (hT (bF c36)) ?_
      refine kx (hT (bF c36)) ?_
      refine kv g0 (pkF (bF c36)) ?_
      refine kv g0 (mv) ?_
      refine kx (hT rfl) ?_
      refine kx (hT rfl) ?_
      refine kx (hT rfl) ?_
      refine kv g0 (pkF rfl) ?_
      refine kv g0 (mv) ?_
      refine kx (hT rfl) ?_
      refine kx (hT rfl) ?_
      refine kv g0 (pkF rfl) ?_
      refine kv g0 (mv) ?_
      refine kx (hT rfl) ?_
      refine kx (hT rfl) ?_
      refine kx (hT rfl) ?_
      refine kx (hT rfl) ?_
      refine kv g0 (pkF rfl) ?_
      refine kv g0 (asg) ?_
      refine wk_end ?_
      refine ac_next ?_
      refine aw_ret ?_
      obtain rfl := Option.some.inj H
      exact acr hE [.tmp 2] (.tmp .nil) (.one _) [] 9999
     rw [if_neg c35] at H
     refine kx (hF (nT (bF c35))) ?_
     refine kx (hF (nT (bF c35))) ?_
     refine kx (hF (nT (bF c35))) ?_
     refine kv (g1 (eTb c34)) (pkT (nT (bF c35))) ?_
     refine kv g0 (pkT (eTb c34)) ?_
     refine kv g0 (mv) ?_
     refine kv (g1 rfl) (mv) ?_
     refine kv (g1 rfl) (mv) ?_
     refine kv (g1 rfl) (beq) ?_
     refine kv g0 (pkT rfl) ?_
     refine kv g0 (mv) ?_
     by_cases c44 : t26.2 = t28.2
     ·rw [if_pos c44] at H
      refine kv (g1 (eTb c44)) (mv) ?_
      refine kv (g1 (eTb c44)) (mv) ?_
      refine kv (g1 (eTb c44)) (seq) ?_
      refine kv g0 (pkT (eTb c44)) ?_
      refine kv g0 (mv) ?_
      by_cases c45 : (t26.1.toList == t28.1.toList) = true
      ·rw [if_pos c45] at H
       refine kv (g1 c45) (ldBA 7 [.lit (.int .i64 t4.1), .lit (.int .i64 t4.2.1), .lit (.int .i64 t4.2.2.1), .lit (.int .i64 t4.2.2.2.1), .lit (.int .i64 t4.2.2.2.2.1), .lit (.int .i64 t4.2.2.2.2.2.1), .lit (.int .i64 t4.2.2.2.2.2.2)]) ?_
       obtain ⟨t46, A47, H⟩ := of_bind H
       refine kcS0 112 (.lit (.bool t46)) [] (g1 c45) (cal (impl_FrameOk.ok A47) [] 9999 .n (hf := Try.func14)) rfl rfl ?_
       refine kv g0 (pkT c45) ?_
       refine kv g0 (mv) ?_
       by_cases c48 : t46 = true
       ·rw [if_pos c48] at H
        refine kv (g1 c48) (ldBA 7 [.lit (.int .i64 t24.1), .lit (.int .i64 t24.2.1), .lit (.int .i64 t24.2.2.1), .lit (.int .i64 t24.2.2.2.1), .lit (.int .i64 t24.2.2.2.2.1), .lit (.int .i64 t24.2.2.2.2.2.1), .lit (.int .i64 t24.2.2.2.2.2.2)]) ?_
        obtain ⟨t49, A50, H⟩ := of_bind H
        refine kcS0 116 (.lit (.bool t49)) [] (g1 c48) (cal (impl_FrameOk.ok A50) [] 9999 .n (hf := Try.func14)) rfl rfl ?_
        refine kv (g1 c48) (mv) ?_
        refine kv (g1 c48) (beq) ?_
        refine kv g0 (pkT c48) ?_
        refine kv g0 (asg) ?_
        refine wk_end ?_
        refine ac_next ?_
        refine aw_ret ?_
        obtain rfl := Option.some.inj H
        exact acr hE [.tmp 2] (.tmp .nil) (.one _) [] 9999
       rw [if_neg c48] at H
       refine kx (hT (bF c48)) ?_
       refine kx (hT (bF c48)) ?_
       refine kx (hT (bF c48)) ?_
       refine kx (hT (bF c48)) ?_
       refine kv g0 (pkF (bF c48)) ?_
       refine kv g0 (asg) ?_
       refine wk_end ?_
       refine ac_next ?_
       refine aw_ret ?_
       obtain rfl := Option.some.inj H
       exact acr hE [.tmp 2] (.tmp .nil) (.one _) [] 9999
      rw [if_neg c45] at H
      refine kx (hT (bF c45)) ?_
      refine kx (hT (bF c45)) ?_
      refine kv g0 (pkF (bF c45)) ?_
      refine kv g0 (mv) ?_
      refine kx (hT rfl) ?_
      refine kx (hT rfl) ?_
      refine kx (hT rfl) ?_
      refine kx (hT rfl) ?_
      refine kv g0 (pkF rfl) ?_
      refine kv g0 (asg) ?_
      refine wk_end ?_
      refine ac_next ?_
      refine aw_ret ?_
      obtain rfl := Option.some.inj H
      exact acr hE [.tmp 2] (.tmp .nil) (.one _) [] 9999
     rw [if_neg c44] at H
     refine kx (hT (eFb c44)) ?_
     refine kx (hT (eFb c44)) ?_
     refine kx (hT (eFb c44)) ?_
     refine kv g0 (pkF (eFb c44)) ?_
     refine kv g0 (mv) ?_
     refine kx (hT rfl) ?_
     refine kx (hT rfl) ?_
     refine kv g0 (pkF rfl) ?_
     refine kv g0 (mv) ?_
     refine kx (hT rfl) ?_
     refine kx (hT rfl) ?_
     refine kx (hT rfl) ?_
     refine kx (hT rfl) ?_
     refine kv g0 (pkF rfl) ?_
     refine kv g0 (asg) ?_
     refine wk_end ?_
     refine ac_next ?_
     refine aw_ret ?_
     obtain rfl := Option.some.inj H
     exact acr hE [.tmp 2] (.tmp .nil) (.one _) [] 9999
    rw [if_neg c34] at H
    refine kx (hT (eFb c34)) ?_
    refine kx (hT (eFb c34)) ?_
    refine ku (neT (hT (eFb c34))) ?_
    refine ku neU ?_
    refine ku neU ?_
    refine ku neU ?_
    refine kx (hT (eFb c34)) ?_
    refine kv g0 (pkF (eFb c34)) ?_
    refine kv g0 (mv) ?_
    refine kx (hT rfl) ?_
    refine kx (hT rfl) ?_
    refine kx (hT rfl) ?_
    refine kv g0 (pkF rfl) ?_
    refine kv g0 (mv) ?_
    refine kx (hT rfl) ?_
    refine kx (hT rfl) ?_
    refine kx (hT rfl) ?_
    refine kv g0 (pkF rfl) ?_
    refine kv g0 (mv) ?_
    refine kx (hT rfl) ?_
    refine kx (hT rfl) ?_
    refine kv g0 (pkF rfl) ?_
    refine kv g0 (mv) ?_
    refine kx (hT rfl) ?_
    refine kx (hT rfl) ?_
    refine kx (hT rfl) ?_
    refine kx (hT rfl) ?_
    refine kv g0 (pkF rfl) ?_
    refine kv g0 (asg) ?_
    refine wk_end ?_
    refine ac_next ?_
    refine aw_ret ?_
    obtain rfl := Option.some.inj H
    exact acr hE [.tmp 2] (.tmp .nil) (.one _) [] 9999
   rw [if_neg c32] at H
   refine kx (hT (bF c32)) ?_
   refine kx (hT (bF c32)) ?_
   refine kv g0 (pkF (bF c32)) ?_
   refine kv g0 (mv) ?_
   refine kx (hT rfl) ?_
   refine kx (hT rfl) ?_
   refine kx (hT rfl) ?_
   refine kv g0 (pkF rfl) ?_
   refine kv g0 (mv) ?_
   refine kx (hT rfl) ?_
   refine kx (hT rfl) ?_
   refine ku (neT (hT rfl)) ?_
   refine ku neU ?_
   refine ku neU ?_
   refine ku neU ?_
   refine kx (hT rfl) ?_
   refine kv g0 (pkF rfl) ?_
   refine kv g0 (mv) ?_
   refine kx (hT rfl) ?_
   refine kx (hT rfl) ?_
   refine kx (hT rfl) ?_
   refine kv g0 (pkF rfl) ?_
   refine kv g0 (mv) ?_
   refine kx (hT rfl) ?_
   refine kx (hT rfl) ?_
   refine kx (hT rfl) ?_
   refine kv g0 (pkF rfl) ?_
   refine kv g0 (mv) ?_
   refine kx (hT rfl) ?_
   refine kx (hT rfl) ?_
   refine kv g0 (pkF rfl) ?_
   refine kv g0 (mv) ?_
   refine kx (hT rfl) ?_
   refine kx (hT rfl) ?_
   refine kx (hT rfl) ?_
   refine kx (hT rfl) ?_
   refine kv g0 (pkF rfl) ?_
   refine kv g0 (asg) ?_
   refine wk_end ?_
   refine ac_next ?_
   refine aw_ret ?_
   obtain rfl := Option.some.inj H
   exact acr hE [.tmp 2] (.tmp .nil) (.one _) [] 9999
  rw [if_neg c31] at H
  refine kx (hT (bF c31)) ?_
  refine kx (hT (bF c31)) ?_
  refine kx (hT (bF c31)) ?_
  refine kv g0 (pkF (bF c31)) ?_
  refine kv g0 (mv) ?_
  refine kx (hT rfl) ?_
  refine kx (hT rfl) ?_
  refine kv g0 (pkF rfl) ?_
  refine kv g0 (mv) ?_
  refine kx (hT rfl) ?_
  refine kx (hT rfl) ?_
  refine kx (hT rfl) ?_
  refine kv g0 (pkF rfl) ?_
  refine kv g0 (mv) ?_
  refine kx (hT rfl) ?_
  refine kx (hT rfl) ?_
  refine ku (neT (hT rfl)) ?_
  refine ku neU ?_
  refine ku neU ?_
  refine ku neU ?_
  refine kx (hT rfl) ?_
  refine kv g0 (pkF rfl) ?_
  refine kv g0 (mv) ?_
  refine kx (hT rfl) ?_
  refine kx (hT rfl) ?_
  refine kx (hT rfl) ?_
  refine kv g0 (pkF rfl) ?_
  refine kv g0 (mv) ?_
  refine kx (hT rfl) ?_
  refine kx (hT rfl) ?_
  refine kx (hT rfl) ?_
  refine kv g0 (pkF rfl) ?_
  refine kv g0 (mv) ?_
  refine kx (hT rfl) ?_
  refine kx (hT rfl) ?_
  refine kv g0 (pkF rfl) ?_
  refine kv g0 (mv) ?_
  refine kx (hT rfl) ?_
  refine kx (hT rfl) ?_
  refine kx (hT rfl) ?_
  refine kx (hT rfl) ?_
  refine kv g0 (pkF rfl) ?_
  refine kv g0 (asg) ?_
  refine wk_end ?_
  refine ac_next ?_
  refine aw_ret ?_
  obtain rfl := Option.some.inj H
  exact acr hE [.tmp 2] (.tmp .nil) (.one _) [] 9999
 rw [if_neg c30] at H
 refine kx (hT (bF c30)) ?_
 refine kv g0 (pkF (bF c30)) ?_
 refine kv g0 (mv) ?_
 refine kx (hT rfl) ?_
 refine kx (hT rfl) ?_
 refine kx (hT rfl) ?_
 refine kv g0 (pkF rfl) ?_
 refine kv g0 (mv) ?_
 refine kx (hT rfl) ?_
 refine kx (hT rfl) ?_
 refine kv g0 (pkF rfl) ?_
 refine kv g0 (mv) ?_
 refine kx (hT rfl) ?_
 refine kx (hT rfl) ?_
 refine kx (hT rfl) ?_
 refine kv g0 (pkF rfl) ?_
 refine kv g0 (mv) ?_
 refine kx (hT rfl) ?_
 refine kx (hT rfl) ?_
 refine ku (neT (hT rfl)) ?_
 refine ku neU ?_
 refine ku neU ?_
 refine ku neU ?_
 refine kx (hT rfl) ?_
 refine kv g0 (pkF rfl) ?_
 refine kv g0 (mv) ?_
 refine kx (hT rfl) ?_
 refine kx (hT rfl) ?_
 refine kx (hT rfl) ?_
 refine kv g0 (pkF rfl) ?_
 refine kv g0 (mv) ?_
 refine kx (hT rfl) ?_
 refine kx (hT rfl) ?_
 refine kx (hT rfl) ?_
 refine kv g0 (pkF rfl) ?_
 refine kv g0 (mv) ?_
 refine kx (hT rfl) ?_
 refine kx (hT rfl) ?_
 refine kv g0 (pkF rfl) ?_
 refine kv g0 (mv) ?_
 refine kx (hT rfl) ?_
 refine kx (hT rfl) ?_
 refine kx (hT rfl) ?_
 refine kx (hT rfl) ?_
 refine kv g0 (pkF rfl) ?_
 refine kv g0 (asg) ?_
 refine wk_end ?_
 refine ac_next ?_
 refine aw_ret ?_
 obtain rfl := Option.some.inj H
 exact acr hE [.tmp 2] (.tmp .nil) (.one _) [] 9999
end Go.Proofs.Ytcdmhlmfpnkhiaa.PFnFrames
