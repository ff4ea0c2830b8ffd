import Derived.Test.YthgmgbccgokfeaaPFnExactLessenedx1
set_option linter.unusedVariables false
set_option linter.unusedSimpArgs false
set_option maxRecDepth 100000
namespace Go.Proofs.Ythgmgbccgokfeaa.PFnExactLessened
open Go Go.RowKit Go.Proofs.YthgmgbccgokfeaaA
/-! impl_ruleOk -/
mutual
def impl_ruleOk.l0 : Nat → (List Int) → (List S92) → Int → Int → Int → Option (Bool)
 | 0, _, _, _, _, _ => none
 | k7 + 1, l0_0, l0_1, a0_2, a0_3, p6 => if p6 < (l0_0.length : Int) then if 0 ≤ p6 then (impl_HalfOk.f (rd l0_0 p6)).bind fun t10 => (if t10 = true then (if p6 > 0 then (if 0 ≤ (wrap64 (p6 - 1)) then (if (wrap64 (p6 - 1)) < (l0_0.length : Int) then if (rd l0_0 (wrap64 (p6 - 1))) ≥ (rd l0_0 p6) then some false else impl_ruleOk.l0 k7 l0_0 l0_1 a0_2 a0_3 (wrap64 (p6 + 1)) else none) else none) else impl_ruleOk.l0 k7 l0_0 l0_1 a0_2 a0_3 (wrap64 (p6 + 1))) else some false) else none else impl_ruleOk.l1 k7 l0_0 l0_1 a0_2 a0_3 0
def impl_ruleOk.l1 : Nat → (List Int) → (List S92) → Int → Int → Int → Option (Bool)
 | 0, _, _, _, _, _ => none
 | k25 + 1, l0_0, l0_1, a0_2, a0_3, p24 => if p24 < (l0_1.length : Int) then if 0 ≤ p24 then (impl_CondOk.f ((rd_T92 l0_1 p24).f0) ((rd_T92 l0_1 p24).f1.f0) ((rd_T92 l0_1 p24).f1.f1) ((rd_T92 l0_1 p24).f2) ((rd_T92 l0_1 p24).f3.f0) ((rd_T92 l0_1 p24).f3.f1)).bind fun t28 => if t28 = true then impl_ruleOk.l1 k25 l0_0 l0_1 a0_2 a0_3 (wrap64 (p24 + 1)) else some false else none else if (l0_0.length : Int) ≤ 4 then (if (l0_1.length : Int) ≤ 3 then ((impl_actionOk.f a0_2 a0_3).bind fun t35 => some t35) else some false) else some false
end
def impl_ruleOk.f (k : Nat) (l0_0 : List Int) (l0_1 : List S92) (a0_2 : Int) (a0_3 : Int) : Option (Bool) := impl_ruleOk.l0 k l0_0 l0_1 a0_2 a0_3 0
theorem impl_ruleOk.ok {k : Nat} {l0_0 : List Int} {l0_1 : List S92} {a0_2 : Int} {a0_3 : Int} {r : Bool} (H : impl_ruleOk.f k l0_0 l0_1 a0_2 a0_3 = some r) : ACalls Try.prog 80 [] [.agg [.sl .o 1 (l0_0.map (eI .i64)), .sl .o 6 (l0_1.map e92), .lit (.int .i64 a0_2), .lit (.int .i64 a0_3)]] [] (.lit (.bool r)) := by
 refine acalls (fn := Try.f80) (nt := 61) Try.func80 rfl rfl (Nat.le_of_ble_eq_true rfl) fun E hE => ?_
 rw [impl_ruleOk.f] at H
 refine aw_grp1 ?_
 refine wk_start ?_
 refine kb g0 (bxA 0) ?_
 refine kv g0 (asg) ?_
 refine wk_end ?_
 refine ac_next ?_
 refine aw_grp1 ?_
 refine aw_grp1 ?_
 refine wk_start ?_
 refine kv g0 (faB 0 0) ?_
 refine kv g0 (ldB) ?_
 refine kv g0 (lnS lenE) ?_
 refine kv g0 (mv) ?_
 refine wk_end ?_
 refine ac_next ?_
 refine aw_block ?_
 refine aw_loop1 (fun (k_ : Nat) (p6 : Int) => k_ ≤ k ∧ impl_ruleOk.l0 k_ l0_0 l0_1 a0_2 a0_3 p6 = some r) (fun (p6 : Int) => ⟨[(1, .box 0 0), (8, .sl .o 1 (l0_0.map (eI .i64))), (9, .lit (.int .i64 (l0_0.length : Int))), (10, .lit (.int .i64 p6))], [(0, .box 60 [.sl .o 1 (l0_0.map (eI .i64)), .sl .o 6 (l0_1.map e92), .lit (.int .i64 a0_2), .lit (.int .i64 a0_3)])]⟩) k 0 ⟨Nat.le_refl _, H⟩ (fun K_ h_ => acw hE [(0, 0)] 9999 h_) (fun _ => by intro h_; have h_ := h_.2; rw [impl_ruleOk.l0.eq_1] at h_; cases h_) ?_
 intro k7 p6 hq_ K17 hK18
 have hk7 := hq_.1
 have H := hq_.2
 clear hq_
 rw [impl_ruleOk.l0.eq_2] at H
 refine aw_grp1 ?_
 refine wk_start ?_
 refine kv g0 (lss) ?_
 refine wk_end ?_
 refine ac_next ?_
 refine aw_grp1 ?_
 by_cases c8 : p6 < (l0_0.length : Int)
 ·rw [if_pos c8] at H
  refine aw_ifT ?_ (decide_eq_true c8)
  refine aw_skip ?_
  refine ac_next ?_
  refine aw_grp1 ?_
  refine aw_block ?_
  refine aw_grp1 ?_
  refine wk_start ?_
  refine kv g0 (mv) ?_
  obtain ⟨c9, H⟩ := of_if H
  refine kv g0 (ixS 3 (eI .i64 (rd l0_0 p6)) c9 (getE (z := (0 : Int)) c9 c8)) ?_
  refine kv g0 (ldR (.lit (.int .i64 (rd l0_0 p6)))) ?_
  refine kv g0 (asg) ?_
  refine kv g0 (asg) ?_
  refine wk_end ?_
  refine ac_next ?_
  refine aw_grp1 ?_
  refine wk_start ?_
  refine kv g0 (mv) ?_
  obtain ⟨t10, A11, H⟩ := of_bind H
  refine kcS0 16 (.lit (.bool t10)) [] g0 (cal (impl_HalfOk.ok A11) [] 9999 .n (hf := Try.func81)) rfl rfl ?_
  refine kv g0 (not_) ?_
  refine kv g0 (mv) ?_
  by_cases c12 : t10 = true
  ·rw [if_pos c12] at H
   refine kv (g1 (nF c12)) (mv) ?_
   refine kv (g1 (nF c12)) (gtr) ?_
   refine kv (g1 (nF c12)) (mv) ?_
   by_cases c13 : p6 > 0
   ·rw [if_pos c13] at H
    refine kv (g1 (decide_eq_true c13)) (faB 0 0) ?_
    refine kv (g1 (decide_eq_true c13)) (ldB) ?_
    refine kv (g1 (decide_eq_true c13)) (mv) ?_
    refine kv (g1 (decide_eq_true c13)) (sub6) ?_
    obtain ⟨c14, H⟩ := of_if H
    obtain ⟨c15, H⟩ := of_if H
    refine kv (g1 (decide_eq_true c13)) (ixS 3 (eI .i64 (rd l0_0 (wrap64 (p6 - 1)))) c14 (getE (z := (0 : Int)) c14 c15)) ?_
    refine kv (g1 (decide_eq_true c13)) (ldR (.lit (.int .i64 (rd l0_0 (wrap64 (p6 - 1)))))) ?_
    refine kv (g1 (decide_eq_true c13)) (mv) ?_
    refine kv (g1 (decide_eq_true c13)) (geq) ?_
    refine kv (g1 (nF c12)) (pkT (decide_eq_true c13)) ?_
    refine kv g0 (pkF (nF c12)) ?_
    refine wk_end ?_
    refine ac_next ?_
    by_cases c16 : (rd l0_0 (wrap64 (p6 - 1))) ≥ (rd l0_0 p6)
    ·rw [if_pos c16] at H
     refine aw_ifT ?_ (decide_eq_true c16)
     refine aw_grp1 ?_
     refine wk_start ?_
     refine kv g0 (asg) ?_
     refine wk_end ?_
     refine ac_next ?_
     refine aw_ret ?_
     refine ac_blkR ?_
     refine ac_thenR ?_
     refine ac_thenR ?_
     refine ac_blkR ?_
     refine ac_thenR ?_
     obtain rfl := Option.some.inj H
     exact acr hE [.tmp 2] (.tmp .nil) (.one _) [] 9999
    rw [if_neg c16] at H
    refine aw_ifF ?_ (decide_eq_false c16)
    refine aw_skip ?_
    refine ac_blkN ?_
    refine ac_next ?_
    refine wk_start ?_
    refine kv g0 (add6) ?_
    refine kv g0 (mv) ?_
    refine wk_end ?_
    refine ac_k ?_
    exact acw hE [(0, 0)] 9999 (hK18 k7 (wrap64 (p6 + 1)) (Nat.le_refl _) ⟨by omega, H⟩)
   rw [if_neg c13] at H
   refine kx (hT (decide_eq_false c13)) ?_
   refine kx (hT (decide_eq_false c13)) ?_
   refine kx (hT (decide_eq_false c13)) ?_
   refine kx (hT (decide_eq_false c13)) ?_
   refine kx (hT (decide_eq_false c13)) ?_
   refine kx (hT (decide_eq_false c13)) ?_
   refine kx (hT (decide_eq_false c13)) ?_
   refine kx (hT (decide_eq_false c13)) ?_
   refine kv (g1 (nF c12)) (pkF (decide_eq_false c13)) ?_
   refine kv g0 (pkF (nF c12)) ?_
   refine wk_end ?_
   refine ac_next ?_
   refine aw_ifF ?_ rfl
   refine aw_skip ?_
   refine ac_blkN ?_
   refine ac_next ?_
   refine wk_start ?_
   refine kv g0 (add6) ?_
   refine kv g0 (mv) ?_
   refine wk_end ?_
   refine ac_k ?_
   exact acw hE [(0, 0)] 9999 (hK18 k7 (wrap64 (p6 + 1)) (Nat.le_refl _) ⟨by omega, H⟩)
  rw [if_neg c12] at H
  refine kx (hF (nT (bF c12))) ?_
  refine kx (hF (nT (bF c12))) ?_
  refine ku (neT (hF (nT (bF c12)))) ?_
  refine ku neU ?_
  refine ku neU ?_
  refine ku neU ?_
  refine ku neU ?_
  refine ku neU ?_
  refine ku neU ?_
  refine ku neU ?_
  refine ku neU ?_
  refine kx (hF (nT (bF c12))) ?_
  refine kv g0 (pkT (nT (bF c12))) ?_
  refine wk_end ?_
  refine ac_next ?_
  refine aw_ifT ?_ rfl
  refine aw_grp1 ?_
  refine wk_start ?_
  refine kv g0 (asg) ?_
  refine wk_end ?_
  refine ac_next ?_
  refine aw_ret ?_
  refine ac_blkR ?_
  refine ac_thenR ?_
  refine ac_thenR ?_
  refine ac_blkR ?_
  refine ac_thenR ?_
  obtain rfl := Option.some.inj H
  exact acr hE [.tmp 2] (.tmp .nil) (.one _) [] 9999
 rw [if_neg c8] at H
 refine aw_ifF ?_ (decide_eq_false c8)
 refine aw_exit ?_
 refine ac_then ?_
 refine ac_then ?_
 refine ac_hit rfl ?_
 refine ac_next ?_
 refine aw_grp1 ?_
 refine aw_grp1 ?_
 refine wk_start ?_
 refine kv g0 (faB 1 1) ?_
 refine kv g0 (ldB) ?_
 refine kv g0 (lnS lenE) ?_
 refine kv g0 (mv) ?_
 refine wk_end ?_
 refine ac_next ?_
 refine aw_block ?_
 refine aw_loop1 (fun (k_ : Nat) (p24 : Int) => k_ ≤ k7 ∧ impl_ruleOk.l1 k_ l0_0 l0_1 a0_2 a0_3 p24 = some r) (fun (p24 : Int) => ⟨[(1, .box 0 0), (34, .sl .o 6 (l0_1.map e92)), (35, .lit (.int .i64 (l0_1.length : Int))), (36, .lit (.int .i64 p24))], [(0, .box 60 [.sl .o 1 (l0_0.map (eI .i64)), .sl .o 6 (l0_1.map e92), .lit (.int .i64 a0_2), .lit (.int .i64 a0_3)])]⟩) k7 0 ⟨Nat.le_refl _, H⟩ (fun K_ h_ => acw hE [(0, 0)] 9999 h_) (fun _ => by intro h_; have h_ := h_.2; rw [impl_ruleOk.l1.eq_1] at h_; cases h_) ?_
 intro k25 p24 hq_ K31 hK32
 have hk25 := hq_.1
 have H := hq_.2
 clear hq_
 rw [impl_ruleOk.l1.eq_2] at H
 refine aw_grp1 ?_
 refine wk_start ?_
 refine kv g0 (lss) ?_
 refine wk_end ?_
 refine ac_next ?_
 refine aw_grp1 ?_
 by_cases c26 : p24 < (l0_1.length : Int)
 ·rw [if_pos c26] at H
  refine aw_ifT ?_ (decide_eq_true c26)
  refine aw_skip ?_
  refine ac_next ?_
  refine aw_grp1 ?_
  refine aw_block ?_
  refine aw_grp1 ?_
  refine wk_start ?_
  obtain ⟨c27, H⟩ := of_if H
  refine kv g0 (ixS 92 (e92 (rd_T92 l0_1 p24)) c27 (getE (z := z92) c27 c26)) ?_
  refine kv g0 (ldRA 6 [.lit (.int .i64 ((rd_T92 l0_1 p24).f0)), .lit (.int .i64 ((rd_T92 l0_1 p24).f1.f0)), .lit (.int .i64 ((rd_T92 l0_1 p24).f1.f1)), .lit (.int .i64 ((rd_T92 l0_1 p24).f2)), .lit (.int .i64 ((rd_T92 l0_1 p24).f3.f0)), .lit (.int .i64 ((rd_T92 l0_1 p24).f3.f1))]) ?_
  refine kb g0 (alc 1 [.int .i64 0, .int .i64 0, .int .i64 0, .int .i64 0, .int .i64 0, .int .i64 0] [.lit (.int .i64 0), .lit (.int .i64 0), .lit (.int .i64 0), .lit (.int .i64 0), .lit (.int .i64 0), .lit (.int .i64 0)]) ?_
  refine ks g0 (stB 6 [.lit (.int .i64 ((rd_T92 l0_1 p24).f0)), .lit (.int .i64 ((rd_T92 l0_1 p24).f1.f0)), .lit (.int .i64 ((rd_T92 l0_1 p24).f1.f1)), .lit (.int .i64 ((rd_T92 l0_1 p24).f2)), .lit (.int .i64 ((rd_T92 l0_1 p24).f3.f0)), .lit (.int .i64 ((rd_T92 l0_1 p24).f3.f1))]) ?_
  refine wk_end ?_
  refine ac_next ?_
  refine aw_grp1 ?_
  refine wk_start ?_
  refine kv g0 (ldBA 6 [.lit (.int .i64 ((rd_T92 l0_1 p24).f0)), .lit (.int .i64 ((rd_T92 l0_1 p24).f1.f0)), .lit (.int .i64 ((rd_T92 l0_1 p24).f1.f1)), .lit (.int .i64 ((rd_T92 l0_1 p24).f2)), .lit (.int .i64 ((rd_T92 l0_1 p24).f3.f0)), .lit (.int .i64 ((rd_T92 l0_1 p24).f3.f1))]) ?_
  obtain ⟨t28, A29, H⟩ := of_bind H
  refine kcS0 41 (.lit (.bool t28)) [] g0 (cal (impl_CondOk.ok A29) [] 9999 .n (hf := Try.func103)) rfl rfl ?_
  refine kv g0 (not_) ?_
  refine wk_end ?_
  refine ac_next ?_
  by_cases c30 : t28 = true
  ·rw [if_pos c30] at H
   refine aw_ifF ?_ (nF c30)
   refine aw_skip ?_
   refine ac_blkN ?_
   refine ac_next ?_
   refine wk_start ?_
   refine kv g0 (add6) ?_
   refine kv g0 (mv) ?_
   refine wk_end ?_
   refine ac_k ?_
   exact acw hE [(0, 0)] 9999 (hK32 k25 (wrap64 (p24 + 1)) (Nat.le_refl _) ⟨by omega, H⟩)
  rw [if_neg c30] at H
  refine aw_ifT ?_ (nT (bF c30))
  refine aw_grp1 ?_
  refine wk_start ?_
  refine kv g0 (asg) ?_
  refine wk_end ?_
  refine ac_next ?_
  refine aw_ret ?_
  refine ac_blkR ?_
  refine ac_thenR ?_
  refine ac_thenR ?_
  refine ac_blkR ?_
  refine ac_thenR ?_
  obtain rfl := Option.some.inj H
  exact acr hE [.tmp 2] (.tmp .nil) (.one _) [] 9999
 rw [if_neg c26] at H
 refine aw_ifF ?_ (decide_eq_false c26)
 refine aw_exit ?_
 refine ac_then ?_
 refine ac_then ?_
 refine ac_hit rfl ?_
 refine ac_next ?_
 refine aw_grp1 ?_
 refine wk_start ?_
 refine kv g0 (faB 0 0) ?_
 refine kv g0 (ldB) ?_
 refine kv g0 (lnS lenE) ?_
 refine kv g0 (leq) ?_
 refine kv g0 (mv) ?_
 by_cases c33 : (l0_0.length : Int) ≤ 4
 ·rw [if_pos c33] at H
  refine kv (g1 (decide_eq_true c33)) (faB 1 1) ?_
  refine kv (g1 (decide_eq_true c33)) (ldB) ?_
  refine kv (g1 (decide_eq_true c33)) (lnS lenE) ?_
  refine kv (g1 (decide_eq_true c33)) (leq) ?_
  refine kv g0 (pkT (decide_eq_true c33)) ?_
  refine kv g0 (mv) ?_
  by_cases c34 : (l0_1.length : Int) ≤ 3
  ·rw [if_pos c34] at H
   refine kv (g1 (decide_eq_true c34)) (faB 2 2) ?_
   refine kv (g1 (decide_eq_true c34)) (ldB) ?_
   refine kv (g1 (decide_eq_true c34)) (faB 3 3) ?_
   refine kv (g1 (decide_eq_true c34)) (ldB) ?_
   obtain ⟨t35, A36, H⟩ := of_bind H
   refine kcS0 59 (.lit (.bool t35)) [] (g1 (decide_eq_true c34)) (cal (impl_actionOk.ok A36) [] 9999 .n (hf := Try.func82)) rfl rfl ?_
   refine kv g0 (pkT (decide_eq_true c34)) ?_
   refine kv g0 (asg) ?_
   refine wk_end ?_
   refine ac_next ?_
   refine aw_ret ?_
   obtain rfl := Option.some.inj H
   exact acr hE [.tmp 2] (.tmp .nil) (.one _) [] 9999
  rw [if_neg c34] at H
  refine kx (hT (decide_eq_false c34)) ?_
  refine kx (hT (decide_eq_false c34)) ?_
  refine kx (hT (decide_eq_false c34)) ?_
  refine kx (hT (decide_eq_false c34)) ?_
  refine kx (hT (decide_eq_false c34)) ?_
  refine kv g0 (pkF (decide_eq_false c34)) ?_
  refine kv g0 (asg) ?_
  refine wk_end ?_
  refine ac_next ?_
  refine aw_ret ?_
  obtain rfl := Option.some.inj H
  exact acr hE [.tmp 2] (.tmp .nil) (.one _) [] 9999
 rw [if_neg c33] at H
 refine kx (hT (decide_eq_false c33)) ?_
 refine kx (hT (decide_eq_false c33)) ?_
 refine kx (hT (decide_eq_false c33)) ?_
 refine kx (hT (decide_eq_false c33)) ?_
 refine kv g0 (pkF (decide_eq_false c33)) ?_
 refine kv g0 (mv) ?_
 refine kx (hT rfl) ?_
 refine kx (hT rfl) ?_
 refine kx (hT rfl) ?_
 refine kx (hT rfl) ?_
 refine kx (hT rfl) ?_
 refine kv g0 (pkF rfl) ?_
 refine kv g0 (asg) ?_
 refine wk_end ?_
 refine ac_next ?_
 refine aw_ret ?_
 obtain rfl := Option.some.inj H
 exact acr hE [.tmp 2] (.tmp .nil) (.one _) [] 9999
/-! impl_PolicyOk -/
def impl_PolicyOk.l0 : Nat → Int → Int → Int → (List S60) → Int → Option (Bool)
 | 0, _, _, _, _, _ => none
 | k7 + 1, a0_0, a0_1, a0_2, l0_3, p6 => if p6 < (l0_3.length : Int) then if 0 ≤ p6 then (impl_ruleOk.f k7 ((rd_T60 l0_3 p6).f0) ((rd_T60 l0_3 p6).f1) ((rd_T60 l0_3 p6).f2) ((rd_T60 l0_3 p6).f3)).bind fun t10 => if t10 = true then impl_PolicyOk.l0 k7 a0_0 a0_1 a0_2 l0_3 (wrap64 (p6 + 1)) else some false else none else (impl_HalfOk.f a0_0).bind fun t15 => (if t15 = true then ((impl_actionOk.f a0_1 a0_2).bind fun t18 => (if t18 = true then some (decide ((l0_3.length : Int) ≤ 10)) else some false)) else some false)
def impl_PolicyOk.f (k : Nat) (a0_0 : Int) (a0_1 : Int) (a0_2 : Int) (l0_3 : List S60) : Option (Bool) := impl_PolicyOk.l0 k a0_0 a0_1 a0_2 l0_3 0
theorem impl_PolicyOk.ok {k : Nat} {a0_0 : Int} {a0_1 : Int} {a0_2 : Int} {l0_3 : List S60} {r : Bool} (H : impl_PolicyOk.f k a0_0 a0_1 a0_2 l0_3 = some r) : ACalls Try.prog 39 [] [.agg [.lit (.int .i64 a0_0), .lit (.int .i64 a0_1), .lit (.int .i64 a0_2), .sl .o 4 (l0_3.map e60)]] [] (.lit (.bool r)) := by
 refine acalls (fn := Try.f39) (nt := 32) Try.func39 rfl rfl (Nat.le_of_ble_eq_true rfl) fun E hE => ?_
 rw [impl_PolicyOk.f] at H
 refine aw_grp1 ?_
 refine wk_start ?_
 refine kb g0 (bxA 0) ?_
 refine kv g0 (asg) ?_
 refine wk_end ?_
 refine ac_next ?_
 refine aw_grp1 ?_
 refine aw_grp1 ?_
 refine wk_start ?_
 refine kv g0 (faB 3 3) ?_
 refine kv g0 (ldB) ?_
 refine kv g0 (lnS lenE) ?_
 refine kv g0 (mv) ?_
 refine wk_end ?_
 refine ac_next ?_
 refine aw_block ?_
 refine aw_loop1 (fun (k_ : Nat) (p6 : Int) => k_ ≤ k ∧ impl_PolicyOk.l0 k_ a0_0 a0_1 a0_2 l0_3 p6 = some r) (fun (p6 : Int) => ⟨[(1, .box 0 0), (6, .sl .o 4 (l0_3.map e60)), (7, .lit (.int .i64 (l0_3.length : Int))), (8, .lit (.int .i64 p6))], [(0, .box 30 [.lit (.int .i64 a0_0), .lit (.int .i64 a0_1), .lit (.int .i64 a0_2), .sl .o 4 (l0_3.map e60)])]⟩) k 0 ⟨Nat.le_refl _, H⟩ (fun K_ h_ => acw hE [(0, 0)] 9999 h_) (fun _ => by intro h_; have h_ := h_.2; rw [impl_PolicyOk.l0.eq_1] at h_; cases h_) ?_
 intro k7 p6 hq_ K13 hK14
 have hk7 := hq_.1
 have H := hq_.2
 clear hq_
 rw [impl_PolicyOk.l0.eq_2] at H
 refine aw_grp1 ?_
 refine wk_start ?_
 refine kv g0 (lss) ?_
 refine wk_end ?_
 refine ac_next ?_
 refine aw_grp1 ?_
 by_cases c8 : p6 < (l0_3.length : Int)
 ·rw [if_pos c8] at H
  refine aw_ifT ?_ (decide_eq_true c8)
  refine aw_skip ?_
  refine ac_next ?_
  refine aw_grp1 ?_
  refine aw_block ?_
  refine aw_grp1 ?_
  refine wk_start ?_
  obtain ⟨c9, H⟩ := of_if H
  refine kv g0 (ixS 60 (e60 (rd_T60 l0_3 p6)) c9 (getE (z := z60) c9 c8)) ?_
  refine kv g0 (ldRA 4 [.sl .o 1 (((rd_T60 l0_3 p6).f0).map (eI .i64)), .sl .o 6 (((rd_T60 l0_3 p6).f1).map e92), .lit (.int .i64 ((rd_T60 l0_3 p6).f2)), .lit (.int .i64 ((rd_T60 l0_3 p6).f3))]) ?_
  refine kb g0 (alc 1 [.slice none 0 0, .slice none 0 0, .int .i64 0, .int .i64 0] [.lit (.slice none 0 0), .lit (.slice none 0 0), .lit (.int .i64 0), .lit (.int .i64 0)]) ?_
  refine ks g0 (stB 4 [.sl .o 1 (((rd_T60 l0_3 p6).f0).map (eI .i64)), .sl .o 6 (((rd_T60 l0_3 p6).f1).map e92), .lit (.int .i64 ((rd_T60 l0_3 p6).f2)), .lit (.int .i64 ((rd_T60 l0_3 p6).f3))]) ?_
  refine wk_end ?_
  refine ac_next ?_
  refine aw_grp1 ?_
  refine wk_start ?_
  refine kv g0 (ldBA 4 [.sl .o 1 (((rd_T60 l0_3 p6).f0).map (eI .i64)), .sl .o 6 (((rd_T60 l0_3 p6).f1).map e92), .lit (.int .i64 ((rd_T60 l0_3 p6).f2)), .lit (.int .i64 ((rd_T60 l0_3 p6).f3))]) ?_
  obtain ⟨t10, A11, H⟩ := of_bind H
  refine kcS0 13 (.lit (.bool t10)) [] g0 (cal (impl_ruleOk.ok A11) [] 9999 .n (hf := Try.func80)) rfl rfl ?_
  refine kv g0 (not_) ?_
  refine wk_end ?_
  refine ac_next ?_
  by_cases c12 : t10 = true
  ·rw [if_pos c12] at H
   refine aw_ifF ?_ (nF c12)
   refine aw_skip ?_
   refine ac_blkN ?_
   refine ac_next ?_
   refine wk_start ?_
   refine kv g0 (add6) ?_
   refine kv g0 (mv) ?_
   refine wk_end ?_
   refine ac_k ?_
   exact acw hE [(0, 0)] 9999 (hK14 k7 (wrap64 (p6 + 1)) (Nat.le_refl _) ⟨by omega, H⟩)
  rw [if_neg c12] at H
  refine aw_ifT ?_ (nT (bF c12))
  refine aw_grp1 ?_
  refine wk_start ?_
  refine kv g0 (asg) ?_
  refine wk_end ?_
  refine ac_next ?_
  refine aw_ret ?_
  refine ac_blkR ?_
  refine ac_thenR ?_
  refine ac_thenR ?_
  refine ac_blkR ?_
  refine ac_thenR ?_
  obtain rfl := Option.some.inj H
  exact acr hE [.tmp 2] (.tmp .nil) (.one _) [] 9999
 rw [if_neg c8] at H
 refine aw_ifF ?_ (decide_eq_false c8)
 refine aw_exit ?_
 refine ac_then ?_
 refine ac_then ?_
 refine ac_hit rfl ?_
 refine ac_next ?_
 refine aw_grp1 ?_
 refine wk_start ?_
 refine kv g0 (faB 0 0) ?_
 refine kv g0 (ldB) ?_
 obtain ⟨t15, A16, H⟩ := of_bind H
 refine kcS0 18 (.lit (.bool t15)) [] g0 (cal (impl_HalfOk.ok A16) [] 9999 .n (hf := Try.func81)) rfl rfl ?_
 refine kv g0 (mv) ?_
 by_cases c17 : t15 = true
 ·rw [if_pos c17] at H
  refine kv (g1 c17) (faB 1 1) ?_
  refine kv (g1 c17) (ldB) ?_
  refine kv (g1 c17) (faB 2 2) ?_
  refine kv (g1 c17) (ldB) ?_
  obtain ⟨t18, A19, H⟩ := of_bind H
  refine kcS0 24 (.lit (.bool t18)) [] (g1 c17) (cal (impl_actionOk.ok A19) [] 9999 .n (hf := Try.func82)) rfl rfl ?_
  refine kv g0 (pkT c17) ?_
  refine kv g0 (mv) ?_
  by_cases c20 : t18 = true
  ·rw [if_pos c20] at H
   refine kv (g1 c20) (faB 3 3) ?_
   refine kv (g1 c20) (ldB) ?_
   refine kv (g1 c20) (lnS lenE) ?_
   refine kv (g1 c20) (leq) ?_
   refine kv g0 (pkT c20) ?_
   refine kv g0 (asg) ?_
   refine wk_end ?_
   refine ac_next ?_
   refine aw_ret ?_
   obtain rfl := Option.some.inj H
   exact acr hE [.tmp 2] (.tmp .nil) (.one _) [] 9999
  rw [if_neg c20] at H
  refine kx (hT (bF c20)) ?_
  refine kx (hT (bF c20)) ?_
  refine kx (hT (bF c20)) ?_
  refine kx (hT (bF c20)) ?_
  refine kv g0 (pkF (bF c20)) ?_
  refine kv g0 (asg) ?_
  refine wk_end ?_
  refine ac_next ?_
  refine aw_ret ?_
  obtain rfl := Option.some.inj H
  exact acr hE [.tmp 2] (.tmp .nil) (.one _) [] 9999
 rw [if_neg c17] at H
 refine kx (hT (bF c17)) ?_
 refine kx (hT (bF c17)) ?_
 refine kx (hT (bF c17)) ?_
 refine kx (hT (bF c17)) ?_
 refine kx (hT (bF c17)) ?_
 refine kv g0 (pkF (bF c17)) ?_
 refine kv g0 (mv) ?_
 refine kx (hT rfl) ?_
 refine kx (hT rfl) ?_
 refine kx (hT rfl) ?_
 refine kx (hT rfl) ?_
 refine kv g0 (pkF rfl) ?_
 refine kv g0 (asg) ?_
 refine wk_end ?_
 refine ac_next ?_
 refine aw_ret ?_
 obtain rfl := Option.some.inj H
 exact acr hE [.tmp 2] (.tmp .nil) (.one _) [] 9999
/-! impl_Cond_104 -/
def impl_Cond_104.l0 : Nat → (List S92) → Int → Int → Int → Int → Int → Int → Int → Option (Int)
 | 0, _, _, _, _, _, _, _, _ => none
 | k5 + 1, l0, a1_0, a1_1, a1_2, a1_3, a1_4, a1_5, p4 => if p4 < (l0.length : Int) then if 0 ≤ p4 then if (a1_0 == ((rd_T92 l0 p4).f0) && ((a1_1 == ((rd_T92 l0 p4).f1.f0) && (a1_2 == ((rd_T92 l0 p4).f1.f1))) && (a1_3 == ((rd_T92 l0 p4).f2) && ((a1_4 == ((rd_T92 l0 p4).f3.f0) && (a1_5 == ((rd_T92 l0 p4).f3.f1))))))) = true then some p4 else impl_Cond_104.l0 k5 l0 a1_0 a1_1 a1_2 a1_3 a1_4 a1_5 (wrap64 (p4 + 1)) else none else some (-1)
def impl_Cond_104.f (k : Nat) (l0 : List S92) (a1_0 : Int) (a1_1 : Int) (a1_2 : Int) (a1_3 : Int) (a1_4 : Int) (a1_5 : Int) : Option (Int) := impl_Cond_104.l0 k l0 a1_0 a1_1 a1_2 a1_3 a1_4 a1_5 0
theorem impl_Cond_104.ok {k : Nat} {l0 : List S92} {a1_0 : Int} {a1_1 : Int} {a1_2 : Int} {a1_3 : Int} {a1_4 : Int} {a1_5 : Int} {r : Int} (H : impl_Cond_104.f k l0 a1_0 a1_1 a1_2 a1_3 a1_4 a1_5 = some r) : ACalls Try.prog 104 [] [.sl .o 6 (l0.map e92), .agg [.lit (.int .i64 a1_0), .lit (.int .i64 a1_1), .lit (.int .i64 a1_2), .lit (.int .i64 a1_3), .lit (.int .i64 a1_4), .lit (.int .i64 a1_5)]] [] (.lit (.int .i64 r)) := by
 refine acalls (fn := Try.f104) (nt := 19) Try.func104 rfl rfl (Nat.le_of_ble_eq_true rfl) fun E hE => ?_
 rw [impl_Cond_104.f] at H
 refine aw_grp1 ?_
 refine wk_start ?_
 refine kb g0 (bxA 0) ?_
 refine kv g0 (asg) ?_
 refine wk_end ?_
 refine ac_next ?_
 refine aw_grp1 ?_
 refine aw_grp1 ?_
 refine wk_start ?_
 refine kv g0 (mv) ?_
 refine kv g0 (lnS lenE) ?_
 refine kv g0 (mv) ?_
 refine wk_end ?_
 refine ac_next ?_
 refine aw_block ?_
 refine aw_loop1 (fun (k_ : Nat) (p4 : Int) => k_ ≤ k ∧ impl_Cond_104.l0 k_ l0 a1_0 a1_1 a1_2 a1_3 a1_4 a1_5 p4 = some r) (fun (p4 : Int) => ⟨[(0, .sl .o 6 (l0.map e92)), (3, .box 0 0), (7, .lit (.int .i64 (l0.length : Int))), (8, .lit (.int .i64 p4))], [(0, .box 92 [.lit (.int .i64 a1_0), .lit (.int .i64 a1_1), .lit (.int .i64 a1_2), .lit (.int .i64 a1_3), .lit (.int .i64 a1_4), .lit (.int .i64 a1_5)])]⟩) k 0 ⟨Nat.le_refl _, H⟩ (fun K_ h_ => acw hE [(0, 0)] 9999 h_) (fun _ => by intro h_; have h_ := h_.2; rw [impl_Cond_104.l0.eq_1] at h_; cases h_) ?_
 intro k5 p4 hq_ K9 hK10
 have hk5 := hq_.1
 have H := hq_.2
 clear hq_
 rw [impl_Cond_104.l0.eq_2] at H
 refine aw_grp1 ?_
 refine wk_start ?_
 refine kv g0 (lss) ?_
 refine wk_end ?_
 refine ac_next ?_
 refine aw_grp1 ?_
 by_cases c6 : p4 < (l0.length : Int)
 ·rw [if_pos c6] at H
  refine aw_ifT ?_ (decide_eq_true c6)
  refine aw_skip ?_
  refine ac_next ?_
  refine aw_grp1 ?_
  refine aw_block ?_
  refine aw_grp1 ?_
  refine wk_start ?_
  refine kv g0 (mv) ?_
  refine kv g0 (asg) ?_
  refine wk_end ?_
  refine ac_next ?_
  refine aw_grp1 ?_
  refine wk_start ?_
  refine kv g0 (ldBA 6 [.lit (.int .i64 a1_0), .lit (.int .i64 a1_1), .lit (.int .i64 a1_2), .lit (.int .i64 a1_3), .lit (.int .i64 a1_4), .lit (.int .i64 a1_5)]) ?_
  refine kv g0 (mv) ?_
  refine kv g0 (mv) ?_
  obtain ⟨c7, H⟩ := of_if H
  refine kv g0 (ixS 92 (e92 (rd_T92 l0 p4)) c7 (getE (z := z92) c7 c6)) ?_
  refine kv g0 (ldRA 6 [.lit (.int .i64 ((rd_T92 l0 p4).f0)), .lit (.int .i64 ((rd_T92 l0 p4).f1.f0)), .lit (.int .i64 ((rd_T92 l0 p4).f1.f1)), .lit (.int .i64 ((rd_T92 l0 p4).f2)), .lit (.int .i64 ((rd_T92 l0 p4).f3.f0)), .lit (.int .i64 ((rd_T92 l0 p4).f3.f1))]) ?_
  refine kv g0 (eqS (fun w => eq92 _ w a1_0 a1_1 a1_2 a1_3 a1_4 a1_5 ((rd_T92 l0 p4).f0) ((rd_T92 l0 p4).f1.f0) ((rd_T92 l0 p4).f1.f1) ((rd_T92 l0 p4).f2) ((rd_T92 l0 p4).f3.f0) ((rd_T92 l0 p4).f3.f1))) ?_
  refine wk_end_draw hM (by kernel_rfl) ?_
  refine ac_next ?_
  by_cases c8 : (a1_0 == ((rd_T92 l0 p4).f0) && ((a1_1 == ((rd_T92 l0 p4).f1.f0) && (a1_2 == ((rd_T92 l0 p4).f1.f1))) && (a1_3 == ((rd_T92 l0 p4).f2) && ((a1_4 == ((rd_T92 l0 p4).f3.f0) && (a1_5 == ((rd_T92 l0 p4).f3.f1))))))) = true
  ·rw [if_pos c8] at H
   refine aw_ifT ?_ c8
   refine aw_grp1 ?_
   refine wk_start ?_
   refine kv g0 (mv) ?_
   refine kv g0 (asg) ?_
   refine wk_end ?_
   refine ac_next ?_
   refine aw_ret ?_
   refine ac_blkR ?_
   refine ac_thenR ?_
   refine ac_thenR ?_
   refine ac_blkR ?_
   refine ac_thenR ?_
   obtain rfl := Option.some.inj H
   exact acr hE [.tmp 4] (.tmp .nil) (.one _) [] 9999
  rw [if_neg c8] at H
  refine aw_ifF ?_ (bF c8)
  refine aw_skip ?_
  refine ac_blkN ?_
  refine ac_next ?_
  refine wk_start ?_
  refine kv g0 (add6) ?_
  refine kv g0 (mv) ?_
  refine wk_end ?_
  refine ac_k ?_
  exact acw hE [(0, 0)] 9999 (hK10 k5 (wrap64 (p4 + 1)) (Nat.le_refl _) ⟨by omega, H⟩)
 rw [if_neg c6] at H
 refine aw_ifF ?_ (decide_eq_false c6)
 refine aw_exit ?_
 refine ac_then ?_
 refine ac_then ?_
 refine ac_hit rfl ?_
 refine ac_next ?_
 refine aw_grp1 ?_
 refine wk_start ?_
 refine kv g0 (asg) ?_
 refine wk_end ?_
 refine ac_next ?_
 refine aw_ret ?_
 obtain rfl := Option.some.inj H
 exact acr hE [.tmp 4] (.tmp .nil) (.one _) [] 9999
/-! impl_Cond_84 -/
def impl_Cond_84.f (k : Nat) (l0 : List S92) (a1_0 : Int) (a1_1 : Int) (a1_2 : Int) (a1_3 : Int) (a1_4 : Int) (a1_5 : Int) : Option (Bool) := (impl_Cond_104.f k l0 a1_0 a1_1 a1_2 a1_3 a1_4 a1_5).bind fun t1 => some (decide (t1 ≥ 0))
theorem impl_Cond_84.ok {k : Nat} {l0 : List S92} {a1_0 : Int} {a1_1 : Int} {a1_2 : Int} {a1_3 : Int} {a1_4 : Int} {a1_5 : Int} {r : Bool} (H : impl_Cond_84.f k l0 a1_0 a1_1 a1_2 a1_3 a1_4 a1_5 = some r) : ACalls Try.prog 84 [] [.sl .o 6 (l0.map e92), .agg [.lit (.int .i64 a1_0), .lit (.int .i64 a1_1), .lit (.int .i64 a1_2), .lit (.int .i64 a1_3), .lit (.int .i64 a1_4), .lit (.int .i64 a1_5)]] [] (.lit (.bool r)) := by
 refine acalls (fn := Try.f84) (nt := 9) Try.func84 rfl rfl (Nat.le_of_ble_eq_true rfl) fun E hE => ?_
 rw [impl_Cond_84.f] at H
 refine aw_grp1 ?_
 refine wk_start ?_
 refine kb g0 (bxA 0) ?_
 refine kv g0 (asg) ?_
 refine wk_end ?_
 refine ac_next ?_
 refine aw_grp1 ?_
 refine wk_start ?_
 refine kv g0 (mv) ?_
 refine kv g0 (ldBA 6 [.lit (.int .i64 a1_0), .lit (.int .i64 a1_1), .lit (.int .i64 a1_2), .lit (.int .i64 a1_3), .lit (.int .i64 a1_4), .lit (.int .i64 a1_5)]) ?_
 obtain ⟨t1, A2, H⟩ := of_bind H
 refine kcS0 7 (.lit (.int .i64 t1)) [] g0 (cal (impl_Cond_104.ok A2) [] 9999 .n (hf := Try.func104)) rfl rfl ?_
 refine kv g0 (geq) ?_
 refine kv g0 (asg) ?_
 refine wk_end ?_
 refine ac_next ?_
 refine aw_ret ?_
 obtain rfl := Option.some.inj H
 exact acr hE [.tmp 4] (.tmp .nil) (.one _) [] 9999
/-! slices_Index_int_int -/
def slices_Index_int_int.l0 : Nat → (List Int) → Int → Int → Option (Int)
 | 0, _, _, _ => none
 | k5 + 1, l0, a1, p4 => if p4 < (l0.length : Int) then if 0 ≤ p4 then if a1 = (rd l0 p4) then some p4 else slices_Index_int_int.l0 k5 l0 a1 (wrap64 (p4 + 1)) else none else some (-1)
def slices_Index_int_int.f (k : Nat) (l0 : List Int) (a1 : Int) : Option (Int) := slices_Index_int_int.l0 k l0 a1 0
theorem slices_Index_int_int.ok {k : Nat} {l0 : List Int} {a1 : Int} {r : Int} (H : slices_Index_int_int.f k l0 a1 = some r) : ACalls Try.prog 88 [] [.sl .o 1 (l0.map (eI .i64)), .lit (.int .i64 a1)] [] (.lit (.int .i64 r)) := by
 refine acalls (fn := Try.f88) (nt := 19) Try.func88 rfl rfl (Nat.le_of_ble_eq_true rfl) fun E hE => ?_
 rw [slices_Index_int_int.f] at H
 refine aw_grp1 ?_
 refine wk_start ?_
 refine kv g0 (asg) ?_
 refine wk_end ?_
 refine ac_next ?_
 refine aw_grp1 ?_
 refine aw_grp1 ?_
 refine wk_start ?_
 refine kv g0 (mv) ?_
 refine kv g0 (lnS lenE) ?_
 refine kv g0 (mv) ?_
 refine wk_end ?_
 refine ac_next ?_
 refine aw_block ?_
 refine aw_loop1 (fun (k_ : Nat) (p4 : Int) => k_ ≤ k ∧ slices_Index_int_int.l0 k_ l0 a1 p4 = some r) (fun (p4 : Int) => ⟨[(0, .sl .o 1 (l0.map (eI .i64))), (1, .lit (.int .i64 a1)), (7, .lit (.int .i64 (l0.length : Int))), (8, .lit (.int .i64 p4))], []⟩) k 0 ⟨Nat.le_refl _, H⟩ (fun K_ h_ => acw hE [] 9999 h_) (fun _ => by intro h_; have h_ := h_.2; rw [slices_Index_int_int.l0.eq_1] at h_; cases h_) ?_
 intro k5 p4 hq_ K9 hK10
 have hk5 := hq_.1
 have H := hq_.2
 clear hq_
 rw [slices_Index_int_int.l0.eq_2] at H
 refine aw_grp1 ?_
 refine wk_start ?_
 refine kv g0 (lss) ?_
 refine wk_end ?_
 refine ac_next ?_
 refine aw_grp1 ?_
 by_cases c6 : p4 < (l0.length : Int)
 ·rw [if_pos c6] at H
  refine aw_ifT ?_ (decide_eq_true c6)
  refine aw_skip ?_
  refine ac_next ?_
  refine aw_grp1 ?_
  refine aw_block ?_
  refine aw_grp1 ?_
  refine wk_start ?_
  refine kv g0 (mv) ?_
  refine kv g0 (asg) ?_
  refine wk_end ?_
  refine ac_next ?_
  refine aw_grp1 ?_
  refine wk_start ?_
  refine kv g0 (mv) ?_
  refine kv g0 (mv) ?_
  refine kv g0 (mv) ?_
  obtain ⟨c7, H⟩ := of_if H
  refine kv g0 (ixS 3 (eI .i64 (rd l0 p4)) c7 (getE (z := (0 : Int)) c7 c6)) ?_
  refine kv g0 (ldR (.lit (.int .i64 (rd l0 p4)))) ?_
  refine kv g0 (eql) ?_
  refine wk_end ?_
  refine ac_next ?_
  by_cases c8 : a1 = (rd l0 p4)
  ·rw [if_pos c8] at H
   refine aw_ifT ?_ (eT c8)
   refine aw_grp1 ?_
   refine wk_start ?_
   refine kv g0 (mv) ?_
   refine kv g0 (asg) ?_
   refine wk_end ?_
   refine ac_next ?_
   refine aw_ret ?_
   refine ac_blkR ?_
   refine ac_thenR ?_
   refine ac_thenR ?_
   refine ac_blkR ?_
   refine ac_thenR ?_
   obtain rfl := Option.some.inj H
   exact acr hE [.tmp 4] (.tmp .nil) (.one _) [] 9999
  rw [if_neg c8] at H
  refine aw_ifF ?_ (eF c8)
  refine aw_skip ?_
  refine ac_blkN ?_
  refine ac_next ?_
  refine wk_start ?_
  refine kv g0 (add6) ?_
  refine kv g0 (mv) ?_
  refine wk_end ?_
  refine ac_k ?_
  exact acw hE [] 9999 (hK10 k5 (wrap64 (p4 + 1)) (Nat.le_refl _) ⟨by omega, H⟩)
 rw [if_neg c6] at H
 refine aw_ifF ?_ (decide_eq_false c6)
 refine aw_exit ?_
 refine ac_then ?_
 refine ac_then ?_
 refine ac_hit rfl ?_
 refine ac_next ?_
 refine aw_grp1 ?_
 refine wk_start ?_
 refine kv g0 (asg) ?_
 refine wk_end ?_
 refine ac_next ?_
 refine aw_ret ?_
 obtain rfl := Option.some.inj H
 exact acr hE [.tmp 4] (.tmp .nil) (.one _) [] 9999
/-! slices_Contains_int_int -/
def slices_Contains_int_int.f (k : Nat) (l0 : List Int) (a1 : Int) : Option (Bool) := (slices_Index_int_int.f k l0 a1).bind fun t1 => some (decide (t1 ≥ 0))
theorem slices_Contains_int_int.ok {k : Nat} {l0 : List Int} {a1 : Int} {r : Bool} (H : slices_Contains_int_int.f k l0 a1 = some r) : ACalls Try.prog 50 [] [.sl .o 1 (l0.map (eI .i64)), .lit (.int .i64 a1)] [] (.lit (.bool r)) := by
 refine acalls (fn := Try.f50) (nt := 9) Try.func50 rfl rfl (Nat.le_of_ble_eq_true rfl) fun E hE => ?_
 rw [slices_Contains_int_int.f] at H
 refine aw_grp1 ?_
 refine wk_start ?_
 refine kv g0 (asg) ?_
 refine wk_end ?_
 refine ac_next ?_
 refine aw_grp1 ?_
 refine wk_start ?_
 refine kv g0 (mv) ?_
 refine kv g0 (mv) ?_
 obtain ⟨t1, A2, H⟩ := of_bind H
 refine kcS0 7 (.lit (.int .i64 t1)) [] g0 (cal (slices_Index_int_int.ok A2) [] 9999 .n (hf := Try.func88)) rfl rfl ?_
 refine kv g0 (geq) ?_
 refine kv g0 (asg) ?_
 refine wk_end ?_
 refine ac_next ?_
 refine aw_ret ?_
 obtain rfl := Option.some.inj H
 exact acr hE [.tmp 4] (.tmp .nil) (.one _) [] 9999
/-! impl_covers -/
mutual
def impl_covers.l0 : Nat → (List Int) → (List S92) → Int → Int → (List Int) → (List S92) → Int → Int → Int → Option (Bool)
 | 0, _, _, _, _, _, _, _, _, _ => none
 | k7 + 1, l0_0, l0_1, a0_2, a0_3, l1_0, l1_1, a1_2, a1_3, p6 => if p6 < (l0_1.length : Int) then if 0 ≤ p6 then (impl_Cond_84.f k7 l1_1 ((rd_T92 l0_1 p6).f0) ((rd_T92 l0_1 p6).f1.f0) ((rd_T92 l0_1 p6).f1.f1) ((rd_T92 l0_1 p6).f2) ((rd_T92 l0_1 p6).f3.f0) ((rd_T92 l0_1 p6).f3.f1)).bind fun t10 => if t10 = true then impl_covers.l0 k7 l0_0 l0_1 a0_2 a0_3 l1_0 l1_1 a1_2 a1_3 (wrap64 (p6 + 1)) else some false else none else if (l0_0.length : Int) = 0 then some true else impl_covers.l1 k7 l0_0 l0_1 a0_2 a0_3 l1_0 l1_1 a1_2 a1_3 0
def impl_covers.l1 : Nat → (List Int) → (List S92) → Int → Int → (List Int) → (List S92) → Int → Int → Int → Option (Bool)
 | 0, _, _, _, _, _, _, _, _, _ => none
 | k22 + 1, l0_0, l0_1, a0_2, a0_3, l1_0, l1_1, a1_2, a1_3, p21 => if p21 < (l1_0.length : Int) then if 0 ≤ p21 then (slices_Contains_int_int.f k22 l0_0 (rd l1_0 p21)).bind fun t25 => if t25 = true then impl_covers.l1 k22 l0_0 l0_1 a0_2 a0_3 l1_0 l1_1 a1_2 a1_3 (wrap64 (p21 + 1)) else some false else none else some (decide ((l1_0.length : Int) > 0))
end
def impl_covers.f (k : Nat) (l0_0 : List Int) (l0_1 : List S92) (a0_2 : Int) (a0_3 : Int) (l1_0 : List Int) (l1_1 : List S92) (a1_2 : Int) (a1_3 : Int) : Option (Bool) := impl_covers.l0 k l0_0 l0_1 a0_2 a0_3 l1_0 l1_1 a1_2 a1_3 0
theorem impl_covers.ok {k : Nat} {l0_0 : List Int} {l0_1 : List S92} {a0_2 : Int} {a0_3 : Int} {l1_0 : List Int} {l1_1 : List S92} {a1_2 : Int} {a1_3 : Int} {r : Bool} (H : impl_covers.f k l0_0 l0_1 a0_2 a0_3 l1_0 l1_1 a1_2 a1_3 = some r) : ACalls Try.prog 42 [] [.agg [.sl .o 1 (l0_0.map (eI .i64)), .sl .o 6 (l0_1.map e92), .lit (.int .i64 a0_2), .lit (.int .i64 a0_3)], .agg [.sl .o 1 (l1_0.map (eI .i64)), .sl .o 6 (l1_1.map e92), .lit (.int .i64 a1_2), .lit (.int .i64 a1_3)]] [] (.lit (.bool r)) := by
 refine acalls (fn := Try.f42) (nt := 43) Try.func42 rfl rfl (Nat.le_of_ble_eq_true rfl) fun E hE => ?_
 rw [impl_covers.f] at H
 refine aw_grp1 ?_
 refine wk_start ?_
 refine kb g0 (bxA 0) ?_
 refine kb g0 (bxA 1) ?_
 refine kv g0 (asg) ?_
 refine wk_end ?_
 refine ac_next ?_
 refine aw_grp1 ?_
 refine aw_grp1 ?_
 refine wk_start ?_
 refine kv g0 (faB 1 1) ?_
 refine kv g0 (ldB) ?_
 refine kv g0 (lnS lenE) ?_
 refine kv g0 (mv) ?_
 refine wk_end ?_
 refine ac_next ?_
 refine aw_block ?_
 refine aw_loop1 (fun (k_ : Nat) (p6 : Int) => k_ ≤ k ∧ impl_covers.l0 k_ l0_0 l0_1 a0_2 a0_3 l1_0 l1_1 a1_2 a1_3 p6 = some r) (fun (p6 : Int) => ⟨[(2, .box 0 0), (3, .box 1 0), (10, .sl .o 6 (l0_1.map e92)), (11, .lit (.int .i64 (l0_1.length : Int))), (12, .lit (.int .i64 p6))], [(0, .box 60 [.sl .o 1 (l0_0.map (eI .i64)), .sl .o 6 (l0_1.map e92), .lit (.int .i64 a0_2), .lit (.int .i64 a0_3)]), (1, .box 60 [.sl .o 1 (l1_0.map (eI .i64)), .sl .o 6 (l1_1.map e92), .lit (.int .i64 a1_2), .lit (.int .i64 a1_3)])]⟩) k 0 ⟨Nat.le_refl _, H⟩ (fun K_ h_ => acw hE [(0, 0), (1, 1)] 9999 h_) (fun _ => by intro h_; have h_ := h_.2; rw [impl_covers.l0.eq_1] at h_; cases h_) ?_
 intro k7 p6 hq_ K13 hK14
 have hk7 := hq_.1
 have H := hq_.2
 clear hq_
 rw [impl_covers.l0.eq_2] at H
 refine aw_grp1 ?_
 refine wk_start ?_
 refine kv g0 (lss) ?_
 refine wk_end ?_
 refine ac_next ?_
 refine aw_grp1 ?_
 by_cases c8 : p6 < (l0_1.length : Int)
 ·rw [if_pos c8] at H
  refine aw_ifT ?_ (decide_eq_true c8)
  refine aw_skip ?_
  refine ac_next ?_
  refine aw_grp1 ?_
  refine aw_block ?_
  refine aw_grp1 ?_
  refine wk_start ?_
  obtain ⟨c9, H⟩ := of_if H
  refine kv g0 (ixS 92 (e92 (rd_T92 l0_1 p6)) c9 (getE (z := z92) c9 c8)) ?_
  refine kv g0 (ldRA 6 [.lit (.int .i64 ((rd_T92 l0_1 p6).f0)), .lit (.int .i64 ((rd_T92 l0_1 p6).f1.f0)), .lit (.int .i64 ((rd_T92 l0_1 p6).f1.f1)), .lit (.int .i64 ((rd_T92 l0_1 p6).f2)), .lit (.int .i64 ((rd_T92 l0_1 p6).f3.f0)), .lit (.int .i64 ((rd_T92 l0_1 p6).f3.f1))]) ?_
  refine kb g0 (alc 2 [.int .i64 0, .int .i64 0, .int .i64 0, .int .i64 0, .int .i64 0, .int .i64 0] [.lit (.int .i64 0), .lit (.int .i64 0), .lit (.int .i64 0), .lit (.int .i64 0), .lit (.int .i64 0), .lit (.int .i64 0)]) ?_
  refine ks g0 (stB 6 [.lit (.int .i64 ((rd_T92 l0_1 p6).f0)), .lit (.int .i64 ((rd_T92 l0_1 p6).f1.f0)), .lit (.int .i64 ((rd_T92 l0_1 p6).f1.f1)), .lit (.int .i64 ((rd_T92 l0_1 p6).f2)), .lit (.int .i64 ((rd_T92 l0_1 p6).f3.f0)), .lit (.int .i64 ((rd_T92 l0_1 p6).f3.f1))]) ?_
  refine wk_end ?_
  refine ac_next ?_
  refine aw_grp1 ?_
  refine wk_start ?_
  refine kv g0 (faB 1 1) ?_
  refine kv g0 (ldB) ?_
  refine kv g0 (ldBA 6 [.lit (.int .i64 ((rd_T92 l0_1 p6).f0)), .lit (.int .i64 ((rd_T92 l0_1 p6).f1.f0)), .lit (.int .i64 ((rd_T92 l0_1 p6).f1.f1)), .lit (.int .i64 ((rd_T92 l0_1 p6).f2)), .lit (.int .i64 ((rd_T92 l0_1 p6).f3.f0)), .lit (.int .i64 ((rd_T92 l0_1 p6).f3.f1))]) ?_
  obtain ⟨t10, A11, H⟩ := of_bind H
  refine kcS0 19 (.lit (.bool t10)) [] g0 (cal (impl_Cond_84.ok A11) [] 9999 .n (hf := Try.func84)) rfl rfl ?_
  refine kv g0 (not_) ?_
  refine wk_end ?_
  refine ac_next ?_
  by_cases c12 : t10 = true
  ·rw [if_pos c12] at H
   refine aw_ifF ?_ (nF c12)
   refine aw_skip ?_
   refine ac_blkN ?_
   refine ac_next ?_
   refine wk_start ?_
   refine kv g0 (add6) ?_
   refine kv g0 (mv) ?_
   refine wk_end ?_
   refine ac_k ?_
   exact acw hE [(0, 0), (1, 1)] 9999 (hK14 k7 (wrap64 (p6 + 1)) (Nat.le_refl _) ⟨by omega, H⟩)
  rw [if_neg c12] at H
  refine aw_ifT ?_ (nT (bF c12))
  refine aw_grp1 ?_
  refine wk_start ?_
  refine kv g0 (asg) ?_
  refine wk_end ?_
  refine ac_next ?_
  refine aw_ret ?_
  refine ac_blkR ?_
  refine ac_thenR ?_
  refine ac_thenR ?_
  refine ac_blkR ?_
  refine ac_thenR ?_
  obtain rfl := Option.some.inj H
  exact acr hE [.tmp 4] (.tmp .nil) (.one _) [] 9999
 rw [if_neg c8] at H
 refine aw_ifF ?_ (decide_eq_false c8)
 refine aw_exit ?_
 refine ac_then ?_
 refine ac_then ?_
 refine ac_hit rfl ?_
 refine ac_next ?_
 refine aw_grp1 ?_
 refine aw_grp1 ?_
 refine wk_start ?_
 refine kv g0 (faB 0 0) ?_
 refine kv g0 (ldB) ?_
 refine kv g0 (lnS lenE) ?_
 refine kv g0 (eql) ?_
 refine wk_end ?_
 refine ac_next ?_
 by_cases c15 : (l0_0.length : Int) = 0
 ·rw [if_pos c15] at H
  refine aw_ifT ?_ (eT c15)
  refine aw_grp1 ?_
  refine wk_start ?_
  refine kv g0 (asg) ?_
  refine wk_end ?_
  refine ac_next ?_
  refine aw_ret ?_
  refine ac_thenR ?_
  obtain rfl := Option.some.inj H
  exact acr hE [.tmp 4] (.tmp .nil) (.one _) [] 9999
 rw [if_neg c15] at H
 refine aw_ifF ?_ (eF c15)
 refine aw_skip ?_
 refine ac_next ?_
 refine aw_grp1 ?_
 refine aw_grp1 ?_
 refine wk_start ?_
 refine kv g0 (faB 0 0) ?_
 refine kv g0 (ldB) ?_
 refine kv g0 (lnS lenE) ?_
 refine kv g0 (mv) ?_
 refine wk_end ?_
 refine ac_next ?_
 refine aw_block ?_
 refine aw_loop1 (fun (k_ : Nat) (p21 : Int) => k_ ≤ k7 ∧ impl_covers.l1 k_ l0_0 l0_1 a0_2 a0_3 l1_0 l1_1 a1_2 a1_3 p21 = some r) (fun (p21 : Int) => ⟨[(2, .box 0 0), (3, .box 1 0), (27, .sl .o 1 (l1_0.map (eI .i64))), (28, .lit (.int .i64 (l1_0.length : Int))), (29, .lit (.int .i64 p21))], [(0, .box 60 [.sl .o 1 (l0_0.map (eI .i64)), .sl .o 6 (l0_1.map e92), .lit (.int .i64 a0_2), .lit (.int .i64 a0_3)]), (1, .box 60 [.sl .o 1 (l1_0.map (eI .i64)), .sl .o 6 (l1_1.map e92), .lit (.int .i64 a1_2), .lit (.int .i64 a1_3)])]⟩) k7 0 ⟨Nat.le_refl _, H⟩ (fun K_ h_ => acw hE [(0, 0), (1, 1)] 9999 h_) (fun _ => by intro h_; have h_ := h_.2; rw [impl_covers.l1.eq_1] at h_; cases h_) ?_
 intro k22 p21 hq_ K28 hK29
 have hk22 := hq_.1
 have H := hq_.2
 clear hq_
 rw [impl_covers.l1.eq_2] at H
 refine aw_grp1 ?_
 refine wk_start ?_
 refine kv g0 (lss) ?_
 refine wk_end ?_
 refine ac_next ?_
 refine aw_grp1 ?_
 by_cases c23 : p21 < (l1_0.length : Int)
 ·rw [if_pos c23] at H
  refine aw_ifT ?_ (decide_eq_true c23)
  refine aw_skip ?_
  refine ac_next ?_
  refine aw_grp1 ?_
  refine aw_block ?_
  refine aw_grp1 ?_
  refine wk_start ?_
  obtain ⟨c24, H⟩ := of_if H
  refine kv g0 (ixS 3 (eI .i64 (rd l1_0 p21)) c24 (getE (z := (0 : Int)) c24 c23)) ?_
  refine kv g0 (ldR (.lit (.int .i64 (rd l1_0 p21)))) ?_
  refine kv g0 (asg) ?_
  refine wk_end ?_
  refine ac_next ?_
  refine aw_grp1 ?_
  refine wk_start ?_
  refine kv g0 (faB 0 0) ?_
  refine kv g0 (ldB) ?_
  refine kv g0 (mv) ?_
  obtain ⟨t25, A26, H⟩ := of_bind H
  refine kcS0 36 (.lit (.bool t25)) [] g0 (cal (slices_Contains_int_int.ok A26) [] 9999 .n (hf := Try.func50)) rfl rfl ?_
  refine kv g0 (not_) ?_
  refine wk_end ?_
  refine ac_next ?_
  by_cases c27 : t25 = true
  ·rw [if_pos c27] at H
   refine aw_ifF ?_ (nF c27)
   refine aw_skip ?_
   refine ac_blkN ?_
   refine ac_next ?_
   refine wk_start ?_
   refine kv g0 (add6) ?_
   refine kv g0 (mv) ?_
   refine wk_end ?_
   refine ac_k ?_
   exact acw hE [(0, 0), (1, 1)] 9999 (hK29 k22 (wrap64 (p21 + 1)) (Nat.le_refl _) ⟨by omega, H⟩)
  rw [if_neg c27] at H
  refine aw_ifT ?_ (nT (bF c27))
  refine aw_grp1 ?_
  refine wk_start ?_
  refine kv g0 (asg) ?_
  refine wk_end ?_
  refine ac_next ?_
  refine aw_ret ?_
  refine ac_blkR ?_
  refine ac_thenR ?_
  refine ac_thenR ?_
  refine ac_blkR ?_
  refine ac_thenR ?_
  obtain rfl := Option.some.inj H
  exact acr hE [.tmp 4] (.tmp .nil) (.one _) [] 9999
 rw [if_neg c23] at H
 refine aw_ifF ?_ (decide_eq_false c23)
 refine aw_exit ?_
 refine ac_then ?_
 refine ac_then ?_
 refine ac_hit rfl ?_
 refine ac_next ?_
 refine aw_grp1 ?_
 refine wk_start ?_
 refine kv g0 (faB 0 0) ?_
 refine kv g0 (ldB) ?_
 refine kv g0 (lnS lenE) ?_
 refine kv g0 (gtr) ?_
 refine kv g0 (asg) ?_
 refine wk_end ?_
 refine ac_next ?_
 refine aw_ret ?_
 obtain rfl := Option.some.inj H
 exact acr hE [.tmp 4] (.tmp .nil) (.one _) [] 9999
/-! impl_Shadowed_1, handed  -/
def impl_Shadowed_1.f (k : Nat) (l0_0 : List Int) (l0_1 : List S92) (a0_2 : Int) (a0_3 : Int) (l1_0 : List Int) (l1_1 : List S92) (a1_2 : Int) (a1_3 : Int) : Option (Bool × (List Int) × (List S92) × Int × Int) := (impl_covers.f k l0_0 l0_1 a0_2 a0_3 l1_0 l1_1 a1_2 a1_3).bind fun t1 => some (t1, l1_0, l1_1, a1_2, a1_3)
theorem impl_Shadowed_1.ok {k : Nat} {l0_0 : List Int} {l0_1 : List S92} {a0_2 : Int} {a0_3 : Int} {l1_0 : List Int} {l1_1 : List S92} {a1_2 : Int} {a1_3 : Int} {r : Bool × (List Int) × (List S92) × Int × Int} (H : impl_Shadowed_1.f k l0_0 l0_1 a0_2 a0_3 l1_0 l1_1 a1_2 a1_3 = some r) : ACalls Try.prog 41 [(0, .box 60 [.sl .u 1 (l1_0.map (eI .i64)), .sl .u 6 (l1_1.map e92), .lit (.int .i64 a1_2), .lit (.int .i64 a1_3)])] [.agg [.sl .o 1 (l0_0.map (eI .i64)), .sl .o 6 (l0_1.map e92), .lit (.int .i64 a0_2), .lit (.int .i64 a0_3)], .box 0 0] [(0, .box 60 [.sl .u 1 (r.2.1.map (eI .i64)), .sl .u 6 (r.2.2.1.map e92), .lit (.int .i64 r.2.2.2.1), .lit (.int .i64 r.2.2.2.2)])] (.lit (.bool r.1)) := by
 refine acalls (fn := Try.f41) (nt := 7) Try.func41 rfl rfl (Nat.le_of_ble_eq_true rfl) fun E hE => ?_
 rw [impl_Shadowed_1.f] at H
 refine aw_grp1 ?_
 refine wk_start ?_
 refine kb g0 (bxA 1) ?_
 refine kv g0 (asg) ?_
 refine wk_end ?_
 refine ac_next ?_
 refine aw_grp1 ?_
 refine wk_start ?_
 refine kv g0 (ldBA 4 [.sl .o 1 (l0_0.map (eI .i64)), .sl .o 6 (l0_1.map e92), .lit (.int .i64 a0_2), .lit (.int .i64 a0_3)]) ?_
 refine kv g0 (ldBA 4 [.sl .u 1 (l1_0.map (eI .i64)), .sl .u 6 (l1_1.map e92), .lit (.int .i64 a1_2), .lit (.int .i64 a1_3)]) ?_
 obtain ⟨t1, A2, H⟩ := of_bind H
 refine kcS0 6 (.lit (.bool t1)) [] g0 (cal (impl_covers.ok A2) [] 9999 .n (hf := Try.func42)) rfl rfl ?_
 refine kv g0 (asg) ?_
 refine wk_end ?_
 refine ac_next ?_
 refine aw_ret ?_
 obtain rfl := Option.some.inj H
 exact acr hE [.tmp 3] (.tmp .nil) (.one _) [(0, 0)] 9999
/-! impl_Rule_83, handed impl_Shadowed_1 -/
def impl_Rule_83_w41.l0 : Nat → (List S60) → (List Int) → (List S92) → Int → Int → Int → Option (Int × (List Int) × (List S92) × Int × Int)
 | 0, _, _, _, _, _, _ => none
 | k11 + 1, l0, q6, q7, p8, p9, p10 => if p10 < (l0.length : Int) then if 0 ≤ p10 then ((impl_Shadowed_1.f k11 ((rd_T60 l0 p10).f0) ((rd_T60 l0 p10).f1) ((rd_T60 l0 p10).f2) ((rd_T60 l0 p10).f3) q6 q7 p8 p9).bind fun t14 => if t14.1 = true then some (p10, t14.2.1, t14.2.2.1, t14.2.2.2.1, t14.2.2.2.2) else impl_Rule_83_w41.l0 k11 l0 t14.2.1 t14.2.2.1 t14.2.2.2.1 t14.2.2.2.2 (wrap64 (p10 + 1))) else none else some ((-1), q6, q7, p8, p9)
def impl_Rule_83_w41.f (k : Nat) (l0 : List S60) (l1_0_0 : List Int) (l1_0_1 : List S92) (a1_0_2 : Int) (a1_0_3 : Int) : Option (Int × (List Int) × (List S92) × Int × Int) := impl_Rule_83_w41.l0 k l0 l1_0_0 l1_0_1 a1_0_2 a1_0_3 0
theorem impl_Rule_83_w41.ok {k : Nat} {l0 : List S60} {l1_0_0 : List Int} {l1_0_1 : List S92} {a1_0_2 : Int} {a1_0_3 : Int} {r : Int × (List Int) × (List S92) × Int × Int} (H : impl_Rule_83_w41.f k l0 l1_0_0 l1_0_1 a1_0_2 a1_0_3 = some r) : ACalls Try.prog 83 [(0, .box 60 [.sl .u 1 (l1_0_0.map (eI .i64)), .sl .u 6 (l1_0_1.map e92), .lit (.int .i64 a1_0_2), .lit (.int .i64 a1_0_3)])] [.sl .o 4 (l0.map e60), .fn 41 [.box 0 0]] [(0, .box 60 [.sl .u 1 (r.2.1.map (eI .i64)), .sl .u 6 (r.2.2.1.map e92), .lit (.int .i64 r.2.2.2.1), .lit (.int .i64 r.2.2.2.2)])] (.lit (.int .i64 r.1)) := by
 refine acalls (fn := Try.f83) (nt := 19) Try.func83 rfl rfl (Nat.le_of_ble_eq_true rfl) fun E hE => ?_
 rw [impl_Rule_83_w41.f] at H
 refine aw_grp1 ?_
 refine wk_start ?_
 refine kv g0 (asg) ?_
 refine wk_end ?_
 refine ac_next ?_
 refine aw_grp1 ?_
 refine aw_grp1 ?_
 refine wk_start ?_
 refine kv g0 (mv) ?_
 refine kv g0 (lnS lenE) ?_
 refine kv g0 (mv) ?_
 refine wk_end ?_
 refine ac_next ?_
 refine aw_block ?_
 refine aw_loop5 (fun (k_ : Nat) (q6 : List Int) (q7 : List S92) (p8 : Int) (p9 : Int) (p10 : Int) => k_ ≤ k ∧ impl_Rule_83_w41.l0 k_ l0 q6 q7 p8 p9 p10 = some r) (fun (q6 : List Int) (q7 : List S92) (p8 : Int) (p9 : Int) (p10 : Int) => ⟨[(0, .sl .o 4 (l0.map e60)), (1, .fn 41 [.box 0 0]), (7, .lit (.int .i64 (l0.length : Int))), (8, .lit (.int .i64 p10))], [(0, .box 60 [.sl .u 1 (q6.map (eI .i64)), .sl .u 6 (q7.map e92), .lit (.int .i64 p8), .lit (.int .i64 p9)])]⟩) k l1_0_0 l1_0_1 a1_0_2 a1_0_3 0 ⟨Nat.le_refl _, H⟩ (fun K_ h_ => acw hE [(0, 0)] 9999 h_) (fun _ _ _ _ _ => by intro h_; have h_ := h_.2; rw [impl_Rule_83_w41.l0.eq_1] at h_; cases h_) ?_
 intro k11 q6 q7 p8 p9 p10 hq_ K17 hK18
 have hk11 := hq_.1
 have H := hq_.2
 clear hq_
 rw [impl_Rule_83_w41.l0.eq_2] at H
 refine aw_grp1 ?_
 refine wk_start ?_
 refine kv g0 (lss) ?_
 refine wk_end ?_
 refine ac_next ?_
 refine aw_grp1 ?_
 by_cases c12 : p10 < (l0.length : Int)
 ·rw [if_pos c12] at H
  refine aw_ifT ?_ (decide_eq_true c12)
  refine aw_skip ?_
  refine ac_next ?_
  refine aw_grp1 ?_
  refine aw_block ?_
  refine aw_grp1 ?_
  refine wk_start ?_
  refine kv g0 (mv) ?_
  refine kv g0 (asg) ?_
  refine wk_end ?_
  refine ac_next ?_
  refine aw_grp1 ?_
  refine wk_start ?_
  refine kv g0 (mv) ?_
  refine kv g0 (mv) ?_
  refine kv g0 (mv) ?_
  obtain ⟨c13, H⟩ := of_if H
  refine kv g0 (ixS 60 (e60 (rd_T60 l0 p10)) c13 (getE (z := z60) c13 c12)) ?_
  refine kv g0 (ldRA 4 [.sl .o 1 (((rd_T60 l0 p10).f0).map (eI .i64)), .sl .o 6 (((rd_T60 l0 p10).f1).map e92), .lit (.int .i64 ((rd_T60 l0 p10).f2)), .lit (.int .i64 ((rd_T60 l0 p10).f3))]) ?_
  obtain ⟨t14, A15, H⟩ := of_bind H
  refine kcS1 16 (.lit (.bool t14.1)) [(0, .box 60 [.sl .u 1 (t14.2.1.map (eI .i64)), .sl .u 6 (t14.2.2.1.map e92), .lit (.int .i64 t14.2.2.2.1), .lit (.int .i64 t14.2.2.2.2)])] g0 (cal (impl_Shadowed_1.ok A15) [0] 9999 .u (hf := Try.func41)) rfl rfl ?_
  refine wk_end ?_
  refine ac_next ?_
  by_cases c16 : t14.1 = true
  ·rw [if_pos c16] at H
   refine aw_ifT ?_ c16
   refine aw_grp1 ?_
   refine wk_start ?_
   refine kv g0 (mv) ?_
   refine kv g0 (asg) ?_
   refine wk_end ?_
   refine ac_next ?_
   refine aw_ret ?_
   refine ac_blkR ?_
   refine ac_thenR ?_
   refine ac_thenR ?_
   refine ac_blkR ?_
   refine ac_thenR ?_
   obtain rfl := Option.some.inj H
   exact acr hE [.tmp 4] (.tmp .nil) (.one _) [(0, 0)] 9999
  rw [if_neg c16] at H
  refine aw_ifF ?_ (bF c16)
  refine aw_skip ?_
  refine ac_blkN ?_
  refine ac_next ?_
  refine wk_start ?_
  refine kv g0 (add6) ?_
  refine kv g0 (mv) ?_
  refine wk_end ?_
  refine ac_k ?_
  exact acw hE [(0, 0)] 9999 (hK18 k11 t14.2.1 t14.2.2.1 t14.2.2.2.1 t14.2.2.2.2 (wrap64 (p10 + 1)) (Nat.le_refl _) ⟨by omega, H⟩)
 rw [if_neg c12] at H
 refine aw_ifF ?_ (decide_eq_false c12)
 refine aw_exit ?_
 refine ac_then ?_
 refine ac_then ?_
 refine ac_hit rfl ?_
 refine ac_next ?_
 refine aw_grp1 ?_
 refine wk_start ?_
 refine kv g0 (asg) ?_
 refine wk_end ?_
 refine ac_next ?_
 refine aw_ret ?_
 obtain rfl := Option.some.inj H
 exact acr hE [.tmp 4] (.tmp .nil) (.one _) [(0, 0)] 9999
/-! impl_Rule_40, handed impl_Shadowed_1 -/
def impl_Rule_40_w41.f (k : Nat) (l0 : List S60) (l1_0_0 : List Int) (l1_0_1 : List S92) (a1_0_2 : Int) (a1_0_3 : Int) : Option (Bool × (List Int) × (List S92) × Int × Int) := (impl_Rule_83_w41.f k l0 l1_0_0 l1_0_1 a1_0_2 a1_0_3).bind fun t1 => some (decide (t1.1 ≥ 0), t1.2.1, t1.2.2.1, t1.2.2.2.1, t1.2.2.2.2)
theorem impl_Rule_40_w41.ok {k : Nat} {l0 : List S60} {l1_0_0 : List Int} {l1_0_1 : List S92} {a1_0_2 : Int} {a1_0_3 : Int} {r : Bool × (List Int) × (List S92) × Int × Int} (H : impl_Rule_40_w41.f k l0 l1_0_0 l1_0_1 a1_0_2 a1_0_3 = some r) : ACalls Try.prog 40 [(0, .box 60 [.sl .u 1 (l1_0_0.map (eI .i64)), .sl .u 6 (l1_0_1.map e92), .lit (.int .i64 a1_0_2), .lit (.int .i64 a1_0_3)])] [.sl .o 4 (l0.map e60), .fn 41 [.box 0 0]] [(0, .box 60 [.sl .u 1 (r.2.1.map (eI .i64)), .sl .u 6 (r.2.2.1.map e92), .lit (.int .i64 r.2.2.2.1), .lit (.int .i64 r.2.2.2.2)])] (.lit (.bool r.1)) := by
 refine acalls (fn := Try.f40) (nt := 9) Try.func40 rfl rfl (Nat.le_of_ble_eq_true rfl) fun E hE => ?_
 rw [impl_Rule_40_w41.f] at H
 refine aw_grp1 ?_
 refine wk_start ?_
 refine kv g0 (asg) ?_
 refine wk_end ?_
 refine ac_next ?_
 refine aw_grp1 ?_
 refine wk_start ?_
 refine kv g0 (mv) ?_
 refine kv g0 (mv) ?_
 obtain ⟨t1, A2, H⟩ := of_bind H
 refine kcS1 7 (.lit (.int .i64 t1.1)) [(0, .box 60 [.sl .u 1 (t1.2.1.map (eI .i64)), .sl .u 6 (t1.2.2.1.map e92), .lit (.int .i64 t1.2.2.2.1), .lit (.int .i64 t1.2.2.2.2)])] g0 (cal (impl_Rule_83_w41.ok A2) [0] 9999 .u (hf := Try.func83)) rfl rfl ?_
 refine kv g0 (geq) ?_
 refine kv g0 (asg) ?_
 refine wk_end ?_
 refine ac_next ?_
 refine aw_ret ?_
 obtain rfl := Option.some.inj H
 exact acr hE [.tmp 4] (.tmp .nil) (.one _) [(0, 0)] 9999
/-! impl_Shadowed -/
def impl_Shadowed.l0 : Nat → Int → Int → Int → (List S60) → (List Int) → Int → Option ((List Int))
 | 0, _, _, _, _, _, _ => none
 | k13 + 1, a0_0, a0_1, a0_2, l0_3, q11, p12 => if p12 < (l0_3.length : Int) then if 0 ≤ p12 then if p12 ≤ (l0_3.length : Int) then ((impl_Rule_40_w41.f k13 (l0_3.take p12.toNat) ((rd_T60 l0_3 p12).f0) ((rd_T60 l0_3 p12).f1) ((rd_T60 l0_3 p12).f2) ((rd_T60 l0_3 p12).f3)).bind fun t17 => if t17.1 = true then (if q11.length + ([p12] : List Int).length < 17592186044416 then impl_Shadowed.l0 k13 a0_0 a0_1 a0_2 l0_3 (q11 ++ ([p12] : List Int)) (wrap64 (p12 + 1)) else none) else impl_Shadowed.l0 k13 a0_0 a0_1 a0_2 l0_3 q11 (wrap64 (p12 + 1))) else none else none else some q11
def impl_Shadowed.f (k : Nat) (a0_0 : Int) (a0_1 : Int) (a0_2 : Int) (l0_3 : List S60) : Option ((List Int)) := (impl_PolicyOk.f k a0_0 a0_1 a0_2 l0_3).bind fun t1 => if t1 = true then impl_Shadowed.l0 k a0_0 a0_1 a0_2 l0_3 ([] : List Int) 0 else some ([] : List Int)
theorem impl_Shadowed.ok {k : Nat} {a0_0 : Int} {a0_1 : Int} {a0_2 : Int} {l0_3 : List S60} {r : (List Int)} (H : impl_Shadowed.f k a0_0 a0_1 a0_2 l0_3 = some r) : ACalls Try.prog 11 [] [.agg [.lit (.int .i64 a0_0), .lit (.int .i64 a0_1), .lit (.int .i64 a0_2), .sl .o 4 (l0_3.map e60)]] [(0, .row 3 1 (r.map (eI .i64)))] (.row 0) := by
 refine acalls (fn := Try.f11) (nt := 31) Try.func11 rfl rfl (Nat.le_of_ble_eq_true rfl) fun E hE => ?_
 rw [impl_Shadowed.f] at H
 refine aw_grp1 ?_
 refine wk_start ?_
 refine kb g0 (bxA 0) ?_
 refine kv g0 (asg) ?_
 refine wk_end ?_
 refine ac_next ?_
 refine aw_grp1 ?_
 refine wk_start ?_
 refine kb g0 (bsl 1 3 1 [.int .i64 0] (([] : List Int).map (eI .i64))) ?_
 refine kv g0 (asg) ?_
 refine wk_end ?_
 refine ac_next ?_
 refine aw_grp1 ?_
 refine aw_grp1 ?_
 refine wk_start ?_
 refine kv g0 (ldBA 4 [.lit (.int .i64 a0_0), .lit (.int .i64 a0_1), .lit (.int .i64 a0_2), .sl .o 4 (l0_3.map e60)]) ?_
 obtain ⟨t1, A2, H⟩ := of_bind H
 refine kcS0 8 (.lit (.bool t1)) [] g0 (cal (impl_PolicyOk.ok A2) [] 9999 .n (hf := Try.func39)) rfl rfl ?_
 refine kv g0 (not_) ?_
 refine wk_end ?_
 refine ac_next ?_
 by_cases c3 : t1 = true
 ·rw [if_pos c3] at H
  refine aw_ifF ?_ (nF c3)
  refine aw_skip ?_
  refine ac_next ?_
  refine aw_grp1 ?_
  refine aw_grp1 ?_
  refine wk_start ?_
  refine kv g0 (faB 3 3) ?_
  refine kv g0 (ldB) ?_
  refine kv g0 (lnS lenE) ?_
  refine kv g0 (mv) ?_
  refine wk_end ?_
  refine ac_next ?_
  refine aw_block ?_
  refine aw_loop2 (fun (k_ : Nat) (q11 : List Int) (p12 : Int) => k_ ≤ k ∧ impl_Shadowed.l0 k_ a0_0 a0_1 a0_2 l0_3 q11 p12 = some r) (fun (q11 : List Int) (p12 : Int) => ⟨[(1, .box 0 0), (3, .row 1), (12, .sl .o 4 (l0_3.map e60)), (13, .lit (.int .i64 (l0_3.length : Int))), (14, .lit (.int .i64 p12))], [(0, .box 30 [.lit (.int .i64 a0_0), .lit (.int .i64 a0_1), .lit (.int .i64 a0_2), .sl .o 4 (l0_3.map e60)]), (1, .row 3 1 (q11.map (eI .i64)))]⟩) k ([] : List Int) 0 ⟨Nat.le_refl _, H⟩ (fun K_ h_ => acw hE [(0, 0), (1, 1)] 9999 h_) (fun _ _ => by intro h_; have h_ := h_.2; rw [impl_Shadowed.l0.eq_1] at h_; cases h_) ?_
  intro k13 q11 p12 hq_ K21 hK22
  have hk13 := hq_.1
  have H := hq_.2
  clear hq_
  rw [impl_Shadowed.l0.eq_2] at H
  refine aw_grp1 ?_
  refine wk_start ?_
  refine kv g0 (lss) ?_
  refine wk_end ?_
  refine ac_next ?_
  refine aw_grp1 ?_
  by_cases c14 : p12 < (l0_3.length : Int)
  ·rw [if_pos c14] at H
   refine aw_ifT ?_ (decide_eq_true c14)
   refine aw_skip ?_
   refine ac_next ?_
   refine aw_grp1 ?_
   refine aw_block ?_
   refine aw_grp1 ?_
   refine wk_start ?_
   refine kv g0 (mv) ?_
   obtain ⟨c15, H⟩ := of_if H
   refine kv g0 (ixS 60 (e60 (rd_T60 l0_3 p12)) c15 (getE (z := z60) c15 c14)) ?_
   refine kv g0 (ldRA 4 [.sl .o 1 (((rd_T60 l0_3 p12).f0).map (eI .i64)), .sl .o 6 (((rd_T60 l0_3 p12).f1).map e92), .lit (.int .i64 ((rd_T60 l0_3 p12).f2)), .lit (.int .i64 ((rd_T60 l0_3 p12).f3))]) ?_
   refine kb g0 (alc 2 [.slice none 0 0, .slice none 0 0, .int .i64 0, .int .i64 0] [.lit (.slice none 0 0), .lit (.slice none 0 0), .lit (.int .i64 0), .lit (.int .i64 0)]) ?_
   refine kv g0 (asg) ?_
   refine ks g0 (stB 4 [.sl .o 1 (((rd_T60 l0_3 p12).f0).map (eI .i64)), .sl .o 6 (((rd_T60 l0_3 p12).f1).map e92), .lit (.int .i64 ((rd_T60 l0_3 p12).f2)), .lit (.int .i64 ((rd_T60 l0_3 p12).f3))]) ?_
   refine wk_end ?_
   refine ac_next ?_
   refine aw_grp1 ?_
   refine wk_start ?_
   refine kv g0 (faB 3 3) ?_
   refine kv g0 (ldB) ?_
   refine kv g0 (mv) ?_
   obtain ⟨c16, H⟩ := of_if H
   refine kv g0 (slH 60 c15 c16) ?_
   refine kv g0 (mkf [.box 2 0]) ?_
   obtain ⟨t17, A18, H⟩ := of_bind H
   refine kcS1 24 (.lit (.bool t17.1)) [(2, .box 60 [.sl .o 1 (t17.2.1.map (eI .i64)), .sl .o 6 (t17.2.2.1.map e92), .lit (.int .i64 t17.2.2.2.1), .lit (.int .i64 t17.2.2.2.2)])] g0 (cal (impl_Rule_40_w41.ok A18) [2] 9999 .o (hf := Try.func40)) rfl rfl ?_
   refine wk_end ?_
   refine ac_next ?_
   by_cases c19 : t17.1 = true
   ·rw [if_pos c19] at H
    refine aw_ifT ?_ c19
    refine wk_start ?_
    refine kv g0 (mv) ?_
    refine kv g0 (mv) ?_
    refine kb g0 (bsl 3 3 1 [.int .i64 0] (([p12] : List Int).map (eI .i64))) ?_
    obtain ⟨c20, H⟩ := of_if H
    refine kc g0 (apR 4 3 1 8 [.int .i64 0] ((q11 ++ ([p12] : List Int)).map (eI .i64)) (.row rfl) (apb c20 rfl) appE) ?_
    refine kv g0 (asg) ?_
    refine wk_end ?_
    refine ac_blkN ?_
    refine ac_next ?_
    refine wk_start ?_
    refine kv g0 (add6) ?_
    refine kv g0 (mv) ?_
    refine wk_end ?_
    refine ac_k ?_
    exact acw hE [(0, 0), (1, 4)] 9999 (hK22 k13 (q11 ++ ([p12] : List Int)) (wrap64 (p12 + 1)) (Nat.le_refl _) ⟨by omega, H⟩)
   rw [if_neg c19] at H
   refine aw_ifF ?_ (bF c19)
   refine aw_skip ?_
   refine ac_blkN ?_
   refine ac_next ?_
   refine wk_start ?_
   refine kv g0 (add6) ?_
   refine kv g0 (mv) ?_
   refine wk_end ?_
   refine ac_k ?_
   exact acw hE [(0, 0), (1, 1)] 9999 (hK22 k13 q11 (wrap64 (p12 + 1)) (Nat.le_refl _) ⟨by omega, H⟩)
  rw [if_neg c14] at H
  refine aw_ifF ?_ (decide_eq_false c14)
  refine aw_exit ?_
  refine ac_then ?_
  refine ac_then ?_
  refine ac_hit rfl ?_
  refine ac_next ?_
  refine aw_grp1 ?_
  refine wk_start ?_
  refine kv g0 (mv) ?_
  refine kv g0 (asg) ?_
  refine wk_end ?_
  refine ac_next ?_
  refine aw_ret ?_
  obtain rfl := Option.some.inj H
  exact acr hE [.tmp 2] (.tmp .nil) (.one _) [(0, 1)] 9999
 rw [if_neg c3] at H
 refine aw_ifT ?_ (nT (bF c3))
 refine aw_grp1 ?_
 refine wk_start ?_
 refine kv g0 (mv) ?_
 refine kv g0 (asg) ?_
 refine wk_end ?_
 refine ac_next ?_
 refine aw_ret ?_
 refine ac_thenR ?_
 obtain rfl := Option.some.inj H
 exact acr hE [.tmp 2] (.tmp .nil) (.one _) [(0, 1)] 9999
/-! impl_Unshadowed -/
def impl_Unshadowed.l0 : Nat → (Int × Int × Int × (List S60)) → ((List Int)) → (List S60) → Int → Option (Int × Int × Int × (List S60))
 | 0, _, _, _, _ => none
 | k13 + 1, t1, t3, q11, p12 => if p12 < (t1.2.2.2.length : Int) then if 0 ≤ p12 then (slices_Contains_int_int.f k13 t3 p12).bind fun t16 => if t16 = true then impl_Unshadowed.l0 k13 t1 t3 q11 (wrap64 (p12 + 1)) else (if q11.length + 1 < 2199023255552 then impl_Unshadowed.l0 k13 t1 t3 (q11 ++ [(⟨(rd_T60 t1.2.2.2 p12).f0, (rd_T60 t1.2.2.2 p12).f1, (rd_T60 t1.2.2.2 p12).f2, (rd_T60 t1.2.2.2 p12).f3⟩ : S60)]) (wrap64 (p12 + 1)) else none) else none else some (t1.1, t1.2.1, t1.2.2.1, q11)
def impl_Unshadowed.f (k : Nat) (a0_0 : Int) (a0_1 : Int) (a0_2 : Int) (l0_3 : List S60) : Option (Int × Int × Int × (List S60)) := (impl_copyPolicy.f k a0_0 a0_1 a0_2 l0_3).bind fun t1 => (impl_Shadowed.f k a0_0 a0_1 a0_2 l0_3).bind fun t3 => impl_Unshadowed.l0 k t1 t3 ([] : List S60) 0
theorem impl_Unshadowed.ok {k : Nat} {a0_0 : Int} {a0_1 : Int} {a0_2 : Int} {l0_3 : List S60} {r : Int × Int × Int × (List S60)} (H : impl_Unshadowed.f k a0_0 a0_1 a0_2 l0_3 = some r) : ACalls Try.prog 21 [] [.agg [.lit (.int .i64 a0_0), .lit (.int .i64 a0_1), .lit (.int .i64 a0_2), .sl .o 4 (l0_3.map e60)]] [(0, .drow false ds60 60 4 (r.2.2.2.map e60))] (.agg [.lit (.int .i64 r.1), .lit (.int .i64 r.2.1), .lit (.int .i64 r.2.2.1), .row 0]) := by
 refine acalls (fn := Try.f21) (nt := 33) Try.func21 rfl rfl (Nat.le_of_ble_eq_true rfl) fun E hE => ?_
 rw [impl_Unshadowed.f] at H
 refine aw_grp1 ?_
 refine wk_start ?_
 refine kb g0 (bxA 0) ?_
 refine kb g0 (alc 1 [.int .i64 0, .int .i64 0, .int .i64 0, .slice none 0 0] [.lit (.int .i64 0), .lit (.int .i64 0), .lit (.int .i64 0), .lit (.slice none 0 0)]) ?_
 refine wk_end ?_
 refine ac_next ?_
 refine aw_grp1 ?_
 refine wk_start ?_
 refine kv g0 (ldBA 4 [.lit (.int .i64 a0_0), .lit (.int .i64 a0_1), .lit (.int .i64 a0_2), .sl .o 4 (l0_3.map e60)]) ?_
 obtain ⟨t1, A2, H⟩ := of_bind H
 refine kcS1 9 (.agg [.lit (.int .i64 t1.1), .lit (.int .i64 t1.2.1), .lit (.int .i64 t1.2.2.1), .row 2]) [(2, .drow false ds60 60 4 (t1.2.2.2.map e60))] g0 (cal (impl_copyPolicy.ok A2) [2] 9999 .n (hf := Try.func47)) rfl rfl ?_
 refine kb g0 (alc 3 [.int .i64 0, .int .i64 0, .int .i64 0, .slice none 0 0] [.lit (.int .i64 0), .lit (.int .i64 0), .lit (.int .i64 0), .lit (.slice none 0 0)]) ?_
 refine ks g0 (stB 4 [.lit (.int .i64 t1.1), .lit (.int .i64 t1.2.1), .lit (.int .i64 t1.2.2.1), .row 2]) ?_
 refine wk_end ?_
 refine ac_next ?_
 refine aw_grp1 ?_
 refine wk_start ?_
 refine kv g0 (ldBA 4 [.lit (.int .i64 a0_0), .lit (.int .i64 a0_1), .lit (.int .i64 a0_2), .sl .o 4 (l0_3.map e60)]) ?_
 obtain ⟨t3, A4, H⟩ := of_bind H
 refine kcS1 11 (.row 4) [(4, .row 3 1 (t3.map (eI .i64)))] g0 (cal (impl_Shadowed.ok A4) [4] 9999 .n (hf := Try.func11)) rfl rfl ?_
 refine kv g0 (asg) ?_
 refine wk_end ?_
 refine ac_next ?_
 refine aw_grp1 ?_
 refine wk_start ?_
 refine kb g0 (bsl 5 60 4 [.slice none 0 0, .slice none 0 0, .int .i64 0, .int .i64 0] (([] : List S60).map e60)) ?_
 refine kv g0 (asg) ?_
 refine wk_end ?_
 refine ac_next ?_
 refine aw_grp1 ?_
 refine aw_grp1 ?_
 refine wk_start ?_
 refine kv g0 (faB 3 3) ?_
 refine kv g0 (ldB) ?_
 refine kv g0 (lnD lenE) ?_
 refine kv g0 (mv) ?_
 refine wk_end ?_
 refine ac_next ?_
 refine aw_block ?_
 refine ac_g1 (deadW 2 (e60) t1.2.2.2 (0) (0) (outM) cl60) ?_
 refine ac_g1 (liftD 5 ds60) ?_
 refine aw_loop2 (fun (k_ : Nat) (q11 : List S60) (p12 : Int) => k_ ≤ k ∧ impl_Unshadowed.l0 k_ t1 t3 q11 p12 = some r) (fun (q11 : List S60) (p12 : Int) => ⟨[(2, .box 1 0), (3, .box 3 0), (4, .row 4), (5, .row 5), (14, .row 2), (15, .lit (.int .i64 (t1.2.2.2.length : Int))), (16, .lit (.int .i64 p12))], [(1, .box 30 [.lit (.int .i64 0), .lit (.int .i64 0), .lit (.int .i64 0), .lit (.slice none 0 0)]), (2, .drow false ds60 60 4 (deadL (e60) 4 t1.2.2.2 (0) (p12.toNat))), (3, .box 30 [.lit (.int .i64 t1.1), .lit (.int .i64 t1.2.1), .lit (.int .i64 t1.2.2.1), .row 2]), (4, .row 3 1 (t3.map (eI .i64))), (5, .drow false ds60 60 4 (q11.map e60))]⟩) k ([] : List S60) 0 ⟨Nat.le_refl _, H⟩ (fun K_ h_ => acw hE [(1, 1), (2, 2), (3, 3), (4, 4), (5, 5)] 9999 h_) (fun _ _ => by intro h_; have h_ := h_.2; rw [impl_Unshadowed.l0.eq_1] at h_; cases h_) ?_
 intro k13 q11 p12 hq_ K20 hK21
 have hk13 := hq_.1
 have H := hq_.2
 clear hq_
 rw [impl_Unshadowed.l0.eq_2] at H
 refine aw_grp1 ?_
 refine wk_start ?_
 refine kv g0 (lss) ?_
 refine wk_end ?_
 refine ac_next ?_
 refine aw_grp1 ?_
 by_cases c14 : p12 < (t1.2.2.2.length : Int)
 ·rw [if_pos c14] at H
  refine aw_ifT ?_ (decide_eq_true c14)
  refine aw_skip ?_
  refine ac_next ?_
  refine aw_grp1 ?_
  refine aw_block ?_
  refine aw_grp1 ?_
  refine wk_start ?_
  refine kv g0 (mv) ?_
  obtain ⟨c15, H⟩ := of_if H
  refine kv g0 (ixD 60 c15 (ltF c14)) ?_
  refine kcS4 20 (.agg [.row 6, .row 7, .lit (.int .i64 ((rd_T60 t1.2.2.2 p12).f2)), .lit (.int .i64 ((rd_T60 t1.2.2.2 p12).f3))]) [(2, .drow true ds60 60 4 ((deadL (e60) 4 t1.2.2.2 (0) (p12.toNat)).set p12.toNat (.agg [.row 6, .row 7, .lit (.int .i64 ((rd_T60 t1.2.2.2 p12).f2)), .lit (.int .i64 ((rd_T60 t1.2.2.2 p12).f3))]))), (7, .row 92 6 (((rd_T60 t1.2.2.2 p12).f1).map e92)), (2, .drow true ds60 60 4 ((deadL (e60) 4 t1.2.2.2 (0) (p12.toNat)).set p12.toNat (.agg [.row 6, .sl .n 6 (((rd_T60 t1.2.2.2 p12).f1).map e92), .lit (.int .i64 ((rd_T60 t1.2.2.2 p12).f2)), .lit (.int .i64 ((rd_T60 t1.2.2.2 p12).f3))]))), (6, .row 3 1 (((rd_T60 t1.2.2.2 p12).f0).map (eI .i64)))] g0 (okv_gh (tk 2 6 0 (.agg [.row 6, .sl .n 6 (((rd_T60 t1.2.2.2 p12).f1).map e92), .lit (.int .i64 ((rd_T60 t1.2.2.2 p12).f2)), .lit (.int .i64 ((rd_T60 t1.2.2.2 p12).f3))]) (deadG (f := e60) (sz := 4) (z := z60) c15 c14) (rfl) rfl) (okv_gh (tk 2 7 1 (.agg [.row 6, .row 7, .lit (.int .i64 ((rd_T60 t1.2.2.2 p12).f2)), .lit (.int .i64 ((rd_T60 t1.2.2.2 p12).f3))]) (setXF (f := e60) (X := .agg [.row 6, .sl .n 6 (((rd_T60 t1.2.2.2 p12).f1).map e92), .lit (.int .i64 ((rd_T60 t1.2.2.2 p12).f2)), .lit (.int .i64 ((rd_T60 t1.2.2.2 p12).f3))]) c15 c14) (setXX) rfl) (ldDA 4 [.row 6, .row 7, .lit (.int .i64 ((rd_T60 t1.2.2.2 p12).f2)), .lit (.int .i64 ((rd_T60 t1.2.2.2 p12).f3))] (setXF (f := e60) (X := .agg [.row 6, .row 7, .lit (.int .i64 ((rd_T60 t1.2.2.2 p12).f2)), .lit (.int .i64 ((rd_T60 t1.2.2.2 p12).f3))]) c15 c14) rfl))).owp rfl rfl ?_
  refine kb g0 (alc 8 [.slice none 0 0, .slice none 0 0, .int .i64 0, .int .i64 0] [.lit (.slice none 0 0), .lit (.slice none 0 0), .lit (.int .i64 0), .lit (.int .i64 0)]) ?_
  refine kv g0 (asg) ?_
  refine ks g0 (stB 4 [.row 6, .row 7, .lit (.int .i64 ((rd_T60 t1.2.2.2 p12).f2)), .lit (.int .i64 ((rd_T60 t1.2.2.2 p12).f3))]) ?_
  refine wk_end ?_
  refine ac_next ?_
  refine aw_grp1 ?_
  refine wk_start ?_
  refine kv g0 (mv) ?_
  refine kv g0 (mv) ?_
  obtain ⟨t16, A17, H⟩ := of_bind H
  refine kcS0 23 (.lit (.bool t16)) [] g0 (cal (slices_Contains_int_int.ok A17) [] 9999 .n (hf := Try.func50)) rfl rfl ?_
  refine kv g0 (not_) ?_
  refine wk_end ?_
  refine ac_next ?_
  by_cases c18 : t16 = true
  ·rw [if_pos c18] at H
   refine aw_ifF ?_ (nF c18)
   refine aw_skip ?_
   refine ac_blkN ?_
   refine ac_next ?_
   refine wk_start ?_
   refine kv g0 (add6) ?_
   refine kv g0 (mv) ?_
   refine wk_end ?_
   refine ac_g1 (deadW 2 (e60) t1.2.2.2 (0) ((wrap64 (p12 + 1)).toNat) (outDS (f := e60) (x := t1.2.2.2) (sz := 4) (lo := 0) (hi := p12.toNat) (lo' := 0) (hi' := (wrap64 (p12 + 1)).toNat) (i := p12.toNat) (X := .agg [.row 6, .row 7, .lit (.int .i64 ((rd_T60 t1.2.2.2 p12).f2)), .lit (.int .i64 ((rd_T60 t1.2.2.2 p12).f3))]) (fun hm => (by have h0_ := toN1 (i := p12) (n := t1.2.2.2.length) (by omega) (by omega) (by simpa using hm); omega))) cl60) ?_
   refine ac_k ?_
   exact acw hE [(1, 1), (2, 2), (3, 3), (4, 4), (5, 5)] 9999 (hK21 k13 q11 (wrap64 (p12 + 1)) (Nat.le_refl _) ⟨by omega, H⟩)
  rw [if_neg c18] at H
  refine aw_ifT ?_ (nT (bF c18))
  refine wk_start ?_
  refine kv g0 (mv) ?_
  refine kv g0 (ldBA 4 [.row 6, .row 7, .lit (.int .i64 ((rd_T60 t1.2.2.2 p12).f2)), .lit (.int .i64 ((rd_T60 t1.2.2.2 p12).f3))]) ?_
  refine kb g0 (bslD 9 60 4 ds60 [.slice none 0 0, .slice none 0 0, .int .i64 0, .int .i64 0] [.agg [.row 6, .row 7, .lit (.int .i64 ((rd_T60 t1.2.2.2 p12).f2)), .lit (.int .i64 ((rd_T60 t1.2.2.2 p12).f3))]]) ?_
  obtain ⟨c19, H⟩ := of_if H
  refine kcS3 28 (.row 10) [(5, .gone), (9, .gone), (10, .drow true ds60 60 4 (q11.map e60 ++ [.agg [.row 6, .row 7, .lit (.int .i64 ((rd_T60 t1.2.2.2 p12).f2)), .lit (.int .i64 ((rd_T60 t1.2.2.2 p12).f3))]]))] g0 (apD 10 60 4 64 [.slice none 0 0, .slice none 0 0, .int .i64 0, .int .i64 0] (q11.map e60 ++ [.agg [.row 6, .row 7, .lit (.int .i64 ((rd_T60 t1.2.2.2 p12).f2)), .lit (.int .i64 ((rd_T60 t1.2.2.2 p12).f3))]]) (apbD (m := q11.length) (n := 1) (List.length_map ..) rfl c19 rfl) rfl).owp rfl rfl ?_
  refine kv g0 (asg) ?_
  refine wk_end ?_
  refine ac_blkN ?_
  refine ac_next ?_
  refine wk_start ?_
  refine kv g0 (add6) ?_
  refine kv g0 (mv) ?_
  refine wk_end ?_
  refine ac_g1 (deadW 2 (e60) t1.2.2.2 (0) ((wrap64 (p12 + 1)).toNat) (outDS (f := e60) (x := t1.2.2.2) (sz := 4) (lo := 0) (hi := p12.toNat) (lo' := 0) (hi' := (wrap64 (p12 + 1)).toNat) (i := p12.toNat) (X := .agg [.row 6, .row 7, .lit (.int .i64 ((rd_T60 t1.2.2.2 p12).f2)), .lit (.int .i64 ((rd_T60 t1.2.2.2 p12).f3))]) (fun hm => (by have h0_ := toN1 (i := p12) (n := t1.2.2.2.length) (by omega) (by omega) (by simpa using hm); omega))) cl60) ?_
  refine ac_g2 (pk 10 6 0 (.agg [.sl .n 1 (((rd_T60 t1.2.2.2 p12).f0).map (eI .i64)), .row 7, .lit (.int .i64 ((rd_T60 t1.2.2.2 p12).f2)), .lit (.int .i64 ((rd_T60 t1.2.2.2 p12).f3))]) (appX (f := e60) (X := .agg [.row 6, .row 7, .lit (.int .i64 ((rd_T60 t1.2.2.2 p12).f2)), .lit (.int .i64 ((rd_T60 t1.2.2.2 p12).f3))])) (appXX (f := e60)) rfl) ?_
  refine ac_g2 (pk 10 7 1 (.agg [.sl .n 1 (((rd_T60 t1.2.2.2 p12).f0).map (eI .i64)), .sl .n 6 (((rd_T60 t1.2.2.2 p12).f1).map e92), .lit (.int .i64 ((rd_T60 t1.2.2.2 p12).f2)), .lit (.int .i64 ((rd_T60 t1.2.2.2 p12).f3))]) (appX (f := e60) (X := .agg [.sl .n 1 (((rd_T60 t1.2.2.2 p12).f0).map (eI .i64)), .row 7, .lit (.int .i64 ((rd_T60 t1.2.2.2 p12).f2)), .lit (.int .i64 ((rd_T60 t1.2.2.2 p12).f3))])) (appXX (f := e60)) rfl) ?_
  refine ac_g1 (sealD 10 (appSeal (f := e60) (⟨(rd_T60 t1.2.2.2 p12).f0, (rd_T60 t1.2.2.2 p12).f1, (rd_T60 t1.2.2.2 p12).f2, (rd_T60 t1.2.2.2 p12).f3⟩ : S60)) cl60) ?_
  refine ac_k ?_
  exact acw hE [(1, 1), (2, 2), (3, 3), (4, 4), (5, 10)] 9999 (hK21 k13 (q11 ++ [(⟨(rd_T60 t1.2.2.2 p12).f0, (rd_T60 t1.2.2.2 p12).f1, (rd_T60 t1.2.2.2 p12).f2, (rd_T60 t1.2.2.2 p12).f3⟩ : S60)]) (wrap64 (p12 + 1)) (Nat.le_refl _) ⟨by omega, H⟩)
 rw [if_neg c14] at H
 refine aw_ifF ?_ (decide_eq_false c14)
 refine aw_exit ?_
 refine ac_then ?_
 refine ac_then ?_
 refine ac_hit rfl ?_
 refine ac_next ?_
 refine aw_grp1 ?_
 refine wk_start ?_
 refine kv g0 (mv) ?_
 refine kv g0 (faB 3 3) ?_
 refine ks g0 (stB 1 [.lit (.int .i64 t1.1), .lit (.int .i64 t1.2.1), .lit (.int .i64 t1.2.2.1), .row 5]) ?_
 refine wk_end ?_
 refine ac_next ?_
 refine aw_grp1 ?_
 refine wk_start ?_
 refine kv g0 (ldBA 4 [.lit (.int .i64 t1.1), .lit (.int .i64 t1.2.1), .lit (.int .i64 t1.2.2.1), .row 5]) ?_
 refine ks g0 (stB 4 [.lit (.int .i64 t1.1), .lit (.int .i64 t1.2.1), .lit (.int .i64 t1.2.2.1), .row 5]) ?_
 refine wk_end ?_
 refine ac_next ?_
 refine aw_ret ?_
 obtain rfl := Option.some.inj H
 exact acr hE [.cell 2 30] (rcA 4 .nil) (.one _) [(0, 5)] 9999
/-! impl_Lessened -/
def impl_Lessened.l0 : Nat → Int → Int → Int → (List S60) → (Int × Int × Int × (List S60)) → (List S60) → Int → Option (Int × Int × Int × (List S60))
 | 0, _, _, _, _, _, _, _ => none
 | k15 + 1, a0_0, a0_1, a0_2, l0_3, t1, q13, p14 => if p14 > 0 then (if 0 ≤ (wrap64 (p14 - 1)) then (if (wrap64 (p14 - 1)) < (q13.length : Int) then (if ((rd_T60 q13 (wrap64 (p14 - 1))).f2) = a0_1 then if ((rd_T60 q13 (wrap64 (p14 - 1))).f3) = a0_2 then if (wrap64 (p14 - 1)) ≤ (q13.length : Int) then impl_Lessened.l0 k15 a0_0 a0_1 a0_2 l0_3 t1 (q13.take (wrap64 (p14 - 1)).toNat) (wrap64 (p14 - 1)) else none else some (t1.1, t1.2.1, t1.2.2.1, q13) else some (t1.1, t1.2.1, t1.2.2.1, q13)) else none) else none) else some (t1.1, t1.2.1, t1.2.2.1, q13)
def impl_Lessened.f (k : Nat) (a0_0 : Int) (a0_1 : Int) (a0_2 : Int) (l0_3 : List S60) : Option (Int × Int × Int × (List S60)) := (impl_Unshadowed.f k a0_0 a0_1 a0_2 l0_3).bind fun t1 => (impl_PolicyOk.f k a0_0 a0_1 a0_2 l0_3).bind fun t3 => if t3 = true then impl_Lessened.l0 k a0_0 a0_1 a0_2 l0_3 t1 t1.2.2.2 (t1.2.2.2.length : Int) else some (t1.1, t1.2.1, t1.2.2.1, t1.2.2.2)
theorem impl_Lessened.ok {k : Nat} {a0_0 : Int} {a0_1 : Int} {a0_2 : Int} {l0_3 : List S60} {r : Int × Int × Int × (List S60)} (H : impl_Lessened.f k a0_0 a0_1 a0_2 l0_3 = some r) : ACalls Try.prog 23 [] [.agg [.lit (.int .i64 a0_0), .lit (.int .i64 a0_1), .lit (.int .i64 a0_2), .sl .o 4 (l0_3.map e60)]] [(0, .drow false ds60 60 4 (r.2.2.2.map e60))] (.agg [.lit (.int .i64 r.1), .lit (.int .i64 r.2.1), .lit (.int .i64 r.2.2.1), .row 0]) := by
 refine acalls (fn := Try.f23) (nt := 49) Try.func23 rfl rfl (Nat.le_of_ble_eq_true rfl) fun E hE => ?_
 rw [impl_Lessened.f] at H
 refine aw_grp1 ?_
 refine wk_start ?_
 refine kb g0 (bxA 0) ?_
 refine kb g0 (alc 1 [.int .i64 0, .int .i64 0, .int .i64 0, .slice none 0 0] [.lit (.int .i64 0), .lit (.int .i64 0), .lit (.int .i64 0), .lit (.slice none 0 0)]) ?_
 refine wk_end ?_
 refine ac_next ?_
 refine aw_grp1 ?_
 refine wk_start ?_
 refine kv g0 (ldBA 4 [.lit (.int .i64 a0_0), .lit (.int .i64 a0_1), .lit (.int .i64 a0_2), .sl .o 4 (l0_3.map e60)]) ?_
 obtain ⟨t1, A2, H⟩ := of_bind H
 refine kcS1 6 (.agg [.lit (.int .i64 t1.1), .lit (.int .i64 t1.2.1), .lit (.int .i64 t1.2.2.1), .row 2]) [(2, .drow false ds60 60 4 (t1.2.2.2.map e60))] g0 (cal (impl_Unshadowed.ok A2) [2] 9999 .n (hf := Try.func21)) rfl rfl ?_
 refine kb g0 (alc 3 [.int .i64 0, .int .i64 0, .int .i64 0, .slice none 0 0] [.lit (.int .i64 0), .lit (.int .i64 0), .lit (.int .i64 0), .lit (.slice none 0 0)]) ?_
 refine ks g0 (stB 4 [.lit (.int .i64 t1.1), .lit (.int .i64 t1.2.1), .lit (.int .i64 t1.2.2.1), .row 2]) ?_
 refine wk_end ?_
 refine ac_next ?_
 refine aw_grp1 ?_
 refine aw_grp1 ?_
 refine wk_start ?_
 refine kv g0 (ldBA 4 [.lit (.int .i64 a0_0), .lit (.int .i64 a0_1), .lit (.int .i64 a0_2), .sl .o 4 (l0_3.map e60)]) ?_
 obtain ⟨t3, A4, H⟩ := of_bind H
 refine kcS0 8 (.lit (.bool t3)) [] g0 (cal (impl_PolicyOk.ok A4) [] 9999 .n (hf := Try.func39)) rfl rfl ?_
 refine kv g0 (not_) ?_
 refine wk_end ?_
 refine ac_next ?_
 by_cases c5 : t3 = true
 ·rw [if_pos c5] at H
  refine aw_ifF ?_ (nF c5)
  refine aw_skip ?_
  refine ac_next ?_
  refine aw_grp1 ?_
  refine aw_grp1 ?_
  refine wk_start ?_
  refine kv g0 (faB 3 3) ?_
  refine kv g0 (ldB) ?_
  refine kv g0 (lnD lenE) ?_
  refine kv g0 (asg) ?_
  refine wk_end ?_
  refine ac_next ?_
  refine aw_block ?_
  refine aw_loop2 (fun (k_ : Nat) (q13 : List S60) (p14 : Int) => k_ ≤ k ∧ impl_Lessened.l0 k_ a0_0 a0_1 a0_2 l0_3 t1 q13 p14 = some r) (fun (q13 : List S60) (p14 : Int) => ⟨[(1, .box 0 0), (2, .box 1 0), (3, .box 3 0), (4, .lit (.int .i64 p14))], [(0, .box 30 [.lit (.int .i64 a0_0), .lit (.int .i64 a0_1), .lit (.int .i64 a0_2), .sl .o 4 (l0_3.map e60)]), (1, .box 30 [.lit (.int .i64 0), .lit (.int .i64 0), .lit (.int .i64 0), .lit (.slice none 0 0)]), (2, .drow false ds60 60 4 (q13.map e60)), (3, .box 30 [.lit (.int .i64 t1.1), .lit (.int .i64 t1.2.1), .lit (.int .i64 t1.2.2.1), .row 2])]⟩) k t1.2.2.2 (t1.2.2.2.length : Int) ⟨Nat.le_refl _, H⟩ (fun K_ h_ => acw hE [(0, 0), (1, 1), (2, 2), (3, 3)] 9999 h_) (fun _ _ => by intro h_; have h_ := h_.2; rw [impl_Lessened.l0.eq_1] at h_; cases h_) ?_
  intro k15 q13 p14 hq_ K22 hK23
  have hk15 := hq_.1
  have H := hq_.2
  clear hq_
  rw [impl_Lessened.l0.eq_2] at H
  refine aw_grp1 ?_
  refine aw_grp1 ?_
  refine wk_start ?_
  refine kv g0 (mv) ?_
  refine kv g0 (gtr) ?_
  refine kv g0 (mv) ?_
  by_cases c16 : p14 > 0
  ·rw [if_pos c16] at H
   refine kv (g1 (decide_eq_true c16)) (faB 3 3) ?_
   refine kv (g1 (decide_eq_true c16)) (ldB) ?_
   refine kv (g1 (decide_eq_true c16)) (mv) ?_
   refine kv (g1 (decide_eq_true c16)) (sub6) ?_
   obtain ⟨c17, H⟩ := of_if H
   obtain ⟨c18, H⟩ := of_if H
   refine kv (g1 (decide_eq_true c16)) (ixD 60 c17 (ltE c18)) ?_
   refine kv (g1 (decide_eq_true c16)) (faE 2 2) ?_
   refine kv (g1 (decide_eq_true c16)) (ldD (.lit (.int .i64 ((rd_T60 q13 (wrap64 (p14 - 1))).f2))) (getE (f := e60) (z := z60) c17 c18) rfl) ?_
   refine kv (g1 (decide_eq_true c16)) (faB 1 1) ?_
   refine kv (g1 (decide_eq_true c16)) (ldB) ?_
   refine kv (g1 (decide_eq_true c16)) (eql) ?_
   refine kv g0 (pkT (decide_eq_true c16)) ?_
   refine kv g0 (mv) ?_
   by_cases c19 : ((rd_T60 q13 (wrap64 (p14 - 1))).f2) = a0_1
   ·rw [if_pos c19] at H
    refine kv (g1 (eT c19)) (faB 3 3) ?_
    refine kv (g1 (eT c19)) (ldB) ?_
    refine kv (g1 (eT c19)) (mv) ?_
    refine kv (g1 (eT c19)) (sub6) ?_
    refine kv (g1 (eT c19)) (ixD 60 c17 (ltE c18)) ?_
    refine kv (g1 (eT c19)) (faE 3 3) ?_
    refine kv (g1 (eT c19)) (ldD (.lit (.int .i64 ((rd_T60 q13 (wrap64 (p14 - 1))).f3))) (getE (f := e60) (z := z60) c17 c18) rfl) ?_
    refine kv (g1 (eT c19)) (faB 2 2) ?_
    refine kv (g1 (eT c19)) (ldB) ?_
    refine kv (g1 (eT c19)) (eql) ?_
    refine kv g0 (pkT (eT c19)) ?_
    refine wk_end_draw hM (by kernel_rfl) ?_
    refine ac_next ?_
    by_cases c20 : ((rd_T60 q13 (wrap64 (p14 - 1))).f3) = a0_2
    ·rw [if_pos c20] at H
     refine aw_ifT ?_ (eT c20)
     refine aw_skip ?_
     refine ac_next ?_
     refine aw_grp1 ?_
     refine aw_block ?_
     refine wk_start ?_
     refine kv g0 (faB 3 3) ?_
     refine kv g0 (ldB) ?_
     refine kv g0 (mv) ?_
     refine kv g0 (sub6) ?_
     obtain ⟨c21, H⟩ := of_if H
     refine kv g0 (srHD 60 (List.length_map ..) c17 c21) ?_
     refine kv g0 (faB 3 3) ?_
     refine ks g0 (stB 1 [.lit (.int .i64 t1.1), .lit (.int .i64 t1.2.1), .lit (.int .i64 t1.2.2.1), .sub 2 4 0 ((wrap64 (p14 - 1)).toNat)]) ?_
     refine wk_end ?_
     refine ac_blkN ?_
     refine ac_next ?_
     refine wk_start ?_
     refine kv g0 (mv) ?_
     refine kv g0 (sub6) ?_
     refine kv g0 (asg) ?_
     refine wk_end ?_
     refine ac_preBD 3 3 4 ((q13.take (wrap64 (p14 - 1)).toNat).map e60) [.lit (.int .i64 t1.1), .lit (.int .i64 t1.2.1), .lit (.int .i64 t1.2.2.1), .row 4] ?_ (List.map_take ..).symm
     refine ac_k ?_
     exact acw hE [(0, 0), (1, 1), (2, 4), (3, 3)] 9999 (hK23 k15 (q13.take (wrap64 (p14 - 1)).toNat) (wrap64 (p14 - 1)) (Nat.le_refl _) ⟨by omega, H⟩)
    rw [if_neg c20] at H
    refine aw_ifF ?_ (eF c20)
    refine aw_exit ?_
    refine ac_then ?_
    refine ac_then ?_
    refine ac_hit rfl ?_
    refine ac_next ?_
    refine aw_grp1 ?_
    refine wk_start ?_
    refine kv g0 (ldBA 4 [.lit (.int .i64 t1.1), .lit (.int .i64 t1.2.1), .lit (.int .i64 t1.2.2.1), .row 2]) ?_
    refine ks g0 (stB 4 [.lit (.int .i64 t1.1), .lit (.int .i64 t1.2.1), .lit (.int .i64 t1.2.2.1), .row 2]) ?_
    refine wk_end ?_
    refine ac_next ?_
    refine aw_ret ?_
    obtain rfl := Option.some.inj H
    exact acr hE [.cell 2 30] (rcA 4 .nil) (.one _) [(0, 2)] 9999
   rw [if_neg c19] at H
   refine kx (hT (eF c19)) ?_
   refine kx (hT (eF c19)) ?_
   refine kx (hT (eF c19)) ?_
   refine kx (hT (eF c19)) ?_
   refine kx (hT (eF c19)) ?_
   refine kx (hT (eF c19)) ?_
   refine kx (hT (eF c19)) ?_
   refine kx (hT (eF c19)) ?_
   refine kx (hT (eF c19)) ?_
   refine kx (hT (eF c19)) ?_
   refine kv g0 (pkF (eF c19)) ?_
   refine wk_end_draw hM (by kernel_rfl) ?_
   refine ac_next ?_
   refine aw_ifF ?_ rfl
   refine aw_exit ?_
   refine ac_then ?_
   refine ac_then ?_
   refine ac_hit rfl ?_
   refine ac_next ?_
   refine aw_grp1 ?_
   refine wk_start ?_
   refine kv g0 (ldBA 4 [.lit (.int .i64 t1.1), .lit (.int .i64 t1.2.1), .lit (.int .i64 t1.2.2.1), .row 2]) ?_
   refine ks g0 (stB 4 [.lit (.int .i64 t1.1), .lit (.int .i64 t1.2.1), .lit (.int .i64 t1.2.2.1), .row 2]) ?_
   refine wk_end ?_
   refine ac_next ?_
   refine aw_ret ?_
   obtain rfl := Option.some.inj H
   exact acr hE [.cell 2 30] (rcA 4 .nil) (.one _) [(0, 2)] 9999
  rw [if_neg c16] at H
  refine kx (hT (decide_eq_false c16)) ?_
  refine kx (hT (decide_eq_false c16)) ?_
  refine kx (hT (decide_eq_false c16)) ?_
  refine kx (hT (decide_eq_false c16)) ?_
  refine kx (hT (decide_eq_false c16)) ?_
  refine kx (hT (decide_eq_false c16)) ?_
  refine kx (hT (decide_eq_false c16)) ?_
  refine kx (hT (decide_eq_false c16)) ?_
  refine kx (hT (decide_eq_false c16)) ?_
  refine kx (hT (decide_eq_false c16)) ?_
  refine kv g0 (pkF (decide_eq_false c16)) ?_
  refine kv g0 (mv) ?_
  refine kx (hT rfl) ?_
  refine kx (hT rfl) ?_
  refine kx (hT rfl) ?_
  refine kx (hT rfl) ?_
  refine kx (hT rfl) ?_
  refine kx (hT rfl) ?_
  refine kx (hT rfl) ?_
  refine kx (hT rfl) ?_
  refine kx (hT rfl) ?_
  refine kx (hT rfl) ?_
  refine kv g0 (pkF rfl) ?_
  refine wk_end_draw hM (by kernel_rfl) ?_
  refine ac_next ?_
  refine aw_ifF ?_ rfl
  refine aw_exit ?_
  refine ac_then ?_
  refine ac_then ?_
  refine ac_hit rfl ?_
  refine ac_next ?_
  refine aw_grp1 ?_
  refine wk_start ?_
  refine kv g0 (ldBA 4 [.lit (.int .i64 t1.1), .lit (.int .i64 t1.2.1), .lit (.int .i64 t1.2.2.1), .row 2]) ?_
  refine ks g0 (stB 4 [.lit (.int .i64 t1.1), .lit (.int .i64 t1.2.1), .lit (.int .i64 t1.2.2.1), .row 2]) ?_
  refine wk_end ?_
  refine ac_next ?_
  refine aw_ret ?_
  obtain rfl := Option.some.inj H
  exact acr hE [.cell 2 30] (rcA 4 .nil) (.one _) [(0, 2)] 9999
 rw [if_neg c5] at H
 refine aw_ifT ?_ (nT (bF c5))
 refine aw_grp1 ?_
 refine wk_start ?_
 refine kv g0 (ldBA 4 [.lit (.int .i64 t1.1), .lit (.int .i64 t1.2.1), .lit (.int .i64 t1.2.2.1), .row 2]) ?_
 refine ks g0 (stB 4 [.lit (.int .i64 t1.1), .lit (.int .i64 t1.2.1), .lit (.int .i64 t1.2.2.1), .row 2]) ?_
 refine wk_end ?_
 refine ac_next ?_
 refine aw_ret ?_
 refine ac_thenR ?_
 obtain rfl := Option.some.inj H
 exact acr hE [.cell 2 30] (rcA 4 .nil) (.one _) [(0, 2)] 9999
/-! laws_eqIntS -/
def laws_eqIntS.l0 : Nat → (List Int) → (List Int) → Int → Option (Bool)
 | 0, _, _, _ => none
 | k7 + 1, l0, l1, p6 => if p6 < (l0.length : Int) then if 0 ≤ p6 then (if p6 < (l1.length : Int) then if (rd l0 p6) = (rd l1 p6) then laws_eqIntS.l0 k7 l0 l1 (wrap64 (p6 + 1)) else some false else none) else none else some true
def laws_eqIntS.f (k : Nat) (l0 : List Int) (l1 : List Int) : Option (Bool) := if (l0.length : Int) = (l1.length : Int) then laws_eqIntS.l0 k l0 l1 0 else some false
theorem laws_eqIntS.ok {k : Nat} {l0 : List Int} {l1 : List Int} {r : Bool} (H : laws_eqIntS.f k l0 l1 = some r) : ACalls Try.prog 12 [] [.sl .o 1 (l0.map (eI .i64)), .sl .o 1 (l1.map (eI .i64))] [] (.lit (.bool r)) := by
 refine acalls (fn := Try.f12) (nt := 26) Try.func12 rfl rfl (Nat.le_of_ble_eq_true rfl) fun E hE => ?_
 rw [laws_eqIntS.f] at H
 refine aw_grp1 ?_
 refine wk_start ?_
 refine kv g0 (asg) ?_
 refine wk_end ?_
 refine ac_next ?_
 refine aw_grp1 ?_
 refine aw_grp1 ?_
 refine wk_start ?_
 refine kv g0 (mv) ?_
 refine kv g0 (lnS lenE) ?_
 refine kv g0 (mv) ?_
 refine kv g0 (lnS lenE) ?_
 refine kv g0 (neq) ?_
 refine wk_end ?_
 refine ac_next ?_
 by_cases c1 : (l0.length : Int) = (l1.length : Int)
 ·rw [if_pos c1] at H
  refine aw_ifF ?_ (eM c1)
  refine aw_skip ?_
  refine ac_next ?_
  refine aw_grp1 ?_
  refine aw_grp1 ?_
  refine wk_start ?_
  refine kv g0 (asg) ?_
  refine wk_end ?_
  refine ac_next ?_
  refine aw_block ?_
  refine aw_loop1 (fun (k_ : Nat) (p6 : Int) => k_ ≤ k ∧ laws_eqIntS.l0 k_ l0 l1 p6 = some r) (fun (p6 : Int) => ⟨[(0, .sl .o 1 (l0.map (eI .i64))), (1, .sl .o 1 (l1.map (eI .i64))), (5, .lit (.int .i64 p6))], []⟩) k 0 ⟨Nat.le_refl _, H⟩ (fun K_ h_ => acw hE [] 9999 h_) (fun _ => by intro h_; have h_ := h_.2; rw [laws_eqIntS.l0.eq_1] at h_; cases h_) ?_
  intro k7 p6 hq_ K12 hK13
  have hk7 := hq_.1
  have H := hq_.2
  clear hq_
  rw [laws_eqIntS.l0.eq_2] at H
  refine aw_grp1 ?_
  refine aw_grp1 ?_
  refine wk_start ?_
  refine kv g0 (mv) ?_
  refine kv g0 (mv) ?_
  refine kv g0 (lnS lenE) ?_
  refine kv g0 (lss) ?_
  refine wk_end ?_
  refine ac_next ?_
  by_cases c8 : p6 < (l0.length : Int)
  ·rw [if_pos c8] at H
   refine aw_ifT ?_ (decide_eq_true c8)
   refine aw_skip ?_
   refine ac_next ?_
   refine aw_grp1 ?_
   refine aw_block ?_
   refine aw_grp1 ?_
   refine wk_start ?_
   refine kv g0 (mv) ?_
   refine kv g0 (mv) ?_
   obtain ⟨c9, H⟩ := of_if H
   refine kv g0 (ixS 3 (eI .i64 (rd l0 p6)) c9 (getE (z := (0 : Int)) c9 c8)) ?_
   refine kv g0 (ldR (.lit (.int .i64 (rd l0 p6)))) ?_
   refine kv g0 (mv) ?_
   refine kv g0 (mv) ?_
   obtain ⟨c10, H⟩ := of_if H
   refine kv g0 (ixS 3 (eI .i64 (rd l1 p6)) c9 (getE (z := (0 : Int)) c9 c10)) ?_
   refine kv g0 (ldR (.lit (.int .i64 (rd l1 p6)))) ?_
   refine kv g0 (neq) ?_
   refine wk_end_draw hM (by kernel_rfl) ?_
   refine ac_next ?_
   by_cases c11 : (rd l0 p6) = (rd l1 p6)
   ·rw [if_pos c11] at H
    refine aw_ifF ?_ (eM c11)
    refine aw_skip ?_
    refine ac_blkN ?_
    refine ac_next ?_
    refine wk_start ?_
    refine kv g0 (mv) ?_
    refine kv g0 (add6) ?_
    refine kv g0 (asg) ?_
    refine wk_end ?_
    refine ac_k ?_
    exact acw hE [] 9999 (hK13 k7 (wrap64 (p6 + 1)) (Nat.le_refl _) ⟨by omega, H⟩)
   rw [if_neg c11] at H
   refine aw_ifT ?_ (eN c11)
   refine aw_grp1 ?_
   refine wk_start ?_
   refine kv g0 (asg) ?_
   refine wk_end ?_
   refine ac_next ?_
   refine aw_ret ?_
   refine ac_blkR ?_
   refine ac_thenR ?_
   refine ac_thenR ?_
   refine ac_blkR ?_
   refine ac_thenR ?_
   obtain rfl := Option.some.inj H
   exact acr hE [.tmp 4] (.tmp .nil) (.one _) [] 9999
  rw [if_neg c8] at H
  refine aw_ifF ?_ (decide_eq_false c8)
  refine aw_exit ?_
  refine ac_then ?_
  refine ac_then ?_
  refine ac_hit rfl ?_
  refine ac_next ?_
  refine aw_grp1 ?_
  refine wk_start ?_
  refine kv g0 (asg) ?_
  refine wk_end ?_
  refine ac_next ?_
  refine aw_ret ?_
  obtain rfl := Option.some.inj H
  exact acr hE [.tmp 4] (.tmp .nil) (.one _) [] 9999
 rw [if_neg c1] at H
 refine aw_ifT ?_ (eN c1)
 refine aw_grp1 ?_
 refine wk_start ?_
 refine kv g0 (asg) ?_
 refine wk_end ?_
 refine ac_next ?_
 refine aw_ret ?_
 refine ac_thenR ?_
 obtain rfl := Option.some.inj H
 exact acr hE [.tmp 4] (.tmp .nil) (.one _) [] 9999
/-! laws_eqWide -/
def laws_eqWide.f (a0_0 : Int) (a0_1 : Int) (a1_0 : Int) (a1_1 : Int) : Option (Bool) := if a0_0 = a1_0 then if a0_1 = a1_1 then some true else some false else some false
theorem laws_eqWide.ok {a0_0 : Int} {a0_1 : Int} {a1_0 : Int} {a1_1 : Int} {r : Bool} (H : laws_eqWide.f a0_0 a0_1 a1_0 a1_1 = some r) : ACalls Try.prog 115 [] [.agg [.lit (.int .i64 a0_0), .lit (.int .i64 a0_1)], .agg [.lit (.int .i64 a1_0), .lit (.int .i64 a1_1)]] [] (.lit (.bool r)) := by
 refine acalls (fn := Try.f115) (nt := 15) Try.func115 rfl rfl (Nat.le_of_ble_eq_true rfl) fun E hE => ?_
 rw [laws_eqWide.f] at H
 refine aw_grp1 ?_
 refine wk_start ?_
 refine kb g0 (bxA 0) ?_
 refine kb g0 (bxA 1) ?_
 refine kv g0 (asg) ?_
 refine wk_end ?_
 refine ac_next ?_
 refine aw_grp1 ?_
 refine aw_grp1 ?_
 refine wk_start ?_
 refine kv g0 (faB 0 0) ?_
 refine kv g0 (ldB) ?_
 refine kv g0 (faB 0 0) ?_
 refine kv g0 (ldB) ?_
 refine kv g0 (neq) ?_
 refine wk_end ?_
 refine ac_next ?_
 by_cases c1 : a0_0 = a1_0
 ·rw [if_pos c1] at H
  refine aw_ifF ?_ (eM c1)
  refine aw_skip ?_
  refine ac_next ?_
  refine aw_grp1 ?_
  refine aw_grp1 ?_
  refine wk_start ?_
  refine kv g0 (faB 1 1) ?_
  refine kv g0 (ldB) ?_
  refine kv g0 (faB 1 1) ?_
  refine kv g0 (ldB) ?_
  refine kv g0 (neq) ?_
  refine wk_end ?_
  refine ac_next ?_
  by_cases c2 : a0_1 = a1_1
  ·rw [if_pos c2] at H
   refine aw_ifF ?_ (eM c2)
   refine aw_skip ?_
   refine ac_next ?_
   refine aw_grp1 ?_
   refine wk_start ?_
   refine kv g0 (asg) ?_
   refine wk_end ?_
   refine ac_next ?_
   refine aw_ret ?_
   obtain rfl := Option.some.inj H
   exact acr hE [.tmp 4] (.tmp .nil) (.one _) [] 9999
  rw [if_neg c2] at H
  refine aw_ifT ?_ (eN c2)
  refine aw_grp1 ?_
  refine wk_start ?_
  refine kv g0 (asg) ?_
  refine wk_end ?_
  refine ac_next ?_
  refine aw_ret ?_
  refine ac_thenR ?_
  obtain rfl := Option.some.inj H
  exact acr hE [.tmp 4] (.tmp .nil) (.one _) [] 9999
 rw [if_neg c1] at H
 refine aw_ifT ?_ (eN c1)
 refine aw_grp1 ?_
 refine wk_start ?_
 refine kv g0 (asg) ?_
 refine wk_end ?_
 refine ac_next ?_
 refine aw_ret ?_
 refine ac_thenR ?_
 obtain rfl := Option.some.inj H
 exact acr hE [.tmp 4] (.tmp .nil) (.one _) [] 9999
/-! laws_eqCond -/
def laws_eqCond.f (a0_0 : Int) (a0_1 : Int) (a0_2 : Int) (a0_3 : Int) (a0_4 : Int) (a0_5 : Int) (a1_0 : Int) (a1_1 : Int) (a1_2 : Int) (a1_3 : Int) (a1_4 : Int) (a1_5 : Int) : Option (Bool) := if a0_0 = a1_0 then (laws_eqWide.f a0_1 a0_2 a1_1 a1_2).bind fun t2 => if t2 = true then if a0_3 = a1_3 then (laws_eqWide.f a0_4 a0_5 a1_4 a1_5).bind fun t6 => if t6 = true then some true else some false else some false else some false else some false
theorem laws_eqCond.ok {a0_0 : Int} {a0_1 : Int} {a0_2 : Int} {a0_3 : Int} {a0_4 : Int} {a0_5 : Int} {a1_0 : Int} {a1_1 : Int} {a1_2 : Int} {a1_3 : Int} {a1_4 : Int} {a1_5 : Int} {r : Bool} (H : laws_eqCond.f a0_0 a0_1 a0_2 a0_3 a0_4 a0_5 a1_0 a1_1 a1_2 a1_3 a1_4 a1_5 = some r) : ACalls Try.prog 112 [] [.agg [.lit (.int .i64 a0_0), .lit (.int .i64 a0_1), .lit (.int .i64 a0_2), .lit (.int .i64 a0_3), .lit (.int .i64 a0_4), .lit (.int .i64 a0_5)], .agg [.lit (.int .i64 a1_0), .lit (.int .i64 a1_1), .lit (.int .i64 a1_2), .lit (.int .i64 a1_3), .lit (.int .i64 a1_4), .lit (.int .i64 a1_5)]] [] (.lit (.bool r)) := by
 refine acalls (fn := Try.f112) (nt := 27) Try.func112 rfl rfl (Nat.le_of_ble_eq_true rfl) fun E hE => ?_
 rw [laws_eqCond.f] at H
 refine aw_grp1 ?_
 refine wk_start ?_
 refine kb g0 (bxA 0) ?_
 refine kb g0 (bxA 1) ?_
 refine kv g0 (asg) ?_
 refine wk_end ?_
 refine ac_next ?_
 refine aw_grp1 ?_
 refine aw_grp1 ?_
 refine wk_start ?_
 refine kv g0 (faB 0 0) ?_
 refine kv g0 (ldB) ?_
 refine kv g0 (faB 0 0) ?_
 refine kv g0 (ldB) ?_
 refine kv g0 (neq) ?_
 refine wk_end ?_
 refine ac_next ?_
 by_cases c1 : a0_0 = a1_0
 ·rw [if_pos c1] at H
  refine aw_ifF ?_ (eM c1)
  refine aw_skip ?_
  refine ac_next ?_
  refine aw_grp1 ?_
  refine aw_grp1 ?_
  refine wk_start ?_
  refine kv g0 (faB 1 1) ?_
  refine kv g0 (ldBA 2 [.lit (.int .i64 a0_1), .lit (.int .i64 a0_2)]) ?_
  refine kv g0 (faB 1 1) ?_
  refine kv g0 (ldBA 2 [.lit (.int .i64 a1_1), .lit (.int .i64 a1_2)]) ?_
  obtain ⟨t2, A3, H⟩ := of_bind H
  refine kcS0 14 (.lit (.bool t2)) [] g0 (cal (laws_eqWide.ok A3) [] 9999 .n (hf := Try.func115)) rfl rfl ?_
  refine kv g0 (not_) ?_
  refine wk_end ?_
  refine ac_next ?_
  by_cases c4 : t2 = true
  ·rw [if_pos c4] at H
   refine aw_ifF ?_ (nF c4)
   refine aw_skip ?_
   refine ac_next ?_
   refine aw_grp1 ?_
   refine aw_grp1 ?_
   refine wk_start ?_
   refine kv g0 (faB 3 3) ?_
   refine kv g0 (ldB) ?_
   refine kv g0 (faB 3 3) ?_
   refine kv g0 (ldB) ?_
   refine kv g0 (neq) ?_
   refine wk_end ?_
   refine ac_next ?_
   by_cases c5 : a0_3 = a1_3
   ·rw [if_pos c5] at H
    refine aw_ifF ?_ (eM c5)
    refine aw_skip ?_
    refine ac_next ?_
    refine aw_grp1 ?_
    refine aw_grp1 ?_
    refine wk_start ?_
    refine kv g0 (faB 4 4) ?_
    refine kv g0 (ldBA 2 [.lit (.int .i64 a0_4), .lit (.int .i64 a0_5)]) ?_
    refine kv g0 (faB 4 4) ?_
    refine kv g0 (ldBA 2 [.lit (.int .i64 a1_4), .lit (.int .i64 a1_5)]) ?_
    obtain ⟨t6, A7, H⟩ := of_bind H
    refine kcS0 25 (.lit (.bool t6)) [] g0 (cal (laws_eqWide.ok A7) [] 9999 .n (hf := Try.func115)) rfl rfl ?_
    refine kv g0 (not_) ?_
    refine wk_end ?_
    refine ac_next ?_
    by_cases c8 : t6 = true
    ·rw [if_pos c8] at H
     refine aw_ifF ?_ (nF c8)
     refine aw_skip ?_
     refine ac_next ?_
     refine aw_grp1 ?_
     refine wk_start ?_
     refine kv g0 (asg) ?_
     refine wk_end ?_
     refine ac_next ?_
     refine aw_ret ?_
     obtain rfl := Option.some.inj H
     exact acr hE [.tmp 4] (.tmp .nil) (.one _) [] 9999
    rw [if_neg c8] at H
    refine aw_ifT ?_ (nT (bF c8))
    refine aw_grp1 ?_
    refine wk_start ?_
    refine kv g0 (asg) ?_
    refine wk_end ?_
    refine ac_next ?_
    refine aw_ret ?_
    refine ac_thenR ?_
    obtain rfl := Option.some.inj H
    exact acr hE [.tmp 4] (.tmp .nil) (.one _) [] 9999
   rw [if_neg c5] at H
   refine aw_ifT ?_ (eN c5)
   refine aw_grp1 ?_
   refine wk_start ?_
   refine kv g0 (asg) ?_
   refine wk_end ?_
   refine ac_next ?_
   refine aw_ret ?_
   refine ac_thenR ?_
   obtain rfl := Option.some.inj H
   exact acr hE [.tmp 4] (.tmp .nil) (.one _) [] 9999
  rw [if_neg c4] at H
  refine aw_ifT ?_ (nT (bF c4))
  refine aw_grp1 ?_
  refine wk_start ?_
  refine kv g0 (asg) ?_
  refine wk_end ?_
  refine ac_next ?_
  refine aw_ret ?_
  refine ac_thenR ?_
  obtain rfl := Option.some.inj H
  exact acr hE [.tmp 4] (.tmp .nil) (.one _) [] 9999
 rw [if_neg c1] at H
 refine aw_ifT ?_ (eN c1)
 refine aw_grp1 ?_
 refine wk_start ?_
 refine kv g0 (asg) ?_
 refine wk_end ?_
 refine ac_next ?_
 refine aw_ret ?_
 refine ac_thenR ?_
 obtain rfl := Option.some.inj H
 exact acr hE [.tmp 4] (.tmp .nil) (.one _) [] 9999
/-! laws_eqCondS -/
def laws_eqCondS.l0 : Nat → (List S92) → (List S92) → Int → Option (Bool)
 | 0, _, _, _ => none
 | k9 + 1, l0, l1, p8 => if p8 < (l0.length : Int) then if 0 ≤ p8 then (if p8 < (l1.length : Int) then ((laws_eqCond.f ((rd_T92 l0 p8).f0) ((rd_T92 l0 p8).f1.f0) ((rd_T92 l0 p8).f1.f1) ((rd_T92 l0 p8).f2) ((rd_T92 l0 p8).f3.f0) ((rd_T92 l0 p8).f3.f1) ((rd_T92 l1 p8).f0) ((rd_T92 l1 p8).f1.f0) ((rd_T92 l1 p8).f1.f1) ((rd_T92 l1 p8).f2) ((rd_T92 l1 p8).f3.f0) ((rd_T92 l1 p8).f3.f1)).bind fun t13 => if t13 = true then laws_eqCondS.l0 k9 l0 l1 (wrap64 (p8 + 1)) else some false) else none) else none else some true
def laws_eqCondS.f (k : Nat) (l0 : List S92) (l1 : List S92) : Option (Bool) := if (l0.length : Int) = (l1.length : Int) then laws_eqCondS.l0 k l0 l1 0 else some false
theorem laws_eqCondS.ok {k : Nat} {l0 : List S92} {l1 : List S92} {r : Bool} (H : laws_eqCondS.f k l0 l1 = some r) : ACalls Try.prog 105 [] [.sl .o 6 (l0.map e92), .sl .o 6 (l1.map e92)] [] (.lit (.bool r)) := by
 refine acalls (fn := Try.f105) (nt := 27) Try.func105 rfl rfl (Nat.le_of_ble_eq_true rfl) fun E hE => ?_
 rw [laws_eqCondS.f] at H
 refine aw_grp1 ?_
 refine wk_start ?_
 refine kv g0 (asg) ?_
 refine wk_end ?_
 refine ac_next ?_
 refine aw_grp1 ?_
 refine aw_grp1 ?_
 refine wk_start ?_
 refine kv g0 (mv) ?_
 refine kv g0 (lnS lenE) ?_
 refine kv g0 (mv) ?_
 refine kv g0 (lnS lenE) ?_
 refine kv g0 (neq) ?_
 refine wk_end ?_
 refine ac_next ?_
 by_cases c1 : (l0.length : Int) = (l1.length : Int)
 ·rw [if_pos c1] at H
  refine aw_ifF ?_ (eM c1)
  refine aw_skip ?_
  refine ac_next ?_
  refine aw_grp1 ?_
  refine aw_grp1 ?_
  refine wk_start ?_
  refine kv g0 (asg) ?_
  refine wk_end ?_
  refine ac_next ?_
  refine aw_block ?_
  refine aw_loop1 (fun (k_ : Nat) (p8 : Int) => k_ ≤ k ∧ laws_eqCondS.l0 k_ l0 l1 p8 = some r) (fun (p8 : Int) => ⟨[(0, .sl .o 6 (l0.map e92)), (1, .sl .o 6 (l1.map e92)), (5, .lit (.int .i64 p8))], []⟩) k 0 ⟨Nat.le_refl _, H⟩ (fun K_ h_ => acw hE [] 9999 h_) (fun _ => by intro h_; have h_ := h_.2; rw [laws_eqCondS.l0.eq_1] at h_; cases h_) ?_
  intro k9 p8 hq_ K16 hK17
  have hk9 := hq_.1
  have H := hq_.2
  clear hq_
  rw [laws_eqCondS.l0.eq_2] at H
  refine aw_grp1 ?_
  refine aw_grp1 ?_
  refine wk_start ?_
  refine kv g0 (mv) ?_
  refine kv g0 (mv) ?_
  refine kv g0 (lnS lenE) ?_
  refine kv g0 (lss) ?_
  refine wk_end ?_
  refine ac_next ?_
  by_cases c10 : p8 < (l0.length : Int)
  ·rw [if_pos c10] at H
   refine aw_ifT ?_ (decide_eq_true c10)
   refine aw_skip ?_
   refine ac_next ?_
   refine aw_grp1 ?_
   refine aw_block ?_
   refine aw_grp1 ?_
   refine wk_start ?_
   refine kv g0 (mv) ?_
   refine kv g0 (mv) ?_
   obtain ⟨c11, H⟩ := of_if H
   refine kv g0 (ixS 92 (e92 (rd_T92 l0 p8)) c11 (getE (z := z92) c11 c10)) ?_
   refine kv g0 (ldRA 6 [.lit (.int .i64 ((rd_T92 l0 p8).f0)), .lit (.int .i64 ((rd_T92 l0 p8).f1.f0)), .lit (.int .i64 ((rd_T92 l0 p8).f1.f1)), .lit (.int .i64 ((rd_T92 l0 p8).f2)), .lit (.int .i64 ((rd_T92 l0 p8).f3.f0)), .lit (.int .i64 ((rd_T92 l0 p8).f3.f1))]) ?_
   refine kv g0 (mv) ?_
   refine kv g0 (mv) ?_
   obtain ⟨c12, H⟩ := of_if H
   refine kv g0 (ixS 92 (e92 (rd_T92 l1 p8)) c11 (getE (z := z92) c11 c12)) ?_
   refine kv g0 (ldRA 6 [.lit (.int .i64 ((rd_T92 l1 p8).f0)), .lit (.int .i64 ((rd_T92 l1 p8).f1.f0)), .lit (.int .i64 ((rd_T92 l1 p8).f1.f1)), .lit (.int .i64 ((rd_T92 l1 p8).f2)), .lit (.int .i64 ((rd_T92 l1 p8).f3.f0)), .lit (.int .i64 ((rd_T92 l1 p8).f3.f1))]) ?_
   obtain ⟨t13, A14, H⟩ := of_bind H
   refine kcS0 25 (.lit (.bool t13)) [] g0 (cal (laws_eqCond.ok A14) [] 9999 .n (hf := Try.func112)) rfl rfl ?_
   refine kv g0 (not_) ?_
   refine wk_end_draw hM (by kernel_rfl) ?_
   refine ac_next ?_
   by_cases c15 : t13 = true
   ·rw [if_pos c15] at H
    refine aw_ifF ?_ (nF c15)
    refine aw_skip ?_
    refine ac_blkN ?_
    refine ac_next ?_
    refine wk_start ?_
    refine kv g0 (mv) ?_
    refine kv g0 (add6) ?_
    refine kv g0 (asg) ?_
    refine wk_end ?_
    refine ac_k ?_
    exact acw hE [] 9999 (hK17 k9 (wrap64 (p8 + 1)) (Nat.le_refl _) ⟨by omega, H⟩)
   rw [if_neg c15] at H
   refine aw_ifT ?_ (nT (bF c15))
   refine aw_grp1 ?_
   refine wk_start ?_
   refine kv g0 (asg) ?_
   refine wk_end ?_
   refine ac_next ?_
   refine aw_ret ?_
   refine ac_blkR ?_
   refine ac_thenR ?_
   refine ac_thenR ?_
   refine ac_blkR ?_
   refine ac_thenR ?_
   obtain rfl := Option.some.inj H
   exact acr hE [.tmp 4] (.tmp .nil) (.one _) [] 9999
  rw [if_neg c10] at H
  refine aw_ifF ?_ (decide_eq_false c10)
  refine aw_exit ?_
  refine ac_then ?_
  refine ac_then ?_
  refine ac_hit rfl ?_
  refine ac_next ?_
  refine aw_grp1 ?_
  refine wk_start ?_
  refine kv g0 (asg) ?_
  refine wk_end ?_
  refine ac_next ?_
  refine aw_ret ?_
  obtain rfl := Option.some.inj H
  exact acr hE [.tmp 4] (.tmp .nil) (.one _) [] 9999
 rw [if_neg c1] at H
 refine aw_ifT ?_ (eN c1)
 refine aw_grp1 ?_
 refine wk_start ?_
 refine kv g0 (asg) ?_
 refine wk_end ?_
 refine ac_next ?_
 refine aw_ret ?_
 refine ac_thenR ?_
 obtain rfl := Option.some.inj H
 exact acr hE [.tmp 4] (.tmp .nil) (.one _) [] 9999
/-! laws_eqRule -/
def laws_eqRule.f (k : Nat) (l0_0 : List Int) (l0_1 : List S92) (a0_2 : Int) (a0_3 : Int) (l1_0 : List Int) (l1_1 : List S92) (a1_2 : Int) (a1_3 : Int) : Option (Bool) := (laws_eqIntS.f k l0_0 l1_0).bind fun t1 => if t1 = true then (laws_eqCondS.f k l0_1 l1_1).bind fun t4 => if t4 = true then if a0_2 = a1_2 then if a0_3 = a1_3 then some true else some false else some false else some false else some false
theorem laws_eqRule.ok {k : Nat} {l0_0 : List Int} {l0_1 : List S92} {a0_2 : Int} {a0_3 : Int} {l1_0 : List Int} {l1_1 : List S92} {a1_2 : Int} {a1_3 : Int} {r : Bool} (H : laws_eqRule.f k l0_0 l0_1 a0_2 a0_3 l1_0 l1_1 a1_2 a1_3 = some r) : ACalls Try.prog 85 [] [.agg [.sl .o 1 (l0_0.map (eI .i64)), .sl .o 6 (l0_1.map e92), .lit (.int .i64 a0_2), .lit (.int .i64 a0_3)], .agg [.sl .o 1 (l1_0.map (eI .i64)), .sl .o 6 (l1_1.map e92), .lit (.int .i64 a1_2), .lit (.int .i64 a1_3)]] [] (.lit (.bool r)) := by
 refine acalls (fn := Try.f85) (nt := 27) Try.func85 rfl rfl (Nat.le_of_ble_eq_true rfl) fun E hE => ?_
 rw [laws_eqRule.f] at H
 refine aw_grp1 ?_
 refine wk_start ?_
 refine kb g0 (bxA 0) ?_
 refine kb g0 (bxA 1) ?_
 refine kv g0 (asg) ?_
 refine wk_end ?_
 refine ac_next ?_
 refine aw_grp1 ?_
 refine aw_grp1 ?_
 refine wk_start ?_
 refine kv g0 (faB 0 0) ?_
 refine kv g0 (ldB) ?_
 refine kv g0 (faB 0 0) ?_
 refine kv g0 (ldB) ?_
 obtain ⟨t1, A2, H⟩ := of_bind H
 refine kcS0 9 (.lit (.bool t1)) [] g0 (cal (laws_eqIntS.ok A2) [] 9999 .n (hf := Try.func12)) rfl rfl ?_
 refine kv g0 (not_) ?_
 refine wk_end ?_
 refine ac_next ?_
 by_cases c3 : t1 = true
 ·rw [if_pos c3] at H
  refine aw_ifF ?_ (nF c3)
  refine aw_skip ?_
  refine ac_next ?_
  refine aw_grp1 ?_
  refine aw_grp1 ?_
  refine wk_start ?_
  refine kv g0 (faB 1 1) ?_
  refine kv g0 (ldB) ?_
  refine kv g0 (faB 1 1) ?_
  refine kv g0 (ldB) ?_
  obtain ⟨t4, A5, H⟩ := of_bind H
  refine kcS0 15 (.lit (.bool t4)) [] g0 (cal (laws_eqCondS.ok A5) [] 9999 .n (hf := Try.func105)) rfl rfl ?_
  refine kv g0 (not_) ?_
  refine wk_end ?_
  refine ac_next ?_
  by_cases c6 : t4 = true
  ·rw [if_pos c6] at H
   refine aw_ifF ?_ (nF c6)
   refine aw_skip ?_
   refine ac_next ?_
   refine aw_grp1 ?_
   refine aw_grp1 ?_
   refine wk_start ?_
   refine kv g0 (faB 2 2) ?_
   refine kv g0 (ldB) ?_
   refine kv g0 (faB 2 2) ?_
   refine kv g0 (ldB) ?_
   refine kv g0 (neq) ?_
   refine wk_end ?_
   refine ac_next ?_
   by_cases c7 : a0_2 = a1_2
   ·rw [if_pos c7] at H
    refine aw_ifF ?_ (eM c7)
    refine aw_skip ?_
    refine ac_next ?_
    refine aw_grp1 ?_
    refine aw_grp1 ?_
    refine wk_start ?_
    refine kv g0 (faB 3 3) ?_
    refine kv g0 (ldB) ?_
    refine kv g0 (faB 3 3) ?_
    refine kv g0 (ldB) ?_
    refine kv g0 (neq) ?_
    refine wk_end ?_
    refine ac_next ?_
    by_cases c8 : a0_3 = a1_3
    ·rw [if_pos c8] at H
     refine aw_ifF ?_ (eM c8)
     refine aw_skip ?_
     refine ac_next ?_
     refine aw_grp1 ?_
     refine wk_start ?_
     refine kv g0 (asg) ?_
     refine wk_end ?_
     refine ac_next ?_
     refine aw_ret ?_
     obtain rfl := Option.some.inj H
     exact acr hE [.tmp 4] (.tmp .nil) (.one _) [] 9999
    rw [if_neg c8] at H
    refine aw_ifT ?_ (eN c8)
    refine aw_grp1 ?_
    refine wk_start ?_
    refine kv g0 (asg) ?_
    refine wk_end ?_
    refine ac_next ?_
    refine aw_ret ?_
    refine ac_thenR ?_
    obtain rfl := Option.some.inj H
    exact acr hE [.tmp 4] (.tmp .nil) (.one _) [] 9999
   rw [if_neg c7] at H
   refine aw_ifT ?_ (eN c7)
   refine aw_grp1 ?_
   refine wk_start ?_
   refine kv g0 (asg) ?_
   refine wk_end ?_
   refine ac_next ?_
   refine aw_ret ?_
   refine ac_thenR ?_
   obtain rfl := Option.some.inj H
   exact acr hE [.tmp 4] (.tmp .nil) (.one _) [] 9999
  rw [if_neg c6] at H
  refine aw_ifT ?_ (nT (bF c6))
  refine aw_grp1 ?_
  refine wk_start ?_
  refine kv g0 (asg) ?_
  refine wk_end ?_
  refine ac_next ?_
  refine aw_ret ?_
  refine ac_thenR ?_
  obtain rfl := Option.some.inj H
  exact acr hE [.tmp 4] (.tmp .nil) (.one _) [] 9999
 rw [if_neg c3] at H
 refine aw_ifT ?_ (nT (bF c3))
 refine aw_grp1 ?_
 refine wk_start ?_
 refine kv g0 (asg) ?_
 refine wk_end ?_
 refine ac_next ?_
 refine aw_ret ?_
 refine ac_thenR ?_
 obtain rfl := Option.some.inj H
 exact acr hE [.tmp 4] (.tmp .nil) (.one _) [] 9999
/-! laws_eqRuleS -/
def laws_eqRuleS.l0 : Nat → (List S60) → (List S60) → Int → Option (Bool)
 | 0, _, _, _ => none
 | k9 + 1, l0, l1, p8 => if p8 < (l0.length : Int) then if 0 ≤ p8 then (if p8 < (l1.length : Int) then ((laws_eqRule.f k9 ((rd_T60 l0 p8).f0) ((rd_T60 l0 p8).f1) ((rd_T60 l0 p8).f2) ((rd_T60 l0 p8).f3) ((rd_T60 l1 p8).f0) ((rd_T60 l1 p8).f1) ((rd_T60 l1 p8).f2) ((rd_T60 l1 p8).f3)).bind fun t13 => if t13 = true then laws_eqRuleS.l0 k9 l0 l1 (wrap64 (p8 + 1)) else some false) else none) else none else some true
def laws_eqRuleS.f (k : Nat) (l0 : List S60) (l1 : List S60) : Option (Bool) := if (l0.length : Int) = (l1.length : Int) then laws_eqRuleS.l0 k l0 l1 0 else some false
theorem laws_eqRuleS.ok {k : Nat} {l0 : List S60} {l1 : List S60} {r : Bool} (H : laws_eqRuleS.f k l0 l1 = some r) : ACalls Try.prog 43 [] [.sl .o 4 (l0.map e60), .sl .o 4 (l1.map e60)] [] (.lit (.bool r)) := by
 refine acalls (fn := Try.f43) (nt := 27) Try.func43 rfl rfl (Nat.le_of_ble_eq_true rfl) fun E hE => ?_
 rw [laws_eqRuleS.f] at H
 refine aw_grp1 ?_
 refine wk_start ?_
 refine kv g0 (asg) ?_
 refine wk_end ?_
 refine ac_next ?_
 refine aw_grp1 ?_
 refine aw_grp1 ?_
 refine wk_start ?_
 refine kv g0 (mv) ?_
 refine kv g0 (lnS lenE) ?_
 refine kv g0 (mv) ?_
 refine kv g0 (lnS lenE) ?_
 refine kv g0 (neq) ?_
 refine wk_end ?_
 refine ac_next ?_
 by_cases c1 : (l0.length : Int) = (l1.length : Int)
 ·rw [if_pos c1] at H
  refine aw_ifF ?_ (eM c1)
  refine aw_skip ?_
  refine ac_next ?_
  refine aw_grp1 ?_
  refine aw_grp1 ?_
  refine wk_start ?_
  refine kv g0 (asg) ?_
  refine wk_end ?_
  refine ac_next ?_
  refine aw_block ?_
  refine aw_loop1 (fun (k_ : Nat) (p8 : Int) => k_ ≤ k ∧ laws_eqRuleS.l0 k_ l0 l1 p8 = some r) (fun (p8 : Int) => ⟨[(0, .sl .o 4 (l0.map e60)), (1, .sl .o 4 (l1.map e60)), (5, .lit (.int .i64 p8))], []⟩) k 0 ⟨Nat.le_refl _, H⟩ (fun K_ h_ => acw hE [] 9999 h_) (fun _ => by intro h_; have h_ := h_.2; rw [laws_eqRuleS.l0.eq_1] at h_; cases h_) ?_
  intro k9 p8 hq_ K16 hK17
  have hk9 := hq_.1
  have H := hq_.2
  clear hq_
  rw [laws_eqRuleS.l0.eq_2] at H
  refine aw_grp1 ?_
  refine aw_grp1 ?_
  refine wk_start ?_
  refine kv g0 (mv) ?_
  refine kv g0 (mv) ?_
  refine kv g0 (lnS lenE) ?_
  refine kv g0 (lss) ?_
  refine wk_end ?_
  refine ac_next ?_
  by_cases c10 : p8 < (l0.length : Int)
  ·rw [if_pos c10] at H
   refine aw_ifT ?_ (decide_eq_true c10)
   refine aw_skip ?_
   refine ac_next ?_
   refine aw_grp1 ?_
   refine aw_block ?_
   refine aw_grp1 ?_
   refine wk_start ?_
   refine kv g0 (mv) ?_
   refine kv g0 (mv) ?_
   obtain ⟨c11, H⟩ := of_if H
   refine kv g0 (ixS 60 (e60 (rd_T60 l0 p8)) c11 (getE (z := z60) c11 c10)) ?_
   refine kv g0 (ldRA 4 [.sl .o 1 (((rd_T60 l0 p8).f0).map (eI .i64)), .sl .o 6 (((rd_T60 l0 p8).f1).map e92), .lit (.int .i64 ((rd_T60 l0 p8).f2)), .lit (.int .i64 ((rd_T60 l0 p8).f3))]) ?_
   refine kv g0 (mv) ?_
   refine kv g0 (mv) ?_
   obtain ⟨c12, H⟩ := of_if H
   refine kv g0 (ixS 60 (e60 (rd_T60 l1 p8)) c11 (getE (z := z60) c11 c12)) ?_
   refine kv g0 (ldRA 4 [.sl .o 1 (((rd_T60 l1 p8).f0).map (eI .i64)), .sl .o 6 (((rd_T60 l1 p8).f1).map e92), .lit (.int .i64 ((rd_T60 l1 p8).f2)), .lit (.int .i64 ((rd_T60 l1 p8).f3))]) ?_
   obtain ⟨t13, A14, H⟩ := of_bind H
   refine kcS0 25 (.lit (.bool t13)) [] g0 (cal (laws_eqRule.ok A14) [] 9999 .n (hf := Try.func85)) rfl rfl ?_
   refine kv g0 (not_) ?_
   refine wk_end_draw hM (by kernel_rfl) ?_
   refine ac_next ?_
   by_cases c15 : t13 = true
   ·rw [if_pos c15] at H
    refine aw_ifF ?_ (nF c15)
    refine aw_skip ?_
    refine ac_blkN ?_
    refine ac_next ?_
    refine wk_start ?_
    refine kv g0 (mv) ?_
    refine kv g0 (add6) ?_
    refine kv g0 (asg) ?_
    refine wk_end ?_
    refine ac_k ?_
    exact acw hE [] 9999 (hK17 k9 (wrap64 (p8 + 1)) (Nat.le_refl _) ⟨by omega, H⟩)
   rw [if_neg c15] at H
   refine aw_ifT ?_ (nT (bF c15))
   refine aw_grp1 ?_
   refine wk_start ?_
   refine kv g0 (asg) ?_
   refine wk_end ?_
   refine ac_next ?_
   refine aw_ret ?_
   refine ac_blkR ?_
   refine ac_thenR ?_
   refine ac_thenR ?_
   refine ac_blkR ?_
   refine ac_thenR ?_
   obtain rfl := Option.some.inj H
   exact acr hE [.tmp 4] (.tmp .nil) (.one _) [] 9999
  rw [if_neg c10] at H
  refine aw_ifF ?_ (decide_eq_false c10)
  refine aw_exit ?_
  refine ac_then ?_
  refine ac_then ?_
  refine ac_hit rfl ?_
  refine ac_next ?_
  refine aw_grp1 ?_
  refine wk_start ?_
  refine kv g0 (asg) ?_
  refine wk_end ?_
  refine ac_next ?_
  refine aw_ret ?_
  obtain rfl := Option.some.inj H
  exact acr hE [.tmp 4] (.tmp .nil) (.one _) [] 9999
 rw [if_neg c1] at H
 refine aw_ifT ?_ (eN c1)
 refine aw_grp1 ?_
 refine wk_start ?_
 refine kv g0 (asg) ?_
 refine wk_end ?_
 refine ac_next ?_
 refine aw_ret ?_
 refine ac_thenR ?_
 obtain rfl := Option.some.inj H
 exact acr hE [.tmp 4] (.tmp .nil) (.one _) [] 9999
/-! laws_eqPolicy -/
def laws_eqPolicy.f (k : Nat) (a0_0 : Int) (a0_1 : Int) (a0_2 : Int) (l0_3 : List S60) (a1_0 : Int) (a1_1 : Int) (a1_2 : Int) (l1_3 : List S60) : Option (Bool) := if a0_0 = a1_0 then if a0_1 = a1_1 then if a0_2 = a1_2 then (laws_eqRuleS.f k l0_3 l1_3).bind fun t4 => if t4 = true then some true else some false else some false else some false else some false
theorem laws_eqPolicy.ok {k : Nat} {a0_0 : Int} {a0_1 : Int} {a0_2 : Int} {l0_3 : List S60} {a1_0 : Int} {a1_1 : Int} {a1_2 : Int} {l1_3 : List S60} {r : Bool} (H : laws_eqPolicy.f k a0_0 a0_1 a0_2 l0_3 a1_0 a1_1 a1_2 l1_3 = some r) : ACalls Try.prog 13 [] [.agg [.lit (.int .i64 a0_0), .lit (.int .i64 a0_1), .lit (.int .i64 a0_2), .sl .o 4 (l0_3.map e60)], .agg [.lit (.int .i64 a1_0), .lit (.int .i64 a1_1), .lit (.int .i64 a1_2), .sl .o 4 (l1_3.map e60)]] [] (.lit (.bool r)) := by
 refine acalls (fn := Try.f13) (nt := 26) Try.func13 rfl rfl (Nat.le_of_ble_eq_true rfl) fun E hE => ?_
 rw [laws_eqPolicy.f] at H
 refine aw_grp1 ?_
 refine wk_start ?_
 refine kb g0 (bxA 0) ?_
 refine kb g0 (bxA 1) ?_
 refine kv g0 (asg) ?_
 refine wk_end ?_
 refine ac_next ?_
 refine aw_grp1 ?_
 refine aw_grp1 ?_
 refine wk_start ?_
 refine kv g0 (faB 0 0) ?_
 refine kv g0 (ldB) ?_
 refine kv g0 (faB 0 0) ?_
 refine kv g0 (ldB) ?_
 refine kv g0 (neq) ?_
 refine wk_end ?_
 refine ac_next ?_
 by_cases c1 : a0_0 = a1_0
 ·rw [if_pos c1] at H
  refine aw_ifF ?_ (eM c1)
  refine aw_skip ?_
  refine ac_next ?_
  refine aw_grp1 ?_
  refine aw_grp1 ?_
  refine wk_start ?_
  refine kv g0 (faB 1 1) ?_
  refine kv g0 (ldB) ?_
  refine kv g0 (faB 1 1) ?_
  refine kv g0 (ldB) ?_
  refine kv g0 (neq) ?_
  refine wk_end ?_
  refine ac_next ?_
  by_cases c2 : a0_1 = a1_1
  ·rw [if_pos c2] at H
   refine aw_ifF ?_ (eM c2)
   refine aw_skip ?_
   refine ac_next ?_
   refine aw_grp1 ?_
   refine aw_grp1 ?_
   refine wk_start ?_
   refine kv g0 (faB 2 2) ?_
   refine kv g0 (ldB) ?_
   refine kv g0 (faB 2 2) ?_
   refine kv g0 (ldB) ?_
   refine kv g0 (neq) ?_
   refine wk_end ?_
   refine ac_next ?_
   by_cases c3 : a0_2 = a1_2
   ·rw [if_pos c3] at H
    refine aw_ifF ?_ (eM c3)
    refine aw_skip ?_
    refine ac_next ?_
    refine aw_grp1 ?_
    refine aw_grp1 ?_
    refine wk_start ?_
    refine kv g0 (faB 3 3) ?_
    refine kv g0 (ldB) ?_
    refine kv g0 (faB 3 3) ?_
    refine kv g0 (ldB) ?_
    obtain ⟨t4, A5, H⟩ := of_bind H
    refine kcS0 24 (.lit (.bool t4)) [] g0 (cal (laws_eqRuleS.ok A5) [] 9999 .n (hf := Try.func43)) rfl rfl ?_
    refine kv g0 (not_) ?_
    refine wk_end ?_
    refine ac_next ?_
    by_cases c6 : t4 = true
    ·rw [if_pos c6] at H
     refine aw_ifF ?_ (nF c6)
     refine aw_skip ?_
     refine ac_next ?_
     refine aw_grp1 ?_
     refine wk_start ?_
     refine kv g0 (asg) ?_
     refine wk_end ?_
     refine ac_next ?_
     refine aw_ret ?_
     obtain rfl := Option.some.inj H
     exact acr hE [.tmp 4] (.tmp .nil) (.one _) [] 9999
    rw [if_neg c6] at H
    refine aw_ifT ?_ (nT (bF c6))
    refine aw_grp1 ?_
    refine wk_start ?_
    refine kv g0 (asg) ?_
    refine wk_end ?_
    refine ac_next ?_
    refine aw_ret ?_
    refine ac_thenR ?_
    obtain rfl := Option.some.inj H
    exact acr hE [.tmp 4] (.tmp .nil) (.one _) [] 9999
   rw [if_neg c3] at H
   refine aw_ifT ?_ (eN c3)
   refine aw_grp1 ?_
   refine wk_start ?_
   refine kv g0 (asg) ?_
   refine wk_end ?_
   refine ac_next ?_
   refine aw_ret ?_
   refine ac_thenR ?_
   obtain rfl := Option.some.inj H
   exact acr hE [.tmp 4] (.tmp .nil) (.one _) [] 9999
  rw [if_neg c2] at H
  refine aw_ifT ?_ (eN c2)
  refine aw_grp1 ?_
  refine wk_start ?_
  refine kv g0 (asg) ?_
  refine wk_end ?_
  refine ac_next ?_
  refine aw_ret ?_
  refine ac_thenR ?_
  obtain rfl := Option.some.inj H
  exact acr hE [.tmp 4] (.tmp .nil) (.one _) [] 9999
 rw [if_neg c1] at H
 refine aw_ifT ?_ (eN c1)
 refine aw_grp1 ?_
 refine wk_start ?_
 refine kv g0 (asg) ?_
 refine wk_end ?_
 refine ac_next ?_
 refine aw_ret ?_
 refine ac_thenR ?_
 obtain rfl := Option.some.inj H
 exact acr hE [.tmp 4] (.tmp .nil) (.one _) [] 9999
/-! laws_markIntS -/
def laws_markIntS.l0 : Nat → (List Int) → Int → Int → Option (Int × (List Int))
 | 0, _, _, _ => none
 | k6 + 1, q3, p4, p5 => if p5 < (q3.length : Int) then if 0 ≤ p5 then laws_markIntS.l0 k6 (q3.set p5.toNat p4) (wrap64 (p4 + 1)) (wrap64 (p5 + 1)) else none else some (p4, q3)
def laws_markIntS.f (k : Nat) (l0 : List Int) (a1 : Int) : Option (Int × (List Int)) := laws_markIntS.l0 k l0 a1 0
theorem laws_markIntS.ok {k : Nat} {l0 : List Int} {a1 : Int} {r : Int × (List Int)} (H : laws_markIntS.f k l0 a1 = some r) : ACalls Try.prog 15 [(0, .row 3 1 (l0.map (eI .i64)))] [.row 0, .lit (.int .i64 a1)] [(0, .row 3 1 (r.2.map (eI .i64)))] (.lit (.int .i64 r.1)) := by
 refine acalls (fn := Try.f15) (nt := 19) Try.func15 rfl rfl (Nat.le_of_ble_eq_true rfl) fun E hE => ?_
 rw [laws_markIntS.f] at H
 refine aw_grp1 ?_
 refine wk_start ?_
 refine kv g0 (asg) ?_
 refine wk_end ?_
 refine ac_next ?_
 refine aw_grp1 ?_
 refine aw_grp1 ?_
 refine wk_start ?_
 refine kv g0 (asg) ?_
 refine wk_end ?_
 refine ac_next ?_
 refine aw_block ?_
 refine aw_loop3 (fun (k_ : Nat) (q3 : List Int) (p4 : Int) (p5 : Int) => k_ ≤ k ∧ laws_markIntS.l0 k_ q3 p4 p5 = some r) (fun (q3 : List Int) (p4 : Int) (p5 : Int) => ⟨[(0, .row 0), (1, .lit (.int .i64 p4)), (5, .lit (.int .i64 p5))], [(0, .row 3 1 (q3.map (eI .i64)))]⟩) k l0 a1 0 ⟨Nat.le_refl _, H⟩ (fun K_ h_ => acw hE [(0, 0)] 9999 h_) (fun _ _ _ => by intro h_; have h_ := h_.2; rw [laws_markIntS.l0.eq_1] at h_; cases h_) ?_
 intro k6 q3 p4 p5 hq_ K9 hK10
 have hk6 := hq_.1
 have H := hq_.2
 clear hq_
 rw [laws_markIntS.l0.eq_2] at H
 refine aw_grp1 ?_
 refine aw_grp1 ?_
 refine wk_start ?_
 refine kv g0 (mv) ?_
 refine kv g0 (mv) ?_
 refine kv g0 (lnR lenE) ?_
 refine kv g0 (lss) ?_
 refine wk_end ?_
 refine ac_next ?_
 by_cases c7 : p5 < (q3.length : Int)
 ·rw [if_pos c7] at H
  refine aw_ifT ?_ (decide_eq_true c7)
  refine aw_skip ?_
  refine ac_next ?_
  refine aw_grp1 ?_
  refine aw_block ?_
  refine aw_grp1 ?_
  refine wk_start ?_
  refine kv g0 (mv) ?_
  refine kv g0 (mv) ?_
  refine kv g0 (mv) ?_
  obtain ⟨c8, H⟩ := of_if H
  refine kv g0 (ixR 3 c8 (ltE c7)) ?_
  refine ks g0 (stE 1 (eI .i64 p4) ((q3.set p5.toNat p4).map (eI .i64)) (getE (z := (0 : Int)) c8 c7) setE) ?_
  refine wk_end ?_
  refine ac_next ?_
  refine wk_start ?_
  refine kv g0 (mv) ?_
  refine kv g0 (add6) ?_
  refine kv g0 (asg) ?_
  refine wk_end ?_
  refine ac_blkN ?_
  refine ac_next ?_
  refine wk_start ?_
  refine kv g0 (mv) ?_
  refine kv g0 (add6) ?_
  refine kv g0 (asg) ?_
  refine wk_end ?_
  refine ac_k ?_
  exact acw hE [(0, 0)] 9999 (hK10 k6 (q3.set p5.toNat p4) (wrap64 (p4 + 1)) (wrap64 (p5 + 1)) (Nat.le_refl _) ⟨by omega, H⟩)
 rw [if_neg c7] at H
 refine aw_ifF ?_ (decide_eq_false c7)
 refine aw_exit ?_
 refine ac_then ?_
 refine ac_then ?_
 refine ac_hit rfl ?_
 refine ac_next ?_
 refine aw_grp1 ?_
 refine wk_start ?_
 refine kv g0 (mv) ?_
 refine kv g0 (asg) ?_
 refine wk_end ?_
 refine ac_next ?_
 refine aw_ret ?_
 obtain rfl := Option.some.inj H
 exact acr hE [.tmp 4] (.tmp .nil) (.one _) [(0, 0)] 9999
/-! laws_markCondS -/
def laws_markCondS.l0 : Nat → (List S92) → Int → Int → Option (Int × (List S92))
 | 0, _, _, _ => none
 | k6 + 1, q3, p4, p5 => if p5 < (q3.length : Int) then if 0 ≤ p5 then laws_markCondS.l0 k6 (q3.set p5.toNat (⟨p4, (⟨wrap64 (p4 + 1), wrap64 ((wrap64 (p4 + 1)) + 1)⟩ : S90), wrap64 ((wrap64 ((wrap64 (p4 + 1)) + 1)) + 1), (⟨wrap64 ((wrap64 ((wrap64 ((wrap64 (p4 + 1)) + 1)) + 1)) + 1), wrap64 ((wrap64 ((wrap64 ((wrap64 ((wrap64 (p4 + 1)) + 1)) + 1)) + 1)) + 1)⟩ : S90)⟩ : S92)) (wrap64 ((wrap64 ((wrap64 ((wrap64 ((wrap64 ((wrap64 (p4 + 1)) + 1)) + 1)) + 1)) + 1)) + 1)) (wrap64 (p5 + 1)) else none else some (p4, q3)
def laws_markCondS.f (k : Nat) (l0 : List S92) (a1 : Int) : Option (Int × (List S92)) := laws_markCondS.l0 k l0 a1 0
theorem laws_markCondS.ok {k : Nat} {l0 : List S92} {a1 : Int} {r : Int × (List S92)} (H : laws_markCondS.f k l0 a1 = some r) : ACalls Try.prog 86 [(0, .row 92 6 (l0.map e92))] [.row 0, .lit (.int .i64 a1)] [(0, .row 92 6 (r.2.map e92))] (.lit (.int .i64 r.1)) := by
 refine acalls (fn := Try.f86) (nt := 59) Try.func86 rfl rfl (Nat.le_of_ble_eq_true rfl) fun E hE => ?_
 rw [laws_markCondS.f] at H
 refine aw_grp1 ?_
 refine wk_start ?_
 refine kv g0 (asg) ?_
 refine wk_end ?_
 refine ac_next ?_
 refine aw_grp1 ?_
 refine aw_grp1 ?_
 refine wk_start ?_
 refine kv g0 (asg) ?_
 refine wk_end ?_
 refine ac_next ?_
 refine aw_block ?_
 refine aw_loop3 (fun (k_ : Nat) (q3 : List S92) (p4 : Int) (p5 : Int) => k_ ≤ k ∧ laws_markCondS.l0 k_ q3 p4 p5 = some r) (fun (q3 : List S92) (p4 : Int) (p5 : Int) => ⟨[(0, .row 0), (1, .lit (.int .i64 p4)), (5, .lit (.int .i64 p5))], [(0, .row 92 6 (q3.map e92))]⟩) k l0 a1 0 ⟨Nat.le_refl _, H⟩ (fun K_ h_ => acw hE [(0, 0)] 9999 h_) (fun _ _ _ => by intro h_; have h_ := h_.2; rw [laws_markCondS.l0.eq_1] at h_; cases h_) ?_
 intro k6 q3 p4 p5 hq_ K9 hK10
 have hk6 := hq_.1
 have H := hq_.2
 clear hq_
 rw [laws_markCondS.l0.eq_2] at H
 refine aw_grp1 ?_
 refine aw_grp1 ?_
 refine wk_start ?_
 refine kv g0 (mv) ?_
 refine kv g0 (mv) ?_
 refine kv g0 (lnR lenE) ?_
 refine kv g0 (lss) ?_
 refine wk_end ?_
 refine ac_next ?_
 by_cases c7 : p5 < (q3.length : Int)
 ·rw [if_pos c7] at H
  refine aw_ifT ?_ (decide_eq_true c7)
  refine aw_skip ?_
  refine ac_next ?_
  refine aw_grp1 ?_
  refine aw_block ?_
  refine aw_grp1 ?_
  refine wk_start ?_
  refine kv g0 (mv) ?_
  refine kv g0 (mv) ?_
  refine kv g0 (mv) ?_
  obtain ⟨c8, H⟩ := of_if H
  refine kv g0 (ixR 92 c8 (ltE c7)) ?_
  refine kv g0 (faE 0 0) ?_
  refine ks g0 (stE 1 (e92 (⟨p4, (⟨(rd_T92 q3 p5).f1.f0, (rd_T92 q3 p5).f1.f1⟩ : S90), (rd_T92 q3 p5).f2, (⟨(rd_T92 q3 p5).f3.f0, (rd_T92 q3 p5).f3.f1⟩ : S90)⟩ : S92)) ((q3.set p5.toNat (⟨p4, (⟨(rd_T92 q3 p5).f1.f0, (rd_T92 q3 p5).f1.f1⟩ : S90), (rd_T92 q3 p5).f2, (⟨(rd_T92 q3 p5).f3.f0, (rd_T92 q3 p5).f3.f1⟩ : S90)⟩ : S92)).map e92) (getE (z := z92) c8 c7) setE) ?_
  refine wk_end ?_
  refine ac_next ?_
  refine aw_grp1 ?_
  refine wk_start ?_
  refine kv g0 (mv) ?_
  refine kv g0 (add6) ?_
  refine kv g0 (asg) ?_
  refine wk_end ?_
  refine ac_next ?_
  refine aw_grp1 ?_
  refine wk_start ?_
  refine kv g0 (mv) ?_
  refine kv g0 (mv) ?_
  refine kv g0 (mv) ?_
  refine kv g0 (ixR 92 c8 (ltE (ls c7))) ?_
  refine kv g0 (faE 1 1) ?_
  refine kv g0 (faE 0 1) ?_
  refine ks g0 (stE 1 (e92 (⟨p4, (⟨wrap64 (p4 + 1), (rd_T92 q3 p5).f1.f1⟩ : S90), (rd_T92 q3 p5).f2, (⟨(rd_T92 q3 p5).f3.f0, (rd_T92 q3 p5).f3.f1⟩ : S90)⟩ : S92)) ((q3.set p5.toNat (⟨p4, (⟨wrap64 (p4 + 1), (rd_T92 q3 p5).f1.f1⟩ : S90), (rd_T92 q3 p5).f2, (⟨(rd_T92 q3 p5).f3.f0, (rd_T92 q3 p5).f3.f1⟩ : S90)⟩ : S92)).map e92) (setG c8 (ls c7)) setE2) ?_
  refine wk_end ?_
  refine ac_next ?_
  refine aw_grp1 ?_
  refine wk_start ?_
  refine kv g0 (mv) ?_
  refine kv g0 (add6) ?_
  refine kv g0 (asg) ?_
  refine wk_end ?_
  refine ac_next ?_
  refine aw_grp1 ?_
  refine wk_start ?_
  refine kv g0 (mv) ?_
  refine kv g0 (mv) ?_
  refine kv g0 (mv) ?_
  refine kv g0 (ixR 92 c8 (ltE (ls c7))) ?_
  refine kv g0 (faE 1 1) ?_
  refine kv g0 (faE 1 2) ?_
  refine ks g0 (stE 1 (e92 (⟨p4, (⟨wrap64 (p4 + 1), wrap64 ((wrap64 (p4 + 1)) + 1)⟩ : S90), (rd_T92 q3 p5).f2, (⟨(rd_T92 q3 p5).f3.f0, (rd_T92 q3 p5).f3.f1⟩ : S90)⟩ : S92)) ((q3.set p5.toNat (⟨p4, (⟨wrap64 (p4 + 1), wrap64 ((wrap64 (p4 + 1)) + 1)⟩ : S90), (rd_T92 q3 p5).f2, (⟨(rd_T92 q3 p5).f3.f0, (rd_T92 q3 p5).f3.f1⟩ : S90)⟩ : S92)).map e92) (setG c8 (ls c7)) setE2) ?_
  refine wk_end ?_
  refine ac_next ?_
  refine aw_grp1 ?_
  refine wk_start ?_
  refine kv g0 (mv) ?_
  refine kv g0 (add6) ?_
  refine kv g0 (asg) ?_
  refine wk_end ?_
  refine ac_next ?_
  refine aw_grp1 ?_
  refine wk_start ?_
  refine kv g0 (mv) ?_
  refine kv g0 (mv) ?_
  refine kv g0 (mv) ?_
  refine kv g0 (ixR 92 c8 (ltE (ls c7))) ?_
  refine kv g0 (faE 3 3) ?_
  refine ks g0 (stE 1 (e92 (⟨p4, (⟨wrap64 (p4 + 1), wrap64 ((wrap64 (p4 + 1)) + 1)⟩ : S90), wrap64 ((wrap64 ((wrap64 (p4 + 1)) + 1)) + 1), (⟨(rd_T92 q3 p5).f3.f0, (rd_T92 q3 p5).f3.f1⟩ : S90)⟩ : S92)) ((q3.set p5.toNat (⟨p4, (⟨wrap64 (p4 + 1), wrap64 ((wrap64 (p4 + 1)) + 1)⟩ : S90), wrap64 ((wrap64 ((wrap64 (p4 + 1)) + 1)) + 1), (⟨(rd_T92 q3 p5).f3.f0, (rd_T92 q3 p5).f3.f1⟩ : S90)⟩ : S92)).map e92) (setG c8 (ls c7)) setE2) ?_
  refine wk_end ?_
  refine ac_next ?_
  refine aw_grp1 ?_
  refine wk_start ?_
  refine kv g0 (mv) ?_
  refine kv g0 (add6) ?_
  refine kv g0 (asg) ?_
  refine wk_end ?_
  refine ac_next ?_
  refine aw_grp1 ?_
  refine wk_start ?_
  refine kv g0 (mv) ?_
  refine kv g0 (mv) ?_
  refine kv g0 (mv) ?_
  refine kv g0 (ixR 92 c8 (ltE (ls c7))) ?_
  refine kv g0 (faE 4 4) ?_
  refine kv g0 (faE 0 4) ?_
  refine ks g0 (stE 1 (e92 (⟨p4, (⟨wrap64 (p4 + 1), wrap64 ((wrap64 (p4 + 1)) + 1)⟩ : S90), wrap64 ((wrap64 ((wrap64 (p4 + 1)) + 1)) + 1), (⟨wrap64 ((wrap64 ((wrap64 ((wrap64 (p4 + 1)) + 1)) + 1)) + 1), (rd_T92 q3 p5).f3.f1⟩ : S90)⟩ : S92)) ((q3.set p5.toNat (⟨p4, (⟨wrap64 (p4 + 1), wrap64 ((wrap64 (p4 + 1)) + 1)⟩ : S90), wrap64 ((wrap64 ((wrap64 (p4 + 1)) + 1)) + 1), (⟨wrap64 ((wrap64 ((wrap64 ((wrap64 (p4 + 1)) + 1)) + 1)) + 1), (rd_T92 q3 p5).f3.f1⟩ : S90)⟩ : S92)).map e92) (setG c8 (ls c7)) setE2) ?_
  refine wk_end ?_
  refine ac_next ?_
  refine aw_grp1 ?_
  refine wk_start ?_
  refine kv g0 (mv) ?_
  refine kv g0 (add6) ?_
  refine kv g0 (asg) ?_
  refine wk_end ?_
  refine ac_next ?_
  refine aw_grp1 ?_
  refine wk_start ?_
  refine kv g0 (mv) ?_
  refine kv g0 (mv) ?_
  refine kv g0 (mv) ?_
  refine kv g0 (ixR 92 c8 (ltE (ls c7))) ?_
  refine kv g0 (faE 4 4) ?_
  refine kv g0 (faE 1 5) ?_
  refine ks g0 (stE 1 (e92 (⟨p4, (⟨wrap64 (p4 + 1), wrap64 ((wrap64 (p4 + 1)) + 1)⟩ : S90), wrap64 ((wrap64 ((wrap64 (p4 + 1)) + 1)) + 1), (⟨wrap64 ((wrap64 ((wrap64 ((wrap64 (p4 + 1)) + 1)) + 1)) + 1), wrap64 ((wrap64 ((wrap64 ((wrap64 ((wrap64 (p4 + 1)) + 1)) + 1)) + 1)) + 1)⟩ : S90)⟩ : S92)) ((q3.set p5.toNat (⟨p4, (⟨wrap64 (p4 + 1), wrap64 ((wrap64 (p4 + 1)) + 1)⟩ : S90), wrap64 ((wrap64 ((wrap64 (p4 + 1)) + 1)) + 1), (⟨wrap64 ((wrap64 ((wrap64 ((wrap64 (p4 + 1)) + 1)) + 1)) + 1), wrap64 ((wrap64 ((wrap64 ((wrap64 ((wrap64 (p4 + 1)) + 1)) + 1)) + 1)) + 1)⟩ : S90)⟩ : S92)).map e92) (setG c8 (ls c7)) setE2) ?_
  refine wk_end ?_
  refine ac_next ?_
  refine wk_start ?_
  refine kv g0 (mv) ?_
  refine kv g0 (add6) ?_
  refine kv g0 (asg) ?_
  refine wk_end ?_
  refine ac_blkN ?_
  refine ac_next ?_
  refine wk_start ?_
  refine kv g0 (mv) ?_
  refine kv g0 (add6) ?_
  refine kv g0 (asg) ?_
  refine wk_end ?_
  refine ac_k ?_
  exact acw hE [(0, 0)] 9999 (hK10 k6 (q3.set p5.toNat (⟨p4, (⟨wrap64 (p4 + 1), wrap64 ((wrap64 (p4 + 1)) + 1)⟩ : S90), wrap64 ((wrap64 ((wrap64 (p4 + 1)) + 1)) + 1), (⟨wrap64 ((wrap64 ((wrap64 ((wrap64 (p4 + 1)) + 1)) + 1)) + 1), wrap64 ((wrap64 ((wrap64 ((wrap64 ((wrap64 (p4 + 1)) + 1)) + 1)) + 1)) + 1)⟩ : S90)⟩ : S92)) (wrap64 ((wrap64 ((wrap64 ((wrap64 ((wrap64 ((wrap64 (p4 + 1)) + 1)) + 1)) + 1)) + 1)) + 1)) (wrap64 (p5 + 1)) (Nat.le_refl _) ⟨by omega, H⟩)
 rw [if_neg c7] at H
 refine aw_ifF ?_ (decide_eq_false c7)
 refine aw_exit ?_
 refine ac_then ?_
 refine ac_then ?_
 refine ac_hit rfl ?_
 refine ac_next ?_
 refine aw_grp1 ?_
 refine wk_start ?_
 refine kv g0 (mv) ?_
 refine kv g0 (asg) ?_
 refine wk_end ?_
 refine ac_next ?_
 refine aw_ret ?_
 obtain rfl := Option.some.inj H
 exact acr hE [.tmp 4] (.tmp .nil) (.one _) [(0, 0)] 9999
/-! laws_markRuleS -/
def laws_markRuleS.l0 : Nat → (List S60) → Int → Int → Option (Int × (List S60))
 | 0, _, _, _ => none
 | k10 + 1, q7, p8, p9 => if p9 < (q7.length : Int) then if 0 ≤ p9 then ((laws_markIntS.f k10 ((rd_T60 q7 p9).f0) p8).bind fun t13 => (laws_markCondS.f k10 ((rd_T60 q7 p9).f1) t13.1).bind fun t15 => laws_markRuleS.l0 k10 (q7.set p9.toNat (⟨t13.2, t15.2, t15.1, wrap64 (t15.1 + 1)⟩ : S60)) (wrap64 ((wrap64 (t15.1 + 1)) + 1)) (wrap64 (p9 + 1))) else none else some (p8, q7)
def laws_markRuleS.f (k : Nat) (l0 : List S60) (a1 : Int) : Option (Int × (List S60)) := laws_markRuleS.l0 k l0 a1 0
theorem laws_markRuleS.ok {k : Nat} {l0 : List S60} {a1 : Int} {r : Int × (List S60)} (H : laws_markRuleS.f k l0 a1 = some r) : ACalls Try.prog 44 [(0, .drow false ds60 60 4 (l0.map e60))] [.row 0, .lit (.int .i64 a1)] [(0, .drow false ds60 60 4 (r.2.map e60))] (.lit (.int .i64 r.1)) := by
 refine acalls (fn := Try.f44) (nt := 41) Try.func44 rfl rfl (Nat.le_of_ble_eq_true rfl) fun E hE => ?_
 rw [laws_markRuleS.f] at H
 refine aw_grp1 ?_
 refine wk_start ?_
 refine kv g0 (asg) ?_
 refine wk_end ?_
 refine ac_next ?_
 refine aw_grp1 ?_
 refine aw_grp1 ?_
 refine wk_start ?_
 refine kv g0 (asg) ?_
 refine wk_end ?_
 refine ac_next ?_
 refine aw_block ?_
 refine aw_loop3 (fun (k_ : Nat) (q7 : List S60) (p8 : Int) (p9 : Int) => k_ ≤ k ∧ laws_markRuleS.l0 k_ q7 p8 p9 = some r) (fun (q7 : List S60) (p8 : Int) (p9 : Int) => ⟨[(0, .row 0), (1, .lit (.int .i64 p8)), (5, .lit (.int .i64 p9))], [(0, .drow false ds60 60 4 (q7.map e60))]⟩) k l0 a1 0 ⟨Nat.le_refl _, H⟩ (fun K_ h_ => acw hE [(0, 0)] 9999 h_) (fun _ _ _ => by intro h_; have h_ := h_.2; rw [laws_markRuleS.l0.eq_1] at h_; cases h_) ?_
 intro k10 q7 p8 p9 hq_ K17 hK18
 have hk10 := hq_.1
 have H := hq_.2
 clear hq_
 rw [laws_markRuleS.l0.eq_2] at H
 refine aw_grp1 ?_
 refine aw_grp1 ?_
 refine wk_start ?_
 refine kv g0 (mv) ?_
 refine kv g0 (mv) ?_
 refine kv g0 (lnD lenE) ?_
 refine kv g0 (lss) ?_
 refine wk_end ?_
 refine ac_next ?_
 by_cases c11 : p9 < (q7.length : Int)
 ·rw [if_pos c11] at H
  refine aw_ifT ?_ (decide_eq_true c11)
  refine aw_skip ?_
  refine ac_next ?_
  refine aw_grp1 ?_
  refine aw_block ?_
  refine aw_grp1 ?_
  refine wk_start ?_
  refine kv g0 (mv) ?_
  refine kv g0 (mv) ?_
  obtain ⟨c12, H⟩ := of_if H
  refine kv g0 (ixD 60 c12 (ltE c11)) ?_
  refine kv g0 (faE 0 0) ?_
  refine kcS2 16 (.row 1) [(0, .drow true ds60 60 4 ((q7.map e60).set p9.toNat (.agg [.row 1, .sl .n 6 (((rd_T60 q7 p9).f1).map e92), .lit (.int .i64 ((rd_T60 q7 p9).f2)), .lit (.int .i64 ((rd_T60 q7 p9).f3))]))), (1, .row 3 1 (((rd_T60 q7 p9).f0).map (eI .i64)))] g0 (okv_gh (tk 0 1 0 (.agg [.row 1, .sl .n 6 (((rd_T60 q7 p9).f1).map e92), .lit (.int .i64 ((rd_T60 q7 p9).f2)), .lit (.int .i64 ((rd_T60 q7 p9).f3))]) (getE (f := e60) (z := z60) c12 c11) (rfl) rfl) (ldD (.row 1) (setXG (f := e60) (X := .agg [.row 1, .sl .n 6 (((rd_T60 q7 p9).f1).map e92), .lit (.int .i64 ((rd_T60 q7 p9).f2)), .lit (.int .i64 ((rd_T60 q7 p9).f3))]) c12 c11) rfl)).owp rfl rfl ?_
  refine kv g0 (mv) ?_
  obtain ⟨t13, A14, H⟩ := of_bind H
  refine kcS1 18 (.lit (.int .i64 t13.1)) [(1, .row 3 1 (t13.2.map (eI .i64)))] g0 (cal (laws_markIntS.ok A14) [1] 9999 .n (hf := Try.func15)) rfl rfl ?_
  refine kv g0 (asg) ?_
  refine wk_end ?_
  refine ac_next ?_
  refine aw_grp1 ?_
  refine wk_start ?_
  refine kv g0 (mv) ?_
  refine kv g0 (mv) ?_
  refine kv g0 (ixD 60 c12 (ltS (ltE c11))) ?_
  refine kv g0 (faE 1 1) ?_
  refine kcS2 23 (.row 2) [(0, .drow true ds60 60 4 ((q7.map e60).set p9.toNat (.agg [.row 1, .row 2, .lit (.int .i64 ((rd_T60 q7 p9).f2)), .lit (.int .i64 ((rd_T60 q7 p9).f3))]))), (2, .row 92 6 (((rd_T60 q7 p9).f1).map e92))] g0 (okv_gh (tk 0 2 1 (.agg [.row 1, .row 2, .lit (.int .i64 ((rd_T60 q7 p9).f2)), .lit (.int .i64 ((rd_T60 q7 p9).f3))]) (setXG (f := e60) (X := .agg [.row 1, .sl .n 6 (((rd_T60 q7 p9).f1).map e92), .lit (.int .i64 ((rd_T60 q7 p9).f2)), .lit (.int .i64 ((rd_T60 q7 p9).f3))]) c12 c11) (setXX) rfl) (ldD (.row 2) (setXG (f := e60) (X := .agg [.row 1, .row 2, .lit (.int .i64 ((rd_T60 q7 p9).f2)), .lit (.int .i64 ((rd_T60 q7 p9).f3))]) c12 c11) rfl)).owp rfl rfl ?_
  refine kv g0 (mv) ?_
  obtain ⟨t15, A16, H⟩ := of_bind H
  refine kcS1 25 (.lit (.int .i64 t15.1)) [(2, .row 92 6 (t15.2.map e92))] g0 (cal (laws_markCondS.ok A16) [2] 9999 .n (hf := Try.func86)) rfl rfl ?_
  refine kv g0 (asg) ?_
  refine wk_end ?_
  refine ac_next ?_
  refine aw_grp1 ?_
  refine wk_start ?_
  refine kv g0 (mv) ?_
  refine kv g0 (mv) ?_
  refine kv g0 (mv) ?_
  refine kv g0 (ixD 60 c12 (ltS (ltE c11))) ?_
  refine kv g0 (faE 2 2) ?_
  refine ks g0 (stD 4 ds60 2 1 [.lit (.int .i64 t15.1)] (.agg [.row 1, .row 2, .lit (.int .i64 t15.1), .lit (.int .i64 ((rd_T60 q7 p9).f3))]) (setXG (f := e60) (X := .agg [.row 1, .row 2, .lit (.int .i64 ((rd_T60 q7 p9).f2)), .lit (.int .i64 ((rd_T60 q7 p9).f3))]) c12 c11) (setXX)) ?_
  refine wk_end ?_
  refine ac_next ?_
  refine aw_grp1 ?_
  refine wk_start ?_
  refine kv g0 (mv) ?_
  refine kv g0 (add6) ?_
  refine kv g0 (asg) ?_
  refine wk_end ?_
  refine ac_next ?_
  refine aw_grp1 ?_
  refine wk_start ?_
  refine kv g0 (mv) ?_
  refine kv g0 (mv) ?_
  refine kv g0 (mv) ?_
  refine kv g0 (ixD 60 c12 (ltS (ltE c11))) ?_
  refine kv g0 (faE 3 3) ?_
  refine ks g0 (stD 4 ds60 3 1 [.lit (.int .i64 (wrap64 (t15.1 + 1)))] (.agg [.row 1, .row 2, .lit (.int .i64 t15.1), .lit (.int .i64 (wrap64 (t15.1 + 1)))]) (setXG (f := e60) (X := .agg [.row 1, .row 2, .lit (.int .i64 t15.1), .lit (.int .i64 ((rd_T60 q7 p9).f3))]) c12 c11) (setXX)) ?_
  refine wk_end ?_
  refine ac_next ?_
  refine wk_start ?_
  refine kv g0 (mv) ?_
  refine kv g0 (add6) ?_
  refine kv g0 (asg) ?_
  refine wk_end ?_
  refine ac_blkN ?_
  refine ac_next ?_
  refine wk_start ?_
  refine kv g0 (mv) ?_
  refine kv g0 (add6) ?_
  refine kv g0 (asg) ?_
  refine wk_end ?_
  refine ac_g2 (pk 0 1 0 (.agg [.sl .n 1 (t13.2.map (eI .i64)), .row 2, .lit (.int .i64 t15.1), .lit (.int .i64 (wrap64 (t15.1 + 1)))]) (setXG (f := e60) (X := .agg [.row 1, .row 2, .lit (.int .i64 t15.1), .lit (.int .i64 (wrap64 (t15.1 + 1)))]) c12 c11) (setXX) rfl) ?_
  refine ac_g2 (pk 0 2 1 (.agg [.sl .n 1 (t13.2.map (eI .i64)), .sl .n 6 (t15.2.map e92), .lit (.int .i64 t15.1), .lit (.int .i64 (wrap64 (t15.1 + 1)))]) (setXG (f := e60) (X := .agg [.sl .n 1 (t13.2.map (eI .i64)), .row 2, .lit (.int .i64 t15.1), .lit (.int .i64 (wrap64 (t15.1 + 1)))]) c12 c11) (setXX) rfl) ?_
  refine ac_g1 (sealD 0 (setSeal (f := e60) p9.toNat (⟨t13.2, t15.2, t15.1, wrap64 (t15.1 + 1)⟩ : S60)) cl60) ?_
  refine ac_k ?_
  exact acw hE [(0, 0)] 9999 (hK18 k10 (q7.set p9.toNat (⟨t13.2, t15.2, t15.1, wrap64 (t15.1 + 1)⟩ : S60)) (wrap64 ((wrap64 (t15.1 + 1)) + 1)) (wrap64 (p9 + 1)) (Nat.le_refl _) ⟨by omega, H⟩)
 rw [if_neg c11] at H
 refine aw_ifF ?_ (decide_eq_false c11)
 refine aw_exit ?_
 refine ac_then ?_
 refine ac_then ?_
 refine ac_hit rfl ?_
 refine ac_next ?_
 refine aw_grp1 ?_
 refine wk_start ?_
 refine kv g0 (mv) ?_
 refine kv g0 (asg) ?_
 refine wk_end ?_
 refine ac_next ?_
 refine aw_ret ?_
 obtain rfl := Option.some.inj H
 exact acr hE [.tmp 4] (.tmp .nil) (.one _) [(0, 0)] 9999
/-! laws_markPolicy -/
def laws_markPolicy.f (k : Nat) (a0_0 : Int) (a0_1 : Int) (a0_2 : Int) (l0_3 : List S60) (a1 : Int) : Option (Int × (List S60)) := (laws_markRuleS.f k l0_3 a1).bind fun t1 => some (t1.1, t1.2)
theorem laws_markPolicy.ok {k : Nat} {a0_0 : Int} {a0_1 : Int} {a0_2 : Int} {l0_3 : List S60} {a1 : Int} {r : Int × (List S60)} (H : laws_markPolicy.f k a0_0 a0_1 a0_2 l0_3 a1 = some r) : ACalls Try.prog 14 [(0, .drow false ds60 60 4 (l0_3.map e60))] [.agg [.lit (.int .i64 a0_0), .lit (.int .i64 a0_1), .lit (.int .i64 a0_2), .row 0], .lit (.int .i64 a1)] [(0, .drow false ds60 60 4 (r.2.map e60))] (.lit (.int .i64 r.1)) := by
 refine acalls (fn := Try.f14) (nt := 10) Try.func14 rfl rfl (Nat.le_of_ble_eq_true rfl) fun E hE => ?_
 rw [laws_markPolicy.f] at H
 refine aw_grp1 ?_
 refine wk_start ?_
 refine kb g0 (bxA 1) ?_
 refine kv g0 (asg) ?_
 refine wk_end ?_
 refine ac_next ?_
 refine aw_grp1 ?_
 refine wk_start ?_
 refine kv g0 (faB 3 3) ?_
 refine kv g0 (ldB) ?_
 refine kv g0 (mv) ?_
 obtain ⟨t1, A2, H⟩ := of_bind H
 refine kcS1 8 (.lit (.int .i64 t1.1)) [(0, .drow false ds60 60 4 (t1.2.map e60))] g0 (cal (laws_markRuleS.ok A2) [0] 9999 .n (hf := Try.func44)) rfl rfl ?_
 refine kv g0 (asg) ?_
 refine wk_end ?_
 refine ac_next ?_
 refine aw_grp1 ?_
 refine wk_start ?_
 refine kv g0 (mv) ?_
 refine kv g0 (asg) ?_
 refine wk_end ?_
 refine ac_next ?_
 refine aw_ret ?_
 obtain rfl := Option.some.inj H
 exact acr hE [.tmp 4] (.tmp .nil) (.one _) [(0, 0)] 9999
/-! laws_heldIntS -/
def laws_heldIntS.l0 : Nat → (List Int) → Int → Int → Option (Int)
 | 0, _, _, _ => none
 | k6 + 1, l0, p4, p5 => if p5 < (l0.length : Int) then if 0 ≤ p5 then if (rd l0 p5) = p4 then laws_heldIntS.l0 k6 l0 (wrap64 (p4 + 1)) (wrap64 (p5 + 1)) else some (-1) else none else some p4
def laws_heldIntS.f (k : Nat) (l0 : List Int) (a1 : Int) : Option (Int) := laws_heldIntS.l0 k l0 a1 0
theorem laws_heldIntS.ok {k : Nat} {l0 : List Int} {a1 : Int} {r : Int} (H : laws_heldIntS.f k l0 a1 = some r) : ACalls Try.prog 16 [] [.sl .o 1 (l0.map (eI .i64)), .lit (.int .i64 a1)] [] (.lit (.int .i64 r)) := by
 refine acalls (fn := Try.f16) (nt := 21) Try.func16 rfl rfl (Nat.le_of_ble_eq_true rfl) fun E hE => ?_
 rw [laws_heldIntS.f] at H
 refine aw_grp1 ?_
 refine wk_start ?_
 refine kv g0 (asg) ?_
 refine wk_end ?_
 refine ac_next ?_
 refine aw_grp1 ?_
 refine aw_grp1 ?_
 refine wk_start ?_
 refine kv g0 (asg) ?_
 refine wk_end ?_
 refine ac_next ?_
 refine aw_block ?_
 refine aw_loop2 (fun (k_ : Nat) (p4 : Int) (p5 : Int) => k_ ≤ k ∧ laws_heldIntS.l0 k_ l0 p4 p5 = some r) (fun (p4 : Int) (p5 : Int) => ⟨[(0, .sl .o 1 (l0.map (eI .i64))), (1, .lit (.int .i64 p4)), (5, .lit (.int .i64 p5))], []⟩) k a1 0 ⟨Nat.le_refl _, H⟩ (fun K_ h_ => acw hE [] 9999 h_) (fun _ _ => by intro h_; have h_ := h_.2; rw [laws_heldIntS.l0.eq_1] at h_; cases h_) ?_
 intro k6 p4 p5 hq_ K10 hK11
 have hk6 := hq_.1
 have H := hq_.2
 clear hq_
 rw [laws_heldIntS.l0.eq_2] at H
 refine aw_grp1 ?_
 refine aw_grp1 ?_
 refine wk_start ?_
 refine kv g0 (mv) ?_
 refine kv g0 (mv) ?_
 refine kv g0 (lnS lenE) ?_
 refine kv g0 (lss) ?_
 refine wk_end ?_
 refine ac_next ?_
 by_cases c7 : p5 < (l0.length : Int)
 ·rw [if_pos c7] at H
  refine aw_ifT ?_ (decide_eq_true c7)
  refine aw_skip ?_
  refine ac_next ?_
  refine aw_grp1 ?_
  refine aw_block ?_
  refine aw_grp1 ?_
  refine aw_grp1 ?_
  refine wk_start ?_
  refine kv g0 (mv) ?_
  refine kv g0 (mv) ?_
  obtain ⟨c8, H⟩ := of_if H
  refine kv g0 (ixS 3 (eI .i64 (rd l0 p5)) c8 (getE (z := (0 : Int)) c8 c7)) ?_
  refine kv g0 (ldR (.lit (.int .i64 (rd l0 p5)))) ?_
  refine kv g0 (mv) ?_
  refine kv g0 (neq) ?_
  refine wk_end ?_
  refine ac_next ?_
  by_cases c9 : (rd l0 p5) = p4
  ·rw [if_pos c9] at H
   refine aw_ifF ?_ (eM c9)
   refine aw_skip ?_
   refine ac_next ?_
   refine wk_start ?_
   refine kv g0 (mv) ?_
   refine kv g0 (add6) ?_
   refine kv g0 (asg) ?_
   refine wk_end ?_
   refine ac_blkN ?_
   refine ac_next ?_
   refine wk_start ?_
   refine kv g0 (mv) ?_
   refine kv g0 (add6) ?_
   refine kv g0 (asg) ?_
   refine wk_end ?_
   refine ac_k ?_
   exact acw hE [] 9999 (hK11 k6 (wrap64 (p4 + 1)) (wrap64 (p5 + 1)) (Nat.le_refl _) ⟨by omega, H⟩)
  rw [if_neg c9] at H
  refine aw_ifT ?_ (eN c9)
  refine aw_grp1 ?_
  refine wk_start ?_
  refine kv g0 (asg) ?_
  refine wk_end ?_
  refine ac_next ?_
  refine aw_ret ?_
  refine ac_thenR ?_
  refine ac_blkR ?_
  refine ac_thenR ?_
  refine ac_thenR ?_
  refine ac_blkR ?_
  refine ac_thenR ?_
  obtain rfl := Option.some.inj H
  exact acr hE [.tmp 4] (.tmp .nil) (.one _) [] 9999
 rw [if_neg c7] at H
 refine aw_ifF ?_ (decide_eq_false c7)
 refine aw_exit ?_
 refine ac_then ?_
 refine ac_then ?_
 refine ac_hit rfl ?_
 refine ac_next ?_
 refine aw_grp1 ?_
 refine wk_start ?_
 refine kv g0 (mv) ?_
 refine kv g0 (asg) ?_
 refine wk_end ?_
 refine ac_next ?_
 refine aw_ret ?_
 obtain rfl := Option.some.inj H
 exact acr hE [.tmp 4] (.tmp .nil) (.one _) [] 9999
end Go.Proofs.Ythgmgbccgokfeaa.PFnExactLessened
