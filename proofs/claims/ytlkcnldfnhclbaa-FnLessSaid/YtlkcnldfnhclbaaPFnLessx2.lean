import Derived.Test.YtlkcnldfnhclbaaPFnLessx1
set_option linter.unusedVariables false
set_option linter.unusedSimpArgs false
set_option maxRecDepth 100000
namespace Go.Proofs.Ytlkcnldfnhclbaa.PFnLess
open Go Go.RowKit Go.Proofs.YtlkcnldfnhclbaaA
/-! spec_CondHolds -/
def spec_CondHolds.f (k : Nat) (a0_0 : Int) (a0_1 : Int) (a0_2 : Int) (a0_3 : Int) (a0_4 : Int) (a0_5 : Int) (a1_0 : Int) (a1_1 : Int) (l1_2 : List S69) : Option (Bool) := (spec_CondOk.f a0_0 a0_1 a0_2 a0_3 a0_4 a0_5).bind fun t1 => (if t1 = true then ((spec_CallOk.f k a1_0 a1_1 l1_2).bind fun t4 => if t4 = true then if 0 ≤ a0_0 then (if a0_0 < (l1_2.length : Int) then ((spec_WideAnd.f ((rd_T69 l1_2 a0_0).f0) ((rd_T69 l1_2 a0_0).f1) a0_1 a0_2).bind fun t9 => ((spec_WideCmp.f t9.1 t9.2 a0_4 a0_5).bind fun t11 => if a0_3 = 1 then some (t11 == 0) else if a0_3 = 2 then some (t11 != 0) else if a0_3 = 3 then some (decide (t11 < 0)) else if a0_3 = 4 then some (decide (t11 ≤ 0)) else if a0_3 = 5 then some (decide (t11 > 0)) else some (decide (t11 ≥ 0)))) else none) else none else some false) else some false)
theorem spec_CondHolds.ok {k : Nat} {a0_0 : Int} {a0_1 : Int} {a0_2 : Int} {a0_3 : Int} {a0_4 : Int} {a0_5 : Int} {a1_0 : Int} {a1_1 : Int} {l1_2 : List S69} {r : Bool} (H : spec_CondHolds.f k a0_0 a0_1 a0_2 a0_3 a0_4 a0_5 a1_0 a1_1 l1_2 = some r) : ACalls Try.prog 63 [] [.agg [.lit (.int .i64 a0_0), .lit (.int .i64 a0_1), .lit (.int .i64 a0_2), .lit (.int .i64 a0_3), .lit (.int .i64 a0_4), .lit (.int .i64 a0_5)], .agg [.lit (.int .i64 a1_0), .lit (.int .i64 a1_1), .sl .o 2 (l1_2.map e69)]] [] (.lit (.bool r)) := by
 refine acalls (fn := Try.f63) (nt := 50) Try.func63 rfl rfl (Nat.le_of_ble_eq_true rfl) fun E hE => ?_
 rw [spec_CondHolds.f] at H
 refine aw_grp1 ?_
 refine wk_start ?_
 refine kb g0 (bxA 0) ?_
 refine kb g0 (bxA 1) ?_
 refine kv g0 (asg) ?_
 refine wk_end ?_
 refine ac_next ?_
 refine aw_grp1 ?_
 refine aw_grp1 ?_
 refine wk_start ?_
 refine kv g0 (ldBA 6 [.lit (.int .i64 a0_0), .lit (.int .i64 a0_1), .lit (.int .i64 a0_2), .lit (.int .i64 a0_3), .lit (.int .i64 a0_4), .lit (.int .i64 a0_5)]) ?_
 obtain ⟨t1, A2, H⟩ := of_bind H
 refine kcS0 7 (.lit (.bool t1)) [] g0 (cal (spec_CondOk.ok A2) [] 9999 .n (hf := Try.func72)) rfl rfl ?_
 refine kv g0 (not_) ?_
 refine kv g0 (mv) ?_
 by_cases c3 : t1 = true
 ·rw [if_pos c3] at H
  refine kv (g1 (nF c3)) (ldBA 3 [.lit (.int .i64 a1_0), .lit (.int .i64 a1_1), .sl .o 2 (l1_2.map e69)]) ?_
  obtain ⟨t4, A5, H⟩ := of_bind H
  refine kcS0 11 (.lit (.bool t4)) [] (g1 (nF c3)) (cal (spec_CallOk.ok A5) [] 9999 .n (hf := Try.func35)) rfl rfl ?_
  refine kv (g1 (nF c3)) (not_) ?_
  refine kv g0 (pkF (nF c3)) ?_
  refine wk_end ?_
  refine ac_next ?_
  by_cases c6 : t4 = true
  ·rw [if_pos c6] at H
   refine aw_ifF ?_ (nF c6)
   refine aw_skip ?_
   refine ac_next ?_
   refine aw_grp1 ?_
   refine wk_start ?_
   refine kv g0 (faB 2 2) ?_
   refine kv g0 (ldB) ?_
   refine kv g0 (faB 0 0) ?_
   refine kv g0 (ldB) ?_
   obtain ⟨c7, H⟩ := of_if H
   obtain ⟨c8, H⟩ := of_if H
   refine kv g0 (ixS 69 (e69 (rd_T69 l1_2 a0_0)) c7 (getE (z := z69) c7 c8)) ?_
   refine kv g0 (ldRA 2 [.lit (.int .i64 ((rd_T69 l1_2 a0_0).f0)), .lit (.int .i64 ((rd_T69 l1_2 a0_0).f1))]) ?_
   refine kv g0 (faB 1 1) ?_
   refine kv g0 (ldBA 2 [.lit (.int .i64 a0_1), .lit (.int .i64 a0_2)]) ?_
   obtain ⟨t9, A10, H⟩ := of_bind H
   refine kcS0 22 (.agg [.lit (.int .i64 t9.1), .lit (.int .i64 t9.2)]) [] g0 (cal (spec_WideAnd.ok A10) [] 9999 .n (hf := Try.func82)) rfl rfl ?_
   refine kv g0 (faB 4 4) ?_
   refine kv g0 (ldBA 2 [.lit (.int .i64 a0_4), .lit (.int .i64 a0_5)]) ?_
   obtain ⟨t11, A12, H⟩ := of_bind H
   refine kcS0 25 (.lit (.int .i64 t11)) [] g0 (cal (spec_WideCmp.ok A12) [] 9999 .n (hf := Try.func81)) rfl rfl ?_
   refine kv g0 (asg) ?_
   refine wk_end_draw hM (by kernel_rfl) ?_
   refine ac_next ?_
   refine aw_grp1 ?_
   refine aw_grp1 ?_
   refine wk_start ?_
   refine kv g0 (faB 3 3) ?_
   refine kv g0 (ldB) ?_
   refine wk_end ?_
   refine ac_next ?_
   refine aw_block ?_
   refine aw_grp1 ?_
   refine wk_start ?_
   refine kv g0 (eql) ?_
   refine kv g0 (asg) ?_
   refine wk_end ?_
   refine ac_next ?_
   by_cases c13 : a0_3 = 1
   ·rw [if_pos c13] at H
    refine aw_ifT ?_ (eT c13)
    refine aw_grp1 ?_
    refine wk_start ?_
    refine kv g0 (mv) ?_
    refine kv g0 (eql) ?_
    refine kv g0 (asg) ?_
    refine wk_end ?_
    refine ac_next ?_
    refine aw_ret ?_
    refine ac_blkR ?_
    refine ac_thenR ?_
    obtain rfl := Option.some.inj H
    exact acr hE [.tmp 4] (.tmp .nil) (.one _) [] 9999
   rw [if_neg c13] at H
   refine aw_ifF ?_ (eF c13)
   refine aw_grp1 ?_
   refine wk_start ?_
   refine kv g0 (eql) ?_
   refine kv g0 (asg) ?_
   refine wk_end ?_
   refine ac_next ?_
   by_cases c14 : a0_3 = 2
   ·rw [if_pos c14] at H
    refine aw_ifT ?_ (eT c14)
    refine aw_grp1 ?_
    refine wk_start ?_
    refine kv g0 (mv) ?_
    refine kv g0 (neq) ?_
    refine kv g0 (asg) ?_
    refine wk_end ?_
    refine ac_next ?_
    refine aw_ret ?_
    refine ac_blkR ?_
    refine ac_thenR ?_
    obtain rfl := Option.some.inj H
    exact acr hE [.tmp 4] (.tmp .nil) (.one _) [] 9999
   rw [if_neg c14] at H
   refine aw_ifF ?_ (eF c14)
   refine aw_grp1 ?_
   refine wk_start ?_
   refine kv g0 (eql) ?_
   refine kv g0 (asg) ?_
   refine wk_end ?_
   refine ac_next ?_
   by_cases c15 : a0_3 = 3
   ·rw [if_pos c15] at H
    refine aw_ifT ?_ (eT c15)
    refine aw_grp1 ?_
    refine wk_start ?_
    refine kv g0 (mv) ?_
    refine kv g0 (lss) ?_
    refine kv g0 (asg) ?_
    refine wk_end ?_
    refine ac_next ?_
    refine aw_ret ?_
    refine ac_blkR ?_
    refine ac_thenR ?_
    obtain rfl := Option.some.inj H
    exact acr hE [.tmp 4] (.tmp .nil) (.one _) [] 9999
   rw [if_neg c15] at H
   refine aw_ifF ?_ (eF c15)
   refine aw_grp1 ?_
   refine wk_start ?_
   refine kv g0 (eql) ?_
   refine kv g0 (asg) ?_
   refine wk_end ?_
   refine ac_next ?_
   by_cases c16 : a0_3 = 4
   ·rw [if_pos c16] at H
    refine aw_ifT ?_ (eT c16)
    refine aw_grp1 ?_
    refine wk_start ?_
    refine kv g0 (mv) ?_
    refine kv g0 (leq) ?_
    refine kv g0 (asg) ?_
    refine wk_end ?_
    refine ac_next ?_
    refine aw_ret ?_
    refine ac_blkR ?_
    refine ac_thenR ?_
    obtain rfl := Option.some.inj H
    exact acr hE [.tmp 4] (.tmp .nil) (.one _) [] 9999
   rw [if_neg c16] at H
   refine aw_ifF ?_ (eF c16)
   refine aw_grp1 ?_
   refine wk_start ?_
   refine kv g0 (eql) ?_
   refine kv g0 (asg) ?_
   refine wk_end ?_
   refine ac_next ?_
   by_cases c17 : a0_3 = 5
   ·rw [if_pos c17] at H
    refine aw_ifT ?_ (eT c17)
    refine aw_grp1 ?_
    refine wk_start ?_
    refine kv g0 (mv) ?_
    refine kv g0 (gtr) ?_
    refine kv g0 (asg) ?_
    refine wk_end ?_
    refine ac_next ?_
    refine aw_ret ?_
    refine ac_blkR ?_
    refine ac_thenR ?_
    obtain rfl := Option.some.inj H
    exact acr hE [.tmp 4] (.tmp .nil) (.one _) [] 9999
   rw [if_neg c17] at H
   refine aw_ifF ?_ (eF c17)
   refine aw_skip ?_
   refine ac_blkN ?_
   refine ac_next ?_
   refine aw_grp1 ?_
   refine wk_start ?_
   refine kv g0 (mv) ?_
   refine kv g0 (geq) ?_
   refine kv g0 (asg) ?_
   refine wk_end ?_
   refine ac_next ?_
   refine aw_ret ?_
   obtain rfl := Option.some.inj H
   exact acr hE [.tmp 4] (.tmp .nil) (.one _) [] 9999
  rw [if_neg c6] at H
  refine aw_ifT ?_ (nT (bF c6))
  refine aw_grp1 ?_
  refine wk_start ?_
  refine kv g0 (asg) ?_
  refine wk_end ?_
  refine ac_next ?_
  refine aw_ret ?_
  refine ac_thenR ?_
  obtain rfl := Option.some.inj H
  exact acr hE [.tmp 4] (.tmp .nil) (.one _) [] 9999
 rw [if_neg c3] at H
 refine kx (hF (nT (bF c3))) ?_
 refine kx (hF (nT (bF c3))) ?_
 refine kx (hF (nT (bF c3))) ?_
 refine kv g0 (pkT (nT (bF c3))) ?_
 refine wk_end ?_
 refine ac_next ?_
 refine aw_ifT ?_ rfl
 refine aw_grp1 ?_
 refine wk_start ?_
 refine kv g0 (asg) ?_
 refine wk_end ?_
 refine ac_next ?_
 refine aw_ret ?_
 refine ac_thenR ?_
 obtain rfl := Option.some.inj H
 exact acr hE [.tmp 4] (.tmp .nil) (.one _) [] 9999
/-! spec_RuleHolds -/
mutual
def spec_RuleHolds.l0 : Nat → (List Int) → (List S71) → Int → Int → Int → Int → (List S69) → Int → Option (Bool)
 | 0, _, _, _, _, _, _, _, _ => none
 | k12 + 1, l0_0, l0_1, a0_2, a0_3, a1_0, a1_1, l1_2, p11 => if p11 < (l0_1.length : Int) then if 0 ≤ p11 then ((spec_CondHolds.f k12 ((rd_T71 l0_1 p11).f0) ((rd_T71 l0_1 p11).f1.f0) ((rd_T71 l0_1 p11).f1.f1) ((rd_T71 l0_1 p11).f2) ((rd_T71 l0_1 p11).f3.f0) ((rd_T71 l0_1 p11).f3.f1) a1_0 a1_1 l1_2).bind fun t15 => if t15 = true then spec_RuleHolds.l0 k12 l0_0 l0_1 a0_2 a0_3 a1_0 a1_1 l1_2 (wrap64 (p11 + 1)) else some false) else none else some true
def spec_RuleHolds.j0 : Nat → (List Int) → (List S71) → Int → Int → Int → Int → (List S69) → Option (Bool)
 | 0, _, _, _, _, _, _, _ => none
 | k5 + 1, l0_0, l0_1, a0_2, a0_3, a1_0, a1_1, l1_2 => spec_RuleHolds.l0 k5 l0_0 l0_1 a0_2 a0_3 a1_0 a1_1 l1_2 0
end
def spec_RuleHolds.f (k : Nat) (l0_0 : List Int) (l0_1 : List S71) (a0_2 : Int) (a0_3 : Int) (a1_0 : Int) (a1_1 : Int) (l1_2 : List S69) : Option (Bool) := if (l0_0.length : Int) > 0 then ((spec_l09In.f k l0_0 a1_1).bind fun t2 => if t2 = true then spec_RuleHolds.j0 k l0_0 l0_1 a0_2 a0_3 a1_0 a1_1 l1_2 else some false) else spec_RuleHolds.j0 k l0_0 l0_1 a0_2 a0_3 a1_0 a1_1 l1_2
theorem spec_RuleHolds.ok {k : Nat} {l0_0 : List Int} {l0_1 : List S71} {a0_2 : Int} {a0_3 : Int} {a1_0 : Int} {a1_1 : Int} {l1_2 : List S69} {r : Bool} (H : spec_RuleHolds.f k l0_0 l0_1 a0_2 a0_3 a1_0 a1_1 l1_2 = some r) : ACalls Try.prog 36 [] [.agg [.sl .o 1 (l0_0.map (eI .i64)), .sl .o 6 (l0_1.map e71), .lit (.int .i64 a0_2), .lit (.int .i64 a0_3)], .agg [.lit (.int .i64 a1_0), .lit (.int .i64 a1_1), .sl .o 2 (l1_2.map e69)]] [] (.lit (.bool r)) := by
 refine acalls (fn := Try.f36) (nt := 33) Try.func36 rfl rfl (Nat.le_of_ble_eq_true rfl) fun E hE => ?_
 rw [spec_RuleHolds.f] at H
 refine aw_grp1 ?_
 refine wk_start ?_
 refine kb g0 (bxA 0) ?_
 refine kb g0 (bxA 1) ?_
 refine kv g0 (asg) ?_
 refine wk_end ?_
 refine ac_next ?_
 refine aw_cut1 (J := fun K_ => ∀ (k_ : Nat), k_ ≤ k → spec_RuleHolds.j0 k_ l0_0 l0_1 a0_2 a0_3 a1_0 a1_1 l1_2  = some r → ACont E 33 ⟨[(2, .box 0 0), (3, .box 1 0)], [(0, .box 59 [.sl .o 1 (l0_0.map (eI .i64)), .sl .o 6 (l0_1.map e71), .lit (.int .i64 a0_2), .lit (.int .i64 a0_3)]), (1, .box 29 [.lit (.int .i64 a1_0), .lit (.int .i64 a1_1), .sl .o 2 (l1_2.map e69)])]⟩ K_) ?_ ?_
 ·intro K_ hJ20
  refine aw_grp1 ?_
  refine wk_start ?_
  refine kv g0 (faB 0 0) ?_
  refine kv g0 (ldB) ?_
  refine kv g0 (lnS lenE) ?_
  refine kv g0 (gtr) ?_
  refine kv g0 (mv) ?_
  by_cases c1 : (l0_0.length : Int) > 0
  ·rw [if_pos c1] at H
   refine kv (g1 (decide_eq_true c1)) (faB 0 0) ?_
   refine kv (g1 (decide_eq_true c1)) (ldB) ?_
   refine kv (g1 (decide_eq_true c1)) (faB 1 1) ?_
   refine kv (g1 (decide_eq_true c1)) (ldB) ?_
   obtain ⟨t2, A3, H⟩ := of_bind H
   refine kcS0 15 (.lit (.bool t2)) [] (g1 (decide_eq_true c1)) (cal (spec_l09In.ok A3) [] 9999 .n (hf := Try.func56)) rfl rfl ?_
   refine kv (g1 (decide_eq_true c1)) (not_) ?_
   refine kv g0 (pkT (decide_eq_true c1)) ?_
   refine wk_end ?_
   refine ac_next ?_
   by_cases c4 : t2 = true
   ·rw [if_pos c4] at H
    refine aw_ifF ?_ (nF c4)
    refine aw_skip ?_
    refine ac_k ?_
    exact acw hE [(0, 0), (1, 1)] 9999 (hJ20 k (Nat.le_refl _) H)
   rw [if_neg c4] at H
   refine aw_ifT ?_ (nT (bF c4))
   refine aw_grp1 ?_
   refine wk_start ?_
   refine kv g0 (asg) ?_
   refine wk_end ?_
   refine ac_next ?_
   refine aw_ret ?_
   refine ac_thenR ?_
   obtain rfl := Option.some.inj H
   exact acr hE [.tmp 4] (.tmp .nil) (.one _) [] 9999
  rw [if_neg c1] at H
  refine kx (hT (decide_eq_false c1)) ?_
  refine kx (hT (decide_eq_false c1)) ?_
  refine kx (hT (decide_eq_false c1)) ?_
  refine kx (hT (decide_eq_false c1)) ?_
  refine kx (hT (decide_eq_false c1)) ?_
  refine kx (hT (decide_eq_false c1)) ?_
  refine kv g0 (pkF (decide_eq_false c1)) ?_
  refine wk_end ?_
  refine ac_next ?_
  refine aw_ifF ?_ rfl
  refine aw_skip ?_
  refine ac_k ?_
  exact acw hE [(0, 0), (1, 1)] 9999 (hJ20 k (Nat.le_refl _) H)
 intro k_  hk_ H
 rcases k_ with _ | k5
 ·rw [spec_RuleHolds.j0.eq_1] at H; cases H
 have hk5 : k5 ≤ k := by omega
 clear hk_
 rw [spec_RuleHolds.j0.eq_2] at H
 refine aw_grp1 ?_
 refine aw_grp1 ?_
 refine wk_start ?_
 refine kv g0 (asg) ?_
 refine wk_end ?_
 refine ac_next ?_
 refine aw_block ?_
 refine aw_loop1 (fun (k_ : Nat) (p11 : Int) => k_ ≤ k5 ∧ spec_RuleHolds.l0 k_ l0_0 l0_1 a0_2 a0_3 a1_0 a1_1 l1_2 p11 = some r) (fun (p11 : Int) => ⟨[(2, .box 0 0), (3, .box 1 0), (5, .lit (.int .i64 p11))], [(0, .box 59 [.sl .o 1 (l0_0.map (eI .i64)), .sl .o 6 (l0_1.map e71), .lit (.int .i64 a0_2), .lit (.int .i64 a0_3)]), (1, .box 29 [.lit (.int .i64 a1_0), .lit (.int .i64 a1_1), .sl .o 2 (l1_2.map e69)])]⟩) k5 0 ⟨Nat.le_refl _, H⟩ (fun K_ h_ => acw hE [(0, 0), (1, 1)] 9999 h_) (fun _ => by intro h_; have h_ := h_.2; rw [spec_RuleHolds.l0.eq_1] at h_; cases h_) ?_
 intro k12 p11 hq_ K18 hK19
 have hk12 := hq_.1
 have H := hq_.2
 clear hq_
 rw [spec_RuleHolds.l0.eq_2] at H
 refine aw_grp1 ?_
 refine aw_grp1 ?_
 refine wk_start ?_
 refine kv g0 (mv) ?_
 refine kv g0 (faB 1 1) ?_
 refine kv g0 (ldB) ?_
 refine kv g0 (lnS lenE) ?_
 refine kv g0 (lss) ?_
 refine wk_end ?_
 refine ac_next ?_
 by_cases c13 : p11 < (l0_1.length : Int)
 ·rw [if_pos c13] at H
  refine aw_ifT ?_ (decide_eq_true c13)
  refine aw_skip ?_
  refine ac_next ?_
  refine aw_grp1 ?_
  refine aw_block ?_
  refine aw_grp1 ?_
  refine wk_start ?_
  refine kv g0 (faB 1 1) ?_
  refine kv g0 (ldB) ?_
  refine kv g0 (mv) ?_
  obtain ⟨c14, H⟩ := of_if H
  refine kv g0 (ixS 71 (e71 (rd_T71 l0_1 p11)) c14 (getE (z := z71) c14 c13)) ?_
  refine kv g0 (ldRA 6 [.lit (.int .i64 ((rd_T71 l0_1 p11).f0)), .lit (.int .i64 ((rd_T71 l0_1 p11).f1.f0)), .lit (.int .i64 ((rd_T71 l0_1 p11).f1.f1)), .lit (.int .i64 ((rd_T71 l0_1 p11).f2)), .lit (.int .i64 ((rd_T71 l0_1 p11).f3.f0)), .lit (.int .i64 ((rd_T71 l0_1 p11).f3.f1))]) ?_
  refine kv g0 (ldBA 3 [.lit (.int .i64 a1_0), .lit (.int .i64 a1_1), .sl .o 2 (l1_2.map e69)]) ?_
  obtain ⟨t15, A16, H⟩ := of_bind H
  refine kcS0 31 (.lit (.bool t15)) [] g0 (cal (spec_CondHolds.ok A16) [] 9999 .n (hf := Try.func63)) rfl rfl ?_
  refine kv g0 (not_) ?_
  refine wk_end_draw hM (by kernel_rfl) ?_
  refine ac_next ?_
  by_cases c17 : t15 = true
  ·rw [if_pos c17] at H
   refine aw_ifF ?_ (nF c17)
   refine aw_skip ?_
   refine ac_blkN ?_
   refine ac_next ?_
   refine wk_start ?_
   refine kv g0 (mv) ?_
   refine kv g0 (add6) ?_
   refine kv g0 (asg) ?_
   refine wk_end ?_
   refine ac_k ?_
   exact acw hE [(0, 0), (1, 1)] 9999 (hK19 k12 (wrap64 (p11 + 1)) (Nat.le_refl _) ⟨by omega, H⟩)
  rw [if_neg c17] at H
  refine aw_ifT ?_ (nT (bF c17))
  refine aw_grp1 ?_
  refine wk_start ?_
  refine kv g0 (asg) ?_
  refine wk_end ?_
  refine ac_next ?_
  refine aw_ret ?_
  refine ac_blkR ?_
  refine ac_thenR ?_
  refine ac_thenR ?_
  refine ac_blkR ?_
  refine ac_thenR ?_
  obtain rfl := Option.some.inj H
  exact acr hE [.tmp 4] (.tmp .nil) (.one _) [] 9999
 rw [if_neg c13] at H
 refine aw_ifF ?_ (decide_eq_false c13)
 refine aw_exit ?_
 refine ac_then ?_
 refine ac_then ?_
 refine ac_hit rfl ?_
 refine ac_next ?_
 refine aw_grp1 ?_
 refine wk_start ?_
 refine kv g0 (asg) ?_
 refine wk_end ?_
 refine ac_next ?_
 refine aw_ret ?_
 obtain rfl := Option.some.inj H
 exact acr hE [.tmp 4] (.tmp .nil) (.one _) [] 9999
/-! spec_ResultOf -/
def spec_ResultOf.f (a0 : Int) (a1 : Int) : Option (Int) := (spec_l01In.f a0 0 5).bind fun t1 => (if t1 = true then ((spec_l01In.f a1 0 65535).bind fun t4 => if t4 = true then some (wrap64 ((wrap64 (65536 * a0)) + a1)) else some 0) else some 0)
theorem spec_ResultOf.ok {a0 : Int} {a1 : Int} {r : Int} (H : spec_ResultOf.f a0 a1 = some r) : ACalls Try.prog 37 [] [.lit (.int .i64 a0), .lit (.int .i64 a1)] [] (.lit (.int .i64 r)) := by
 refine acalls (fn := Try.f37) (nt := 17) Try.func37 rfl rfl (Nat.le_of_ble_eq_true rfl) fun E hE => ?_
 rw [spec_ResultOf.f] at H
 refine aw_grp1 ?_
 refine wk_start ?_
 refine kv g0 (asg) ?_
 refine wk_end ?_
 refine ac_next ?_
 refine aw_grp1 ?_
 refine aw_grp1 ?_
 refine wk_start ?_
 refine kv g0 (mv) ?_
 obtain ⟨t1, A2, H⟩ := of_bind H
 refine kcS0 6 (.lit (.bool t1)) [] g0 (cal (spec_l01In.ok A2) [] 9999 .n (hf := Try.func64)) rfl rfl ?_
 refine kv g0 (not_) ?_
 refine kv g0 (mv) ?_
 by_cases c3 : t1 = true
 ·rw [if_pos c3] at H
  refine kv (g1 (nF c3)) (mv) ?_
  obtain ⟨t4, A5, H⟩ := of_bind H
  refine kcS0 10 (.lit (.bool t4)) [] (g1 (nF c3)) (cal (spec_l01In.ok A5) [] 9999 .n (hf := Try.func64)) rfl rfl ?_
  refine kv (g1 (nF c3)) (not_) ?_
  refine kv g0 (pkF (nF c3)) ?_
  refine wk_end ?_
  refine ac_next ?_
  by_cases c6 : t4 = true
  ·rw [if_pos c6] at H
   refine aw_ifF ?_ (nF c6)
   refine aw_skip ?_
   refine ac_next ?_
   refine aw_grp1 ?_
   refine wk_start ?_
   refine kv g0 (mv) ?_
   refine kv g0 (mul6) ?_
   refine kv g0 (mv) ?_
   refine kv g0 (add6) ?_
   refine kv g0 (asg) ?_
   refine wk_end ?_
   refine ac_next ?_
   refine aw_ret ?_
   obtain rfl := Option.some.inj H
   exact acr hE [.tmp 4] (.tmp .nil) (.one _) [] 9999
  rw [if_neg c6] at H
  refine aw_ifT ?_ (nT (bF c6))
  refine aw_grp1 ?_
  refine wk_start ?_
  refine kv g0 (asg) ?_
  refine wk_end ?_
  refine ac_next ?_
  refine aw_ret ?_
  refine ac_thenR ?_
  obtain rfl := Option.some.inj H
  exact acr hE [.tmp 4] (.tmp .nil) (.one _) [] 9999
 rw [if_neg c3] at H
 refine kx (hF (nT (bF c3))) ?_
 refine kx (hF (nT (bF c3))) ?_
 refine kx (hF (nT (bF c3))) ?_
 refine kv g0 (pkT (nT (bF c3))) ?_
 refine wk_end ?_
 refine ac_next ?_
 refine aw_ifT ?_ rfl
 refine aw_grp1 ?_
 refine wk_start ?_
 refine kv g0 (asg) ?_
 refine wk_end ?_
 refine ac_next ?_
 refine aw_ret ?_
 refine ac_thenR ?_
 obtain rfl := Option.some.inj H
 exact acr hE [.tmp 4] (.tmp .nil) (.one _) [] 9999
/-! spec_Decide -/
def spec_Decide.l0 : Nat → Int → Int → Int → (List S59) → Int → Int → (List S69) → Int → Option (Int)
 | 0, _, _, _, _, _, _, _, _ => none
 | k16 + 1, a0_0, a0_1, a0_2, l0_3, a1_0, a1_1, l1_2, p15 => if p15 < (l0_3.length : Int) then if 0 ≤ p15 then ((spec_RuleHolds.f k16 ((rd_T59 l0_3 p15).f0) ((rd_T59 l0_3 p15).f1) ((rd_T59 l0_3 p15).f2) ((rd_T59 l0_3 p15).f3) a1_0 a1_1 l1_2).bind fun t19 => if t19 = true then ((spec_ResultOf.f ((rd_T59 l0_3 p15).f2) ((rd_T59 l0_3 p15).f3)).bind fun t22 => some t22) else spec_Decide.l0 k16 a0_0 a0_1 a0_2 l0_3 a1_0 a1_1 l1_2 (wrap64 (p15 + 1))) else none else (spec_ResultOf.f a0_1 a0_2).bind fun t26 => some t26
def spec_Decide.f (k : Nat) (a0_0 : Int) (a0_1 : Int) (a0_2 : Int) (l0_3 : List S59) (a1_0 : Int) (a1_1 : Int) (l1_2 : List S69) : Option (Int) := (spec_PolicyOk.f k a0_0 a0_1 a0_2 l0_3).bind fun t1 => (if t1 = true then ((spec_CallOk.f k a1_0 a1_1 l1_2).bind fun t4 => (if t4 = true then if a1_0 = a0_0 then spec_Decide.l0 k a0_0 a0_1 a0_2 l0_3 a1_0 a1_1 l1_2 0 else some 0 else some 0)) else some 0)
theorem spec_Decide.ok {k : Nat} {a0_0 : Int} {a0_1 : Int} {a0_2 : Int} {l0_3 : List S59} {a1_0 : Int} {a1_1 : Int} {l1_2 : List S69} {r : Int} (H : spec_Decide.f k a0_0 a0_1 a0_2 l0_3 a1_0 a1_1 l1_2 = some r) : ACalls Try.prog 10 [] [.agg [.lit (.int .i64 a0_0), .lit (.int .i64 a0_1), .lit (.int .i64 a0_2), .sl .o 4 (l0_3.map e59)], .agg [.lit (.int .i64 a1_0), .lit (.int .i64 a1_1), .sl .o 2 (l1_2.map e69)]] [] (.lit (.int .i64 r)) := by
 refine acalls (fn := Try.f10) (nt := 53) Try.func10 rfl rfl (Nat.le_of_ble_eq_true rfl) fun E hE => ?_
 rw [spec_Decide.f] at H
 refine aw_grp1 ?_
 refine wk_start ?_
 refine kb g0 (bxA 0) ?_
 refine kb g0 (bxA 1) ?_
 refine kv g0 (asg) ?_
 refine wk_end ?_
 refine ac_next ?_
 refine aw_grp1 ?_
 refine aw_grp1 ?_
 refine wk_start ?_
 refine kv g0 (ldBA 4 [.lit (.int .i64 a0_0), .lit (.int .i64 a0_1), .lit (.int .i64 a0_2), .sl .o 4 (l0_3.map e59)]) ?_
 obtain ⟨t1, A2, H⟩ := of_bind H
 refine kcS0 7 (.lit (.bool t1)) [] g0 (cal (spec_PolicyOk.ok A2) [] 9999 .n (hf := Try.func15)) rfl rfl ?_
 refine kv g0 (not_) ?_
 refine kv g0 (mv) ?_
 by_cases c3 : t1 = true
 ·rw [if_pos c3] at H
  refine kv (g1 (nF c3)) (ldBA 3 [.lit (.int .i64 a1_0), .lit (.int .i64 a1_1), .sl .o 2 (l1_2.map e69)]) ?_
  obtain ⟨t4, A5, H⟩ := of_bind H
  refine kcS0 11 (.lit (.bool t4)) [] (g1 (nF c3)) (cal (spec_CallOk.ok A5) [] 9999 .n (hf := Try.func35)) rfl rfl ?_
  refine kv (g1 (nF c3)) (not_) ?_
  refine kv g0 (pkF (nF c3)) ?_
  refine kv g0 (mv) ?_
  by_cases c6 : t4 = true
  ·rw [if_pos c6] at H
   refine kv (g1 (nF c6)) (faB 0 0) ?_
   refine kv (g1 (nF c6)) (ldB) ?_
   refine kv (g1 (nF c6)) (faB 0 0) ?_
   refine kv (g1 (nF c6)) (ldB) ?_
   refine kv (g1 (nF c6)) (neq) ?_
   refine kv g0 (pkF (nF c6)) ?_
   refine wk_end ?_
   refine ac_next ?_
   by_cases c7 : a1_0 = a0_0
   ·rw [if_pos c7] at H
    refine aw_ifF ?_ (eM c7)
    refine aw_skip ?_
    refine ac_next ?_
    refine aw_grp1 ?_
    refine aw_grp1 ?_
    refine wk_start ?_
    refine kv g0 (asg) ?_
    refine wk_end ?_
    refine ac_next ?_
    refine aw_block ?_
    refine aw_loop1 (fun (k_ : Nat) (p15 : Int) => k_ ≤ k ∧ spec_Decide.l0 k_ a0_0 a0_1 a0_2 l0_3 a1_0 a1_1 l1_2 p15 = some r) (fun (p15 : Int) => ⟨[(2, .box 0 0), (3, .box 1 0), (5, .lit (.int .i64 p15))], [(0, .box 26 [.lit (.int .i64 a0_0), .lit (.int .i64 a0_1), .lit (.int .i64 a0_2), .sl .o 4 (l0_3.map e59)]), (1, .box 29 [.lit (.int .i64 a1_0), .lit (.int .i64 a1_1), .sl .o 2 (l1_2.map e69)])]⟩) k 0 ⟨Nat.le_refl _, H⟩ (fun K_ h_ => acw hE [(0, 0), (1, 1)] 9999 h_) (fun _ => by intro h_; have h_ := h_.2; rw [spec_Decide.l0.eq_1] at h_; cases h_) ?_
    intro k16 p15 hq_ K24 hK25
    have hk16 := hq_.1
    have H := hq_.2
    clear hq_
    rw [spec_Decide.l0.eq_2] at H
    refine aw_grp1 ?_
    refine aw_grp1 ?_
    refine wk_start ?_
    refine kv g0 (mv) ?_
    refine kv g0 (faB 3 3) ?_
    refine kv g0 (ldB) ?_
    refine kv g0 (lnS lenE) ?_
    refine kv g0 (lss) ?_
    refine wk_end ?_
    refine ac_next ?_
    by_cases c17 : p15 < (l0_3.length : Int)
    ·rw [if_pos c17] at H
     refine aw_ifT ?_ (decide_eq_true c17)
     refine aw_skip ?_
     refine ac_next ?_
     refine aw_grp1 ?_
     refine aw_block ?_
     refine aw_grp1 ?_
     refine wk_start ?_
     refine kv g0 (faB 3 3) ?_
     refine kv g0 (ldB) ?_
     refine kv g0 (mv) ?_
     obtain ⟨c18, H⟩ := of_if H
     refine kv g0 (ixS 59 (e59 (rd_T59 l0_3 p15)) c18 (getE (z := z59) c18 c17)) ?_
     refine kv g0 (ldRA 4 [.sl .o 1 (((rd_T59 l0_3 p15).f0).map (eI .i64)), .sl .o 6 (((rd_T59 l0_3 p15).f1).map e71), .lit (.int .i64 ((rd_T59 l0_3 p15).f2)), .lit (.int .i64 ((rd_T59 l0_3 p15).f3))]) ?_
     refine kv g0 (ldBA 3 [.lit (.int .i64 a1_0), .lit (.int .i64 a1_1), .sl .o 2 (l1_2.map e69)]) ?_
     obtain ⟨t19, A20, H⟩ := of_bind H
     refine kcS0 34 (.lit (.bool t19)) [] g0 (cal (spec_RuleHolds.ok A20) [] 9999 .n (hf := Try.func36)) rfl rfl ?_
     refine wk_end_draw hM (by kernel_rfl) ?_
     refine ac_next ?_
     by_cases c21 : t19 = true
     ·rw [if_pos c21] at H
      refine aw_ifT ?_ c21
      refine aw_grp1 ?_
      refine wk_start ?_
      refine kv g0 (faB 3 3) ?_
      refine kv g0 (ldB) ?_
      refine kv g0 (mv) ?_
      refine kv g0 (ixS 59 (e59 (rd_T59 l0_3 p15)) c18 (getE (z := z59) c18 c17)) ?_
      refine kv g0 (faR 2 2) ?_
      refine kv g0 (ldR (.lit (.int .i64 ((rd_T59 l0_3 p15).f2)))) ?_
      refine kv g0 (faB 3 3) ?_
      refine kv g0 (ldB) ?_
      refine kv g0 (mv) ?_
      refine kv g0 (ixS 59 (e59 (rd_T59 l0_3 p15)) c18 (getE (z := z59) c18 c17)) ?_
      refine kv g0 (faR 3 3) ?_
      refine kv g0 (ldR (.lit (.int .i64 ((rd_T59 l0_3 p15).f3)))) ?_
      obtain ⟨t22, A23, H⟩ := of_bind H
      refine kcS0 47 (.lit (.int .i64 t22)) [] g0 (cal (spec_ResultOf.ok A23) [] 9999 .n (hf := Try.func37)) rfl rfl ?_
      refine kv g0 (asg) ?_
      refine wk_end_draw hM (by kernel_rfl) ?_
      refine ac_next ?_
      refine aw_ret ?_
      refine ac_blkR ?_
      refine ac_thenR ?_
      refine ac_thenR ?_
      refine ac_blkR ?_
      refine ac_thenR ?_
      obtain rfl := Option.some.inj H
      exact acr hE [.tmp 4] (.tmp .nil) (.one _) [] 9999
     rw [if_neg c21] at H
     refine aw_ifF ?_ (bF c21)
     refine aw_skip ?_
     refine ac_blkN ?_
     refine ac_next ?_
     refine wk_start ?_
     refine kv g0 (mv) ?_
     refine kv g0 (add6) ?_
     refine kv g0 (asg) ?_
     refine wk_end ?_
     refine ac_k ?_
     exact acw hE [(0, 0), (1, 1)] 9999 (hK25 k16 (wrap64 (p15 + 1)) (Nat.le_refl _) ⟨by omega, H⟩)
    rw [if_neg c17] at H
    refine aw_ifF ?_ (decide_eq_false c17)
    refine aw_exit ?_
    refine ac_then ?_
    refine ac_then ?_
    refine ac_hit rfl ?_
    refine ac_next ?_
    refine aw_grp1 ?_
    refine wk_start ?_
    refine kv g0 (faB 1 1) ?_
    refine kv g0 (ldB) ?_
    refine kv g0 (faB 2 2) ?_
    refine kv g0 (ldB) ?_
    obtain ⟨t26, A27, H⟩ := of_bind H
    refine kcS0 52 (.lit (.int .i64 t26)) [] g0 (cal (spec_ResultOf.ok A27) [] 9999 .n (hf := Try.func37)) rfl rfl ?_
    refine kv g0 (asg) ?_
    refine wk_end ?_
    refine ac_next ?_
    refine aw_ret ?_
    obtain rfl := Option.some.inj H
    exact acr hE [.tmp 4] (.tmp .nil) (.one _) [] 9999
   rw [if_neg c7] at H
   refine aw_ifT ?_ (eN c7)
   refine aw_grp1 ?_
   refine wk_start ?_
   refine kv g0 (asg) ?_
   refine wk_end ?_
   refine ac_next ?_
   refine aw_ret ?_
   refine ac_thenR ?_
   obtain rfl := Option.some.inj H
   exact acr hE [.tmp 4] (.tmp .nil) (.one _) [] 9999
  rw [if_neg c6] at H
  refine kx (hF (nT (bF c6))) ?_
  refine kx (hF (nT (bF c6))) ?_
  refine kx (hF (nT (bF c6))) ?_
  refine kx (hF (nT (bF c6))) ?_
  refine kx (hF (nT (bF c6))) ?_
  refine kv g0 (pkT (nT (bF c6))) ?_
  refine wk_end ?_
  refine ac_next ?_
  refine aw_ifT ?_ rfl
  refine aw_grp1 ?_
  refine wk_start ?_
  refine kv g0 (asg) ?_
  refine wk_end ?_
  refine ac_next ?_
  refine aw_ret ?_
  refine ac_thenR ?_
  obtain rfl := Option.some.inj H
  exact acr hE [.tmp 4] (.tmp .nil) (.one _) [] 9999
 rw [if_neg c3] at H
 refine kx (hF (nT (bF c3))) ?_
 refine kx (hF (nT (bF c3))) ?_
 refine kx (hF (nT (bF c3))) ?_
 refine kv g0 (pkT (nT (bF c3))) ?_
 refine kv g0 (mv) ?_
 refine kx (hF rfl) ?_
 refine kx (hF rfl) ?_
 refine kx (hF rfl) ?_
 refine kx (hF rfl) ?_
 refine kx (hF rfl) ?_
 refine kv g0 (pkT rfl) ?_
 refine wk_end ?_
 refine ac_next ?_
 refine aw_ifT ?_ rfl
 refine aw_grp1 ?_
 refine wk_start ?_
 refine kv g0 (asg) ?_
 refine wk_end ?_
 refine ac_next ?_
 refine aw_ret ?_
 refine ac_thenR ?_
 obtain rfl := Option.some.inj H
 exact acr hE [.tmp 4] (.tmp .nil) (.one _) [] 9999
/-! impl_copyRule -/
def impl_copyRule.f (l0_0 : List Int) (l0_1 : List S71) (a0_2 : Int) (a0_3 : Int) : Option ((List Int) × (List S71) × Int × Int) := if ([] : List Int).length + l0_0.length < 17592186044416 then if ([] : List S71).length + l0_1.length < 2932031007402 then some (([] : List Int) ++ l0_0, ([] : List S71) ++ l0_1, a0_2, a0_3) else none else none
theorem impl_copyRule.ok {l0_0 : List Int} {l0_1 : List S71} {a0_2 : Int} {a0_3 : Int} {r : (List Int) × (List S71) × Int × Int} (H : impl_copyRule.f l0_0 l0_1 a0_2 a0_3 = some r) : ACalls Try.prog 65 [] [.agg [.sl .o 1 (l0_0.map (eI .i64)), .sl .o 6 (l0_1.map e71), .lit (.int .i64 a0_2), .lit (.int .i64 a0_3)]] [(0, .row 3 1 (r.1.map (eI .i64))), (1, .row 71 6 (r.2.1.map e71))] (.agg [.row 0, .row 1, .lit (.int .i64 r.2.2.1), .lit (.int .i64 r.2.2.2)]) := by
 refine acalls (fn := Try.f65) (nt := 14) Try.func65 rfl rfl (Nat.le_of_ble_eq_true rfl) fun E hE => ?_
 rw [impl_copyRule.f] at H
 refine aw_grp1 ?_
 refine wk_start ?_
 refine kb g0 (bxA 0) ?_
 refine kb g0 (alc 1 [.slice none 0 0, .slice none 0 0, .int .i64 0, .int .i64 0] [.lit (.slice none 0 0), .lit (.slice none 0 0), .lit (.int .i64 0), .lit (.int .i64 0)]) ?_
 refine wk_end ?_
 refine ac_next ?_
 refine aw_grp1 ?_
 refine wk_start ?_
 refine kb g0 (bsl 2 3 1 [.int .i64 0] (([] : List Int).map (eI .i64))) ?_
 refine kv g0 (faB 0 0) ?_
 refine kv g0 (ldB) ?_
 obtain ⟨c1, H⟩ := of_if H
 refine kc g0 (apR 3 3 1 8 [.int .i64 0] ((([] : List Int) ++ l0_0).map (eI .i64)) (.slF (flI)) (apb c1 rfl) appE) ?_
 refine kv g0 (faB 0 0) ?_
 refine ks g0 (stB 1 [.row 3, .sl .o 6 (l0_1.map e71), .lit (.int .i64 a0_2), .lit (.int .i64 a0_3)]) ?_
 refine wk_end ?_
 refine ac_next ?_
 refine aw_grp1 ?_
 refine wk_start ?_
 refine kb g0 (bsl 4 71 6 [.int .i64 0, .int .i64 0, .int .i64 0, .int .i64 0, .int .i64 0, .int .i64 0] (([] : List S71).map e71)) ?_
 refine kv g0 (faB 1 1) ?_
 refine kv g0 (ldB) ?_
 obtain ⟨c2, H⟩ := of_if H
 refine kc g0 (apR 5 71 6 48 [.int .i64 0, .int .i64 0, .int .i64 0, .int .i64 0, .int .i64 0, .int .i64 0] ((([] : List S71) ++ l0_1).map e71) (.slF (fl71)) (apb c2 rfl) appE) ?_
 refine kv g0 (faB 1 1) ?_
 refine ks g0 (stB 1 [.row 3, .row 5, .lit (.int .i64 a0_2), .lit (.int .i64 a0_3)]) ?_
 refine wk_end ?_
 refine ac_next ?_
 refine aw_grp1 ?_
 refine wk_start ?_
 refine kv g0 (ldBA 4 [.row 3, .row 5, .lit (.int .i64 a0_2), .lit (.int .i64 a0_3)]) ?_
 refine ks g0 (stB 4 [.row 3, .row 5, .lit (.int .i64 a0_2), .lit (.int .i64 a0_3)]) ?_
 refine wk_end ?_
 refine ac_next ?_
 refine aw_ret ?_
 obtain rfl := Option.some.inj H
 exact acr hE [.cell 2 59] (rcA 4 .nil) (.one _) [(0, 3), (1, 5)] 9999
/-! impl_copyPolicy -/
def impl_copyPolicy.l0 : Nat → Int → Int → Int → (List S59) → (List S59) → Int → Option (Int × Int × Int × (List S59))
 | 0, _, _, _, _, _, _ => none
 | k8 + 1, a0_0, a0_1, a0_2, l0_3, q6, p7 => if p7 < (l0_3.length : Int) then if 0 ≤ p7 then (impl_copyRule.f ((rd_T59 l0_3 p7).f0) ((rd_T59 l0_3 p7).f1) ((rd_T59 l0_3 p7).f2) ((rd_T59 l0_3 p7).f3)).bind fun t11 => (if q6.length + ([(⟨t11.1, t11.2.1, t11.2.2.1, t11.2.2.2⟩ : S59)] : List S59).length < 2199023255552 then impl_copyPolicy.l0 k8 a0_0 a0_1 a0_2 l0_3 (q6 ++ ([(⟨t11.1, t11.2.1, t11.2.2.1, t11.2.2.2⟩ : S59)] : List S59)) (wrap64 (p7 + 1)) else none) else none else some (a0_0, a0_1, a0_2, q6)
def impl_copyPolicy.f (k : Nat) (a0_0 : Int) (a0_1 : Int) (a0_2 : Int) (l0_3 : List S59) : Option (Int × Int × Int × (List S59)) := impl_copyPolicy.l0 k a0_0 a0_1 a0_2 l0_3 ([] : List S59) 0
theorem impl_copyPolicy.ok {k : Nat} {a0_0 : Int} {a0_1 : Int} {a0_2 : Int} {l0_3 : List S59} {r : Int × Int × Int × (List S59)} (H : impl_copyPolicy.f k a0_0 a0_1 a0_2 l0_3 = some r) : ACalls Try.prog 38 [] [.agg [.lit (.int .i64 a0_0), .lit (.int .i64 a0_1), .lit (.int .i64 a0_2), .sl .o 4 (l0_3.map e59)]] [(0, .row 59 4 (r.2.2.2.map e59))] (.agg [.lit (.int .i64 r.1), .lit (.int .i64 r.2.1), .lit (.int .i64 r.2.2.1), .row 0]) := by
 refine acalls (fn := Try.f38) (nt := 23) Try.func38 rfl rfl (Nat.le_of_ble_eq_true rfl) fun E hE => ?_
 rw [impl_copyPolicy.f] at H
 refine aw_grp1 ?_
 refine wk_start ?_
 refine kb g0 (bxA 0) ?_
 refine kb g0 (alc 1 [.int .i64 0, .int .i64 0, .int .i64 0, .slice none 0 0] [.lit (.int .i64 0), .lit (.int .i64 0), .lit (.int .i64 0), .lit (.slice none 0 0)]) ?_
 refine wk_end ?_
 refine ac_next ?_
 refine aw_grp1 ?_
 refine wk_start ?_
 refine kb g0 (bsl 2 59 4 [.slice none 0 0, .slice none 0 0, .int .i64 0, .int .i64 0] (([] : List S59).map e59)) ?_
 refine kv g0 (asg) ?_
 refine wk_end ?_
 refine ac_next ?_
 refine aw_grp1 ?_
 refine aw_grp1 ?_
 refine wk_start ?_
 refine kv g0 (faB 3 3) ?_
 refine kv g0 (ldB) ?_
 refine kv g0 (lnS lenE) ?_
 refine kv g0 (mv) ?_
 refine wk_end ?_
 refine ac_next ?_
 refine aw_block ?_
 refine aw_loop2 (fun (k_ : Nat) (q6 : List S59) (p7 : Int) => k_ ≤ k ∧ impl_copyPolicy.l0 k_ a0_0 a0_1 a0_2 l0_3 q6 p7 = some r) (fun (q6 : List S59) (p7 : Int) => ⟨[(1, .box 0 0), (2, .box 1 0), (3, .row 2), (8, .sl .o 4 (l0_3.map e59)), (9, .lit (.int .i64 (l0_3.length : Int))), (10, .lit (.int .i64 p7))], [(0, .box 26 [.lit (.int .i64 a0_0), .lit (.int .i64 a0_1), .lit (.int .i64 a0_2), .sl .o 4 (l0_3.map e59)]), (1, .box 26 [.lit (.int .i64 0), .lit (.int .i64 0), .lit (.int .i64 0), .lit (.slice none 0 0)]), (2, .row 59 4 (q6.map e59))]⟩) k ([] : List S59) 0 ⟨Nat.le_refl _, H⟩ (fun K_ h_ => acw hE [(0, 0), (1, 1), (2, 2)] 9999 h_) (fun _ _ => by intro h_; have h_ := h_.2; rw [impl_copyPolicy.l0.eq_1] at h_; cases h_) ?_
 intro k8 q6 p7 hq_ K14 hK15
 have hk8 := hq_.1
 have H := hq_.2
 clear hq_
 rw [impl_copyPolicy.l0.eq_2] at H
 refine aw_grp1 ?_
 refine wk_start ?_
 refine kv g0 (lss) ?_
 refine wk_end ?_
 refine ac_next ?_
 refine aw_grp1 ?_
 by_cases c9 : p7 < (l0_3.length : Int)
 ·rw [if_pos c9] at H
  refine aw_ifT ?_ (decide_eq_true c9)
  refine aw_skip ?_
  refine ac_next ?_
  refine aw_grp1 ?_
  refine aw_block ?_
  refine aw_grp1 ?_
  refine wk_start ?_
  obtain ⟨c10, H⟩ := of_if H
  refine kv g0 (ixS 59 (e59 (rd_T59 l0_3 p7)) c10 (getE (z := z59) c10 c9)) ?_
  refine kv g0 (ldRA 4 [.sl .o 1 (((rd_T59 l0_3 p7).f0).map (eI .i64)), .sl .o 6 (((rd_T59 l0_3 p7).f1).map e71), .lit (.int .i64 ((rd_T59 l0_3 p7).f2)), .lit (.int .i64 ((rd_T59 l0_3 p7).f3))]) ?_
  refine kb g0 (alc 3 [.slice none 0 0, .slice none 0 0, .int .i64 0, .int .i64 0] [.lit (.slice none 0 0), .lit (.slice none 0 0), .lit (.int .i64 0), .lit (.int .i64 0)]) ?_
  refine ks g0 (stB 4 [.sl .o 1 (((rd_T59 l0_3 p7).f0).map (eI .i64)), .sl .o 6 (((rd_T59 l0_3 p7).f1).map e71), .lit (.int .i64 ((rd_T59 l0_3 p7).f2)), .lit (.int .i64 ((rd_T59 l0_3 p7).f3))]) ?_
  refine wk_end ?_
  refine ac_next ?_
  refine wk_start ?_
  refine kv g0 (mv) ?_
  refine kv g0 (ldBA 4 [.sl .o 1 (((rd_T59 l0_3 p7).f0).map (eI .i64)), .sl .o 6 (((rd_T59 l0_3 p7).f1).map e71), .lit (.int .i64 ((rd_T59 l0_3 p7).f2)), .lit (.int .i64 ((rd_T59 l0_3 p7).f3))]) ?_
  obtain ⟨t11, A12, H⟩ := of_bind H
  refine kcS0 16 (.agg [.sl .n 1 (t11.1.map (eI .i64)), .sl .n 6 (t11.2.1.map e71), .lit (.int .i64 t11.2.2.1), .lit (.int .i64 t11.2.2.2)]) [] g0 (cal ((impl_copyRule.ok A12).frz (.agg [.sl .n 1 (t11.1.map (eI .i64)), .sl .n 6 (t11.2.1.map e71), .lit (.int .i64 t11.2.2.1), .lit (.int .i64 t11.2.2.2)])) [] 9999 .n (hf := Try.func65)) rfl rfl ?_
  refine kb g0 (bsl 4 59 4 [.slice none 0 0, .slice none 0 0, .int .i64 0, .int .i64 0] (([(⟨t11.1, t11.2.1, t11.2.2.1, t11.2.2.2⟩ : S59)] : List S59).map e59)) ?_
  obtain ⟨c13, H⟩ := of_if H
  refine kc g0 (apR 5 59 4 64 [.slice none 0 0, .slice none 0 0, .int .i64 0, .int .i64 0] ((q6 ++ ([(⟨t11.1, t11.2.1, t11.2.2.1, t11.2.2.2⟩ : S59)] : List S59)).map e59) (.row rfl) (apb c13 rfl) appE) ?_
  refine kv g0 (asg) ?_
  refine wk_end ?_
  refine ac_blkN ?_
  refine ac_next ?_
  refine wk_start ?_
  refine kv g0 (add6) ?_
  refine kv g0 (mv) ?_
  refine wk_end ?_
  refine ac_k ?_
  exact acw hE [(0, 0), (1, 1), (2, 5)] 9999 (hK15 k8 (q6 ++ ([(⟨t11.1, t11.2.1, t11.2.2.1, t11.2.2.2⟩ : S59)] : List S59)) (wrap64 (p7 + 1)) (Nat.le_refl _) ⟨by omega, H⟩)
 rw [if_neg c9] at H
 refine aw_ifF ?_ (decide_eq_false c9)
 refine aw_exit ?_
 refine ac_then ?_
 refine ac_then ?_
 refine ac_hit rfl ?_
 refine ac_next ?_
 refine aw_grp1 ?_
 refine wk_start ?_
 refine kv g0 (mv) ?_
 refine kv g0 (faB 3 3) ?_
 refine ks g0 (stB 1 [.lit (.int .i64 a0_0), .lit (.int .i64 a0_1), .lit (.int .i64 a0_2), .row 2]) ?_
 refine wk_end ?_
 refine ac_next ?_
 refine aw_grp1 ?_
 refine wk_start ?_
 refine kv g0 (ldBA 4 [.lit (.int .i64 a0_0), .lit (.int .i64 a0_1), .lit (.int .i64 a0_2), .row 2]) ?_
 refine ks g0 (stB 4 [.lit (.int .i64 a0_0), .lit (.int .i64 a0_1), .lit (.int .i64 a0_2), .row 2]) ?_
 refine wk_end ?_
 refine ac_next ?_
 refine aw_ret ?_
 obtain rfl := Option.some.inj H
 exact acr hE [.cell 2 26] (rcA 4 .nil) (.one _) [(0, 2)] 9999
/-! impl_within -/
def impl_within.f (a0 : Int) (a1 : Int) (a2 : Int) : Option (Bool) := if a0 ≥ a1 then some (decide (a0 ≤ a2)) else some false
theorem impl_within.ok {a0 : Int} {a1 : Int} {a2 : Int} {r : Bool} (H : impl_within.f a0 a1 a2 = some r) : ACalls Try.prog 84 [] [.lit (.int .i64 a0), .lit (.int .i64 a1), .lit (.int .i64 a2)] [] (.lit (.bool r)) := by
 refine acalls (fn := Try.f84) (nt := 15) Try.func84 rfl rfl (Nat.le_of_ble_eq_true rfl) fun E hE => ?_
 rw [impl_within.f] at H
 refine aw_grp1 ?_
 refine wk_start ?_
 refine kv g0 (asg) ?_
 refine wk_end ?_
 refine ac_next ?_
 refine aw_grp1 ?_
 refine wk_start ?_
 refine kv g0 (mv) ?_
 refine kv g0 (mv) ?_
 refine kv g0 (geq) ?_
 refine kv g0 (mv) ?_
 by_cases c1 : a0 ≥ a1
 ·rw [if_pos c1] at H
  refine kv (g1 (decide_eq_true c1)) (mv) ?_
  refine kv (g1 (decide_eq_true c1)) (mv) ?_
  refine kv (g1 (decide_eq_true c1)) (leq) ?_
  refine kv g0 (pkT (decide_eq_true c1)) ?_
  refine kv g0 (asg) ?_
  refine wk_end ?_
  refine ac_next ?_
  refine aw_ret ?_
  obtain rfl := Option.some.inj H
  exact acr hE [.tmp 6] (.tmp .nil) (.one _) [] 9999
 rw [if_neg c1] at H
 refine kx (hT (decide_eq_false c1)) ?_
 refine kx (hT (decide_eq_false c1)) ?_
 refine kx (hT (decide_eq_false c1)) ?_
 refine kv g0 (pkF (decide_eq_false c1)) ?_
 refine kv g0 (asg) ?_
 refine wk_end ?_
 refine ac_next ?_
 refine aw_ret ?_
 obtain rfl := Option.some.inj H
 exact acr hE [.tmp 6] (.tmp .nil) (.one _) [] 9999
/-! impl_HalfOk -/
def impl_HalfOk.f (a0 : Int) : Option (Bool) := (impl_within.f a0 0 4294967295).bind fun t1 => some t1
theorem impl_HalfOk.ok {a0 : Int} {r : Bool} (H : impl_HalfOk.f a0 = some r) : ACalls Try.prog 68 [] [.lit (.int .i64 a0)] [] (.lit (.bool r)) := by
 refine acalls (fn := Try.f68) (nt := 5) Try.func68 rfl rfl (Nat.le_of_ble_eq_true rfl) fun E hE => ?_
 rw [impl_HalfOk.f] at H
 refine aw_grp1 ?_
 refine wk_start ?_
 refine kv g0 (asg) ?_
 refine wk_end ?_
 refine ac_next ?_
 refine aw_grp1 ?_
 refine wk_start ?_
 refine kv g0 (mv) ?_
 obtain ⟨t1, A2, H⟩ := of_bind H
 refine kcS0 4 (.lit (.bool t1)) [] g0 (cal (impl_within.ok A2) [] 9999 .n (hf := Try.func84)) rfl rfl ?_
 refine kv g0 (asg) ?_
 refine wk_end ?_
 refine ac_next ?_
 refine aw_ret ?_
 obtain rfl := Option.some.inj H
 exact acr hE [.tmp 2] (.tmp .nil) (.one _) [] 9999
/-! impl_WideOk -/
def impl_WideOk.f (a0_0 : Int) (a0_1 : Int) : Option (Bool) := (impl_HalfOk.f a0_0).bind fun t1 => (if t1 = true then ((impl_HalfOk.f a0_1).bind fun t4 => some t4) else some false)
theorem impl_WideOk.ok {a0_0 : Int} {a0_1 : Int} {r : Bool} (H : impl_WideOk.f a0_0 a0_1 = some r) : ACalls Try.prog 92 [] [.agg [.lit (.int .i64 a0_0), .lit (.int .i64 a0_1)]] [] (.lit (.bool r)) := by
 refine acalls (fn := Try.f92) (nt := 11) Try.func92 rfl rfl (Nat.le_of_ble_eq_true rfl) fun E hE => ?_
 rw [impl_WideOk.f] at H
 refine aw_grp1 ?_
 refine wk_start ?_
 refine kb g0 (bxA 0) ?_
 refine kv g0 (asg) ?_
 refine wk_end ?_
 refine ac_next ?_
 refine aw_grp1 ?_
 refine wk_start ?_
 refine kv g0 (faB 0 0) ?_
 refine kv g0 (ldB) ?_
 obtain ⟨t1, A2, H⟩ := of_bind H
 refine kcS0 5 (.lit (.bool t1)) [] g0 (cal (impl_HalfOk.ok A2) [] 9999 .n (hf := Try.func68)) rfl rfl ?_
 refine kv g0 (mv) ?_
 by_cases c3 : t1 = true
 ·rw [if_pos c3] at H
  refine kv (g1 c3) (faB 1 1) ?_
  refine kv (g1 c3) (ldB) ?_
  obtain ⟨t4, A5, H⟩ := of_bind H
  refine kcS0 9 (.lit (.bool t4)) [] (g1 c3) (cal (impl_HalfOk.ok A5) [] 9999 .n (hf := Try.func68)) rfl rfl ?_
  refine kv g0 (pkT c3) ?_
  refine kv g0 (asg) ?_
  refine wk_end ?_
  refine ac_next ?_
  refine aw_ret ?_
  obtain rfl := Option.some.inj H
  exact acr hE [.tmp 2] (.tmp .nil) (.one _) [] 9999
 rw [if_neg c3] at H
 refine kx (hT (bF c3)) ?_
 refine kx (hT (bF c3)) ?_
 refine kx (hT (bF c3)) ?_
 refine kv g0 (pkF (bF c3)) ?_
 refine kv g0 (asg) ?_
 refine wk_end ?_
 refine ac_next ?_
 refine aw_ret ?_
 obtain rfl := Option.some.inj H
 exact acr hE [.tmp 2] (.tmp .nil) (.one _) [] 9999
/-! impl_CondOk -/
def impl_CondOk.f (a0_0 : Int) (a0_1 : Int) (a0_2 : Int) (a0_3 : Int) (a0_4 : Int) (a0_5 : Int) : Option (Bool) := (impl_within.f a0_0 0 2).bind fun t1 => (if t1 = true then ((impl_WideOk.f a0_1 a0_2).bind fun t4 => (if t4 = true then ((impl_WideOk.f a0_4 a0_5).bind fun t7 => (if t7 = true then ((impl_within.f a0_3 1 6).bind fun t10 => some t10) else some false)) else some false)) else some false)
theorem impl_CondOk.ok {a0_0 : Int} {a0_1 : Int} {a0_2 : Int} {a0_3 : Int} {a0_4 : Int} {a0_5 : Int} {r : Bool} (H : impl_CondOk.f a0_0 a0_1 a0_2 a0_3 a0_4 a0_5 = some r) : ACalls Try.prog 83 [] [.agg [.lit (.int .i64 a0_0), .lit (.int .i64 a0_1), .lit (.int .i64 a0_2), .lit (.int .i64 a0_3), .lit (.int .i64 a0_4), .lit (.int .i64 a0_5)]] [] (.lit (.bool r)) := by
 refine acalls (fn := Try.f83) (nt := 21) Try.func83 rfl rfl (Nat.le_of_ble_eq_true rfl) fun E hE => ?_
 rw [impl_CondOk.f] at H
 refine aw_grp1 ?_
 refine wk_start ?_
 refine kb g0 (bxA 0) ?_
 refine kv g0 (asg) ?_
 refine wk_end ?_
 refine ac_next ?_
 refine aw_grp1 ?_
 refine wk_start ?_
 refine kv g0 (faB 0 0) ?_
 refine kv g0 (ldB) ?_
 obtain ⟨t1, A2, H⟩ := of_bind H
 refine kcS0 5 (.lit (.bool t1)) [] g0 (cal (impl_within.ok A2) [] 9999 .n (hf := Try.func84)) rfl rfl ?_
 refine kv g0 (mv) ?_
 by_cases c3 : t1 = true
 ·rw [if_pos c3] at H
  refine kv (g1 c3) (faB 1 1) ?_
  refine kv (g1 c3) (ldBA 2 [.lit (.int .i64 a0_1), .lit (.int .i64 a0_2)]) ?_
  obtain ⟨t4, A5, H⟩ := of_bind H
  refine kcS0 9 (.lit (.bool t4)) [] (g1 c3) (cal (impl_WideOk.ok A5) [] 9999 .n (hf := Try.func92)) rfl rfl ?_
  refine kv g0 (pkT c3) ?_
  refine kv g0 (mv) ?_
  by_cases c6 : t4 = true
  ·rw [if_pos c6] at H
   refine kv (g1 c6) (faB 4 4) ?_
   refine kv (g1 c6) (ldBA 2 [.lit (.int .i64 a0_4), .lit (.int .i64 a0_5)]) ?_
   obtain ⟨t7, A8, H⟩ := of_bind H
   refine kcS0 14 (.lit (.bool t7)) [] (g1 c6) (cal (impl_WideOk.ok A8) [] 9999 .n (hf := Try.func92)) rfl rfl ?_
   refine kv g0 (pkT c6) ?_
   refine kv g0 (mv) ?_
   by_cases c9 : t7 = true
   ·rw [if_pos c9] at H
    refine kv (g1 c9) (faB 3 3) ?_
    refine kv (g1 c9) (ldB) ?_
    obtain ⟨t10, A11, H⟩ := of_bind H
    refine kcS0 19 (.lit (.bool t10)) [] (g1 c9) (cal (impl_within.ok A11) [] 9999 .n (hf := Try.func84)) rfl rfl ?_
    refine kv g0 (pkT c9) ?_
    refine kv g0 (asg) ?_
    refine wk_end ?_
    refine ac_next ?_
    refine aw_ret ?_
    obtain rfl := Option.some.inj H
    exact acr hE [.tmp 2] (.tmp .nil) (.one _) [] 9999
   rw [if_neg c9] at H
   refine kx (hT (bF c9)) ?_
   refine kx (hT (bF c9)) ?_
   refine kx (hT (bF c9)) ?_
   refine kv g0 (pkF (bF c9)) ?_
   refine kv g0 (asg) ?_
   refine wk_end ?_
   refine ac_next ?_
   refine aw_ret ?_
   obtain rfl := Option.some.inj H
   exact acr hE [.tmp 2] (.tmp .nil) (.one _) [] 9999
  rw [if_neg c6] at H
  refine kx (hT (bF c6)) ?_
  refine kx (hT (bF c6)) ?_
  refine kx (hT (bF c6)) ?_
  refine kv g0 (pkF (bF c6)) ?_
  refine kv g0 (mv) ?_
  refine kx (hT rfl) ?_
  refine kx (hT rfl) ?_
  refine kx (hT rfl) ?_
  refine kv g0 (pkF rfl) ?_
  refine kv g0 (asg) ?_
  refine wk_end ?_
  refine ac_next ?_
  refine aw_ret ?_
  obtain rfl := Option.some.inj H
  exact acr hE [.tmp 2] (.tmp .nil) (.one _) [] 9999
 rw [if_neg c3] at H
 refine kx (hT (bF c3)) ?_
 refine kx (hT (bF c3)) ?_
 refine kx (hT (bF c3)) ?_
 refine kv g0 (pkF (bF c3)) ?_
 refine kv g0 (mv) ?_
 refine kx (hT rfl) ?_
 refine kx (hT rfl) ?_
 refine kx (hT rfl) ?_
 refine kv g0 (pkF rfl) ?_
 refine kv g0 (mv) ?_
 refine kx (hT rfl) ?_
 refine kx (hT rfl) ?_
 refine kx (hT rfl) ?_
 refine kv g0 (pkF rfl) ?_
 refine kv g0 (asg) ?_
 refine wk_end ?_
 refine ac_next ?_
 refine aw_ret ?_
 obtain rfl := Option.some.inj H
 exact acr hE [.tmp 2] (.tmp .nil) (.one _) [] 9999
/-! impl_actionOk -/
def impl_actionOk.f (a0 : Int) (a1 : Int) : Option (Bool) := (impl_within.f a0 0 5).bind fun t1 => (if t1 = true then ((impl_within.f a1 0 65535).bind fun t4 => some t4) else some false)
theorem impl_actionOk.ok {a0 : Int} {a1 : Int} {r : Bool} (H : impl_actionOk.f a0 a1 = some r) : ACalls Try.prog 69 [] [.lit (.int .i64 a0), .lit (.int .i64 a1)] [] (.lit (.bool r)) := by
 refine acalls (fn := Try.f69) (nt := 11) Try.func69 rfl rfl (Nat.le_of_ble_eq_true rfl) fun E hE => ?_
 rw [impl_actionOk.f] at H
 refine aw_grp1 ?_
 refine wk_start ?_
 refine kv g0 (asg) ?_
 refine wk_end ?_
 refine ac_next ?_
 refine aw_grp1 ?_
 refine wk_start ?_
 refine kv g0 (mv) ?_
 obtain ⟨t1, A2, H⟩ := of_bind H
 refine kcS0 6 (.lit (.bool t1)) [] g0 (cal (impl_within.ok A2) [] 9999 .n (hf := Try.func84)) rfl rfl ?_
 refine kv g0 (mv) ?_
 by_cases c3 : t1 = true
 ·rw [if_pos c3] at H
  refine kv (g1 c3) (mv) ?_
  obtain ⟨t4, A5, H⟩ := of_bind H
  refine kcS0 9 (.lit (.bool t4)) [] (g1 c3) (cal (impl_within.ok A5) [] 9999 .n (hf := Try.func84)) rfl rfl ?_
  refine kv g0 (pkT c3) ?_
  refine kv g0 (asg) ?_
  refine wk_end ?_
  refine ac_next ?_
  refine aw_ret ?_
  obtain rfl := Option.some.inj H
  exact acr hE [.tmp 4] (.tmp .nil) (.one _) [] 9999
 rw [if_neg c3] at H
 refine kx (hT (bF c3)) ?_
 refine kx (hT (bF c3)) ?_
 refine kv g0 (pkF (bF c3)) ?_
 refine kv g0 (asg) ?_
 refine wk_end ?_
 refine ac_next ?_
 refine aw_ret ?_
 obtain rfl := Option.some.inj H
 exact acr hE [.tmp 4] (.tmp .nil) (.one _) [] 9999
/-! impl_ruleOk -/
mutual
def impl_ruleOk.l0 : Nat → (List Int) → (List S71) → Int → Int → Int → Option (Bool)
 | 0, _, _, _, _, _ => none
 | k7 + 1, l0_0, l0_1, a0_2, a0_3, p6 => if p6 < (l0_0.length : Int) then if 0 ≤ p6 then (impl_HalfOk.f (rd l0_0 p6)).bind fun t10 => (if t10 = true then (if p6 > 0 then (if 0 ≤ (wrap64 (p6 - 1)) then (if (wrap64 (p6 - 1)) < (l0_0.length : Int) then if (rd l0_0 (wrap64 (p6 - 1))) ≥ (rd l0_0 p6) then some false else impl_ruleOk.l0 k7 l0_0 l0_1 a0_2 a0_3 (wrap64 (p6 + 1)) else none) else none) else impl_ruleOk.l0 k7 l0_0 l0_1 a0_2 a0_3 (wrap64 (p6 + 1))) else some false) else none else impl_ruleOk.l1 k7 l0_0 l0_1 a0_2 a0_3 0
def impl_ruleOk.l1 : Nat → (List Int) → (List S71) → Int → Int → Int → Option (Bool)
 | 0, _, _, _, _, _ => none
 | k25 + 1, l0_0, l0_1, a0_2, a0_3, p24 => if p24 < (l0_1.length : Int) then if 0 ≤ p24 then (impl_CondOk.f ((rd_T71 l0_1 p24).f0) ((rd_T71 l0_1 p24).f1.f0) ((rd_T71 l0_1 p24).f1.f1) ((rd_T71 l0_1 p24).f2) ((rd_T71 l0_1 p24).f3.f0) ((rd_T71 l0_1 p24).f3.f1)).bind fun t28 => if t28 = true then impl_ruleOk.l1 k25 l0_0 l0_1 a0_2 a0_3 (wrap64 (p24 + 1)) else some false else none else if (l0_0.length : Int) ≤ 4 then (if (l0_1.length : Int) ≤ 3 then ((impl_actionOk.f a0_2 a0_3).bind fun t35 => some t35) else some false) else some false
end
def impl_ruleOk.f (k : Nat) (l0_0 : List Int) (l0_1 : List S71) (a0_2 : Int) (a0_3 : Int) : Option (Bool) := impl_ruleOk.l0 k l0_0 l0_1 a0_2 a0_3 0
theorem impl_ruleOk.ok {k : Nat} {l0_0 : List Int} {l0_1 : List S71} {a0_2 : Int} {a0_3 : Int} {r : Bool} (H : impl_ruleOk.f k l0_0 l0_1 a0_2 a0_3 = some r) : ACalls Try.prog 67 [] [.agg [.sl .o 1 (l0_0.map (eI .i64)), .sl .o 6 (l0_1.map e71), .lit (.int .i64 a0_2), .lit (.int .i64 a0_3)]] [] (.lit (.bool r)) := by
 refine acalls (fn := Try.f67) (nt := 61) Try.func67 rfl rfl (Nat.le_of_ble_eq_true rfl) fun E hE => ?_
 rw [impl_ruleOk.f] at H
 refine aw_grp1 ?_
 refine wk_start ?_
 refine kb g0 (bxA 0) ?_
 refine kv g0 (asg) ?_
 refine wk_end ?_
 refine ac_next ?_
 refine aw_grp1 ?_
 refine aw_grp1 ?_
 refine wk_start ?_
 refine kv g0 (faB 0 0) ?_
 refine kv g0 (ldB) ?_
 refine kv g0 (lnS lenE) ?_
 refine kv g0 (mv) ?_
 refine wk_end ?_
 refine ac_next ?_
 refine aw_block ?_
 refine aw_loop1 (fun (k_ : Nat) (p6 : Int) => k_ ≤ k ∧ impl_ruleOk.l0 k_ l0_0 l0_1 a0_2 a0_3 p6 = some r) (fun (p6 : Int) => ⟨[(1, .box 0 0), (8, .sl .o 1 (l0_0.map (eI .i64))), (9, .lit (.int .i64 (l0_0.length : Int))), (10, .lit (.int .i64 p6))], [(0, .box 59 [.sl .o 1 (l0_0.map (eI .i64)), .sl .o 6 (l0_1.map e71), .lit (.int .i64 a0_2), .lit (.int .i64 a0_3)])]⟩) k 0 ⟨Nat.le_refl _, H⟩ (fun K_ h_ => acw hE [(0, 0)] 9999 h_) (fun _ => by intro h_; have h_ := h_.2; rw [impl_ruleOk.l0.eq_1] at h_; cases h_) ?_
 intro k7 p6 hq_ K17 hK18
 have hk7 := hq_.1
 have H := hq_.2
 clear hq_
 rw [impl_ruleOk.l0.eq_2] at H
 refine aw_grp1 ?_
 refine wk_start ?_
 refine kv g0 (lss) ?_
 refine wk_end ?_
 refine ac_next ?_
 refine aw_grp1 ?_
 by_cases c8 : p6 < (l0_0.length : Int)
 ·rw [if_pos c8] at H
  refine aw_ifT ?_ (decide_eq_true c8)
  refine aw_skip ?_
  refine ac_next ?_
  refine aw_grp1 ?_
  refine aw_block ?_
  refine aw_grp1 ?_
  refine wk_start ?_
  refine kv g0 (mv) ?_
  obtain ⟨c9, H⟩ := of_if H
  refine kv g0 (ixS 3 (eI .i64 (rd l0_0 p6)) c9 (getE (z := (0 : Int)) c9 c8)) ?_
  refine kv g0 (ldR (.lit (.int .i64 (rd l0_0 p6)))) ?_
  refine kv g0 (asg) ?_
  refine kv g0 (asg) ?_
  refine wk_end ?_
  refine ac_next ?_
  refine aw_grp1 ?_
  refine wk_start ?_
  refine kv g0 (mv) ?_
  obtain ⟨t10, A11, H⟩ := of_bind H
  refine kcS0 16 (.lit (.bool t10)) [] g0 (cal (impl_HalfOk.ok A11) [] 9999 .n (hf := Try.func68)) rfl rfl ?_
  refine kv g0 (not_) ?_
  refine kv g0 (mv) ?_
  by_cases c12 : t10 = true
  ·rw [if_pos c12] at H
   refine kv (g1 (nF c12)) (mv) ?_
   refine kv (g1 (nF c12)) (gtr) ?_
   refine kv (g1 (nF c12)) (mv) ?_
   by_cases c13 : p6 > 0
   ·rw [if_pos c13] at H
    refine kv (g1 (decide_eq_true c13)) (faB 0 0) ?_
    refine kv (g1 (decide_eq_true c13)) (ldB) ?_
    refine kv (g1 (decide_eq_true c13)) (mv) ?_
    refine kv (g1 (decide_eq_true c13)) (sub6) ?_
    obtain ⟨c14, H⟩ := of_if H
    obtain ⟨c15, H⟩ := of_if H
    refine kv (g1 (decide_eq_true c13)) (ixS 3 (eI .i64 (rd l0_0 (wrap64 (p6 - 1)))) c14 (getE (z := (0 : Int)) c14 c15)) ?_
    refine kv (g1 (decide_eq_true c13)) (ldR (.lit (.int .i64 (rd l0_0 (wrap64 (p6 - 1)))))) ?_
    refine kv (g1 (decide_eq_true c13)) (mv) ?_
    refine kv (g1 (decide_eq_true c13)) (geq) ?_
    refine kv (g1 (nF c12)) (pkT (decide_eq_true c13)) ?_
    refine kv g0 (pkF (nF c12)) ?_
    refine wk_end ?_
    refine ac_next ?_
    by_cases c16 : (rd l0_0 (wrap64 (p6 - 1))) ≥ (rd l0_0 p6)
    ·rw [if_pos c16] at H
     refine aw_ifT ?_ (decide_eq_true c16)
     refine aw_grp1 ?_
     refine wk_start ?_
     refine kv g0 (asg) ?_
     refine wk_end ?_
     refine ac_next ?_
     refine aw_ret ?_
     refine ac_blkR ?_
     refine ac_thenR ?_
     refine ac_thenR ?_
     refine ac_blkR ?_
     refine ac_thenR ?_
     obtain rfl := Option.some.inj H
     exact acr hE [.tmp 2] (.tmp .nil) (.one _) [] 9999
    rw [if_neg c16] at H
    refine aw_ifF ?_ (decide_eq_false c16)
    refine aw_skip ?_
    refine ac_blkN ?_
    refine ac_next ?_
    refine wk_start ?_
    refine kv g0 (add6) ?_
    refine kv g0 (mv) ?_
    refine wk_end ?_
    refine ac_k ?_
    exact acw hE [(0, 0)] 9999 (hK18 k7 (wrap64 (p6 + 1)) (Nat.le_refl _) ⟨by omega, H⟩)
   rw [if_neg c13] at H
   refine kx (hT (decide_eq_false c13)) ?_
   refine kx (hT (decide_eq_false c13)) ?_
   refine kx (hT (decide_eq_false c13)) ?_
   refine kx (hT (decide_eq_false c13)) ?_
   refine kx (hT (decide_eq_false c13)) ?_
   refine kx (hT (decide_eq_false c13)) ?_
   refine kx (hT (decide_eq_false c13)) ?_
   refine kx (hT (decide_eq_false c13)) ?_
   refine kv (g1 (nF c12)) (pkF (decide_eq_false c13)) ?_
   refine kv g0 (pkF (nF c12)) ?_
   refine wk_end ?_
   refine ac_next ?_
   refine aw_ifF ?_ rfl
   refine aw_skip ?_
   refine ac_blkN ?_
   refine ac_next ?_
   refine wk_start ?_
   refine kv g0 (add6) ?_
   refine kv g0 (mv) ?_
   refine wk_end ?_
   refine ac_k ?_
   exact acw hE [(0, 0)] 9999 (hK18 k7 (wrap64 (p6 + 1)) (Nat.le_refl _) ⟨by omega, H⟩)
  rw [if_neg c12] at H
  refine kx (hF (nT (bF c12))) ?_
  refine kx (hF (nT (bF c12))) ?_
  refine ku (neT (hF (nT (bF c12)))) ?_
  refine ku neU ?_
  refine ku neU ?_
  refine ku neU ?_
  refine ku neU ?_
  refine ku neU ?_
  refine ku neU ?_
  refine ku neU ?_
  refine ku neU ?_
  refine kx (hF (nT (bF c12))) ?_
  refine kv g0 (pkT (nT (bF c12))) ?_
  refine wk_end ?_
  refine ac_next ?_
  refine aw_ifT ?_ rfl
  refine aw_grp1 ?_
  refine wk_start ?_
  refine kv g0 (asg) ?_
  refine wk_end ?_
  refine ac_next ?_
  refine aw_ret ?_
  refine ac_blkR ?_
  refine ac_thenR ?_
  refine ac_thenR ?_
  refine ac_blkR ?_
  refine ac_thenR ?_
  obtain rfl := Option.some.inj H
  exact acr hE [.tmp 2] (.tmp .nil) (.one _) [] 9999
 rw [if_neg c8] at H
 refine aw_ifF ?_ (decide_eq_false c8)
 refine aw_exit ?_
 refine ac_then ?_
 refine ac_then ?_
 refine ac_hit rfl ?_
 refine ac_next ?_
 refine aw_grp1 ?_
 refine aw_grp1 ?_
 refine wk_start ?_
 refine kv g0 (faB 1 1) ?_
 refine kv g0 (ldB) ?_
 refine kv g0 (lnS lenE) ?_
 refine kv g0 (mv) ?_
 refine wk_end ?_
 refine ac_next ?_
 refine aw_block ?_
 refine aw_loop1 (fun (k_ : Nat) (p24 : Int) => k_ ≤ k7 ∧ impl_ruleOk.l1 k_ l0_0 l0_1 a0_2 a0_3 p24 = some r) (fun (p24 : Int) => ⟨[(1, .box 0 0), (34, .sl .o 6 (l0_1.map e71)), (35, .lit (.int .i64 (l0_1.length : Int))), (36, .lit (.int .i64 p24))], [(0, .box 59 [.sl .o 1 (l0_0.map (eI .i64)), .sl .o 6 (l0_1.map e71), .lit (.int .i64 a0_2), .lit (.int .i64 a0_3)])]⟩) k7 0 ⟨Nat.le_refl _, H⟩ (fun K_ h_ => acw hE [(0, 0)] 9999 h_) (fun _ => by intro h_; have h_ := h_.2; rw [impl_ruleOk.l1.eq_1] at h_; cases h_) ?_
 intro k25 p24 hq_ K31 hK32
 have hk25 := hq_.1
 have H := hq_.2
 clear hq_
 rw [impl_ruleOk.l1.eq_2] at H
 refine aw_grp1 ?_
 refine wk_start ?_
 refine kv g0 (lss) ?_
 refine wk_end ?_
 refine ac_next ?_
 refine aw_grp1 ?_
 by_cases c26 : p24 < (l0_1.length : Int)
 ·rw [if_pos c26] at H
  refine aw_ifT ?_ (decide_eq_true c26)
  refine aw_skip ?_
  refine ac_next ?_
  refine aw_grp1 ?_
  refine aw_block ?_
  refine aw_grp1 ?_
  refine wk_start ?_
  obtain ⟨c27, H⟩ := of_if H
  refine kv g0 (ixS 71 (e71 (rd_T71 l0_1 p24)) c27 (getE (z := z71) c27 c26)) ?_
  refine kv g0 (ldRA 6 [.lit (.int .i64 ((rd_T71 l0_1 p24).f0)), .lit (.int .i64 ((rd_T71 l0_1 p24).f1.f0)), .lit (.int .i64 ((rd_T71 l0_1 p24).f1.f1)), .lit (.int .i64 ((rd_T71 l0_1 p24).f2)), .lit (.int .i64 ((rd_T71 l0_1 p24).f3.f0)), .lit (.int .i64 ((rd_T71 l0_1 p24).f3.f1))]) ?_
  refine kb g0 (alc 1 [.int .i64 0, .int .i64 0, .int .i64 0, .int .i64 0, .int .i64 0, .int .i64 0] [.lit (.int .i64 0), .lit (.int .i64 0), .lit (.int .i64 0), .lit (.int .i64 0), .lit (.int .i64 0), .lit (.int .i64 0)]) ?_
  refine ks g0 (stB 6 [.lit (.int .i64 ((rd_T71 l0_1 p24).f0)), .lit (.int .i64 ((rd_T71 l0_1 p24).f1.f0)), .lit (.int .i64 ((rd_T71 l0_1 p24).f1.f1)), .lit (.int .i64 ((rd_T71 l0_1 p24).f2)), .lit (.int .i64 ((rd_T71 l0_1 p24).f3.f0)), .lit (.int .i64 ((rd_T71 l0_1 p24).f3.f1))]) ?_
  refine wk_end ?_
  refine ac_next ?_
  refine aw_grp1 ?_
  refine wk_start ?_
  refine kv g0 (ldBA 6 [.lit (.int .i64 ((rd_T71 l0_1 p24).f0)), .lit (.int .i64 ((rd_T71 l0_1 p24).f1.f0)), .lit (.int .i64 ((rd_T71 l0_1 p24).f1.f1)), .lit (.int .i64 ((rd_T71 l0_1 p24).f2)), .lit (.int .i64 ((rd_T71 l0_1 p24).f3.f0)), .lit (.int .i64 ((rd_T71 l0_1 p24).f3.f1))]) ?_
  obtain ⟨t28, A29, H⟩ := of_bind H
  refine kcS0 41 (.lit (.bool t28)) [] g0 (cal (impl_CondOk.ok A29) [] 9999 .n (hf := Try.func83)) rfl rfl ?_
  refine kv g0 (not_) ?_
  refine wk_end ?_
  refine ac_next ?_
  by_cases c30 : t28 = true
  ·rw [if_pos c30] at H
   refine aw_ifF ?_ (nF c30)
   refine aw_skip ?_
   refine ac_blkN ?_
   refine ac_next ?_
   refine wk_start ?_
   refine kv g0 (add6) ?_
   refine kv g0 (mv) ?_
   refine wk_end ?_
   refine ac_k ?_
   exact acw hE [(0, 0)] 9999 (hK32 k25 (wrap64 (p24 + 1)) (Nat.le_refl _) ⟨by omega, H⟩)
  rw [if_neg c30] at H
  refine aw_ifT ?_ (nT (bF c30))
  refine aw_grp1 ?_
  refine wk_start ?_
  refine kv g0 (asg) ?_
  refine wk_end ?_
  refine ac_next ?_
  refine aw_ret ?_
  refine ac_blkR ?_
  refine ac_thenR ?_
  refine ac_thenR ?_
  refine ac_blkR ?_
  refine ac_thenR ?_
  obtain rfl := Option.some.inj H
  exact acr hE [.tmp 2] (.tmp .nil) (.one _) [] 9999
 rw [if_neg c26] at H
 refine aw_ifF ?_ (decide_eq_false c26)
 refine aw_exit ?_
 refine ac_then ?_
 refine ac_then ?_
 refine ac_hit rfl ?_
 refine ac_next ?_
 refine aw_grp1 ?_
 refine wk_start ?_
 refine kv g0 (faB 0 0) ?_
 refine kv g0 (ldB) ?_
 refine kv g0 (lnS lenE) ?_
 refine kv g0 (leq) ?_
 refine kv g0 (mv) ?_
 by_cases c33 : (l0_0.length : Int) ≤ 4
 ·rw [if_pos c33] at H
  refine kv (g1 (decide_eq_true c33)) (faB 1 1) ?_
  refine kv (g1 (decide_eq_true c33)) (ldB) ?_
  refine kv (g1 (decide_eq_true c33)) (lnS lenE) ?_
  refine kv (g1 (decide_eq_true c33)) (leq) ?_
  refine kv g0 (pkT (decide_eq_true c33)) ?_
  refine kv g0 (mv) ?_
  by_cases c34 : (l0_1.length : Int) ≤ 3
  ·rw [if_pos c34] at H
   refine kv (g1 (decide_eq_true c34)) (faB 2 2) ?_
   refine kv (g1 (decide_eq_true c34)) (ldB) ?_
   refine kv (g1 (decide_eq_true c34)) (faB 3 3) ?_
   refine kv (g1 (decide_eq_true c34)) (ldB) ?_
   obtain ⟨t35, A36, H⟩ := of_bind H
   refine kcS0 59 (.lit (.bool t35)) [] (g1 (decide_eq_true c34)) (cal (impl_actionOk.ok A36) [] 9999 .n (hf := Try.func69)) rfl rfl ?_
   refine kv g0 (pkT (decide_eq_true c34)) ?_
   refine kv g0 (asg) ?_
   refine wk_end ?_
   refine ac_next ?_
   refine aw_ret ?_
   obtain rfl := Option.some.inj H
   exact acr hE [.tmp 2] (.tmp .nil) (.one _) [] 9999
  rw [if_neg c34] at H
  refine kx (hT (decide_eq_false c34)) ?_
  refine kx (hT (decide_eq_false c34)) ?_
  refine kx (hT (decide_eq_false c34)) ?_
  refine kx (hT (decide_eq_false c34)) ?_
  refine kx (hT (decide_eq_false c34)) ?_
  refine kv g0 (pkF (decide_eq_false c34)) ?_
  refine kv g0 (asg) ?_
  refine wk_end ?_
  refine ac_next ?_
  refine aw_ret ?_
  obtain rfl := Option.some.inj H
  exact acr hE [.tmp 2] (.tmp .nil) (.one _) [] 9999
 rw [if_neg c33] at H
 refine kx (hT (decide_eq_false c33)) ?_
 refine kx (hT (decide_eq_false c33)) ?_
 refine kx (hT (decide_eq_false c33)) ?_
 refine kx (hT (decide_eq_false c33)) ?_
 refine kv g0 (pkF (decide_eq_false c33)) ?_
 refine kv g0 (mv) ?_
 refine kx (hT rfl) ?_
 refine kx (hT rfl) ?_
 refine kx (hT rfl) ?_
 refine kx (hT rfl) ?_
 refine kx (hT rfl) ?_
 refine kv g0 (pkF rfl) ?_
 refine kv g0 (asg) ?_
 refine wk_end ?_
 refine ac_next ?_
 refine aw_ret ?_
 obtain rfl := Option.some.inj H
 exact acr hE [.tmp 2] (.tmp .nil) (.one _) [] 9999
/-! impl_PolicyOk -/
def impl_PolicyOk.l0 : Nat → Int → Int → Int → (List S59) → Int → Option (Bool)
 | 0, _, _, _, _, _ => none
 | k7 + 1, a0_0, a0_1, a0_2, l0_3, p6 => if p6 < (l0_3.length : Int) then if 0 ≤ p6 then (impl_ruleOk.f k7 ((rd_T59 l0_3 p6).f0) ((rd_T59 l0_3 p6).f1) ((rd_T59 l0_3 p6).f2) ((rd_T59 l0_3 p6).f3)).bind fun t10 => if t10 = true then impl_PolicyOk.l0 k7 a0_0 a0_1 a0_2 l0_3 (wrap64 (p6 + 1)) else some false else none else (impl_HalfOk.f a0_0).bind fun t15 => (if t15 = true then ((impl_actionOk.f a0_1 a0_2).bind fun t18 => (if t18 = true then some (decide ((l0_3.length : Int) ≤ 10)) else some false)) else some false)
def impl_PolicyOk.f (k : Nat) (a0_0 : Int) (a0_1 : Int) (a0_2 : Int) (l0_3 : List S59) : Option (Bool) := impl_PolicyOk.l0 k a0_0 a0_1 a0_2 l0_3 0
theorem impl_PolicyOk.ok {k : Nat} {a0_0 : Int} {a0_1 : Int} {a0_2 : Int} {l0_3 : List S59} {r : Bool} (H : impl_PolicyOk.f k a0_0 a0_1 a0_2 l0_3 = some r) : ACalls Try.prog 40 [] [.agg [.lit (.int .i64 a0_0), .lit (.int .i64 a0_1), .lit (.int .i64 a0_2), .sl .o 4 (l0_3.map e59)]] [] (.lit (.bool r)) := by
 refine acalls (fn := Try.f40) (nt := 32) Try.func40 rfl rfl (Nat.le_of_ble_eq_true rfl) fun E hE => ?_
 rw [impl_PolicyOk.f] at H
 refine aw_grp1 ?_
 refine wk_start ?_
 refine kb g0 (bxA 0) ?_
 refine kv g0 (asg) ?_
 refine wk_end ?_
 refine ac_next ?_
 refine aw_grp1 ?_
 refine aw_grp1 ?_
 refine wk_start ?_
 refine kv g0 (faB 3 3) ?_
 refine kv g0 (ldB) ?_
 refine kv g0 (lnS lenE) ?_
 refine kv g0 (mv) ?_
 refine wk_end ?_
 refine ac_next ?_
 refine aw_block ?_
 refine aw_loop1 (fun (k_ : Nat) (p6 : Int) => k_ ≤ k ∧ impl_PolicyOk.l0 k_ a0_0 a0_1 a0_2 l0_3 p6 = some r) (fun (p6 : Int) => ⟨[(1, .box 0 0), (6, .sl .o 4 (l0_3.map e59)), (7, .lit (.int .i64 (l0_3.length : Int))), (8, .lit (.int .i64 p6))], [(0, .box 26 [.lit (.int .i64 a0_0), .lit (.int .i64 a0_1), .lit (.int .i64 a0_2), .sl .o 4 (l0_3.map e59)])]⟩) k 0 ⟨Nat.le_refl _, H⟩ (fun K_ h_ => acw hE [(0, 0)] 9999 h_) (fun _ => by intro h_; have h_ := h_.2; rw [impl_PolicyOk.l0.eq_1] at h_; cases h_) ?_
 intro k7 p6 hq_ K13 hK14
 have hk7 := hq_.1
 have H := hq_.2
 clear hq_
 rw [impl_PolicyOk.l0.eq_2] at H
 refine aw_grp1 ?_
 refine wk_start ?_
 refine kv g0 (lss) ?_
 refine wk_end ?_
 refine ac_next ?_
 refine aw_grp1 ?_
 by_cases c8 : p6 < (l0_3.length : Int)
 ·rw [if_pos c8] at H
  refine aw_ifT ?_ (decide_eq_true c8)
  refine aw_skip ?_
  refine ac_next ?_
  refine aw_grp1 ?_
  refine aw_block ?_
  refine aw_grp1 ?_
  refine wk_start ?_
  obtain ⟨c9, H⟩ := of_if H
  refine kv g0 (ixS 59 (e59 (rd_T59 l0_3 p6)) c9 (getE (z := z59) c9 c8)) ?_
  refine kv g0 (ldRA 4 [.sl .o 1 (((rd_T59 l0_3 p6).f0).map (eI .i64)), .sl .o 6 (((rd_T59 l0_3 p6).f1).map e71), .lit (.int .i64 ((rd_T59 l0_3 p6).f2)), .lit (.int .i64 ((rd_T59 l0_3 p6).f3))]) ?_
  refine kb g0 (alc 1 [.slice none 0 0, .slice none 0 0, .int .i64 0, .int .i64 0] [.lit (.slice none 0 0), .lit (.slice none 0 0), .lit (.int .i64 0), .lit (.int .i64 0)]) ?_
  refine ks g0 (stB 4 [.sl .o 1 (((rd_T59 l0_3 p6).f0).map (eI .i64)), .sl .o 6 (((rd_T59 l0_3 p6).f1).map e71), .lit (.int .i64 ((rd_T59 l0_3 p6).f2)), .lit (.int .i64 ((rd_T59 l0_3 p6).f3))]) ?_
  refine wk_end ?_
  refine ac_next ?_
  refine aw_grp1 ?_
  refine wk_start ?_
  refine kv g0 (ldBA 4 [.sl .o 1 (((rd_T59 l0_3 p6).f0).map (eI .i64)), .sl .o 6 (((rd_T59 l0_3 p6).f1).map e71), .lit (.int .i64 ((rd_T59 l0_3 p6).f2)), .lit (.int .i64 ((rd_T59 l0_3 p6).f3))]) ?_
  obtain ⟨t10, A11, H⟩ := of_bind H
  refine kcS0 13 (.lit (.bool t10)) [] g0 (cal (impl_ruleOk.ok A11) [] 9999 .n (hf := Try.func67)) rfl rfl ?_
  refine kv g0 (not_) ?_
  refine wk_end ?_
  refine ac_next ?_
  by_cases c12 : t10 = true
  ·rw [if_pos c12] at H
   refine aw_ifF ?_ (nF c12)
   refine aw_skip ?_
   refine ac_blkN ?_
   refine ac_next ?_
   refine wk_start ?_
   refine kv g0 (add6) ?_
   refine kv g0 (mv) ?_
   refine wk_end ?_
   refine ac_k ?_
   exact acw hE [(0, 0)] 9999 (hK14 k7 (wrap64 (p6 + 1)) (Nat.le_refl _) ⟨by omega, H⟩)
  rw [if_neg c12] at H
  refine aw_ifT ?_ (nT (bF c12))
  refine aw_grp1 ?_
  refine wk_start ?_
  refine kv g0 (asg) ?_
  refine wk_end ?_
  refine ac_next ?_
  refine aw_ret ?_
  refine ac_blkR ?_
  refine ac_thenR ?_
  refine ac_thenR ?_
  refine ac_blkR ?_
  refine ac_thenR ?_
  obtain rfl := Option.some.inj H
  exact acr hE [.tmp 2] (.tmp .nil) (.one _) [] 9999
 rw [if_neg c8] at H
 refine aw_ifF ?_ (decide_eq_false c8)
 refine aw_exit ?_
 refine ac_then ?_
 refine ac_then ?_
 refine ac_hit rfl ?_
 refine ac_next ?_
 refine aw_grp1 ?_
 refine wk_start ?_
 refine kv g0 (faB 0 0) ?_
 refine kv g0 (ldB) ?_
 obtain ⟨t15, A16, H⟩ := of_bind H
 refine kcS0 18 (.lit (.bool t15)) [] g0 (cal (impl_HalfOk.ok A16) [] 9999 .n (hf := Try.func68)) rfl rfl ?_
 refine kv g0 (mv) ?_
 by_cases c17 : t15 = true
 ·rw [if_pos c17] at H
  refine kv (g1 c17) (faB 1 1) ?_
  refine kv (g1 c17) (ldB) ?_
  refine kv (g1 c17) (faB 2 2) ?_
  refine kv (g1 c17) (ldB) ?_
  obtain ⟨t18, A19, H⟩ := of_bind H
  refine kcS0 24 (.lit (.bool t18)) [] (g1 c17) (cal (impl_actionOk.ok A19) [] 9999 .n (hf := Try.func69)) rfl rfl ?_
  refine kv g0 (pkT c17) ?_
  refine kv g0 (mv) ?_
  by_cases c20 : t18 = true
  ·rw [if_pos c20] at H
   refine kv (g1 c20) (faB 3 3) ?_
   refine kv (g1 c20) (ldB) ?_
   refine kv (g1 c20) (lnS lenE) ?_
   refine kv (g1 c20) (leq) ?_
   refine kv g0 (pkT c20) ?_
   refine kv g0 (asg) ?_
   refine wk_end ?_
   refine ac_next ?_
   refine aw_ret ?_
   obtain rfl := Option.some.inj H
   exact acr hE [.tmp 2] (.tmp .nil) (.one _) [] 9999
  rw [if_neg c20] at H
  refine kx (hT (bF c20)) ?_
  refine kx (hT (bF c20)) ?_
  refine kx (hT (bF c20)) ?_
  refine kx (hT (bF c20)) ?_
  refine kv g0 (pkF (bF c20)) ?_
  refine kv g0 (asg) ?_
  refine wk_end ?_
  refine ac_next ?_
  refine aw_ret ?_
  obtain rfl := Option.some.inj H
  exact acr hE [.tmp 2] (.tmp .nil) (.one _) [] 9999
 rw [if_neg c17] at H
 refine kx (hT (bF c17)) ?_
 refine kx (hT (bF c17)) ?_
 refine kx (hT (bF c17)) ?_
 refine kx (hT (bF c17)) ?_
 refine kx (hT (bF c17)) ?_
 refine kv g0 (pkF (bF c17)) ?_
 refine kv g0 (mv) ?_
 refine kx (hT rfl) ?_
 refine kx (hT rfl) ?_
 refine kx (hT rfl) ?_
 refine kx (hT rfl) ?_
 refine kv g0 (pkF rfl) ?_
 refine kv g0 (asg) ?_
 refine wk_end ?_
 refine ac_next ?_
 refine aw_ret ?_
 obtain rfl := Option.some.inj H
 exact acr hE [.tmp 2] (.tmp .nil) (.one _) [] 9999
/-! impl_Cond_85 -/
def impl_Cond_85.l0 : Nat → (List S71) → Int → Int → Int → Int → Int → Int → Int → Option (Int)
 | 0, _, _, _, _, _, _, _, _ => none
 | k5 + 1, l0, a1_0, a1_1, a1_2, a1_3, a1_4, a1_5, p4 => if p4 < (l0.length : Int) then if 0 ≤ p4 then if (a1_0 == ((rd_T71 l0 p4).f0) && ((a1_1 == ((rd_T71 l0 p4).f1.f0) && (a1_2 == ((rd_T71 l0 p4).f1.f1))) && (a1_3 == ((rd_T71 l0 p4).f2) && ((a1_4 == ((rd_T71 l0 p4).f3.f0) && (a1_5 == ((rd_T71 l0 p4).f3.f1))))))) = true then some p4 else impl_Cond_85.l0 k5 l0 a1_0 a1_1 a1_2 a1_3 a1_4 a1_5 (wrap64 (p4 + 1)) else none else some (-1)
def impl_Cond_85.f (k : Nat) (l0 : List S71) (a1_0 : Int) (a1_1 : Int) (a1_2 : Int) (a1_3 : Int) (a1_4 : Int) (a1_5 : Int) : Option (Int) := impl_Cond_85.l0 k l0 a1_0 a1_1 a1_2 a1_3 a1_4 a1_5 0
theorem impl_Cond_85.ok {k : Nat} {l0 : List S71} {a1_0 : Int} {a1_1 : Int} {a1_2 : Int} {a1_3 : Int} {a1_4 : Int} {a1_5 : Int} {r : Int} (H : impl_Cond_85.f k l0 a1_0 a1_1 a1_2 a1_3 a1_4 a1_5 = some r) : ACalls Try.prog 85 [] [.sl .o 6 (l0.map e71), .agg [.lit (.int .i64 a1_0), .lit (.int .i64 a1_1), .lit (.int .i64 a1_2), .lit (.int .i64 a1_3), .lit (.int .i64 a1_4), .lit (.int .i64 a1_5)]] [] (.lit (.int .i64 r)) := by
 refine acalls (fn := Try.f85) (nt := 19) Try.func85 rfl rfl (Nat.le_of_ble_eq_true rfl) fun E hE => ?_
 rw [impl_Cond_85.f] at H
 refine aw_grp1 ?_
 refine wk_start ?_
 refine kb g0 (bxA 0) ?_
 refine kv g0 (asg) ?_
 refine wk_end ?_
 refine ac_next ?_
 refine aw_grp1 ?_
 refine aw_grp1 ?_
 refine wk_start ?_
 refine kv g0 (mv) ?_
 refine kv g0 (lnS lenE) ?_
 refine kv g0 (mv) ?_
 refine wk_end ?_
 refine ac_next ?_
 refine aw_block ?_
 refine aw_loop1 (fun (k_ : Nat) (p4 : Int) => k_ ≤ k ∧ impl_Cond_85.l0 k_ l0 a1_0 a1_1 a1_2 a1_3 a1_4 a1_5 p4 = some r) (fun (p4 : Int) => ⟨[(0, .sl .o 6 (l0.map e71)), (3, .box 0 0), (7, .lit (.int .i64 (l0.length : Int))), (8, .lit (.int .i64 p4))], [(0, .box 71 [.lit (.int .i64 a1_0), .lit (.int .i64 a1_1), .lit (.int .i64 a1_2), .lit (.int .i64 a1_3), .lit (.int .i64 a1_4), .lit (.int .i64 a1_5)])]⟩) k 0 ⟨Nat.le_refl _, H⟩ (fun K_ h_ => acw hE [(0, 0)] 9999 h_) (fun _ => by intro h_; have h_ := h_.2; rw [impl_Cond_85.l0.eq_1] at h_; cases h_) ?_
 intro k5 p4 hq_ K9 hK10
 have hk5 := hq_.1
 have H := hq_.2
 clear hq_
 rw [impl_Cond_85.l0.eq_2] at H
 refine aw_grp1 ?_
 refine wk_start ?_
 refine kv g0 (lss) ?_
 refine wk_end ?_
 refine ac_next ?_
 refine aw_grp1 ?_
 by_cases c6 : p4 < (l0.length : Int)
 ·rw [if_pos c6] at H
  refine aw_ifT ?_ (decide_eq_true c6)
  refine aw_skip ?_
  refine ac_next ?_
  refine aw_grp1 ?_
  refine aw_block ?_
  refine aw_grp1 ?_
  refine wk_start ?_
  refine kv g0 (mv) ?_
  refine kv g0 (asg) ?_
  refine wk_end ?_
  refine ac_next ?_
  refine aw_grp1 ?_
  refine wk_start ?_
  refine kv g0 (ldBA 6 [.lit (.int .i64 a1_0), .lit (.int .i64 a1_1), .lit (.int .i64 a1_2), .lit (.int .i64 a1_3), .lit (.int .i64 a1_4), .lit (.int .i64 a1_5)]) ?_
  refine kv g0 (mv) ?_
  refine kv g0 (mv) ?_
  obtain ⟨c7, H⟩ := of_if H
  refine kv g0 (ixS 71 (e71 (rd_T71 l0 p4)) c7 (getE (z := z71) c7 c6)) ?_
  refine kv g0 (ldRA 6 [.lit (.int .i64 ((rd_T71 l0 p4).f0)), .lit (.int .i64 ((rd_T71 l0 p4).f1.f0)), .lit (.int .i64 ((rd_T71 l0 p4).f1.f1)), .lit (.int .i64 ((rd_T71 l0 p4).f2)), .lit (.int .i64 ((rd_T71 l0 p4).f3.f0)), .lit (.int .i64 ((rd_T71 l0 p4).f3.f1))]) ?_
  refine kv g0 (eqS (fun w => eq71 _ w a1_0 a1_1 a1_2 a1_3 a1_4 a1_5 ((rd_T71 l0 p4).f0) ((rd_T71 l0 p4).f1.f0) ((rd_T71 l0 p4).f1.f1) ((rd_T71 l0 p4).f2) ((rd_T71 l0 p4).f3.f0) ((rd_T71 l0 p4).f3.f1))) ?_
  refine wk_end_draw hM (by kernel_rfl) ?_
  refine ac_next ?_
  by_cases c8 : (a1_0 == ((rd_T71 l0 p4).f0) && ((a1_1 == ((rd_T71 l0 p4).f1.f0) && (a1_2 == ((rd_T71 l0 p4).f1.f1))) && (a1_3 == ((rd_T71 l0 p4).f2) && ((a1_4 == ((rd_T71 l0 p4).f3.f0) && (a1_5 == ((rd_T71 l0 p4).f3.f1))))))) = true
  ·rw [if_pos c8] at H
   refine aw_ifT ?_ c8
   refine aw_grp1 ?_
   refine wk_start ?_
   refine kv g0 (mv) ?_
   refine kv g0 (asg) ?_
   refine wk_end ?_
   refine ac_next ?_
   refine aw_ret ?_
   refine ac_blkR ?_
   refine ac_thenR ?_
   refine ac_thenR ?_
   refine ac_blkR ?_
   refine ac_thenR ?_
   obtain rfl := Option.some.inj H
   exact acr hE [.tmp 4] (.tmp .nil) (.one _) [] 9999
  rw [if_neg c8] at H
  refine aw_ifF ?_ (bF c8)
  refine aw_skip ?_
  refine ac_blkN ?_
  refine ac_next ?_
  refine wk_start ?_
  refine kv g0 (add6) ?_
  refine kv g0 (mv) ?_
  refine wk_end ?_
  refine ac_k ?_
  exact acw hE [(0, 0)] 9999 (hK10 k5 (wrap64 (p4 + 1)) (Nat.le_refl _) ⟨by omega, H⟩)
 rw [if_neg c6] at H
 refine aw_ifF ?_ (decide_eq_false c6)
 refine aw_exit ?_
 refine ac_then ?_
 refine ac_then ?_
 refine ac_hit rfl ?_
 refine ac_next ?_
 refine aw_grp1 ?_
 refine wk_start ?_
 refine kv g0 (asg) ?_
 refine wk_end ?_
 refine ac_next ?_
 refine aw_ret ?_
 obtain rfl := Option.some.inj H
 exact acr hE [.tmp 4] (.tmp .nil) (.one _) [] 9999
/-! impl_Cond_71 -/
def impl_Cond_71.f (k : Nat) (l0 : List S71) (a1_0 : Int) (a1_1 : Int) (a1_2 : Int) (a1_3 : Int) (a1_4 : Int) (a1_5 : Int) : Option (Bool) := (impl_Cond_85.f k l0 a1_0 a1_1 a1_2 a1_3 a1_4 a1_5).bind fun t1 => some (decide (t1 ≥ 0))
theorem impl_Cond_71.ok {k : Nat} {l0 : List S71} {a1_0 : Int} {a1_1 : Int} {a1_2 : Int} {a1_3 : Int} {a1_4 : Int} {a1_5 : Int} {r : Bool} (H : impl_Cond_71.f k l0 a1_0 a1_1 a1_2 a1_3 a1_4 a1_5 = some r) : ACalls Try.prog 71 [] [.sl .o 6 (l0.map e71), .agg [.lit (.int .i64 a1_0), .lit (.int .i64 a1_1), .lit (.int .i64 a1_2), .lit (.int .i64 a1_3), .lit (.int .i64 a1_4), .lit (.int .i64 a1_5)]] [] (.lit (.bool r)) := by
 refine acalls (fn := Try.f71) (nt := 9) Try.func71 rfl rfl (Nat.le_of_ble_eq_true rfl) fun E hE => ?_
 rw [impl_Cond_71.f] at H
 refine aw_grp1 ?_
 refine wk_start ?_
 refine kb g0 (bxA 0) ?_
 refine kv g0 (asg) ?_
 refine wk_end ?_
 refine ac_next ?_
 refine aw_grp1 ?_
 refine wk_start ?_
 refine kv g0 (mv) ?_
 refine kv g0 (ldBA 6 [.lit (.int .i64 a1_0), .lit (.int .i64 a1_1), .lit (.int .i64 a1_2), .lit (.int .i64 a1_3), .lit (.int .i64 a1_4), .lit (.int .i64 a1_5)]) ?_
 obtain ⟨t1, A2, H⟩ := of_bind H
 refine kcS0 7 (.lit (.int .i64 t1)) [] g0 (cal (impl_Cond_85.ok A2) [] 9999 .n (hf := Try.func85)) rfl rfl ?_
 refine kv g0 (geq) ?_
 refine kv g0 (asg) ?_
 refine wk_end ?_
 refine ac_next ?_
 refine aw_ret ?_
 obtain rfl := Option.some.inj H
 exact acr hE [.tmp 4] (.tmp .nil) (.one _) [] 9999
/-! slices_Index_int_int -/
def slices_Index_int_int.l0 : Nat → (List Int) → Int → Int → Option (Int)
 | 0, _, _, _ => none
 | k5 + 1, l0, a1, p4 => if p4 < (l0.length : Int) then if 0 ≤ p4 then if a1 = (rd l0 p4) then some p4 else slices_Index_int_int.l0 k5 l0 a1 (wrap64 (p4 + 1)) else none else some (-1)
def slices_Index_int_int.f (k : Nat) (l0 : List Int) (a1 : Int) : Option (Int) := slices_Index_int_int.l0 k l0 a1 0
theorem slices_Index_int_int.ok {k : Nat} {l0 : List Int} {a1 : Int} {r : Int} (H : slices_Index_int_int.f k l0 a1 = some r) : ACalls Try.prog 66 [] [.sl .o 1 (l0.map (eI .i64)), .lit (.int .i64 a1)] [] (.lit (.int .i64 r)) := by
 refine acalls (fn := Try.f66) (nt := 19) Try.func66 rfl rfl (Nat.le_of_ble_eq_true rfl) fun E hE => ?_
 rw [slices_Index_int_int.f] at H
 refine aw_grp1 ?_
 refine wk_start ?_
 refine kv g0 (asg) ?_
 refine wk_end ?_
 refine ac_next ?_
 refine aw_grp1 ?_
 refine aw_grp1 ?_
 refine wk_start ?_
 refine kv g0 (mv) ?_
 refine kv g0 (lnS lenE) ?_
 refine kv g0 (mv) ?_
 refine wk_end ?_
 refine ac_next ?_
 refine aw_block ?_
 refine aw_loop1 (fun (k_ : Nat) (p4 : Int) => k_ ≤ k ∧ slices_Index_int_int.l0 k_ l0 a1 p4 = some r) (fun (p4 : Int) => ⟨[(0, .sl .o 1 (l0.map (eI .i64))), (1, .lit (.int .i64 a1)), (7, .lit (.int .i64 (l0.length : Int))), (8, .lit (.int .i64 p4))], []⟩) k 0 ⟨Nat.le_refl _, H⟩ (fun K_ h_ => acw hE [] 9999 h_) (fun _ => by intro h_; have h_ := h_.2; rw [slices_Index_int_int.l0.eq_1] at h_; cases h_) ?_
 intro k5 p4 hq_ K9 hK10
 have hk5 := hq_.1
 have H := hq_.2
 clear hq_
 rw [slices_Index_int_int.l0.eq_2] at H
 refine aw_grp1 ?_
 refine wk_start ?_
 refine kv g0 (lss) ?_
 refine wk_end ?_
 refine ac_next ?_
 refine aw_grp1 ?_
 by_cases c6 : p4 < (l0.length : Int)
 ·rw [if_pos c6] at H
  refine aw_ifT ?_ (decide_eq_true c6)
  refine aw_skip ?_
  refine ac_next ?_
  refine aw_grp1 ?_
  refine aw_block ?_
  refine aw_grp1 ?_
  refine wk_start ?_
  refine kv g0 (mv) ?_
  refine kv g0 (asg) ?_
  refine wk_end ?_
  refine ac_next ?_
  refine aw_grp1 ?_
  refine wk_start ?_
  refine kv g0 (mv) ?_
  refine kv g0 (mv) ?_
  refine kv g0 (mv) ?_
  obtain ⟨c7, H⟩ := of_if H
  refine kv g0 (ixS 3 (eI .i64 (rd l0 p4)) c7 (getE (z := (0 : Int)) c7 c6)) ?_
  refine kv g0 (ldR (.lit (.int .i64 (rd l0 p4)))) ?_
  refine kv g0 (eql) ?_
  refine wk_end ?_
  refine ac_next ?_
  by_cases c8 : a1 = (rd l0 p4)
  ·rw [if_pos c8] at H
   refine aw_ifT ?_ (eT c8)
   refine aw_grp1 ?_
   refine wk_start ?_
   refine kv g0 (mv) ?_
   refine kv g0 (asg) ?_
   refine wk_end ?_
   refine ac_next ?_
   refine aw_ret ?_
   refine ac_blkR ?_
   refine ac_thenR ?_
   refine ac_thenR ?_
   refine ac_blkR ?_
   refine ac_thenR ?_
   obtain rfl := Option.some.inj H
   exact acr hE [.tmp 4] (.tmp .nil) (.one _) [] 9999
  rw [if_neg c8] at H
  refine aw_ifF ?_ (eF c8)
  refine aw_skip ?_
  refine ac_blkN ?_
  refine ac_next ?_
  refine wk_start ?_
  refine kv g0 (add6) ?_
  refine kv g0 (mv) ?_
  refine wk_end ?_
  refine ac_k ?_
  exact acw hE [] 9999 (hK10 k5 (wrap64 (p4 + 1)) (Nat.le_refl _) ⟨by omega, H⟩)
 rw [if_neg c6] at H
 refine aw_ifF ?_ (decide_eq_false c6)
 refine aw_exit ?_
 refine ac_then ?_
 refine ac_then ?_
 refine ac_hit rfl ?_
 refine ac_next ?_
 refine aw_grp1 ?_
 refine wk_start ?_
 refine kv g0 (asg) ?_
 refine wk_end ?_
 refine ac_next ?_
 refine aw_ret ?_
 obtain rfl := Option.some.inj H
 exact acr hE [.tmp 4] (.tmp .nil) (.one _) [] 9999
/-! slices_Contains_int_int -/
def slices_Contains_int_int.f (k : Nat) (l0 : List Int) (a1 : Int) : Option (Bool) := (slices_Index_int_int.f k l0 a1).bind fun t1 => some (decide (t1 ≥ 0))
theorem slices_Contains_int_int.ok {k : Nat} {l0 : List Int} {a1 : Int} {r : Bool} (H : slices_Contains_int_int.f k l0 a1 = some r) : ACalls Try.prog 39 [] [.sl .o 1 (l0.map (eI .i64)), .lit (.int .i64 a1)] [] (.lit (.bool r)) := by
 refine acalls (fn := Try.f39) (nt := 9) Try.func39 rfl rfl (Nat.le_of_ble_eq_true rfl) fun E hE => ?_
 rw [slices_Contains_int_int.f] at H
 refine aw_grp1 ?_
 refine wk_start ?_
 refine kv g0 (asg) ?_
 refine wk_end ?_
 refine ac_next ?_
 refine aw_grp1 ?_
 refine wk_start ?_
 refine kv g0 (mv) ?_
 refine kv g0 (mv) ?_
 obtain ⟨t1, A2, H⟩ := of_bind H
 refine kcS0 7 (.lit (.int .i64 t1)) [] g0 (cal (slices_Index_int_int.ok A2) [] 9999 .n (hf := Try.func66)) rfl rfl ?_
 refine kv g0 (geq) ?_
 refine kv g0 (asg) ?_
 refine wk_end ?_
 refine ac_next ?_
 refine aw_ret ?_
 obtain rfl := Option.some.inj H
 exact acr hE [.tmp 4] (.tmp .nil) (.one _) [] 9999
/-! impl_covers -/
mutual
def impl_covers.l0 : Nat → (List Int) → (List S71) → Int → Int → (List Int) → (List S71) → Int → Int → Int → Option (Bool)
 | 0, _, _, _, _, _, _, _, _, _ => none
 | k7 + 1, l0_0, l0_1, a0_2, a0_3, l1_0, l1_1, a1_2, a1_3, p6 => if p6 < (l0_1.length : Int) then if 0 ≤ p6 then (impl_Cond_71.f k7 l1_1 ((rd_T71 l0_1 p6).f0) ((rd_T71 l0_1 p6).f1.f0) ((rd_T71 l0_1 p6).f1.f1) ((rd_T71 l0_1 p6).f2) ((rd_T71 l0_1 p6).f3.f0) ((rd_T71 l0_1 p6).f3.f1)).bind fun t10 => if t10 = true then impl_covers.l0 k7 l0_0 l0_1 a0_2 a0_3 l1_0 l1_1 a1_2 a1_3 (wrap64 (p6 + 1)) else some false else none else if (l0_0.length : Int) = 0 then some true else impl_covers.l1 k7 l0_0 l0_1 a0_2 a0_3 l1_0 l1_1 a1_2 a1_3 0
def impl_covers.l1 : Nat → (List Int) → (List S71) → Int → Int → (List Int) → (List S71) → Int → Int → Int → Option (Bool)
 | 0, _, _, _, _, _, _, _, _, _ => none
 | k22 + 1, l0_0, l0_1, a0_2, a0_3, l1_0, l1_1, a1_2, a1_3, p21 => if p21 < (l1_0.length : Int) then if 0 ≤ p21 then (slices_Contains_int_int.f k22 l0_0 (rd l1_0 p21)).bind fun t25 => if t25 = true then impl_covers.l1 k22 l0_0 l0_1 a0_2 a0_3 l1_0 l1_1 a1_2 a1_3 (wrap64 (p21 + 1)) else some false else none else some (decide ((l1_0.length : Int) > 0))
end
def impl_covers.f (k : Nat) (l0_0 : List Int) (l0_1 : List S71) (a0_2 : Int) (a0_3 : Int) (l1_0 : List Int) (l1_1 : List S71) (a1_2 : Int) (a1_3 : Int) : Option (Bool) := impl_covers.l0 k l0_0 l0_1 a0_2 a0_3 l1_0 l1_1 a1_2 a1_3 0
theorem impl_covers.ok {k : Nat} {l0_0 : List Int} {l0_1 : List S71} {a0_2 : Int} {a0_3 : Int} {l1_0 : List Int} {l1_1 : List S71} {a1_2 : Int} {a1_3 : Int} {r : Bool} (H : impl_covers.f k l0_0 l0_1 a0_2 a0_3 l1_0 l1_1 a1_2 a1_3 = some r) : ACalls Try.prog 45 [] [.agg [.sl .o 1 (l0_0.map (eI .i64)), .sl .o 6 (l0_1.map e71), .lit (.int .i64 a0_2), .lit (.int .i64 a0_3)], .agg [.sl .o 1 (l1_0.map (eI .i64)), .sl .o 6 (l1_1.map e71), .lit (.int .i64 a1_2), .lit (.int .i64 a1_3)]] [] (.lit (.bool r)) := by
 refine acalls (fn := Try.f45) (nt := 43) Try.func45 rfl rfl (Nat.le_of_ble_eq_true rfl) fun E hE => ?_
 rw [impl_covers.f] at H
 refine aw_grp1 ?_
 refine wk_start ?_
 refine kb g0 (bxA 0) ?_
 refine kb g0 (bxA 1) ?_
 refine kv g0 (asg) ?_
 refine wk_end ?_
 refine ac_next ?_
 refine aw_grp1 ?_
 refine aw_grp1 ?_
 refine wk_start ?_
 refine kv g0 (faB 1 1) ?_
 refine kv g0 (ldB) ?_
 refine kv g0 (lnS lenE) ?_
 refine kv g0 (mv) ?_
 refine wk_end ?_
 refine ac_next ?_
 refine aw_block ?_
 refine aw_loop1 (fun (k_ : Nat) (p6 : Int) => k_ ≤ k ∧ impl_covers.l0 k_ l0_0 l0_1 a0_2 a0_3 l1_0 l1_1 a1_2 a1_3 p6 = some r) (fun (p6 : Int) => ⟨[(2, .box 0 0), (3, .box 1 0), (10, .sl .o 6 (l0_1.map e71)), (11, .lit (.int .i64 (l0_1.length : Int))), (12, .lit (.int .i64 p6))], [(0, .box 59 [.sl .o 1 (l0_0.map (eI .i64)), .sl .o 6 (l0_1.map e71), .lit (.int .i64 a0_2), .lit (.int .i64 a0_3)]), (1, .box 59 [.sl .o 1 (l1_0.map (eI .i64)), .sl .o 6 (l1_1.map e71), .lit (.int .i64 a1_2), .lit (.int .i64 a1_3)])]⟩) k 0 ⟨Nat.le_refl _, H⟩ (fun K_ h_ => acw hE [(0, 0), (1, 1)] 9999 h_) (fun _ => by intro h_; have h_ := h_.2; rw [impl_covers.l0.eq_1] at h_; cases h_) ?_
 intro k7 p6 hq_ K13 hK14
 have hk7 := hq_.1
 have H := hq_.2
 clear hq_
 rw [impl_covers.l0.eq_2] at H
 refine aw_grp1 ?_
 refine wk_start ?_
 refine kv g0 (lss) ?_
 refine wk_end ?_
 refine ac_next ?_
 refine aw_grp1 ?_
 by_cases c8 : p6 < (l0_1.length : Int)
 ·rw [if_pos c8] at H
  refine aw_ifT ?_ (decide_eq_true c8)
  refine aw_skip ?_
  refine ac_next ?_
  refine aw_grp1 ?_
  refine aw_block ?_
  refine aw_grp1 ?_
  refine wk_start ?_
  obtain ⟨c9, H⟩ := of_if H
  refine kv g0 (ixS 71 (e71 (rd_T71 l0_1 p6)) c9 (getE (z := z71) c9 c8)) ?_
  refine kv g0 (ldRA 6 [.lit (.int .i64 ((rd_T71 l0_1 p6).f0)), .lit (.int .i64 ((rd_T71 l0_1 p6).f1.f0)), .lit (.int .i64 ((rd_T71 l0_1 p6).f1.f1)), .lit (.int .i64 ((rd_T71 l0_1 p6).f2)), .lit (.int .i64 ((rd_T71 l0_1 p6).f3.f0)), .lit (.int .i64 ((rd_T71 l0_1 p6).f3.f1))]) ?_
  refine kb g0 (alc 2 [.int .i64 0, .int .i64 0, .int .i64 0, .int .i64 0, .int .i64 0, .int .i64 0] [.lit (.int .i64 0), .lit (.int .i64 0), .lit (.int .i64 0), .lit (.int .i64 0), .lit (.int .i64 0), .lit (.int .i64 0)]) ?_
  refine ks g0 (stB 6 [.lit (.int .i64 ((rd_T71 l0_1 p6).f0)), .lit (.int .i64 ((rd_T71 l0_1 p6).f1.f0)), .lit (.int .i64 ((rd_T71 l0_1 p6).f1.f1)), .lit (.int .i64 ((rd_T71 l0_1 p6).f2)), .lit (.int .i64 ((rd_T71 l0_1 p6).f3.f0)), .lit (.int .i64 ((rd_T71 l0_1 p6).f3.f1))]) ?_
  refine wk_end ?_
  refine ac_next ?_
  refine aw_grp1 ?_
  refine wk_start ?_
  refine kv g0 (faB 1 1) ?_
  refine kv g0 (ldB) ?_
  refine kv g0 (ldBA 6 [.lit (.int .i64 ((rd_T71 l0_1 p6).f0)), .lit (.int .i64 ((rd_T71 l0_1 p6).f1.f0)), .lit (.int .i64 ((rd_T71 l0_1 p6).f1.f1)), .lit (.int .i64 ((rd_T71 l0_1 p6).f2)), .lit (.int .i64 ((rd_T71 l0_1 p6).f3.f0)), .lit (.int .i64 ((rd_T71 l0_1 p6).f3.f1))]) ?_
  obtain ⟨t10, A11, H⟩ := of_bind H
  refine kcS0 19 (.lit (.bool t10)) [] g0 (cal (impl_Cond_71.ok A11) [] 9999 .n (hf := Try.func71)) rfl rfl ?_
  refine kv g0 (not_) ?_
  refine wk_end ?_
  refine ac_next ?_
  by_cases c12 : t10 = true
  ·rw [if_pos c12] at H
   refine aw_ifF ?_ (nF c12)
   refine aw_skip ?_
   refine ac_blkN ?_
   refine ac_next ?_
   refine wk_start ?_
   refine kv g0 (add6) ?_
   refine kv g0 (mv) ?_
   refine wk_end ?_
   refine ac_k ?_
   exact acw hE [(0, 0), (1, 1)] 9999 (hK14 k7 (wrap64 (p6 + 1)) (Nat.le_refl _) ⟨by omega, H⟩)
  rw [if_neg c12] at H
  refine aw_ifT ?_ (nT (bF c12))
  refine aw_grp1 ?_
  refine wk_start ?_
  refine kv g0 (asg) ?_
  refine wk_end ?_
  refine ac_next ?_
  refine aw_ret ?_
  refine ac_blkR ?_
  refine ac_thenR ?_
  refine ac_thenR ?_
  refine ac_blkR ?_
  refine ac_thenR ?_
  obtain rfl := Option.some.inj H
  exact acr hE [.tmp 4] (.tmp .nil) (.one _) [] 9999
 rw [if_neg c8] at H
 refine aw_ifF ?_ (decide_eq_false c8)
 refine aw_exit ?_
 refine ac_then ?_
 refine ac_then ?_
 refine ac_hit rfl ?_
 refine ac_next ?_
 refine aw_grp1 ?_
 refine aw_grp1 ?_
 refine wk_start ?_
 refine kv g0 (faB 0 0) ?_
 refine kv g0 (ldB) ?_
 refine kv g0 (lnS lenE) ?_
 refine kv g0 (eql) ?_
 refine wk_end ?_
 refine ac_next ?_
 by_cases c15 : (l0_0.length : Int) = 0
 ·rw [if_pos c15] at H
  refine aw_ifT ?_ (eT c15)
  refine aw_grp1 ?_
  refine wk_start ?_
  refine kv g0 (asg) ?_
  refine wk_end ?_
  refine ac_next ?_
  refine aw_ret ?_
  refine ac_thenR ?_
  obtain rfl := Option.some.inj H
  exact acr hE [.tmp 4] (.tmp .nil) (.one _) [] 9999
 rw [if_neg c15] at H
 refine aw_ifF ?_ (eF c15)
 refine aw_skip ?_
 refine ac_next ?_
 refine aw_grp1 ?_
 refine aw_grp1 ?_
 refine wk_start ?_
 refine kv g0 (faB 0 0) ?_
 refine kv g0 (ldB) ?_
 refine kv g0 (lnS lenE) ?_
 refine kv g0 (mv) ?_
 refine wk_end ?_
 refine ac_next ?_
 refine aw_block ?_
 refine aw_loop1 (fun (k_ : Nat) (p21 : Int) => k_ ≤ k7 ∧ impl_covers.l1 k_ l0_0 l0_1 a0_2 a0_3 l1_0 l1_1 a1_2 a1_3 p21 = some r) (fun (p21 : Int) => ⟨[(2, .box 0 0), (3, .box 1 0), (27, .sl .o 1 (l1_0.map (eI .i64))), (28, .lit (.int .i64 (l1_0.length : Int))), (29, .lit (.int .i64 p21))], [(0, .box 59 [.sl .o 1 (l0_0.map (eI .i64)), .sl .o 6 (l0_1.map e71), .lit (.int .i64 a0_2), .lit (.int .i64 a0_3)]), (1, .box 59 [.sl .o 1 (l1_0.map (eI .i64)), .sl .o 6 (l1_1.map e71), .lit (.int .i64 a1_2), .lit (.int .i64 a1_3)])]⟩) k7 0 ⟨Nat.le_refl _, H⟩ (fun K_ h_ => acw hE [(0, 0), (1, 1)] 9999 h_) (fun _ => by intro h_; have h_ := h_.2; rw [impl_covers.l1.eq_1] at h_; cases h_) ?_
 intro k22 p21 hq_ K28 hK29
 have hk22 := hq_.1
 have H := hq_.2
 clear hq_
 rw [impl_covers.l1.eq_2] at H
 refine aw_grp1 ?_
 refine wk_start ?_
 refine kv g0 (lss) ?_
 refine wk_end ?_
 refine ac_next ?_
 refine aw_grp1 ?_
 by_cases c23 : p21 < (l1_0.length : Int)
 ·rw [if_pos c23] at H
  refine aw_ifT ?_ (decide_eq_true c23)
  refine aw_skip ?_
  refine ac_next ?_
  refine aw_grp1 ?_
  refine aw_block ?_
  refine aw_grp1 ?_
  refine wk_start ?_
  obtain ⟨c24, H⟩ := of_if H
  refine kv g0 (ixS 3 (eI .i64 (rd l1_0 p21)) c24 (getE (z := (0 : Int)) c24 c23)) ?_
  refine kv g0 (ldR (.lit (.int .i64 (rd l1_0 p21)))) ?_
  refine kv g0 (asg) ?_
  refine wk_end ?_
  refine ac_next ?_
  refine aw_grp1 ?_
  refine wk_start ?_
  refine kv g0 (faB 0 0) ?_
  refine kv g0 (ldB) ?_
  refine kv g0 (mv) ?_
  obtain ⟨t25, A26, H⟩ := of_bind H
  refine kcS0 36 (.lit (.bool t25)) [] g0 (cal (slices_Contains_int_int.ok A26) [] 9999 .n (hf := Try.func39)) rfl rfl ?_
  refine kv g0 (not_) ?_
  refine wk_end ?_
  refine ac_next ?_
  by_cases c27 : t25 = true
  ·rw [if_pos c27] at H
   refine aw_ifF ?_ (nF c27)
   refine aw_skip ?_
   refine ac_blkN ?_
   refine ac_next ?_
   refine wk_start ?_
   refine kv g0 (add6) ?_
   refine kv g0 (mv) ?_
   refine wk_end ?_
   refine ac_k ?_
   exact acw hE [(0, 0), (1, 1)] 9999 (hK29 k22 (wrap64 (p21 + 1)) (Nat.le_refl _) ⟨by omega, H⟩)
  rw [if_neg c27] at H
  refine aw_ifT ?_ (nT (bF c27))
  refine aw_grp1 ?_
  refine wk_start ?_
  refine kv g0 (asg) ?_
  refine wk_end ?_
  refine ac_next ?_
  refine aw_ret ?_
  refine ac_blkR ?_
  refine ac_thenR ?_
  refine ac_thenR ?_
  refine ac_blkR ?_
  refine ac_thenR ?_
  obtain rfl := Option.some.inj H
  exact acr hE [.tmp 4] (.tmp .nil) (.one _) [] 9999
 rw [if_neg c23] at H
 refine aw_ifF ?_ (decide_eq_false c23)
 refine aw_exit ?_
 refine ac_then ?_
 refine ac_then ?_
 refine ac_hit rfl ?_
 refine ac_next ?_
 refine aw_grp1 ?_
 refine wk_start ?_
 refine kv g0 (faB 0 0) ?_
 refine kv g0 (ldB) ?_
 refine kv g0 (lnS lenE) ?_
 refine kv g0 (gtr) ?_
 refine kv g0 (asg) ?_
 refine wk_end ?_
 refine ac_next ?_
 refine aw_ret ?_
 obtain rfl := Option.some.inj H
 exact acr hE [.tmp 4] (.tmp .nil) (.one _) [] 9999
/-! impl_Shadowed_1, handed  -/
def impl_Shadowed_1.f (k : Nat) (l0_0 : List Int) (l0_1 : List S71) (a0_2 : Int) (a0_3 : Int) (l1_0 : List Int) (l1_1 : List S71) (a1_2 : Int) (a1_3 : Int) : Option (Bool × (List Int) × (List S71) × Int × Int) := (impl_covers.f k l0_0 l0_1 a0_2 a0_3 l1_0 l1_1 a1_2 a1_3).bind fun t1 => some (t1, l1_0, l1_1, a1_2, a1_3)
theorem impl_Shadowed_1.ok {k : Nat} {l0_0 : List Int} {l0_1 : List S71} {a0_2 : Int} {a0_3 : Int} {l1_0 : List Int} {l1_1 : List S71} {a1_2 : Int} {a1_3 : Int} {r : Bool × (List Int) × (List S71) × Int × Int} (H : impl_Shadowed_1.f k l0_0 l0_1 a0_2 a0_3 l1_0 l1_1 a1_2 a1_3 = some r) : ACalls Try.prog 44 [(0, .box 59 [.sl .u 1 (l1_0.map (eI .i64)), .sl .u 6 (l1_1.map e71), .lit (.int .i64 a1_2), .lit (.int .i64 a1_3)])] [.agg [.sl .o 1 (l0_0.map (eI .i64)), .sl .o 6 (l0_1.map e71), .lit (.int .i64 a0_2), .lit (.int .i64 a0_3)], .box 0 0] [(0, .box 59 [.sl .u 1 (r.2.1.map (eI .i64)), .sl .u 6 (r.2.2.1.map e71), .lit (.int .i64 r.2.2.2.1), .lit (.int .i64 r.2.2.2.2)])] (.lit (.bool r.1)) := by
 refine acalls (fn := Try.f44) (nt := 7) Try.func44 rfl rfl (Nat.le_of_ble_eq_true rfl) fun E hE => ?_
 rw [impl_Shadowed_1.f] at H
 refine aw_grp1 ?_
 refine wk_start ?_
 refine kb g0 (bxA 1) ?_
 refine kv g0 (asg) ?_
 refine wk_end ?_
 refine ac_next ?_
 refine aw_grp1 ?_
 refine wk_start ?_
 refine kv g0 (ldBA 4 [.sl .o 1 (l0_0.map (eI .i64)), .sl .o 6 (l0_1.map e71), .lit (.int .i64 a0_2), .lit (.int .i64 a0_3)]) ?_
 refine kv g0 (ldBA 4 [.sl .u 1 (l1_0.map (eI .i64)), .sl .u 6 (l1_1.map e71), .lit (.int .i64 a1_2), .lit (.int .i64 a1_3)]) ?_
 obtain ⟨t1, A2, H⟩ := of_bind H
 refine kcS0 6 (.lit (.bool t1)) [] g0 (cal (impl_covers.ok A2) [] 9999 .n (hf := Try.func45)) rfl rfl ?_
 refine kv g0 (asg) ?_
 refine wk_end ?_
 refine ac_next ?_
 refine aw_ret ?_
 obtain rfl := Option.some.inj H
 exact acr hE [.tmp 3] (.tmp .nil) (.one _) [(0, 0)] 9999
/-! impl_Rule_70, handed impl_Shadowed_1 -/
def impl_Rule_70_w44.l0 : Nat → (List S59) → (List Int) → (List S71) → Int → Int → Int → Option (Int × (List Int) × (List S71) × Int × Int)
 | 0, _, _, _, _, _, _ => none
 | k11 + 1, l0, q6, q7, p8, p9, p10 => if p10 < (l0.length : Int) then if 0 ≤ p10 then ((impl_Shadowed_1.f k11 ((rd_T59 l0 p10).f0) ((rd_T59 l0 p10).f1) ((rd_T59 l0 p10).f2) ((rd_T59 l0 p10).f3) q6 q7 p8 p9).bind fun t14 => if t14.1 = true then some (p10, t14.2.1, t14.2.2.1, t14.2.2.2.1, t14.2.2.2.2) else impl_Rule_70_w44.l0 k11 l0 t14.2.1 t14.2.2.1 t14.2.2.2.1 t14.2.2.2.2 (wrap64 (p10 + 1))) else none else some ((-1), q6, q7, p8, p9)
def impl_Rule_70_w44.f (k : Nat) (l0 : List S59) (l1_0_0 : List Int) (l1_0_1 : List S71) (a1_0_2 : Int) (a1_0_3 : Int) : Option (Int × (List Int) × (List S71) × Int × Int) := impl_Rule_70_w44.l0 k l0 l1_0_0 l1_0_1 a1_0_2 a1_0_3 0
theorem impl_Rule_70_w44.ok {k : Nat} {l0 : List S59} {l1_0_0 : List Int} {l1_0_1 : List S71} {a1_0_2 : Int} {a1_0_3 : Int} {r : Int × (List Int) × (List S71) × Int × Int} (H : impl_Rule_70_w44.f k l0 l1_0_0 l1_0_1 a1_0_2 a1_0_3 = some r) : ACalls Try.prog 70 [(0, .box 59 [.sl .u 1 (l1_0_0.map (eI .i64)), .sl .u 6 (l1_0_1.map e71), .lit (.int .i64 a1_0_2), .lit (.int .i64 a1_0_3)])] [.sl .o 4 (l0.map e59), .fn 44 [.box 0 0]] [(0, .box 59 [.sl .u 1 (r.2.1.map (eI .i64)), .sl .u 6 (r.2.2.1.map e71), .lit (.int .i64 r.2.2.2.1), .lit (.int .i64 r.2.2.2.2)])] (.lit (.int .i64 r.1)) := by
 refine acalls (fn := Try.f70) (nt := 19) Try.func70 rfl rfl (Nat.le_of_ble_eq_true rfl) fun E hE => ?_
 rw [impl_Rule_70_w44.f] at H
 refine aw_grp1 ?_
 refine wk_start ?_
 refine kv g0 (asg) ?_
 refine wk_end ?_
 refine ac_next ?_
 refine aw_grp1 ?_
 refine aw_grp1 ?_
 refine wk_start ?_
 refine kv g0 (mv) ?_
 refine kv g0 (lnS lenE) ?_
 refine kv g0 (mv) ?_
 refine wk_end ?_
 refine ac_next ?_
 refine aw_block ?_
 refine aw_loop5 (fun (k_ : Nat) (q6 : List Int) (q7 : List S71) (p8 : Int) (p9 : Int) (p10 : Int) => k_ ≤ k ∧ impl_Rule_70_w44.l0 k_ l0 q6 q7 p8 p9 p10 = some r) (fun (q6 : List Int) (q7 : List S71) (p8 : Int) (p9 : Int) (p10 : Int) => ⟨[(0, .sl .o 4 (l0.map e59)), (1, .fn 44 [.box 0 0]), (7, .lit (.int .i64 (l0.length : Int))), (8, .lit (.int .i64 p10))], [(0, .box 59 [.sl .u 1 (q6.map (eI .i64)), .sl .u 6 (q7.map e71), .lit (.int .i64 p8), .lit (.int .i64 p9)])]⟩) k l1_0_0 l1_0_1 a1_0_2 a1_0_3 0 ⟨Nat.le_refl _, H⟩ (fun K_ h_ => acw hE [(0, 0)] 9999 h_) (fun _ _ _ _ _ => by intro h_; have h_ := h_.2; rw [impl_Rule_70_w44.l0.eq_1] at h_; cases h_) ?_
 intro k11 q6 q7 p8 p9 p10 hq_ K17 hK18
 have hk11 := hq_.1
 have H := hq_.2
 clear hq_
 rw [impl_Rule_70_w44.l0.eq_2] at H
 refine aw_grp1 ?_
 refine wk_start ?_
 refine kv g0 (lss) ?_
 refine wk_end ?_
 refine ac_next ?_
 refine aw_grp1 ?_
 by_cases c12 : p10 < (l0.length : Int)
 ·rw [if_pos c12] at H
  refine aw_ifT ?_ (decide_eq_true c12)
  refine aw_skip ?_
  refine ac_next ?_
  refine aw_grp1 ?_
  refine aw_block ?_
  refine aw_grp1 ?_
  refine wk_start ?_
  refine kv g0 (mv) ?_
  refine kv g0 (asg) ?_
  refine wk_end ?_
  refine ac_next ?_
  refine aw_grp1 ?_
  refine wk_start ?_
  refine kv g0 (mv) ?_
  refine kv g0 (mv) ?_
  refine kv g0 (mv) ?_
  obtain ⟨c13, H⟩ := of_if H
  refine kv g0 (ixS 59 (e59 (rd_T59 l0 p10)) c13 (getE (z := z59) c13 c12)) ?_
  refine kv g0 (ldRA 4 [.sl .o 1 (((rd_T59 l0 p10).f0).map (eI .i64)), .sl .o 6 (((rd_T59 l0 p10).f1).map e71), .lit (.int .i64 ((rd_T59 l0 p10).f2)), .lit (.int .i64 ((rd_T59 l0 p10).f3))]) ?_
  obtain ⟨t14, A15, H⟩ := of_bind H
  refine kcS1 16 (.lit (.bool t14.1)) [(0, .box 59 [.sl .u 1 (t14.2.1.map (eI .i64)), .sl .u 6 (t14.2.2.1.map e71), .lit (.int .i64 t14.2.2.2.1), .lit (.int .i64 t14.2.2.2.2)])] g0 (cal (impl_Shadowed_1.ok A15) [0] 9999 .u (hf := Try.func44)) rfl rfl ?_
  refine wk_end ?_
  refine ac_next ?_
  by_cases c16 : t14.1 = true
  ·rw [if_pos c16] at H
   refine aw_ifT ?_ c16
   refine aw_grp1 ?_
   refine wk_start ?_
   refine kv g0 (mv) ?_
   refine kv g0 (asg) ?_
   refine wk_end ?_
   refine ac_next ?_
   refine aw_ret ?_
   refine ac_blkR ?_
   refine ac_thenR ?_
   refine ac_thenR ?_
   refine ac_blkR ?_
   refine ac_thenR ?_
   obtain rfl := Option.some.inj H
   exact acr hE [.tmp 4] (.tmp .nil) (.one _) [(0, 0)] 9999
  rw [if_neg c16] at H
  refine aw_ifF ?_ (bF c16)
  refine aw_skip ?_
  refine ac_blkN ?_
  refine ac_next ?_
  refine wk_start ?_
  refine kv g0 (add6) ?_
  refine kv g0 (mv) ?_
  refine wk_end ?_
  refine ac_k ?_
  exact acw hE [(0, 0)] 9999 (hK18 k11 t14.2.1 t14.2.2.1 t14.2.2.2.1 t14.2.2.2.2 (wrap64 (p10 + 1)) (Nat.le_refl _) ⟨by omega, H⟩)
 rw [if_neg c12] at H
 refine aw_ifF ?_ (decide_eq_false c12)
 refine aw_exit ?_
 refine ac_then ?_
 refine ac_then ?_
 refine ac_hit rfl ?_
 refine ac_next ?_
 refine aw_grp1 ?_
 refine wk_start ?_
 refine kv g0 (asg) ?_
 refine wk_end ?_
 refine ac_next ?_
 refine aw_ret ?_
 obtain rfl := Option.some.inj H
 exact acr hE [.tmp 4] (.tmp .nil) (.one _) [(0, 0)] 9999
/-! impl_Rule_43, handed impl_Shadowed_1 -/
def impl_Rule_43_w44.f (k : Nat) (l0 : List S59) (l1_0_0 : List Int) (l1_0_1 : List S71) (a1_0_2 : Int) (a1_0_3 : Int) : Option (Bool × (List Int) × (List S71) × Int × Int) := (impl_Rule_70_w44.f k l0 l1_0_0 l1_0_1 a1_0_2 a1_0_3).bind fun t1 => some (decide (t1.1 ≥ 0), t1.2.1, t1.2.2.1, t1.2.2.2.1, t1.2.2.2.2)
theorem impl_Rule_43_w44.ok {k : Nat} {l0 : List S59} {l1_0_0 : List Int} {l1_0_1 : List S71} {a1_0_2 : Int} {a1_0_3 : Int} {r : Bool × (List Int) × (List S71) × Int × Int} (H : impl_Rule_43_w44.f k l0 l1_0_0 l1_0_1 a1_0_2 a1_0_3 = some r) : ACalls Try.prog 43 [(0, .box 59 [.sl .u 1 (l1_0_0.map (eI .i64)), .sl .u 6 (l1_0_1.map e71), .lit (.int .i64 a1_0_2), .lit (.int .i64 a1_0_3)])] [.sl .o 4 (l0.map e59), .fn 44 [.box 0 0]] [(0, .box 59 [.sl .u 1 (r.2.1.map (eI .i64)), .sl .u 6 (r.2.2.1.map e71), .lit (.int .i64 r.2.2.2.1), .lit (.int .i64 r.2.2.2.2)])] (.lit (.bool r.1)) := by
 refine acalls (fn := Try.f43) (nt := 9) Try.func43 rfl rfl (Nat.le_of_ble_eq_true rfl) fun E hE => ?_
 rw [impl_Rule_43_w44.f] at H
 refine aw_grp1 ?_
 refine wk_start ?_
 refine kv g0 (asg) ?_
 refine wk_end ?_
 refine ac_next ?_
 refine aw_grp1 ?_
 refine wk_start ?_
 refine kv g0 (mv) ?_
 refine kv g0 (mv) ?_
 obtain ⟨t1, A2, H⟩ := of_bind H
 refine kcS1 7 (.lit (.int .i64 t1.1)) [(0, .box 59 [.sl .u 1 (t1.2.1.map (eI .i64)), .sl .u 6 (t1.2.2.1.map e71), .lit (.int .i64 t1.2.2.2.1), .lit (.int .i64 t1.2.2.2.2)])] g0 (cal (impl_Rule_70_w44.ok A2) [0] 9999 .u (hf := Try.func70)) rfl rfl ?_
 refine kv g0 (geq) ?_
 refine kv g0 (asg) ?_
 refine wk_end ?_
 refine ac_next ?_
 refine aw_ret ?_
 obtain rfl := Option.some.inj H
 exact acr hE [.tmp 4] (.tmp .nil) (.one _) [(0, 0)] 9999
/-! impl_Shadowed -/
def impl_Shadowed.l0 : Nat → Int → Int → Int → (List S59) → (List Int) → Int → Option ((List Int))
 | 0, _, _, _, _, _, _ => none
 | k13 + 1, a0_0, a0_1, a0_2, l0_3, q11, p12 => if p12 < (l0_3.length : Int) then if 0 ≤ p12 then if p12 ≤ (l0_3.length : Int) then ((impl_Rule_43_w44.f k13 (l0_3.take p12.toNat) ((rd_T59 l0_3 p12).f0) ((rd_T59 l0_3 p12).f1) ((rd_T59 l0_3 p12).f2) ((rd_T59 l0_3 p12).f3)).bind fun t17 => if t17.1 = true then (if q11.length + ([p12] : List Int).length < 17592186044416 then impl_Shadowed.l0 k13 a0_0 a0_1 a0_2 l0_3 (q11 ++ ([p12] : List Int)) (wrap64 (p12 + 1)) else none) else impl_Shadowed.l0 k13 a0_0 a0_1 a0_2 l0_3 q11 (wrap64 (p12 + 1))) else none else none else some q11
def impl_Shadowed.f (k : Nat) (a0_0 : Int) (a0_1 : Int) (a0_2 : Int) (l0_3 : List S59) : Option ((List Int)) := (impl_PolicyOk.f k a0_0 a0_1 a0_2 l0_3).bind fun t1 => if t1 = true then impl_Shadowed.l0 k a0_0 a0_1 a0_2 l0_3 ([] : List Int) 0 else some ([] : List Int)
theorem impl_Shadowed.ok {k : Nat} {a0_0 : Int} {a0_1 : Int} {a0_2 : Int} {l0_3 : List S59} {r : (List Int)} (H : impl_Shadowed.f k a0_0 a0_1 a0_2 l0_3 = some r) : ACalls Try.prog 14 [] [.agg [.lit (.int .i64 a0_0), .lit (.int .i64 a0_1), .lit (.int .i64 a0_2), .sl .o 4 (l0_3.map e59)]] [(0, .row 3 1 (r.map (eI .i64)))] (.row 0) := by
 refine acalls (fn := Try.f14) (nt := 31) Try.func14 rfl rfl (Nat.le_of_ble_eq_true rfl) fun E hE => ?_
 rw [impl_Shadowed.f] at H
 refine aw_grp1 ?_
 refine wk_start ?_
 refine kb g0 (bxA 0) ?_
 refine kv g0 (asg) ?_
 refine wk_end ?_
 refine ac_next ?_
 refine aw_grp1 ?_
 refine wk_start ?_
 refine kb g0 (bsl 1 3 1 [.int .i64 0] (([] : List Int).map (eI .i64))) ?_
 refine kv g0 (asg) ?_
 refine wk_end ?_
 refine ac_next ?_
 refine aw_grp1 ?_
 refine aw_grp1 ?_
 refine wk_start ?_
 refine kv g0 (ldBA 4 [.lit (.int .i64 a0_0), .lit (.int .i64 a0_1), .lit (.int .i64 a0_2), .sl .o 4 (l0_3.map e59)]) ?_
 obtain ⟨t1, A2, H⟩ := of_bind H
 refine kcS0 8 (.lit (.bool t1)) [] g0 (cal (impl_PolicyOk.ok A2) [] 9999 .n (hf := Try.func40)) rfl rfl ?_
 refine kv g0 (not_) ?_
 refine wk_end ?_
 refine ac_next ?_
 by_cases c3 : t1 = true
 ·rw [if_pos c3] at H
  refine aw_ifF ?_ (nF c3)
  refine aw_skip ?_
  refine ac_next ?_
  refine aw_grp1 ?_
  refine aw_grp1 ?_
  refine wk_start ?_
  refine kv g0 (faB 3 3) ?_
  refine kv g0 (ldB) ?_
  refine kv g0 (lnS lenE) ?_
  refine kv g0 (mv) ?_
  refine wk_end ?_
  refine ac_next ?_
  refine aw_block ?_
  refine aw_loop2 (fun (k_ : Nat) (q11 : List Int) (p12 : Int) => k_ ≤ k ∧ impl_Shadowed.l0 k_ a0_0 a0_1 a0_2 l0_3 q11 p12 = some r) (fun (q11 : List Int) (p12 : Int) => ⟨[(1, .box 0 0), (3, .row 1), (12, .sl .o 4 (l0_3.map e59)), (13, .lit (.int .i64 (l0_3.length : Int))), (14, .lit (.int .i64 p12))], [(0, .box 26 [.lit (.int .i64 a0_0), .lit (.int .i64 a0_1), .lit (.int .i64 a0_2), .sl .o 4 (l0_3.map e59)]), (1, .row 3 1 (q11.map (eI .i64)))]⟩) k ([] : List Int) 0 ⟨Nat.le_refl _, H⟩ (fun K_ h_ => acw hE [(0, 0), (1, 1)] 9999 h_) (fun _ _ => by intro h_; have h_ := h_.2; rw [impl_Shadowed.l0.eq_1] at h_; cases h_) ?_
  intro k13 q11 p12 hq_ K21 hK22
  have hk13 := hq_.1
  have H := hq_.2
  clear hq_
  rw [impl_Shadowed.l0.eq_2] at H
  refine aw_grp1 ?_
  refine wk_start ?_
  refine kv g0 (lss) ?_
  refine wk_end ?_
  refine ac_next ?_
  refine aw_grp1 ?_
  by_cases c14 : p12 < (l0_3.length : Int)
  ·rw [if_pos c14] at H
   refine aw_ifT ?_ (decide_eq_true c14)
   refine aw_skip ?_
   refine ac_next ?_
   refine aw_grp1 ?_
   refine aw_block ?_
   refine aw_grp1 ?_
   refine wk_start ?_
   refine kv g0 (mv) ?_
   obtain ⟨c15, H⟩ := of_if H
   refine kv g0 (ixS 59 (e59 (rd_T59 l0_3 p12)) c15 (getE (z := z59) c15 c14)) ?_
   refine kv g0 (ldRA 4 [.sl .o 1 (((rd_T59 l0_3 p12).f0).map (eI .i64)), .sl .o 6 (((rd_T59 l0_3 p12).f1).map e71), .lit (.int .i64 ((rd_T59 l0_3 p12).f2)), .lit (.int .i64 ((rd_T59 l0_3 p12).f3))]) ?_
   refine kb g0 (alc 2 [.slice none 0 0, .slice none 0 0, .int .i64 0, .int .i64 0] [.lit (.slice none 0 0), .lit (.slice none 0 0), .lit (.int .i64 0), .lit (.int .i64 0)]) ?_
   refine kv g0 (asg) ?_
   refine ks g0 (stB 4 [.sl .o 1 (((rd_T59 l0_3 p12).f0).map (eI .i64)), .sl .o 6 (((rd_T59 l0_3 p12).f1).map e71), .lit (.int .i64 ((rd_T59 l0_3 p12).f2)), .lit (.int .i64 ((rd_T59 l0_3 p12).f3))]) ?_
   refine wk_end ?_
   refine ac_next ?_
   refine aw_grp1 ?_
   refine wk_start ?_
   refine kv g0 (faB 3 3) ?_
   refine kv g0 (ldB) ?_
   refine kv g0 (mv) ?_
   obtain ⟨c16, H⟩ := of_if H
   refine kv g0 (slH 59 c15 c16) ?_
   refine kv g0 (mkf [.box 2 0]) ?_
   obtain ⟨t17, A18, H⟩ := of_bind H
   refine kcS1 24 (.lit (.bool t17.1)) [(2, .box 59 [.sl .o 1 (t17.2.1.map (eI .i64)), .sl .o 6 (t17.2.2.1.map e71), .lit (.int .i64 t17.2.2.2.1), .lit (.int .i64 t17.2.2.2.2)])] g0 (cal (impl_Rule_43_w44.ok A18) [2] 9999 .o (hf := Try.func43)) rfl rfl ?_
   refine wk_end ?_
   refine ac_next ?_
   by_cases c19 : t17.1 = true
   ·rw [if_pos c19] at H
    refine aw_ifT ?_ c19
    refine wk_start ?_
    refine kv g0 (mv) ?_
    refine kv g0 (mv) ?_
    refine kb g0 (bsl 3 3 1 [.int .i64 0] (([p12] : List Int).map (eI .i64))) ?_
    obtain ⟨c20, H⟩ := of_if H
    refine kc g0 (apR 4 3 1 8 [.int .i64 0] ((q11 ++ ([p12] : List Int)).map (eI .i64)) (.row rfl) (apb c20 rfl) appE) ?_
    refine kv g0 (asg) ?_
    refine wk_end ?_
    refine ac_blkN ?_
    refine ac_next ?_
    refine wk_start ?_
    refine kv g0 (add6) ?_
    refine kv g0 (mv) ?_
    refine wk_end ?_
    refine ac_k ?_
    exact acw hE [(0, 0), (1, 4)] 9999 (hK22 k13 (q11 ++ ([p12] : List Int)) (wrap64 (p12 + 1)) (Nat.le_refl _) ⟨by omega, H⟩)
   rw [if_neg c19] at H
   refine aw_ifF ?_ (bF c19)
   refine aw_skip ?_
   refine ac_blkN ?_
   refine ac_next ?_
   refine wk_start ?_
   refine kv g0 (add6) ?_
   refine kv g0 (mv) ?_
   refine wk_end ?_
   refine ac_k ?_
   exact acw hE [(0, 0), (1, 1)] 9999 (hK22 k13 q11 (wrap64 (p12 + 1)) (Nat.le_refl _) ⟨by omega, H⟩)
  rw [if_neg c14] at H
  refine aw_ifF ?_ (decide_eq_false c14)
  refine aw_exit ?_
  refine ac_then ?_
  refine ac_then ?_
  refine ac_hit rfl ?_
  refine ac_next ?_
  refine aw_grp1 ?_
  refine wk_start ?_
  refine kv g0 (mv) ?_
  refine kv g0 (asg) ?_
  refine wk_end ?_
  refine ac_next ?_
  refine aw_ret ?_
  obtain rfl := Option.some.inj H
  exact acr hE [.tmp 2] (.tmp .nil) (.one _) [(0, 1)] 9999
 rw [if_neg c3] at H
 refine aw_ifT ?_ (nT (bF c3))
 refine aw_grp1 ?_
 refine wk_start ?_
 refine kv g0 (mv) ?_
 refine kv g0 (asg) ?_
 refine wk_end ?_
 refine ac_next ?_
 refine aw_ret ?_
 refine ac_thenR ?_
 obtain rfl := Option.some.inj H
 exact acr hE [.tmp 2] (.tmp .nil) (.one _) [(0, 1)] 9999
/-! impl_Unshadowed -/
def impl_Unshadowed.l0 : Nat → (Int × Int × Int × (List S59)) → ((List Int)) → (List S59) → Int → Option (Int × Int × Int × (List S59))
 | 0, _, _, _, _ => none
 | k13 + 1, t1, t3, q11, p12 => if p12 < (t1.2.2.2.length : Int) then if 0 ≤ p12 then (slices_Contains_int_int.f k13 t3 p12).bind fun t16 => if t16 = true then impl_Unshadowed.l0 k13 t1 t3 q11 (wrap64 (p12 + 1)) else (if q11.length + ([(⟨(rd_T59 t1.2.2.2 p12).f0, (rd_T59 t1.2.2.2 p12).f1, (rd_T59 t1.2.2.2 p12).f2, (rd_T59 t1.2.2.2 p12).f3⟩ : S59)] : List S59).length < 2199023255552 then impl_Unshadowed.l0 k13 t1 t3 (q11 ++ ([(⟨(rd_T59 t1.2.2.2 p12).f0, (rd_T59 t1.2.2.2 p12).f1, (rd_T59 t1.2.2.2 p12).f2, (rd_T59 t1.2.2.2 p12).f3⟩ : S59)] : List S59)) (wrap64 (p12 + 1)) else none) else none else some (t1.1, t1.2.1, t1.2.2.1, q11)
def impl_Unshadowed.f (k : Nat) (a0_0 : Int) (a0_1 : Int) (a0_2 : Int) (l0_3 : List S59) : Option (Int × Int × Int × (List S59)) := (impl_copyPolicy.f k a0_0 a0_1 a0_2 l0_3).bind fun t1 => (impl_Shadowed.f k a0_0 a0_1 a0_2 l0_3).bind fun t3 => impl_Unshadowed.l0 k t1 t3 ([] : List S59) 0
theorem impl_Unshadowed.ok {k : Nat} {a0_0 : Int} {a0_1 : Int} {a0_2 : Int} {l0_3 : List S59} {r : Int × Int × Int × (List S59)} (H : impl_Unshadowed.f k a0_0 a0_1 a0_2 l0_3 = some r) : ACalls Try.prog 11 [] [.agg [.lit (.int .i64 a0_0), .lit (.int .i64 a0_1), .lit (.int .i64 a0_2), .sl .o 4 (l0_3.map e59)]] [(0, .row 59 4 (r.2.2.2.map e59))] (.agg [.lit (.int .i64 r.1), .lit (.int .i64 r.2.1), .lit (.int .i64 r.2.2.1), .row 0]) := by
 refine acalls (fn := Try.f11) (nt := 33) Try.func11 rfl rfl (Nat.le_of_ble_eq_true rfl) fun E hE => ?_
 rw [impl_Unshadowed.f] at H
 refine aw_grp1 ?_
 refine wk_start ?_
 refine kb g0 (bxA 0) ?_
 refine kb g0 (alc 1 [.int .i64 0, .int .i64 0, .int .i64 0, .slice none 0 0] [.lit (.int .i64 0), .lit (.int .i64 0), .lit (.int .i64 0), .lit (.slice none 0 0)]) ?_
 refine wk_end ?_
 refine ac_next ?_
 refine aw_grp1 ?_
 refine wk_start ?_
 refine kv g0 (ldBA 4 [.lit (.int .i64 a0_0), .lit (.int .i64 a0_1), .lit (.int .i64 a0_2), .sl .o 4 (l0_3.map e59)]) ?_
 obtain ⟨t1, A2, H⟩ := of_bind H
 refine kcS1 9 (.agg [.lit (.int .i64 t1.1), .lit (.int .i64 t1.2.1), .lit (.int .i64 t1.2.2.1), .row 2]) [(2, .row 59 4 (t1.2.2.2.map e59))] g0 (cal (impl_copyPolicy.ok A2) [2] 9999 .n (hf := Try.func38)) rfl rfl ?_
 refine kb g0 (alc 3 [.int .i64 0, .int .i64 0, .int .i64 0, .slice none 0 0] [.lit (.int .i64 0), .lit (.int .i64 0), .lit (.int .i64 0), .lit (.slice none 0 0)]) ?_
 refine ks g0 (stB 4 [.lit (.int .i64 t1.1), .lit (.int .i64 t1.2.1), .lit (.int .i64 t1.2.2.1), .row 2]) ?_
 refine wk_end ?_
 refine ac_next ?_
 refine aw_grp1 ?_
 refine wk_start ?_
 refine kv g0 (ldBA 4 [.lit (.int .i64 a0_0), .lit (.int .i64 a0_1), .lit (.int .i64 a0_2), .sl .o 4 (l0_3.map e59)]) ?_
 obtain ⟨t3, A4, H⟩ := of_bind H
 refine kcS1 11 (.row 4) [(4, .row 3 1 (t3.map (eI .i64)))] g0 (cal (impl_Shadowed.ok A4) [4] 9999 .n (hf := Try.func14)) rfl rfl ?_
 refine kv g0 (asg) ?_
 refine wk_end ?_
 refine ac_next ?_
 refine aw_grp1 ?_
 refine wk_start ?_
 refine kb g0 (bsl 5 59 4 [.slice none 0 0, .slice none 0 0, .int .i64 0, .int .i64 0] (([] : List S59).map e59)) ?_
 refine kv g0 (asg) ?_
 refine wk_end ?_
 refine ac_next ?_
 refine aw_grp1 ?_
 refine aw_grp1 ?_
 refine wk_start ?_
 refine kv g0 (faB 3 3) ?_
 refine kv g0 (ldB) ?_
 refine kv g0 (lnR lenE) ?_
 refine kv g0 (mv) ?_
 refine wk_end ?_
 refine ac_next ?_
 refine aw_block ?_
 refine aw_loop2 (fun (k_ : Nat) (q11 : List S59) (p12 : Int) => k_ ≤ k ∧ impl_Unshadowed.l0 k_ t1 t3 q11 p12 = some r) (fun (q11 : List S59) (p12 : Int) => ⟨[(2, .box 1 0), (3, .box 3 0), (4, .row 4), (5, .row 5), (14, .row 2), (15, .lit (.int .i64 (t1.2.2.2.length : Int))), (16, .lit (.int .i64 p12))], [(1, .box 26 [.lit (.int .i64 0), .lit (.int .i64 0), .lit (.int .i64 0), .lit (.slice none 0 0)]), (2, .row 59 4 (t1.2.2.2.map e59)), (3, .box 26 [.lit (.int .i64 t1.1), .lit (.int .i64 t1.2.1), .lit (.int .i64 t1.2.2.1), .row 2]), (4, .row 3 1 (t3.map (eI .i64))), (5, .row 59 4 (q11.map e59))]⟩) k ([] : List S59) 0 ⟨Nat.le_refl _, H⟩ (fun K_ h_ => acw hE [(1, 1), (2, 2), (3, 3), (4, 4), (5, 5)] 9999 h_) (fun _ _ => by intro h_; have h_ := h_.2; rw [impl_Unshadowed.l0.eq_1] at h_; cases h_) ?_
 intro k13 q11 p12 hq_ K20 hK21
 have hk13 := hq_.1
 have H := hq_.2
 clear hq_
 rw [impl_Unshadowed.l0.eq_2] at H
 refine aw_grp1 ?_
 refine wk_start ?_
 refine kv g0 (lss) ?_
 refine wk_end ?_
 refine ac_next ?_
 refine aw_grp1 ?_
 by_cases c14 : p12 < (t1.2.2.2.length : Int)
 ·rw [if_pos c14] at H
  refine aw_ifT ?_ (decide_eq_true c14)
  refine aw_skip ?_
  refine ac_next ?_
  refine aw_grp1 ?_
  refine aw_block ?_
  refine aw_grp1 ?_
  refine wk_start ?_
  refine kv g0 (mv) ?_
  obtain ⟨c15, H⟩ := of_if H
  refine kv g0 (ixR 59 c15 (ltE c14)) ?_
  refine kv g0 (ldEA 4 (e59 (rd_T59 t1.2.2.2 p12)) [.sl .n 1 (((rd_T59 t1.2.2.2 p12).f0).map (eI .i64)), .sl .n 6 (((rd_T59 t1.2.2.2 p12).f1).map e71), .lit (.int .i64 ((rd_T59 t1.2.2.2 p12).f2)), .lit (.int .i64 ((rd_T59 t1.2.2.2 p12).f3))] (getE (z := z59) c15 c14)) ?_
  refine kb g0 (alc 6 [.slice none 0 0, .slice none 0 0, .int .i64 0, .int .i64 0] [.lit (.slice none 0 0), .lit (.slice none 0 0), .lit (.int .i64 0), .lit (.int .i64 0)]) ?_
  refine kv g0 (asg) ?_
  refine ks g0 (stB 4 [.sl .n 1 (((rd_T59 t1.2.2.2 p12).f0).map (eI .i64)), .sl .n 6 (((rd_T59 t1.2.2.2 p12).f1).map e71), .lit (.int .i64 ((rd_T59 t1.2.2.2 p12).f2)), .lit (.int .i64 ((rd_T59 t1.2.2.2 p12).f3))]) ?_
  refine wk_end ?_
  refine ac_next ?_
  refine aw_grp1 ?_
  refine wk_start ?_
  refine kv g0 (mv) ?_
  refine kv g0 (mv) ?_
  obtain ⟨t16, A17, H⟩ := of_bind H
  refine kcS0 23 (.lit (.bool t16)) [] g0 (cal (slices_Contains_int_int.ok A17) [] 9999 .n (hf := Try.func39)) rfl rfl ?_
  refine kv g0 (not_) ?_
  refine wk_end ?_
  refine ac_next ?_
  by_cases c18 : t16 = true
  ·rw [if_pos c18] at H
   refine aw_ifF ?_ (nF c18)
   refine aw_skip ?_
   refine ac_blkN ?_
   refine ac_next ?_
   refine wk_start ?_
   refine kv g0 (add6) ?_
   refine kv g0 (mv) ?_
   refine wk_end ?_
   refine ac_k ?_
   exact acw hE [(1, 1), (2, 2), (3, 3), (4, 4), (5, 5)] 9999 (hK21 k13 q11 (wrap64 (p12 + 1)) (Nat.le_refl _) ⟨by omega, H⟩)
  rw [if_neg c18] at H
  refine aw_ifT ?_ (nT (bF c18))
  refine wk_start ?_
  refine kv g0 (mv) ?_
  refine kv g0 (ldBA 4 [.sl .n 1 (((rd_T59 t1.2.2.2 p12).f0).map (eI .i64)), .sl .n 6 (((rd_T59 t1.2.2.2 p12).f1).map e71), .lit (.int .i64 ((rd_T59 t1.2.2.2 p12).f2)), .lit (.int .i64 ((rd_T59 t1.2.2.2 p12).f3))]) ?_
  refine kb g0 (bsl 7 59 4 [.slice none 0 0, .slice none 0 0, .int .i64 0, .int .i64 0] (([(⟨(rd_T59 t1.2.2.2 p12).f0, (rd_T59 t1.2.2.2 p12).f1, (rd_T59 t1.2.2.2 p12).f2, (rd_T59 t1.2.2.2 p12).f3⟩ : S59)] : List S59).map e59)) ?_
  obtain ⟨c19, H⟩ := of_if H
  refine kc g0 (apR 8 59 4 64 [.slice none 0 0, .slice none 0 0, .int .i64 0, .int .i64 0] ((q11 ++ ([(⟨(rd_T59 t1.2.2.2 p12).f0, (rd_T59 t1.2.2.2 p12).f1, (rd_T59 t1.2.2.2 p12).f2, (rd_T59 t1.2.2.2 p12).f3⟩ : S59)] : List S59)).map e59) (.row rfl) (apb c19 rfl) appE) ?_
  refine kv g0 (asg) ?_
  refine wk_end ?_
  refine ac_blkN ?_
  refine ac_next ?_
  refine wk_start ?_
  refine kv g0 (add6) ?_
  refine kv g0 (mv) ?_
  refine wk_end ?_
  refine ac_k ?_
  exact acw hE [(1, 1), (2, 2), (3, 3), (4, 4), (5, 8)] 9999 (hK21 k13 (q11 ++ ([(⟨(rd_T59 t1.2.2.2 p12).f0, (rd_T59 t1.2.2.2 p12).f1, (rd_T59 t1.2.2.2 p12).f2, (rd_T59 t1.2.2.2 p12).f3⟩ : S59)] : List S59)) (wrap64 (p12 + 1)) (Nat.le_refl _) ⟨by omega, H⟩)
 rw [if_neg c14] at H
 refine aw_ifF ?_ (decide_eq_false c14)
 refine aw_exit ?_
 refine ac_then ?_
 refine ac_then ?_
 refine ac_hit rfl ?_
 refine ac_next ?_
 refine aw_grp1 ?_
 refine wk_start ?_
 refine kv g0 (mv) ?_
 refine kv g0 (faB 3 3) ?_
 refine ks g0 (stB 1 [.lit (.int .i64 t1.1), .lit (.int .i64 t1.2.1), .lit (.int .i64 t1.2.2.1), .row 5]) ?_
 refine wk_end ?_
 refine ac_next ?_
 refine aw_grp1 ?_
 refine wk_start ?_
 refine kv g0 (ldBA 4 [.lit (.int .i64 t1.1), .lit (.int .i64 t1.2.1), .lit (.int .i64 t1.2.2.1), .row 5]) ?_
 refine ks g0 (stB 4 [.lit (.int .i64 t1.1), .lit (.int .i64 t1.2.1), .lit (.int .i64 t1.2.2.1), .row 5]) ?_
 refine wk_end ?_
 refine ac_next ?_
 refine aw_ret ?_
 obtain rfl := Option.some.inj H
 exact acr hE [.cell 2 26] (rcA 4 .nil) (.one _) [(0, 5)] 9999
/-! impl_Lessened -/
def impl_Lessened.l0 : Nat → Int → Int → Int → (List S59) → (Int × Int × Int × (List S59)) → (List S59) → Int → Option (Int × Int × Int × (List S59))
 | 0, _, _, _, _, _, _, _ => none
 | k15 + 1, a0_0, a0_1, a0_2, l0_3, t1, q13, p14 => if p14 > 0 then (if 0 ≤ (wrap64 (p14 - 1)) then (if (wrap64 (p14 - 1)) < (q13.length : Int) then (if ((rd_T59 q13 (wrap64 (p14 - 1))).f2) = a0_1 then if ((rd_T59 q13 (wrap64 (p14 - 1))).f3) = a0_2 then if (wrap64 (p14 - 1)) ≤ (q13.length : Int) then impl_Lessened.l0 k15 a0_0 a0_1 a0_2 l0_3 t1 (q13.take (wrap64 (p14 - 1)).toNat) (wrap64 (p14 - 1)) else none else some (t1.1, t1.2.1, t1.2.2.1, q13) else some (t1.1, t1.2.1, t1.2.2.1, q13)) else none) else none) else some (t1.1, t1.2.1, t1.2.2.1, q13)
def impl_Lessened.f (k : Nat) (a0_0 : Int) (a0_1 : Int) (a0_2 : Int) (l0_3 : List S59) : Option (Int × Int × Int × (List S59)) := (impl_Unshadowed.f k a0_0 a0_1 a0_2 l0_3).bind fun t1 => (impl_PolicyOk.f k a0_0 a0_1 a0_2 l0_3).bind fun t3 => if t3 = true then impl_Lessened.l0 k a0_0 a0_1 a0_2 l0_3 t1 t1.2.2.2 (t1.2.2.2.length : Int) else some (t1.1, t1.2.1, t1.2.2.1, t1.2.2.2)
theorem impl_Lessened.ok {k : Nat} {a0_0 : Int} {a0_1 : Int} {a0_2 : Int} {l0_3 : List S59} {r : Int × Int × Int × (List S59)} (H : impl_Lessened.f k a0_0 a0_1 a0_2 l0_3 = some r) : ACalls Try.prog 12 [] [.agg [.lit (.int .i64 a0_0), .lit (.int .i64 a0_1), .lit (.int .i64 a0_2), .sl .o 4 (l0_3.map e59)]] [(0, .row 59 4 (r.2.2.2.map e59))] (.agg [.lit (.int .i64 r.1), .lit (.int .i64 r.2.1), .lit (.int .i64 r.2.2.1), .row 0]) := by
 refine acalls (fn := Try.f12) (nt := 49) Try.func12 rfl rfl (Nat.le_of_ble_eq_true rfl) fun E hE => ?_
 rw [impl_Lessened.f] at H
 refine aw_grp1 ?_
 refine wk_start ?_
 refine kb g0 (bxA 0) ?_
 refine kb g0 (alc 1 [.int .i64 0, .int .i64 0, .int .i64 0, .slice none 0 0] [.lit (.int .i64 0), .lit (.int .i64 0), .lit (.int .i64 0), .lit (.slice none 0 0)]) ?_
 refine wk_end ?_
 refine ac_next ?_
 refine aw_grp1 ?_
 refine wk_start ?_
 refine kv g0 (ldBA 4 [.lit (.int .i64 a0_0), .lit (.int .i64 a0_1), .lit (.int .i64 a0_2), .sl .o 4 (l0_3.map e59)]) ?_
 obtain ⟨t1, A2, H⟩ := of_bind H
 refine kcS1 6 (.agg [.lit (.int .i64 t1.1), .lit (.int .i64 t1.2.1), .lit (.int .i64 t1.2.2.1), .row 2]) [(2, .row 59 4 (t1.2.2.2.map e59))] g0 (cal (impl_Unshadowed.ok A2) [2] 9999 .n (hf := Try.func11)) rfl rfl ?_
 refine kb g0 (alc 3 [.int .i64 0, .int .i64 0, .int .i64 0, .slice none 0 0] [.lit (.int .i64 0), .lit (.int .i64 0), .lit (.int .i64 0), .lit (.slice none 0 0)]) ?_
 refine ks g0 (stB 4 [.lit (.int .i64 t1.1), .lit (.int .i64 t1.2.1), .lit (.int .i64 t1.2.2.1), .row 2]) ?_
 refine wk_end ?_
 refine ac_next ?_
 refine aw_grp1 ?_
 refine aw_grp1 ?_
 refine wk_start ?_
 refine kv g0 (ldBA 4 [.lit (.int .i64 a0_0), .lit (.int .i64 a0_1), .lit (.int .i64 a0_2), .sl .o 4 (l0_3.map e59)]) ?_
 obtain ⟨t3, A4, H⟩ := of_bind H
 refine kcS0 8 (.lit (.bool t3)) [] g0 (cal (impl_PolicyOk.ok A4) [] 9999 .n (hf := Try.func40)) rfl rfl ?_
 refine kv g0 (not_) ?_
 refine wk_end ?_
 refine ac_next ?_
 by_cases c5 : t3 = true
 ·rw [if_pos c5] at H
  refine aw_ifF ?_ (nF c5)
  refine aw_skip ?_
  refine ac_next ?_
  refine aw_grp1 ?_
  refine aw_grp1 ?_
  refine wk_start ?_
  refine kv g0 (faB 3 3) ?_
  refine kv g0 (ldB) ?_
  refine kv g0 (lnR lenE) ?_
  refine kv g0 (asg) ?_
  refine wk_end ?_
  refine ac_next ?_
  refine aw_block ?_
  refine aw_loop2 (fun (k_ : Nat) (q13 : List S59) (p14 : Int) => k_ ≤ k ∧ impl_Lessened.l0 k_ a0_0 a0_1 a0_2 l0_3 t1 q13 p14 = some r) (fun (q13 : List S59) (p14 : Int) => ⟨[(1, .box 0 0), (2, .box 1 0), (3, .box 3 0), (4, .lit (.int .i64 p14))], [(0, .box 26 [.lit (.int .i64 a0_0), .lit (.int .i64 a0_1), .lit (.int .i64 a0_2), .sl .o 4 (l0_3.map e59)]), (1, .box 26 [.lit (.int .i64 0), .lit (.int .i64 0), .lit (.int .i64 0), .lit (.slice none 0 0)]), (2, .row 59 4 (q13.map e59)), (3, .box 26 [.lit (.int .i64 t1.1), .lit (.int .i64 t1.2.1), .lit (.int .i64 t1.2.2.1), .row 2])]⟩) k t1.2.2.2 (t1.2.2.2.length : Int) ⟨Nat.le_refl _, H⟩ (fun K_ h_ => acw hE [(0, 0), (1, 1), (2, 2), (3, 3)] 9999 h_) (fun _ _ => by intro h_; have h_ := h_.2; rw [impl_Lessened.l0.eq_1] at h_; cases h_) ?_
  intro k15 q13 p14 hq_ K22 hK23
  have hk15 := hq_.1
  have H := hq_.2
  clear hq_
  rw [impl_Lessened.l0.eq_2] at H
  refine aw_grp1 ?_
  refine aw_grp1 ?_
  refine wk_start ?_
  refine kv g0 (mv) ?_
  refine kv g0 (gtr) ?_
  refine kv g0 (mv) ?_
  by_cases c16 : p14 > 0
  ·rw [if_pos c16] at H
   refine kv (g1 (decide_eq_true c16)) (faB 3 3) ?_
   refine kv (g1 (decide_eq_true c16)) (ldB) ?_
   refine kv (g1 (decide_eq_true c16)) (mv) ?_
   refine kv (g1 (decide_eq_true c16)) (sub6) ?_
   obtain ⟨c17, H⟩ := of_if H
   obtain ⟨c18, H⟩ := of_if H
   refine kv (g1 (decide_eq_true c16)) (ixR 59 c17 (ltE c18)) ?_
   refine kv (g1 (decide_eq_true c16)) (faE 2 2) ?_
   refine kv (g1 (decide_eq_true c16)) (ldE (e59 (rd_T59 q13 (wrap64 (p14 - 1)))) (.lit (.int .i64 ((rd_T59 q13 (wrap64 (p14 - 1))).f2))) (getE (z := z59) c17 c18)) ?_
   refine kv (g1 (decide_eq_true c16)) (faB 1 1) ?_
   refine kv (g1 (decide_eq_true c16)) (ldB) ?_
   refine kv (g1 (decide_eq_true c16)) (eql) ?_
   refine kv g0 (pkT (decide_eq_true c16)) ?_
   refine kv g0 (mv) ?_
   by_cases c19 : ((rd_T59 q13 (wrap64 (p14 - 1))).f2) = a0_1
   ·rw [if_pos c19] at H
    refine kv (g1 (eT c19)) (faB 3 3) ?_
    refine kv (g1 (eT c19)) (ldB) ?_
    refine kv (g1 (eT c19)) (mv) ?_
    refine kv (g1 (eT c19)) (sub6) ?_
    refine kv (g1 (eT c19)) (ixR 59 c17 (ltE c18)) ?_
    refine kv (g1 (eT c19)) (faE 3 3) ?_
    refine kv (g1 (eT c19)) (ldE (e59 (rd_T59 q13 (wrap64 (p14 - 1)))) (.lit (.int .i64 ((rd_T59 q13 (wrap64 (p14 - 1))).f3))) (getE (z := z59) c17 c18)) ?_
    refine kv (g1 (eT c19)) (faB 2 2) ?_
    refine kv (g1 (eT c19)) (ldB) ?_
    refine kv (g1 (eT c19)) (eql) ?_
    refine kv g0 (pkT (eT c19)) ?_
    refine wk_end_draw hM (by kernel_rfl) ?_
    refine ac_next ?_
    by_cases c20 : ((rd_T59 q13 (wrap64 (p14 - 1))).f3) = a0_2
    ·rw [if_pos c20] at H
     refine aw_ifT ?_ (eT c20)
     refine aw_skip ?_
     refine ac_next ?_
     refine aw_grp1 ?_
     refine aw_block ?_
     refine wk_start ?_
     refine kv g0 (faB 3 3) ?_
     refine kv g0 (ldB) ?_
     refine kv g0 (mv) ?_
     refine kv g0 (sub6) ?_
     obtain ⟨c21, H⟩ := of_if H
     refine kv g0 (srH 59 c17 c21) ?_
     refine kv g0 (faB 3 3) ?_
     refine ks g0 (stB 1 [.lit (.int .i64 t1.1), .lit (.int .i64 t1.2.1), .lit (.int .i64 t1.2.2.1), .sub 2 4 0 ((wrap64 (p14 - 1)).toNat)]) ?_
     refine wk_end ?_
     refine ac_blkN ?_
     refine ac_next ?_
     refine wk_start ?_
     refine kv g0 (mv) ?_
     refine kv g0 (sub6) ?_
     refine kv g0 (asg) ?_
     refine wk_end ?_
     refine ac_preB 3 3 4 ((q13.take (wrap64 (p14 - 1)).toNat).map e59) [.lit (.int .i64 t1.1), .lit (.int .i64 t1.2.1), .lit (.int .i64 t1.2.2.1), .row 4] ?_ (List.map_take ..).symm
     refine ac_k ?_
     exact acw hE [(0, 0), (1, 1), (2, 4), (3, 3)] 9999 (hK23 k15 (q13.take (wrap64 (p14 - 1)).toNat) (wrap64 (p14 - 1)) (Nat.le_refl _) ⟨by omega, H⟩)
    rw [if_neg c20] at H
    refine aw_ifF ?_ (eF c20)
    refine aw_exit ?_
    refine ac_then ?_
    refine ac_then ?_
    refine ac_hit rfl ?_
    refine ac_next ?_
    refine aw_grp1 ?_
    refine wk_start ?_
    refine kv g0 (ldBA 4 [.lit (.int .i64 t1.1), .lit (.int .i64 t1.2.1), .lit (.int .i64 t1.2.2.1), .row 2]) ?_
    refine ks g0 (stB 4 [.lit (.int .i64 t1.1), .lit (.int .i64 t1.2.1), .lit (.int .i64 t1.2.2.1), .row 2]) ?_
    refine wk_end ?_
    refine ac_next ?_
    refine aw_ret ?_
    obtain rfl := Option.some.inj H
    exact acr hE [.cell 2 26] (rcA 4 .nil) (.one _) [(0, 2)] 9999
   rw [if_neg c19] at H
   refine kx (hT (eF c19)) ?_
   refine kx (hT (eF c19)) ?_
   refine kx (hT (eF c19)) ?_
   refine kx (hT (eF c19)) ?_
   refine kx (hT (eF c19)) ?_
   refine kx (hT (eF c19)) ?_
   refine kx (hT (eF c19)) ?_
   refine kx (hT (eF c19)) ?_
   refine kx (hT (eF c19)) ?_
   refine kx (hT (eF c19)) ?_
   refine kv g0 (pkF (eF c19)) ?_
   refine wk_end_draw hM (by kernel_rfl) ?_
   refine ac_next ?_
   refine aw_ifF ?_ rfl
   refine aw_exit ?_
   refine ac_then ?_
   refine ac_then ?_
   refine ac_hit rfl ?_
   refine ac_next ?_
   refine aw_grp1 ?_
   refine wk_start ?_
   refine kv g0 (ldBA 4 [.lit (.int .i64 t1.1), .lit (.int .i64 t1.2.1), .lit (.int .i64 t1.2.2.1), .row 2]) ?_
   refine ks g0 (stB 4 [.lit (.int .i64 t1.1), .lit (.int .i64 t1.2.1), .lit (.int .i64 t1.2.2.1), .row 2]) ?_
   refine wk_end ?_
   refine ac_next ?_
   refine aw_ret ?_
   obtain rfl := Option.some.inj H
   exact acr hE [.cell 2 26] (rcA 4 .nil) (.one _) [(0, 2)] 9999
  rw [if_neg c16] at H
  refine kx (hT (decide_eq_false c16)) ?_
  refine kx (hT (decide_eq_false c16)) ?_
  refine kx (hT (decide_eq_false c16)) ?_
  refine kx (hT (decide_eq_false c16)) ?_
  refine kx (hT (decide_eq_false c16)) ?_
  refine kx (hT (decide_eq_false c16)) ?_
  refine kx (hT (decide_eq_false c16)) ?_
  refine kx (hT (decide_eq_false c16)) ?_
  refine kx (hT (decide_eq_false c16)) ?_
  refine kx (hT (decide_eq_false c16)) ?_
  refine kv g0 (pkF (decide_eq_false c16)) ?_
  refine kv g0 (mv) ?_
  refine kx (hT rfl) ?_
  refine kx (hT rfl) ?_
  refine kx (hT rfl) ?_
  refine kx (hT rfl) ?_
  refine kx (hT rfl) ?_
  refine kx (hT rfl) ?_
  refine kx (hT rfl) ?_
  refine kx (hT rfl) ?_
  refine kx (hT rfl) ?_
  refine kx (hT rfl) ?_
  refine kv g0 (pkF rfl) ?_
  refine wk_end_draw hM (by kernel_rfl) ?_
  refine ac_next ?_
  refine aw_ifF ?_ rfl
  refine aw_exit ?_
  refine ac_then ?_
  refine ac_then ?_
  refine ac_hit rfl ?_
  refine ac_next ?_
  refine aw_grp1 ?_
  refine wk_start ?_
  refine kv g0 (ldBA 4 [.lit (.int .i64 t1.1), .lit (.int .i64 t1.2.1), .lit (.int .i64 t1.2.2.1), .row 2]) ?_
  refine ks g0 (stB 4 [.lit (.int .i64 t1.1), .lit (.int .i64 t1.2.1), .lit (.int .i64 t1.2.2.1), .row 2]) ?_
  refine wk_end ?_
  refine ac_next ?_
  refine aw_ret ?_
  obtain rfl := Option.some.inj H
  exact acr hE [.cell 2 26] (rcA 4 .nil) (.one _) [(0, 2)] 9999
 rw [if_neg c5] at H
 refine aw_ifT ?_ (nT (bF c5))
 refine aw_grp1 ?_
 refine wk_start ?_
 refine kv g0 (ldBA 4 [.lit (.int .i64 t1.1), .lit (.int .i64 t1.2.1), .lit (.int .i64 t1.2.2.1), .row 2]) ?_
 refine ks g0 (stB 4 [.lit (.int .i64 t1.1), .lit (.int .i64 t1.2.1), .lit (.int .i64 t1.2.2.1), .row 2]) ?_
 refine wk_end ?_
 refine ac_next ?_
 refine aw_ret ?_
 refine ac_thenR ?_
 obtain rfl := Option.some.inj H
 exact acr hE [.cell 2 26] (rcA 4 .nil) (.one _) [(0, 2)] 9999
/-! impl_OnlyFor_1, handed  -/
def impl_OnlyFor_1.f (k : Nat) (l0_0 : List Int) (l0_1 : List S71) (a0_2 : Int) (a0_3 : Int) (a1_0 : Int) : Option (Bool × Int) := if (l0_0.length : Int) > 0 then ((slices_Contains_int_int.f k l0_0 a1_0).bind fun t2 => some (!t2, a1_0)) else some (false, a1_0)
theorem impl_OnlyFor_1.ok {k : Nat} {l0_0 : List Int} {l0_1 : List S71} {a0_2 : Int} {a0_3 : Int} {a1_0 : Int} {r : Bool × Int} (H : impl_OnlyFor_1.f k l0_0 l0_1 a0_2 a0_3 a1_0 = some r) : ACalls Try.prog 42 [(0, .box 3 [.lit (.int .i64 a1_0)])] [.agg [.sl .o 1 (l0_0.map (eI .i64)), .sl .o 6 (l0_1.map e71), .lit (.int .i64 a0_2), .lit (.int .i64 a0_3)], .box 0 0] [(0, .box 3 [.lit (.int .i64 r.2)])] (.lit (.bool r.1)) := by
 refine acalls (fn := Try.f42) (nt := 15) Try.func42 rfl rfl (Nat.le_of_ble_eq_true rfl) fun E hE => ?_
 rw [impl_OnlyFor_1.f] at H
 refine aw_grp1 ?_
 refine wk_start ?_
 refine kb g0 (bxA 1) ?_
 refine kv g0 (asg) ?_
 refine wk_end ?_
 refine ac_next ?_
 refine aw_grp1 ?_
 refine wk_start ?_
 refine kv g0 (faB 0 0) ?_
 refine kv g0 (ldB) ?_
 refine kv g0 (lnS lenE) ?_
 refine kv g0 (gtr) ?_
 refine kv g0 (mv) ?_
 by_cases c1 : (l0_0.length : Int) > 0
 ·rw [if_pos c1] at H
  refine kv (g1 (decide_eq_true c1)) (faB 0 0) ?_
  refine kv (g1 (decide_eq_true c1)) (ldB) ?_
  refine kv (g1 (decide_eq_true c1)) (ldB) ?_
  obtain ⟨t2, A3, H⟩ := of_bind H
  refine kcS0 12 (.lit (.bool t2)) [] (g1 (decide_eq_true c1)) (cal (slices_Contains_int_int.ok A3) [] 9999 .n (hf := Try.func39)) rfl rfl ?_
  refine kv (g1 (decide_eq_true c1)) (not_) ?_
  refine kv g0 (pkT (decide_eq_true c1)) ?_
  refine kv g0 (asg) ?_
  refine wk_end ?_
  refine ac_next ?_
  refine aw_ret ?_
  obtain rfl := Option.some.inj H
  exact acr hE [.tmp 3] (.tmp .nil) (.one _) [(0, 0)] 9999
 rw [if_neg c1] at H
 refine kx (hT (decide_eq_false c1)) ?_
 refine kx (hT (decide_eq_false c1)) ?_
 refine kx (hT (decide_eq_false c1)) ?_
 refine kx (hT (decide_eq_false c1)) ?_
 refine kx (hT (decide_eq_false c1)) ?_
 refine kv g0 (pkF (decide_eq_false c1)) ?_
 refine kv g0 (asg) ?_
 refine wk_end ?_
 refine ac_next ?_
 refine aw_ret ?_
 obtain rfl := Option.some.inj H
 exact acr hE [.tmp 3] (.tmp .nil) (.one _) [(0, 0)] 9999
/-! impl_Rule_70, handed impl_OnlyFor_1 -/
def impl_Rule_70_w42.l0 : Nat → (List S59) → Int → Int → Option (Int × Int)
 | 0, _, _, _ => none
 | k8 + 1, l0, p6, p7 => if p7 < (l0.length : Int) then if 0 ≤ p7 then ((impl_OnlyFor_1.f k8 ((rd_T59 l0 p7).f0) ((rd_T59 l0 p7).f1) ((rd_T59 l0 p7).f2) ((rd_T59 l0 p7).f3) p6).bind fun t11 => if t11.1 = true then some (p7, t11.2) else impl_Rule_70_w42.l0 k8 l0 t11.2 (wrap64 (p7 + 1))) else none else some ((-1), p6)
def impl_Rule_70_w42.f (k : Nat) (l0 : List S59) (a1_0_0 : Int) : Option (Int × Int) := impl_Rule_70_w42.l0 k l0 a1_0_0 0
theorem impl_Rule_70_w42.ok {k : Nat} {l0 : List S59} {a1_0_0 : Int} {r : Int × Int} (H : impl_Rule_70_w42.f k l0 a1_0_0 = some r) : ACalls Try.prog 70 [(0, .box 3 [.lit (.int .i64 a1_0_0)])] [.sl .o 4 (l0.map e59), .fn 42 [.box 0 0]] [(0, .box 3 [.lit (.int .i64 r.2)])] (.lit (.int .i64 r.1)) := by
 refine acalls (fn := Try.f70) (nt := 19) Try.func70 rfl rfl (Nat.le_of_ble_eq_true rfl) fun E hE => ?_
 rw [impl_Rule_70_w42.f] at H
 refine aw_grp1 ?_
 refine wk_start ?_
 refine kv g0 (asg) ?_
 refine wk_end ?_
 refine ac_next ?_
 refine aw_grp1 ?_
 refine aw_grp1 ?_
 refine wk_start ?_
 refine kv g0 (mv) ?_
 refine kv g0 (lnS lenE) ?_
 refine kv g0 (mv) ?_
 refine wk_end ?_
 refine ac_next ?_
 refine aw_block ?_
 refine aw_loop2 (fun (k_ : Nat) (p6 : Int) (p7 : Int) => k_ ≤ k ∧ impl_Rule_70_w42.l0 k_ l0 p6 p7 = some r) (fun (p6 : Int) (p7 : Int) => ⟨[(0, .sl .o 4 (l0.map e59)), (1, .fn 42 [.box 0 0]), (7, .lit (.int .i64 (l0.length : Int))), (8, .lit (.int .i64 p7))], [(0, .box 3 [.lit (.int .i64 p6)])]⟩) k a1_0_0 0 ⟨Nat.le_refl _, H⟩ (fun K_ h_ => acw hE [(0, 0)] 9999 h_) (fun _ _ => by intro h_; have h_ := h_.2; rw [impl_Rule_70_w42.l0.eq_1] at h_; cases h_) ?_
 intro k8 p6 p7 hq_ K14 hK15
 have hk8 := hq_.1
 have H := hq_.2
 clear hq_
 rw [impl_Rule_70_w42.l0.eq_2] at H
 refine aw_grp1 ?_
 refine wk_start ?_
 refine kv g0 (lss) ?_
 refine wk_end ?_
 refine ac_next ?_
 refine aw_grp1 ?_
 by_cases c9 : p7 < (l0.length : Int)
 ·rw [if_pos c9] at H
  refine aw_ifT ?_ (decide_eq_true c9)
  refine aw_skip ?_
  refine ac_next ?_
  refine aw_grp1 ?_
  refine aw_block ?_
  refine aw_grp1 ?_
  refine wk_start ?_
  refine kv g0 (mv) ?_
  refine kv g0 (asg) ?_
  refine wk_end ?_
  refine ac_next ?_
  refine aw_grp1 ?_
  refine wk_start ?_
  refine kv g0 (mv) ?_
  refine kv g0 (mv) ?_
  refine kv g0 (mv) ?_
  obtain ⟨c10, H⟩ := of_if H
  refine kv g0 (ixS 59 (e59 (rd_T59 l0 p7)) c10 (getE (z := z59) c10 c9)) ?_
  refine kv g0 (ldRA 4 [.sl .o 1 (((rd_T59 l0 p7).f0).map (eI .i64)), .sl .o 6 (((rd_T59 l0 p7).f1).map e71), .lit (.int .i64 ((rd_T59 l0 p7).f2)), .lit (.int .i64 ((rd_T59 l0 p7).f3))]) ?_
  obtain ⟨t11, A12, H⟩ := of_bind H
  refine kcS1 16 (.lit (.bool t11.1)) [(0, .box 3 [.lit (.int .i64 t11.2)])] g0 (cal (impl_OnlyFor_1.ok A12) [0] 9999 .n (hf := Try.func42)) rfl rfl ?_
  refine wk_end ?_
  refine ac_next ?_
  by_cases c13 : t11.1 = true
  ·rw [if_pos c13] at H
   refine aw_ifT ?_ c13
   refine aw_grp1 ?_
   refine wk_start ?_
   refine kv g0 (mv) ?_
   refine kv g0 (asg) ?_
   refine wk_end ?_
   refine ac_next ?_
   refine aw_ret ?_
   refine ac_blkR ?_
   refine ac_thenR ?_
   refine ac_thenR ?_
   refine ac_blkR ?_
   refine ac_thenR ?_
   obtain rfl := Option.some.inj H
   exact acr hE [.tmp 4] (.tmp .nil) (.one _) [(0, 0)] 9999
  rw [if_neg c13] at H
  refine aw_ifF ?_ (bF c13)
  refine aw_skip ?_
  refine ac_blkN ?_
  refine ac_next ?_
  refine wk_start ?_
  refine kv g0 (add6) ?_
  refine kv g0 (mv) ?_
  refine wk_end ?_
  refine ac_k ?_
  exact acw hE [(0, 0)] 9999 (hK15 k8 t11.2 (wrap64 (p7 + 1)) (Nat.le_refl _) ⟨by omega, H⟩)
 rw [if_neg c9] at H
 refine aw_ifF ?_ (decide_eq_false c9)
 refine aw_exit ?_
 refine ac_then ?_
 refine ac_then ?_
 refine ac_hit rfl ?_
 refine ac_next ?_
 refine aw_grp1 ?_
 refine wk_start ?_
 refine kv g0 (asg) ?_
 refine wk_end ?_
 refine ac_next ?_
 refine aw_ret ?_
 obtain rfl := Option.some.inj H
 exact acr hE [.tmp 4] (.tmp .nil) (.one _) [(0, 0)] 9999
/-! impl_Rule_41, handed impl_OnlyFor_1 -/
def impl_Rule_41_w42.l0 : Nat → (List S59) → Int → Int → Int → Option ((List S59) × Int)
 | 0, _, _, _, _ => none
 | k16 + 1, q12, p13, p14, p15 => if p15 < (q12.length : Int) then if 0 ≤ p15 then (impl_OnlyFor_1.f k16 ((rd_T59 q12 p15).f0) ((rd_T59 q12 p15).f1) ((rd_T59 q12 p15).f2) ((rd_T59 q12 p15).f3) p13).bind fun t19 => if t19.1 = true then impl_Rule_41_w42.l0 k16 q12 t19.2 p14 (wrap64 (p15 + 1)) else (if 0 ≤ p14 then (if p14 < (q12.length : Int) then impl_Rule_41_w42.l0 k16 (q12.set p14.toNat (⟨(rd_T59 q12 p15).f0, (rd_T59 q12 p15).f1, (rd_T59 q12 p15).f2, (rd_T59 q12 p15).f3⟩ : S59)) t19.2 (wrap64 (p14 + 1)) (wrap64 (p15 + 1)) else none) else none) else none else if 0 ≤ p14 then (if p14 ≤ (q12.length : Int) then if p14 ≤ ((q12.take p14.toNat ++ List.replicate (q12.length - p14.toNat) z59).length : Int) then some ((q12.take p14.toNat ++ List.replicate (q12.length - p14.toNat) z59).take p14.toNat, p13) else none else none) else none
def impl_Rule_41_w42.f (k : Nat) (l0 : List S59) (a1_0_0 : Int) : Option ((List S59) × Int) := (impl_Rule_70_w42.f k l0 a1_0_0).bind fun t1 => if t1.1 = (-1) then some (l0, t1.2) else impl_Rule_41_w42.l0 k l0 t1.2 t1.1 (wrap64 (t1.1 + 1))
theorem impl_Rule_41_w42.ok {k : Nat} {l0 : List S59} {a1_0_0 : Int} {r : (List S59) × Int} (H : impl_Rule_41_w42.f k l0 a1_0_0 = some r) : ACalls Try.prog 41 [(0, .row 59 4 (l0.map e59)), (1, .box 3 [.lit (.int .i64 a1_0_0)])] [.row 0, .fn 42 [.box 1 0]] [(0, .gone), (1, .box 3 [.lit (.int .i64 r.2)]), (2, .row 59 4 (r.1.map e59))] (.row 2) := by
 refine acalls (fn := Try.f41) (nt := 42) Try.func41 rfl rfl (Nat.le_of_ble_eq_true rfl) fun E hE => ?_
 rw [impl_Rule_41_w42.f] at H
 refine aw_grp1 ?_
 refine wk_start ?_
 refine kv g0 (asg) ?_
 refine wk_end ?_
 refine ac_next ?_
 refine aw_grp1 ?_
 refine wk_start ?_
 refine kv g0 (mv) ?_
 refine kv g0 (mv) ?_
 obtain ⟨t1, A2, H⟩ := of_bind H
 refine kcS1 10 (.lit (.int .i64 t1.1)) [(1, .box 3 [.lit (.int .i64 t1.2)])] g0 (cal (impl_Rule_70_w42.ok A2) [1] 9999 .n (hf := Try.func70)) rfl rfl ?_
 refine kv g0 (asg) ?_
 refine wk_end ?_
 refine ac_next ?_
 refine aw_grp1 ?_
 refine aw_grp1 ?_
 refine wk_start ?_
 refine kv g0 (mv) ?_
 refine kv g0 (eql) ?_
 refine wk_end ?_
 refine ac_next ?_
 by_cases c3 : t1.1 = (-1)
 ·rw [if_pos c3] at H
  refine aw_ifT ?_ (eT c3)
  refine aw_grp1 ?_
  refine wk_start ?_
  refine kv g0 (mv) ?_
  refine kv g0 (asg) ?_
  refine wk_end ?_
  refine ac_next ?_
  refine aw_ret ?_
  refine ac_thenR ?_
  refine ac_rs 4 l0.length ?_ (List.length_map ..)
  refine ac_pre 4 4 (l0.map e59) ?_ takeL
  obtain rfl := Option.some.inj H
  exact acr hE [.tmp 4] (.tmp .nil) (.one _) [(0, 0), (1, 1), (2, 4)] 9999
 rw [if_neg c3] at H
 refine aw_ifF ?_ (eF c3)
 refine aw_skip ?_
 refine ac_next ?_
 refine aw_grp1 ?_
 refine aw_grp1 ?_
 refine wk_start ?_
 refine kv g0 (mv) ?_
 refine kv g0 (add6) ?_
 refine kv g0 (asg) ?_
 refine wk_end ?_
 refine ac_next ?_
 refine aw_block ?_
 refine aw_loop4 (fun (k_ : Nat) (q12 : List S59) (p13 : Int) (p14 : Int) (p15 : Int) => k_ ≤ k ∧ impl_Rule_41_w42.l0 k_ q12 p13 p14 p15 = some r) (fun (q12 : List S59) (p13 : Int) (p14 : Int) (p15 : Int) => ⟨[(0, .row 0), (1, .fn 42 [.box 1 0]), (5, .lit (.int .i64 p14)), (6, .lit (.int .i64 p15))], [(0, .row 59 4 (q12.map e59)), (1, .box 3 [.lit (.int .i64 p13)])]⟩) k l0 t1.2 t1.1 (wrap64 (t1.1 + 1)) ⟨Nat.le_refl _, H⟩ (fun K_ h_ => acw hE [(0, 0), (1, 1)] 9999 h_) (fun _ _ _ _ => by intro h_; have h_ := h_.2; rw [impl_Rule_41_w42.l0.eq_1] at h_; cases h_) ?_
 intro k16 q12 p13 p14 p15 hq_ K24 hK25
 have hk16 := hq_.1
 have H := hq_.2
 clear hq_
 rw [impl_Rule_41_w42.l0.eq_2] at H
 refine aw_grp1 ?_
 refine aw_grp1 ?_
 refine wk_start ?_
 refine kv g0 (mv) ?_
 refine kv g0 (mv) ?_
 refine kv g0 (lnR lenE) ?_
 refine kv g0 (lss) ?_
 refine wk_end ?_
 refine ac_next ?_
 by_cases c17 : p15 < (q12.length : Int)
 ·rw [if_pos c17] at H
  refine aw_ifT ?_ (decide_eq_true c17)
  refine aw_skip ?_
  refine ac_next ?_
  refine aw_grp1 ?_
  refine aw_block ?_
  refine aw_grp1 ?_
  refine wk_start ?_
  refine kv g0 (mv) ?_
  refine kv g0 (mv) ?_
  obtain ⟨c18, H⟩ := of_if H
  refine kv g0 (ixR 59 c18 (ltE c17)) ?_
  refine kv g0 (ldEA 4 (e59 (rd_T59 q12 p15)) [.sl .n 1 (((rd_T59 q12 p15).f0).map (eI .i64)), .sl .n 6 (((rd_T59 q12 p15).f1).map e71), .lit (.int .i64 ((rd_T59 q12 p15).f2)), .lit (.int .i64 ((rd_T59 q12 p15).f3))] (getE (z := z59) c18 c17)) ?_
  refine kb g0 (alc 2 [.slice none 0 0, .slice none 0 0, .int .i64 0, .int .i64 0] [.lit (.slice none 0 0), .lit (.slice none 0 0), .lit (.int .i64 0), .lit (.int .i64 0)]) ?_
  refine ks g0 (stB 4 [.sl .n 1 (((rd_T59 q12 p15).f0).map (eI .i64)), .sl .n 6 (((rd_T59 q12 p15).f1).map e71), .lit (.int .i64 ((rd_T59 q12 p15).f2)), .lit (.int .i64 ((rd_T59 q12 p15).f3))]) ?_
  refine wk_end ?_
  refine ac_next ?_
  refine aw_grp1 ?_
  refine wk_start ?_
  refine kv g0 (mv) ?_
  refine kv g0 (ldBA 4 [.sl .n 1 (((rd_T59 q12 p15).f0).map (eI .i64)), .sl .n 6 (((rd_T59 q12 p15).f1).map e71), .lit (.int .i64 ((rd_T59 q12 p15).f2)), .lit (.int .i64 ((rd_T59 q12 p15).f3))]) ?_
  obtain ⟨t19, A20, H⟩ := of_bind H
  refine kcS1 28 (.lit (.bool t19.1)) [(1, .box 3 [.lit (.int .i64 t19.2)])] g0 (cal (impl_OnlyFor_1.ok A20) [1] 9999 .n (hf := Try.func42)) rfl rfl ?_
  refine kv g0 (not_) ?_
  refine wk_end ?_
  refine ac_next ?_
  by_cases c21 : t19.1 = true
  ·rw [if_pos c21] at H
   refine aw_ifF ?_ (nF c21)
   refine aw_skip ?_
   refine ac_blkN ?_
   refine ac_next ?_
   refine wk_start ?_
   refine kv g0 (mv) ?_
   refine kv g0 (add6) ?_
   refine kv g0 (asg) ?_
   refine wk_end ?_
   refine ac_k ?_
   exact acw hE [(0, 0), (1, 1)] 9999 (hK25 k16 q12 t19.2 p14 (wrap64 (p15 + 1)) (Nat.le_refl _) ⟨by omega, H⟩)
  rw [if_neg c21] at H
  refine aw_ifT ?_ (nT (bF c21))
  refine aw_grp1 ?_
  refine wk_start ?_
  refine kv g0 (mv) ?_
  refine kv g0 (mv) ?_
  refine kv g0 (ldBA 4 [.sl .n 1 (((rd_T59 q12 p15).f0).map (eI .i64)), .sl .n 6 (((rd_T59 q12 p15).f1).map e71), .lit (.int .i64 ((rd_T59 q12 p15).f2)), .lit (.int .i64 ((rd_T59 q12 p15).f3))]) ?_
  obtain ⟨c22, H⟩ := of_if H
  obtain ⟨c23, H⟩ := of_if H
  refine kv g0 (ixR 59 c22 (ltE c23)) ?_
  refine ks g0 (stE 4 (e59 (⟨(rd_T59 q12 p15).f0, (rd_T59 q12 p15).f1, (rd_T59 q12 p15).f2, (rd_T59 q12 p15).f3⟩ : S59)) ((q12.set p14.toNat (⟨(rd_T59 q12 p15).f0, (rd_T59 q12 p15).f1, (rd_T59 q12 p15).f2, (rd_T59 q12 p15).f3⟩ : S59)).map e59) (getE (z := z59) c22 c23) setE) ?_
  refine wk_end ?_
  refine ac_next ?_
  refine wk_start ?_
  refine kv g0 (mv) ?_
  refine kv g0 (add6) ?_
  refine kv g0 (asg) ?_
  refine wk_end ?_
  refine ac_blkN ?_
  refine ac_next ?_
  refine wk_start ?_
  refine kv g0 (mv) ?_
  refine kv g0 (add6) ?_
  refine kv g0 (asg) ?_
  refine wk_end ?_
  refine ac_k ?_
  exact acw hE [(0, 0), (1, 1)] 9999 (hK25 k16 (q12.set p14.toNat (⟨(rd_T59 q12 p15).f0, (rd_T59 q12 p15).f1, (rd_T59 q12 p15).f2, (rd_T59 q12 p15).f3⟩ : S59)) t19.2 (wrap64 (p14 + 1)) (wrap64 (p15 + 1)) (Nat.le_refl _) ⟨by omega, H⟩)
 rw [if_neg c17] at H
 refine aw_ifF ?_ (decide_eq_false c17)
 refine aw_exit ?_
 refine ac_then ?_
 refine ac_then ?_
 refine ac_hit rfl ?_
 refine ac_next ?_
 refine aw_grp1 ?_
 refine wk_start ?_
 refine kv g0 (mv) ?_
 refine kv g0 (mv) ?_
 obtain ⟨c26, H⟩ := of_if H
 obtain ⟨c27, H⟩ := of_if H
 refine kv g0 (srL 59 c26 c27) ?_
 refine ks g0 (clr [.slice none 0 0, .slice none 0 0, .int .i64 0, .int .i64 0] (e59 z59) ((q12.take p14.toNat ++ List.replicate (q12.length - p14.toNat) z59).map e59) (clrN (frl' c27)) clrE) ?_
 refine wk_end ?_
 refine ac_next ?_
 refine aw_grp1 ?_
 refine wk_start ?_
 refine kv g0 (mv) ?_
 refine kv g0 (mv) ?_
 obtain ⟨c28, H⟩ := of_if H
 refine kv g0 (srH 59 c26 c28) ?_
 refine kv g0 (asg) ?_
 refine wk_end ?_
 refine ac_next ?_
 refine aw_ret ?_
 refine ac_pre 4 3 (((q12.take p14.toNat ++ List.replicate (q12.length - p14.toNat) z59).take p14.toNat).map e59) ?_ (List.map_take ..).symm
 obtain rfl := Option.some.inj H
 exact acr hE [.tmp 4] (.tmp .nil) (.one _) [(0, 0), (1, 1), (2, 3)] 9999
/-! impl_OnlyFor -/
def impl_OnlyFor.f (k : Nat) (a0_0 : Int) (a0_1 : Int) (a0_2 : Int) (l0_3 : List S59) (a1 : Int) : Option (Int × Int × Int × (List S59)) := (impl_copyPolicy.f k a0_0 a0_1 a0_2 l0_3).bind fun t1 => (impl_PolicyOk.f k a0_0 a0_1 a0_2 l0_3).bind fun t3 => if t3 = true then (impl_Rule_41_w42.f k t1.2.2.2 a1).bind fun t6 => some (t1.1, t1.2.1, t1.2.2.1, t6.1) else some (t1.1, t1.2.1, t1.2.2.1, t1.2.2.2)
theorem impl_OnlyFor.ok {k : Nat} {a0_0 : Int} {a0_1 : Int} {a0_2 : Int} {l0_3 : List S59} {a1 : Int} {r : Int × Int × Int × (List S59)} (H : impl_OnlyFor.f k a0_0 a0_1 a0_2 l0_3 a1 = some r) : ACalls Try.prog 13 [] [.agg [.lit (.int .i64 a0_0), .lit (.int .i64 a0_1), .lit (.int .i64 a0_2), .sl .o 4 (l0_3.map e59)], .lit (.int .i64 a1)] [(0, .row 59 4 (r.2.2.2.map e59))] (.agg [.lit (.int .i64 r.1), .lit (.int .i64 r.2.1), .lit (.int .i64 r.2.2.1), .row 0]) := by
 refine acalls (fn := Try.f13) (nt := 18) Try.func13 rfl rfl (Nat.le_of_ble_eq_true rfl) fun E hE => ?_
 rw [impl_OnlyFor.f] at H
 refine aw_grp1 ?_
 refine wk_start ?_
 refine kb g0 (bxA 0) ?_
 refine kb g0 (bx1 1) ?_
 refine kb g0 (alc 2 [.int .i64 0, .int .i64 0, .int .i64 0, .slice none 0 0] [.lit (.int .i64 0), .lit (.int .i64 0), .lit (.int .i64 0), .lit (.slice none 0 0)]) ?_
 refine wk_end ?_
 refine ac_next ?_
 refine aw_grp1 ?_
 refine wk_start ?_
 refine kv g0 (ldBA 4 [.lit (.int .i64 a0_0), .lit (.int .i64 a0_1), .lit (.int .i64 a0_2), .sl .o 4 (l0_3.map e59)]) ?_
 obtain ⟨t1, A2, H⟩ := of_bind H
 refine kcS1 7 (.agg [.lit (.int .i64 t1.1), .lit (.int .i64 t1.2.1), .lit (.int .i64 t1.2.2.1), .row 3]) [(3, .row 59 4 (t1.2.2.2.map e59))] g0 (cal (impl_copyPolicy.ok A2) [3] 9999 .n (hf := Try.func38)) rfl rfl ?_
 refine kb g0 (alc 4 [.int .i64 0, .int .i64 0, .int .i64 0, .slice none 0 0] [.lit (.int .i64 0), .lit (.int .i64 0), .lit (.int .i64 0), .lit (.slice none 0 0)]) ?_
 refine ks g0 (stB 4 [.lit (.int .i64 t1.1), .lit (.int .i64 t1.2.1), .lit (.int .i64 t1.2.2.1), .row 3]) ?_
 refine wk_end ?_
 refine ac_next ?_
 refine aw_grp1 ?_
 refine aw_grp1 ?_
 refine wk_start ?_
 refine kv g0 (ldBA 4 [.lit (.int .i64 a0_0), .lit (.int .i64 a0_1), .lit (.int .i64 a0_2), .sl .o 4 (l0_3.map e59)]) ?_
 obtain ⟨t3, A4, H⟩ := of_bind H
 refine kcS0 9 (.lit (.bool t3)) [] g0 (cal (impl_PolicyOk.ok A4) [] 9999 .n (hf := Try.func40)) rfl rfl ?_
 refine kv g0 (not_) ?_
 refine wk_end ?_
 refine ac_next ?_
 by_cases c5 : t3 = true
 ·rw [if_pos c5] at H
  refine aw_ifF ?_ (nF c5)
  refine aw_skip ?_
  refine ac_next ?_
  refine aw_grp1 ?_
  refine wk_start ?_
  refine kv g0 (faB 3 3) ?_
  refine kv g0 (ldB) ?_
  refine kv g0 (mkf [.box 1 0]) ?_
  obtain ⟨t6, A7, H⟩ := of_bind H
  refine kcS3 15 (.row 5) [(3, .gone), (1, .box 3 [.lit (.int .i64 t6.2)]), (5, .row 59 4 (t6.1.map e59))] g0 (cal (impl_Rule_41_w42.ok A7) [3, 1, 5] 9999 .n (hf := Try.func41)) rfl rfl ?_
  refine kv g0 (faB 3 3) ?_
  refine ks g0 (stB 1 [.lit (.int .i64 t1.1), .lit (.int .i64 t1.2.1), .lit (.int .i64 t1.2.2.1), .row 5]) ?_
  refine wk_end ?_
  refine ac_next ?_
  refine aw_grp1 ?_
  refine wk_start ?_
  refine kv g0 (ldBA 4 [.lit (.int .i64 t1.1), .lit (.int .i64 t1.2.1), .lit (.int .i64 t1.2.2.1), .row 5]) ?_
  refine ks g0 (stB 4 [.lit (.int .i64 t1.1), .lit (.int .i64 t1.2.1), .lit (.int .i64 t1.2.2.1), .row 5]) ?_
  refine wk_end ?_
  refine ac_next ?_
  refine aw_ret ?_
  obtain rfl := Option.some.inj H
  exact acr hE [.cell 4 26] (rcA 4 .nil) (.one _) [(0, 5)] 9999
 rw [if_neg c5] at H
 refine aw_ifT ?_ (nT (bF c5))
 refine aw_grp1 ?_
 refine wk_start ?_
 refine kv g0 (ldBA 4 [.lit (.int .i64 t1.1), .lit (.int .i64 t1.2.1), .lit (.int .i64 t1.2.2.1), .row 3]) ?_
 refine ks g0 (stB 4 [.lit (.int .i64 t1.1), .lit (.int .i64 t1.2.1), .lit (.int .i64 t1.2.2.1), .row 3]) ?_
 refine wk_end ?_
 refine ac_next ?_
 refine aw_ret ?_
 refine ac_thenR ?_
 obtain rfl := Option.some.inj H
 exact acr hE [.cell 4 26] (rcA 4 .nil) (.one _) [(0, 3)] 9999
end Go.Proofs.Ytlkcnldfnhclbaa.PFnLess
