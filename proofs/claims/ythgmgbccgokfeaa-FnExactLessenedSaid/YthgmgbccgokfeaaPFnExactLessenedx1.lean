import Derived.Test.YthgmgbccgokfeaaPFnExactLessenedx0
set_option linter.unusedVariables false
set_option linter.unusedSimpArgs false
set_option maxRecDepth 100000
namespace Go.Proofs.Ythgmgbccgokfeaa.PFnExactLessened
open Go Go.RowKit Go.Proofs.YthgmgbccgokfeaaA
/-! laws_szIntS -/
def laws_szIntS.f (l0 : List Int) (a1 : Int) : Option (Int) := if (wrap64 (a1 - (l0.length : Int))) < 0 then some (-1) else some (wrap64 (a1 - (l0.length : Int)))
theorem laws_szIntS.ok {l0 : List Int} {a1 : Int} {r : Int} (H : laws_szIntS.f l0 a1 = some r) : ACalls Try.prog 98 [] [.sl .o 1 (l0.map (eI .i64)), .lit (.int .i64 a1)] [] (.lit (.int .i64 r)) := by
 refine acalls (fn := Try.f98) (nt := 12) Try.func98 rfl rfl (Nat.le_of_ble_eq_true rfl) fun E hE => ?_
 rw [laws_szIntS.f] at H
 refine aw_grp1 ?_
 refine wk_start ?_
 refine kv g0 (asg) ?_
 refine wk_end ?_
 refine ac_next ?_
 refine aw_grp1 ?_
 refine wk_start ?_
 refine kv g0 (mv) ?_
 refine kv g0 (mv) ?_
 refine kv g0 (lnS lenE) ?_
 refine kv g0 (sub6) ?_
 refine kv g0 (asg) ?_
 refine wk_end ?_
 refine ac_next ?_
 refine aw_grp1 ?_
 refine aw_grp1 ?_
 refine wk_start ?_
 refine kv g0 (mv) ?_
 refine kv g0 (lss) ?_
 refine wk_end ?_
 refine ac_next ?_
 by_cases c1 : (wrap64 (a1 - (l0.length : Int))) < 0
 ·rw [if_pos c1] at H
  refine aw_ifT ?_ (decide_eq_true c1)
  refine aw_grp1 ?_
  refine wk_start ?_
  refine kv g0 (asg) ?_
  refine wk_end ?_
  refine ac_next ?_
  refine aw_ret ?_
  refine ac_thenR ?_
  obtain rfl := Option.some.inj H
  exact acr hE [.tmp 4] (.tmp .nil) (.one _) [] 9999
 rw [if_neg c1] at H
 refine aw_ifF ?_ (decide_eq_false c1)
 refine aw_skip ?_
 refine ac_next ?_
 refine aw_grp1 ?_
 refine wk_start ?_
 refine kv g0 (mv) ?_
 refine kv g0 (asg) ?_
 refine wk_end ?_
 refine ac_next ?_
 refine aw_ret ?_
 obtain rfl := Option.some.inj H
 exact acr hE [.tmp 4] (.tmp .nil) (.one _) [] 9999
/-! laws_szCondS -/
def laws_szCondS.f (l0 : List S117) (a1 : Int) : Option (Int) := if (wrap64 (a1 - (l0.length : Int))) < 0 then some (-1) else some (wrap64 (a1 - (l0.length : Int)))
theorem laws_szCondS.ok {l0 : List S117} {a1 : Int} {r : Int} (H : laws_szCondS.f l0 a1 = some r) : ACalls Try.prog 99 [] [.sl .o 6 (l0.map e117), .lit (.int .i64 a1)] [] (.lit (.int .i64 r)) := by
 refine acalls (fn := Try.f99) (nt := 12) Try.func99 rfl rfl (Nat.le_of_ble_eq_true rfl) fun E hE => ?_
 rw [laws_szCondS.f] at H
 refine aw_grp1 ?_
 refine wk_start ?_
 refine kv g0 (asg) ?_
 refine wk_end ?_
 refine ac_next ?_
 refine aw_grp1 ?_
 refine wk_start ?_
 refine kv g0 (mv) ?_
 refine kv g0 (mv) ?_
 refine kv g0 (lnS lenE) ?_
 refine kv g0 (sub6) ?_
 refine kv g0 (asg) ?_
 refine wk_end ?_
 refine ac_next ?_
 refine aw_grp1 ?_
 refine aw_grp1 ?_
 refine wk_start ?_
 refine kv g0 (mv) ?_
 refine kv g0 (lss) ?_
 refine wk_end ?_
 refine ac_next ?_
 by_cases c1 : (wrap64 (a1 - (l0.length : Int))) < 0
 ·rw [if_pos c1] at H
  refine aw_ifT ?_ (decide_eq_true c1)
  refine aw_grp1 ?_
  refine wk_start ?_
  refine kv g0 (asg) ?_
  refine wk_end ?_
  refine ac_next ?_
  refine aw_ret ?_
  refine ac_thenR ?_
  obtain rfl := Option.some.inj H
  exact acr hE [.tmp 4] (.tmp .nil) (.one _) [] 9999
 rw [if_neg c1] at H
 refine aw_ifF ?_ (decide_eq_false c1)
 refine aw_skip ?_
 refine ac_next ?_
 refine aw_grp1 ?_
 refine wk_start ?_
 refine kv g0 (mv) ?_
 refine kv g0 (asg) ?_
 refine wk_end ?_
 refine ac_next ?_
 refine aw_ret ?_
 obtain rfl := Option.some.inj H
 exact acr hE [.tmp 4] (.tmp .nil) (.one _) [] 9999
/-! laws_szRule -/
def laws_szRule.f (l0_0 : List Int) (l0_1 : List S117) (a0_2 : Int) (a0_3 : Int) (a1 : Int) : Option (Int) := (laws_szIntS.f l0_0 a1).bind fun t1 => if t1 < 0 then some (-1) else (laws_szCondS.f l0_1 t1).bind fun t4 => if t4 < 0 then some (-1) else some t4
theorem laws_szRule.ok {l0_0 : List Int} {l0_1 : List S117} {a0_2 : Int} {a0_3 : Int} {a1 : Int} {r : Int} (H : laws_szRule.f l0_0 l0_1 a0_2 a0_3 a1 = some r) : ACalls Try.prog 74 [] [.agg [.sl .o 1 (l0_0.map (eI .i64)), .sl .o 6 (l0_1.map e117), .lit (.int .i64 a0_2), .lit (.int .i64 a0_3)], .lit (.int .i64 a1)] [] (.lit (.int .i64 r)) := by
 refine acalls (fn := Try.f74) (nt := 18) Try.func74 rfl rfl (Nat.le_of_ble_eq_true rfl) fun E hE => ?_
 rw [laws_szRule.f] at H
 refine aw_grp1 ?_
 refine wk_start ?_
 refine kb g0 (bxA 0) ?_
 refine kv g0 (asg) ?_
 refine wk_end ?_
 refine ac_next ?_
 refine aw_grp1 ?_
 refine wk_start ?_
 refine kv g0 (faB 0 0) ?_
 refine kv g0 (ldB) ?_
 refine kv g0 (mv) ?_
 obtain ⟨t1, A2, H⟩ := of_bind H
 refine kcS0 8 (.lit (.int .i64 t1)) [] g0 (cal (laws_szIntS.ok A2) [] 9999 .n (hf := Try.func98)) rfl rfl ?_
 refine kv g0 (asg) ?_
 refine wk_end ?_
 refine ac_next ?_
 refine aw_grp1 ?_
 refine aw_grp1 ?_
 refine wk_start ?_
 refine kv g0 (mv) ?_
 refine kv g0 (lss) ?_
 refine wk_end ?_
 refine ac_next ?_
 by_cases c3 : t1 < 0
 ·rw [if_pos c3] at H
  refine aw_ifT ?_ (decide_eq_true c3)
  refine aw_grp1 ?_
  refine wk_start ?_
  refine kv g0 (asg) ?_
  refine wk_end ?_
  refine ac_next ?_
  refine aw_ret ?_
  refine ac_thenR ?_
  obtain rfl := Option.some.inj H
  exact acr hE [.tmp 4] (.tmp .nil) (.one _) [] 9999
 rw [if_neg c3] at H
 refine aw_ifF ?_ (decide_eq_false c3)
 refine aw_skip ?_
 refine ac_next ?_
 refine aw_grp1 ?_
 refine wk_start ?_
 refine kv g0 (faB 1 1) ?_
 refine kv g0 (ldB) ?_
 refine kv g0 (mv) ?_
 obtain ⟨t4, A5, H⟩ := of_bind H
 refine kcS0 14 (.lit (.int .i64 t4)) [] g0 (cal (laws_szCondS.ok A5) [] 9999 .n (hf := Try.func99)) rfl rfl ?_
 refine kv g0 (asg) ?_
 refine wk_end ?_
 refine ac_next ?_
 refine aw_grp1 ?_
 refine aw_grp1 ?_
 refine wk_start ?_
 refine kv g0 (mv) ?_
 refine kv g0 (lss) ?_
 refine wk_end ?_
 refine ac_next ?_
 by_cases c6 : t4 < 0
 ·rw [if_pos c6] at H
  refine aw_ifT ?_ (decide_eq_true c6)
  refine aw_grp1 ?_
  refine wk_start ?_
  refine kv g0 (asg) ?_
  refine wk_end ?_
  refine ac_next ?_
  refine aw_ret ?_
  refine ac_thenR ?_
  obtain rfl := Option.some.inj H
  exact acr hE [.tmp 4] (.tmp .nil) (.one _) [] 9999
 rw [if_neg c6] at H
 refine aw_ifF ?_ (decide_eq_false c6)
 refine aw_skip ?_
 refine ac_next ?_
 refine aw_grp1 ?_
 refine wk_start ?_
 refine kv g0 (mv) ?_
 refine kv g0 (asg) ?_
 refine wk_end ?_
 refine ac_next ?_
 refine aw_ret ?_
 obtain rfl := Option.some.inj H
 exact acr hE [.tmp 4] (.tmp .nil) (.one _) [] 9999
/-! laws_szRuleS -/
def laws_szRuleS.l0 : Nat → (List S86) → Int → Int → Option (Int)
 | 0, _, _, _ => none
 | k9 + 1, l0, p7, p8 => if p8 < (l0.length : Int) then if 0 ≤ p8 then ((laws_szRule.f ((rd_T86 l0 p8).f0) ((rd_T86 l0 p8).f1) ((rd_T86 l0 p8).f2) ((rd_T86 l0 p8).f3) p7).bind fun t12 => if t12 < 0 then some (-1) else laws_szRuleS.l0 k9 l0 t12 (wrap64 (p8 + 1))) else none else some p7
def laws_szRuleS.f (k : Nat) (l0 : List S86) (a1 : Int) : Option (Int) := if (wrap64 (a1 - (l0.length : Int))) < 0 then some (-1) else laws_szRuleS.l0 k l0 (wrap64 (a1 - (l0.length : Int))) 0
theorem laws_szRuleS.ok {k : Nat} {l0 : List S86} {a1 : Int} {r : Int} (H : laws_szRuleS.f k l0 a1 = some r) : ACalls Try.prog 35 [] [.sl .o 4 (l0.map e86), .lit (.int .i64 a1)] [] (.lit (.int .i64 r)) := by
 refine acalls (fn := Try.f35) (nt := 27) Try.func35 rfl rfl (Nat.le_of_ble_eq_true rfl) fun E hE => ?_
 rw [laws_szRuleS.f] at H
 refine aw_grp1 ?_
 refine wk_start ?_
 refine kv g0 (asg) ?_
 refine wk_end ?_
 refine ac_next ?_
 refine aw_grp1 ?_
 refine wk_start ?_
 refine kv g0 (mv) ?_
 refine kv g0 (mv) ?_
 refine kv g0 (lnS lenE) ?_
 refine kv g0 (sub6) ?_
 refine kv g0 (asg) ?_
 refine wk_end ?_
 refine ac_next ?_
 refine aw_grp1 ?_
 refine aw_grp1 ?_
 refine wk_start ?_
 refine kv g0 (mv) ?_
 refine kv g0 (lss) ?_
 refine wk_end ?_
 refine ac_next ?_
 by_cases c1 : (wrap64 (a1 - (l0.length : Int))) < 0
 ·rw [if_pos c1] at H
  refine aw_ifT ?_ (decide_eq_true c1)
  refine aw_grp1 ?_
  refine wk_start ?_
  refine kv g0 (asg) ?_
  refine wk_end ?_
  refine ac_next ?_
  refine aw_ret ?_
  refine ac_thenR ?_
  obtain rfl := Option.some.inj H
  exact acr hE [.tmp 4] (.tmp .nil) (.one _) [] 9999
 rw [if_neg c1] at H
 refine aw_ifF ?_ (decide_eq_false c1)
 refine aw_skip ?_
 refine ac_next ?_
 refine aw_grp1 ?_
 refine aw_grp1 ?_
 refine wk_start ?_
 refine kv g0 (asg) ?_
 refine wk_end ?_
 refine ac_next ?_
 refine aw_block ?_
 refine aw_loop2 (fun (k_ : Nat) (p7 : Int) (p8 : Int) => k_ ≤ k ∧ laws_szRuleS.l0 k_ l0 p7 p8 = some r) (fun (p7 : Int) (p8 : Int) => ⟨[(0, .sl .o 4 (l0.map e86)), (1, .lit (.int .i64 p7)), (5, .lit (.int .i64 p8))], []⟩) k (wrap64 (a1 - (l0.length : Int))) 0 ⟨Nat.le_refl _, H⟩ (fun K_ h_ => acw hE [] 9999 h_) (fun _ _ => by intro h_; have h_ := h_.2; rw [laws_szRuleS.l0.eq_1] at h_; cases h_) ?_
 intro k9 p7 p8 hq_ K15 hK16
 have hk9 := hq_.1
 have H := hq_.2
 clear hq_
 rw [laws_szRuleS.l0.eq_2] at H
 refine aw_grp1 ?_
 refine aw_grp1 ?_
 refine wk_start ?_
 refine kv g0 (mv) ?_
 refine kv g0 (mv) ?_
 refine kv g0 (lnS lenE) ?_
 refine kv g0 (lss) ?_
 refine wk_end ?_
 refine ac_next ?_
 by_cases c10 : p8 < (l0.length : Int)
 ·rw [if_pos c10] at H
  refine aw_ifT ?_ (decide_eq_true c10)
  refine aw_skip ?_
  refine ac_next ?_
  refine aw_grp1 ?_
  refine aw_block ?_
  refine aw_grp1 ?_
  refine wk_start ?_
  refine kv g0 (mv) ?_
  refine kv g0 (mv) ?_
  obtain ⟨c11, H⟩ := of_if H
  refine kv g0 (ixS 86 (e86 (rd_T86 l0 p8)) c11 (getE (z := z86) c11 c10)) ?_
  refine kv g0 (ldRA 4 [.sl .o 1 (((rd_T86 l0 p8).f0).map (eI .i64)), .sl .o 6 (((rd_T86 l0 p8).f1).map e117), .lit (.int .i64 ((rd_T86 l0 p8).f2)), .lit (.int .i64 ((rd_T86 l0 p8).f3))]) ?_
  refine kv g0 (mv) ?_
  obtain ⟨t12, A13, H⟩ := of_bind H
  refine kcS0 23 (.lit (.int .i64 t12)) [] g0 (cal (laws_szRule.ok A13) [] 9999 .n (hf := Try.func74)) rfl rfl ?_
  refine kv g0 (asg) ?_
  refine wk_end ?_
  refine ac_next ?_
  refine aw_grp1 ?_
  refine wk_start ?_
  refine kv g0 (mv) ?_
  refine kv g0 (lss) ?_
  refine wk_end ?_
  refine ac_next ?_
  by_cases c14 : t12 < 0
  ·rw [if_pos c14] at H
   refine aw_ifT ?_ (decide_eq_true c14)
   refine aw_grp1 ?_
   refine wk_start ?_
   refine kv g0 (asg) ?_
   refine wk_end ?_
   refine ac_next ?_
   refine aw_ret ?_
   refine ac_blkR ?_
   refine ac_thenR ?_
   refine ac_thenR ?_
   refine ac_blkR ?_
   refine ac_thenR ?_
   obtain rfl := Option.some.inj H
   exact acr hE [.tmp 4] (.tmp .nil) (.one _) [] 9999
  rw [if_neg c14] at H
  refine aw_ifF ?_ (decide_eq_false c14)
  refine aw_skip ?_
  refine ac_blkN ?_
  refine ac_next ?_
  refine wk_start ?_
  refine kv g0 (mv) ?_
  refine kv g0 (add6) ?_
  refine kv g0 (asg) ?_
  refine wk_end ?_
  refine ac_k ?_
  exact acw hE [] 9999 (hK16 k9 t12 (wrap64 (p8 + 1)) (Nat.le_refl _) ⟨by omega, H⟩)
 rw [if_neg c10] at H
 refine aw_ifF ?_ (decide_eq_false c10)
 refine aw_exit ?_
 refine ac_then ?_
 refine ac_then ?_
 refine ac_hit rfl ?_
 refine ac_next ?_
 refine aw_grp1 ?_
 refine wk_start ?_
 refine kv g0 (mv) ?_
 refine kv g0 (asg) ?_
 refine wk_end ?_
 refine ac_next ?_
 refine aw_ret ?_
 obtain rfl := Option.some.inj H
 exact acr hE [.tmp 4] (.tmp .nil) (.one _) [] 9999
/-! laws_szPolicy -/
def laws_szPolicy.f (k : Nat) (a0_0 : Int) (a0_1 : Int) (a0_2 : Int) (l0_3 : List S86) (a1 : Int) : Option (Int) := (laws_szRuleS.f k l0_3 a1).bind fun t1 => if t1 < 0 then some (-1) else some t1
theorem laws_szPolicy.ok {k : Nat} {a0_0 : Int} {a0_1 : Int} {a0_2 : Int} {l0_3 : List S86} {a1 : Int} {r : Int} (H : laws_szPolicy.f k a0_0 a0_1 a0_2 l0_3 a1 = some r) : ACalls Try.prog 8 [] [.agg [.lit (.int .i64 a0_0), .lit (.int .i64 a0_1), .lit (.int .i64 a0_2), .sl .o 4 (l0_3.map e86)], .lit (.int .i64 a1)] [] (.lit (.int .i64 r)) := by
 refine acalls (fn := Try.f8) (nt := 12) Try.func8 rfl rfl (Nat.le_of_ble_eq_true rfl) fun E hE => ?_
 rw [laws_szPolicy.f] at H
 refine aw_grp1 ?_
 refine wk_start ?_
 refine kb g0 (bxA 0) ?_
 refine kv g0 (asg) ?_
 refine wk_end ?_
 refine ac_next ?_
 refine aw_grp1 ?_
 refine wk_start ?_
 refine kv g0 (faB 3 3) ?_
 refine kv g0 (ldB) ?_
 refine kv g0 (mv) ?_
 obtain ⟨t1, A2, H⟩ := of_bind H
 refine kcS0 8 (.lit (.int .i64 t1)) [] g0 (cal (laws_szRuleS.ok A2) [] 9999 .n (hf := Try.func35)) rfl rfl ?_
 refine kv g0 (asg) ?_
 refine wk_end ?_
 refine ac_next ?_
 refine aw_grp1 ?_
 refine aw_grp1 ?_
 refine wk_start ?_
 refine kv g0 (mv) ?_
 refine kv g0 (lss) ?_
 refine wk_end ?_
 refine ac_next ?_
 by_cases c3 : t1 < 0
 ·rw [if_pos c3] at H
  refine aw_ifT ?_ (decide_eq_true c3)
  refine aw_grp1 ?_
  refine wk_start ?_
  refine kv g0 (asg) ?_
  refine wk_end ?_
  refine ac_next ?_
  refine aw_ret ?_
  refine ac_thenR ?_
  obtain rfl := Option.some.inj H
  exact acr hE [.tmp 4] (.tmp .nil) (.one _) [] 9999
 rw [if_neg c3] at H
 refine aw_ifF ?_ (decide_eq_false c3)
 refine aw_skip ?_
 refine ac_next ?_
 refine aw_grp1 ?_
 refine wk_start ?_
 refine kv g0 (mv) ?_
 refine kv g0 (asg) ?_
 refine wk_end ?_
 refine ac_next ?_
 refine aw_ret ?_
 obtain rfl := Option.some.inj H
 exact acr hE [.tmp 4] (.tmp .nil) (.one _) [] 9999
/-! laws_toIntS -/
def laws_toIntS.l0 : Nat → (List Int) → (List Int) → Int → Option ((List Int))
 | 0, _, _, _ => none
 | k8 + 1, l0, q6, p7 => if p7 < (l0.length : Int) then if 0 ≤ p7 then (if p7 < (q6.length : Int) then laws_toIntS.l0 k8 l0 (q6.set p7.toNat (rd l0 p7)) (wrap64 (p7 + 1)) else none) else none else some q6
def laws_toIntS.f (k : Nat) (l0 : List Int) : Option ((List Int)) := if 0 ≤ (l0.length : Int) then (if (l0.length : Int).toNat ≤ 35184372088832 then laws_toIntS.l0 k l0 (List.replicate (l0.length : Int).toNat (0 : Int)) 0 else none) else none
theorem laws_toIntS.ok {k : Nat} {l0 : List Int} {r : (List Int)} (H : laws_toIntS.f k l0 = some r) : ACalls Try.prog 101 [] [.sl .o 1 (l0.map (eI .i64))] [(0, .row 3 1 (r.map (eI .i64)))] (.row 0) := by
 refine acalls (fn := Try.f101) (nt := 22) Try.func101 rfl rfl (Nat.le_of_ble_eq_true rfl) fun E hE => ?_
 rw [laws_toIntS.f] at H
 refine aw_grp1 ?_
 refine wk_start ?_
 refine kv g0 (asg) ?_
 refine wk_end ?_
 refine ac_next ?_
 refine aw_grp1 ?_
 refine wk_start ?_
 refine kv g0 (mv) ?_
 refine kv g0 (lnS lenE) ?_
 obtain ⟨c1, H⟩ := of_if H
 obtain ⟨c2, H⟩ := of_if H
 refine kb g0 (mks 0 3 1 8 [.int .i64 0] (eI .i64 (0 : Int)) ((List.replicate (l0.length : Int).toNat (0 : Int)).map (eI .i64)) c1 (mkb c2 rfl) repE) ?_
 refine kv g0 (asg) ?_
 refine wk_end ?_
 refine ac_next ?_
 refine aw_grp1 ?_
 refine aw_grp1 ?_
 refine wk_start ?_
 refine kv g0 (asg) ?_
 refine wk_end ?_
 refine ac_next ?_
 refine aw_block ?_
 refine aw_loop2 (fun (k_ : Nat) (q6 : List Int) (p7 : Int) => k_ ≤ k ∧ laws_toIntS.l0 k_ l0 q6 p7 = some r) (fun (q6 : List Int) (p7 : Int) => ⟨[(0, .sl .o 1 (l0.map (eI .i64))), (3, .row 0), (4, .lit (.int .i64 p7))], [(0, .row 3 1 (q6.map (eI .i64)))]⟩) k (List.replicate (l0.length : Int).toNat (0 : Int)) 0 ⟨Nat.le_refl _, H⟩ (fun K_ h_ => acw hE [(0, 0)] 9999 h_) (fun _ _ => by intro h_; have h_ := h_.2; rw [laws_toIntS.l0.eq_1] at h_; cases h_) ?_
 intro k8 q6 p7 hq_ K12 hK13
 have hk8 := hq_.1
 have H := hq_.2
 clear hq_
 rw [laws_toIntS.l0.eq_2] at H
 refine aw_grp1 ?_
 refine aw_grp1 ?_
 refine wk_start ?_
 refine kv g0 (mv) ?_
 refine kv g0 (mv) ?_
 refine kv g0 (lnS lenE) ?_
 refine kv g0 (lss) ?_
 refine wk_end ?_
 refine ac_next ?_
 by_cases c9 : p7 < (l0.length : Int)
 ·rw [if_pos c9] at H
  refine aw_ifT ?_ (decide_eq_true c9)
  refine aw_skip ?_
  refine ac_next ?_
  refine aw_grp1 ?_
  refine aw_block ?_
  refine wk_start ?_
  refine kv g0 (mv) ?_
  refine kv g0 (mv) ?_
  refine kv g0 (mv) ?_
  refine kv g0 (mv) ?_
  obtain ⟨c10, H⟩ := of_if H
  refine kv g0 (ixS 3 (eI .i64 (rd l0 p7)) c10 (getE (z := (0 : Int)) c10 c9)) ?_
  refine kv g0 (ldR (.lit (.int .i64 (rd l0 p7)))) ?_
  obtain ⟨c11, H⟩ := of_if H
  refine kv g0 (ixR 3 c10 (ltE c11)) ?_
  refine ks g0 (stE 1 (eI .i64 (rd l0 p7)) ((q6.set p7.toNat (rd l0 p7)).map (eI .i64)) (getE (z := (0 : Int)) c10 c11) setE) ?_
  refine wk_end ?_
  refine ac_blkN ?_
  refine ac_next ?_
  refine wk_start ?_
  refine kv g0 (mv) ?_
  refine kv g0 (add6) ?_
  refine kv g0 (asg) ?_
  refine wk_end ?_
  refine ac_k ?_
  exact acw hE [(0, 0)] 9999 (hK13 k8 (q6.set p7.toNat (rd l0 p7)) (wrap64 (p7 + 1)) (Nat.le_refl _) ⟨by omega, H⟩)
 rw [if_neg c9] at H
 refine aw_ifF ?_ (decide_eq_false c9)
 refine aw_exit ?_
 refine ac_then ?_
 refine ac_then ?_
 refine ac_hit rfl ?_
 refine ac_next ?_
 refine aw_grp1 ?_
 refine wk_start ?_
 refine kv g0 (mv) ?_
 refine kv g0 (asg) ?_
 refine wk_end ?_
 refine ac_next ?_
 refine aw_ret ?_
 obtain rfl := Option.some.inj H
 exact acr hE [.tmp 2] (.tmp .nil) (.one _) [(0, 0)] 9999
/-! laws_toWide -/
def laws_toWide.f (a0_0 : Int) (a0_1 : Int) : Option (Int × Int) := some (a0_0, a0_1)
theorem laws_toWide.ok {a0_0 : Int} {a0_1 : Int} {r : Int × Int} (H : laws_toWide.f a0_0 a0_1 = some r) : ACalls Try.prog 114 [] [.agg [.lit (.int .i64 a0_0), .lit (.int .i64 a0_1)]] [] (.agg [.lit (.int .i64 r.1), .lit (.int .i64 r.2)]) := by
 refine acalls (fn := Try.f114) (nt := 11) Try.func114 rfl rfl (Nat.le_of_ble_eq_true rfl) fun E hE => ?_
 rw [laws_toWide.f] at H
 refine aw_grp1 ?_
 refine wk_start ?_
 refine kb g0 (bxA 0) ?_
 refine kb g0 (alc 1 [.int .i64 0, .int .i64 0] [.lit (.int .i64 0), .lit (.int .i64 0)]) ?_
 refine wk_end ?_
 refine ac_next ?_
 refine aw_grp1 ?_
 refine wk_start ?_
 refine kb g0 (alc 2 [.int .i64 0, .int .i64 0] [.lit (.int .i64 0), .lit (.int .i64 0)]) ?_
 refine wk_end ?_
 refine ac_next ?_
 refine aw_grp1 ?_
 refine wk_start ?_
 refine kv g0 (faB 0 0) ?_
 refine kv g0 (ldB) ?_
 refine kv g0 (faB 0 0) ?_
 refine ks g0 (stB 1 [.lit (.int .i64 a0_0), .lit (.int .i64 0)]) ?_
 refine wk_end ?_
 refine ac_next ?_
 refine aw_grp1 ?_
 refine wk_start ?_
 refine kv g0 (faB 1 1) ?_
 refine kv g0 (ldB) ?_
 refine kv g0 (faB 1 1) ?_
 refine ks g0 (stB 1 [.lit (.int .i64 a0_0), .lit (.int .i64 a0_1)]) ?_
 refine wk_end ?_
 refine ac_next ?_
 refine aw_grp1 ?_
 refine wk_start ?_
 refine kv g0 (ldBA 2 [.lit (.int .i64 a0_0), .lit (.int .i64 a0_1)]) ?_
 refine ks g0 (stB 2 [.lit (.int .i64 a0_0), .lit (.int .i64 a0_1)]) ?_
 refine wk_end ?_
 refine ac_next ?_
 refine aw_ret ?_
 obtain rfl := Option.some.inj H
 exact acr hE [.cell 2 90] (rcA 2 .nil) (.one _) [] 9999
/-! laws_toCond -/
def laws_toCond.f (a0_0 : Int) (a0_1 : Int) (a0_2 : Int) (a0_3 : Int) (a0_4 : Int) (a0_5 : Int) : Option (Int × Int × Int × Int × Int × Int) := (laws_toWide.f a0_1 a0_2).bind fun t1 => (laws_toWide.f a0_4 a0_5).bind fun t3 => some (a0_0, t1.1, t1.2, a0_3, t3.1, t3.2)
theorem laws_toCond.ok {a0_0 : Int} {a0_1 : Int} {a0_2 : Int} {a0_3 : Int} {a0_4 : Int} {a0_5 : Int} {r : Int × Int × Int × Int × Int × Int} (H : laws_toCond.f a0_0 a0_1 a0_2 a0_3 a0_4 a0_5 = some r) : ACalls Try.prog 110 [] [.agg [.lit (.int .i64 a0_0), .lit (.int .i64 a0_1), .lit (.int .i64 a0_2), .lit (.int .i64 a0_3), .lit (.int .i64 a0_4), .lit (.int .i64 a0_5)]] [] (.agg [.lit (.int .i64 r.1), .lit (.int .i64 r.2.1), .lit (.int .i64 r.2.2.1), .lit (.int .i64 r.2.2.2.1), .lit (.int .i64 r.2.2.2.2.1), .lit (.int .i64 r.2.2.2.2.2)]) := by
 refine acalls (fn := Try.f110) (nt := 19) Try.func110 rfl rfl (Nat.le_of_ble_eq_true rfl) fun E hE => ?_
 rw [laws_toCond.f] at H
 refine aw_grp1 ?_
 refine wk_start ?_
 refine kb g0 (bxA 0) ?_
 refine kb g0 (alc 1 [.int .i64 0, .int .i64 0, .int .i64 0, .int .i64 0, .int .i64 0, .int .i64 0] [.lit (.int .i64 0), .lit (.int .i64 0), .lit (.int .i64 0), .lit (.int .i64 0), .lit (.int .i64 0), .lit (.int .i64 0)]) ?_
 refine wk_end ?_
 refine ac_next ?_
 refine aw_grp1 ?_
 refine wk_start ?_
 refine kb g0 (alc 2 [.int .i64 0, .int .i64 0, .int .i64 0, .int .i64 0, .int .i64 0, .int .i64 0] [.lit (.int .i64 0), .lit (.int .i64 0), .lit (.int .i64 0), .lit (.int .i64 0), .lit (.int .i64 0), .lit (.int .i64 0)]) ?_
 refine wk_end ?_
 refine ac_next ?_
 refine aw_grp1 ?_
 refine wk_start ?_
 refine kv g0 (faB 0 0) ?_
 refine kv g0 (ldB) ?_
 refine kv g0 (faB 0 0) ?_
 refine ks g0 (stB 1 [.lit (.int .i64 a0_0), .lit (.int .i64 0), .lit (.int .i64 0), .lit (.int .i64 0), .lit (.int .i64 0), .lit (.int .i64 0)]) ?_
 refine wk_end ?_
 refine ac_next ?_
 refine aw_grp1 ?_
 refine wk_start ?_
 refine kv g0 (faB 1 1) ?_
 refine kv g0 (ldBA 2 [.lit (.int .i64 a0_1), .lit (.int .i64 a0_2)]) ?_
 obtain ⟨t1, A2, H⟩ := of_bind H
 refine kcS0 9 (.agg [.lit (.int .i64 t1.1), .lit (.int .i64 t1.2)]) [] g0 (cal (laws_toWide.ok A2) [] 9999 .n (hf := Try.func114)) rfl rfl ?_
 refine kv g0 (faB 1 1) ?_
 refine ks g0 (stB 2 [.lit (.int .i64 a0_0), .lit (.int .i64 t1.1), .lit (.int .i64 t1.2), .lit (.int .i64 0), .lit (.int .i64 0), .lit (.int .i64 0)]) ?_
 refine wk_end ?_
 refine ac_next ?_
 refine aw_grp1 ?_
 refine wk_start ?_
 refine kv g0 (faB 3 3) ?_
 refine kv g0 (ldB) ?_
 refine kv g0 (faB 3 3) ?_
 refine ks g0 (stB 1 [.lit (.int .i64 a0_0), .lit (.int .i64 t1.1), .lit (.int .i64 t1.2), .lit (.int .i64 a0_3), .lit (.int .i64 0), .lit (.int .i64 0)]) ?_
 refine wk_end ?_
 refine ac_next ?_
 refine aw_grp1 ?_
 refine wk_start ?_
 refine kv g0 (faB 4 4) ?_
 refine kv g0 (ldBA 2 [.lit (.int .i64 a0_4), .lit (.int .i64 a0_5)]) ?_
 obtain ⟨t3, A4, H⟩ := of_bind H
 refine kcS0 16 (.agg [.lit (.int .i64 t3.1), .lit (.int .i64 t3.2)]) [] g0 (cal (laws_toWide.ok A4) [] 9999 .n (hf := Try.func114)) rfl rfl ?_
 refine kv g0 (faB 4 4) ?_
 refine ks g0 (stB 2 [.lit (.int .i64 a0_0), .lit (.int .i64 t1.1), .lit (.int .i64 t1.2), .lit (.int .i64 a0_3), .lit (.int .i64 t3.1), .lit (.int .i64 t3.2)]) ?_
 refine wk_end ?_
 refine ac_next ?_
 refine aw_grp1 ?_
 refine wk_start ?_
 refine kv g0 (ldBA 6 [.lit (.int .i64 a0_0), .lit (.int .i64 t1.1), .lit (.int .i64 t1.2), .lit (.int .i64 a0_3), .lit (.int .i64 t3.1), .lit (.int .i64 t3.2)]) ?_
 refine ks g0 (stB 6 [.lit (.int .i64 a0_0), .lit (.int .i64 t1.1), .lit (.int .i64 t1.2), .lit (.int .i64 a0_3), .lit (.int .i64 t3.1), .lit (.int .i64 t3.2)]) ?_
 refine wk_end ?_
 refine ac_next ?_
 refine aw_ret ?_
 obtain rfl := Option.some.inj H
 exact acr hE [.cell 2 92] (rcA 6 .nil) (.one _) [] 9999
/-! laws_toCondS -/
def laws_toCondS.l0 : Nat → (List S117) → (List S92) → Int → Option ((List S92))
 | 0, _, _, _ => none
 | k10 + 1, l0, q8, p9 => if p9 < (l0.length : Int) then if 0 ≤ p9 then ((laws_toCond.f ((rd_T117 l0 p9).f0) ((rd_T117 l0 p9).f1.f0) ((rd_T117 l0 p9).f1.f1) ((rd_T117 l0 p9).f2) ((rd_T117 l0 p9).f3.f0) ((rd_T117 l0 p9).f3.f1)).bind fun t13 => (if p9 < (q8.length : Int) then laws_toCondS.l0 k10 l0 (q8.set p9.toNat (⟨t13.1, (⟨t13.2.1, t13.2.2.1⟩ : S90), t13.2.2.2.1, (⟨t13.2.2.2.2.1, t13.2.2.2.2.2⟩ : S90)⟩ : S92)) (wrap64 (p9 + 1)) else none)) else none else some q8
def laws_toCondS.f (k : Nat) (l0 : List S117) : Option ((List S92)) := if 0 ≤ (l0.length : Int) then (if (l0.length : Int).toNat ≤ 5864062014805 then laws_toCondS.l0 k l0 (List.replicate (l0.length : Int).toNat z92) 0 else none) else none
theorem laws_toCondS.ok {k : Nat} {l0 : List S117} {r : (List S92)} (H : laws_toCondS.f k l0 = some r) : ACalls Try.prog 102 [] [.sl .o 6 (l0.map e117)] [(0, .row 92 6 (r.map e92))] (.row 0) := by
 refine acalls (fn := Try.f102) (nt := 23) Try.func102 rfl rfl (Nat.le_of_ble_eq_true rfl) fun E hE => ?_
 rw [laws_toCondS.f] at H
 refine aw_grp1 ?_
 refine wk_start ?_
 refine kv g0 (asg) ?_
 refine wk_end ?_
 refine ac_next ?_
 refine aw_grp1 ?_
 refine wk_start ?_
 refine kv g0 (mv) ?_
 refine kv g0 (lnS lenE) ?_
 obtain ⟨c1, H⟩ := of_if H
 obtain ⟨c2, H⟩ := of_if H
 refine kb g0 (mks 0 92 6 48 [.int .i64 0, .int .i64 0, .int .i64 0, .int .i64 0, .int .i64 0, .int .i64 0] (e92 z92) ((List.replicate (l0.length : Int).toNat z92).map e92) c1 (mkb c2 rfl) repE) ?_
 refine kv g0 (asg) ?_
 refine wk_end ?_
 refine ac_next ?_
 refine aw_grp1 ?_
 refine aw_grp1 ?_
 refine wk_start ?_
 refine kv g0 (asg) ?_
 refine wk_end ?_
 refine ac_next ?_
 refine aw_block ?_
 refine aw_loop2 (fun (k_ : Nat) (q8 : List S92) (p9 : Int) => k_ ≤ k ∧ laws_toCondS.l0 k_ l0 q8 p9 = some r) (fun (q8 : List S92) (p9 : Int) => ⟨[(0, .sl .o 6 (l0.map e117)), (3, .row 0), (4, .lit (.int .i64 p9))], [(0, .row 92 6 (q8.map e92))]⟩) k (List.replicate (l0.length : Int).toNat z92) 0 ⟨Nat.le_refl _, H⟩ (fun K_ h_ => acw hE [(0, 0)] 9999 h_) (fun _ _ => by intro h_; have h_ := h_.2; rw [laws_toCondS.l0.eq_1] at h_; cases h_) ?_
 intro k10 q8 p9 hq_ K16 hK17
 have hk10 := hq_.1
 have H := hq_.2
 clear hq_
 rw [laws_toCondS.l0.eq_2] at H
 refine aw_grp1 ?_
 refine aw_grp1 ?_
 refine wk_start ?_
 refine kv g0 (mv) ?_
 refine kv g0 (mv) ?_
 refine kv g0 (lnS lenE) ?_
 refine kv g0 (lss) ?_
 refine wk_end ?_
 refine ac_next ?_
 by_cases c11 : p9 < (l0.length : Int)
 ·rw [if_pos c11] at H
  refine aw_ifT ?_ (decide_eq_true c11)
  refine aw_skip ?_
  refine ac_next ?_
  refine aw_grp1 ?_
  refine aw_block ?_
  refine wk_start ?_
  refine kv g0 (mv) ?_
  refine kv g0 (mv) ?_
  refine kv g0 (mv) ?_
  refine kv g0 (mv) ?_
  obtain ⟨c12, H⟩ := of_if H
  refine kv g0 (ixS 117 (e117 (rd_T117 l0 p9)) c12 (getE (z := z117) c12 c11)) ?_
  refine kv g0 (ldRA 6 [.lit (.int .i64 ((rd_T117 l0 p9).f0)), .lit (.int .i64 ((rd_T117 l0 p9).f1.f0)), .lit (.int .i64 ((rd_T117 l0 p9).f1.f1)), .lit (.int .i64 ((rd_T117 l0 p9).f2)), .lit (.int .i64 ((rd_T117 l0 p9).f3.f0)), .lit (.int .i64 ((rd_T117 l0 p9).f3.f1))]) ?_
  obtain ⟨t13, A14, H⟩ := of_bind H
  refine kcS0 20 (.agg [.lit (.int .i64 t13.1), .lit (.int .i64 t13.2.1), .lit (.int .i64 t13.2.2.1), .lit (.int .i64 t13.2.2.2.1), .lit (.int .i64 t13.2.2.2.2.1), .lit (.int .i64 t13.2.2.2.2.2)]) [] g0 (cal (laws_toCond.ok A14) [] 9999 .n (hf := Try.func110)) rfl rfl ?_
  obtain ⟨c15, H⟩ := of_if H
  refine kv g0 (ixR 92 c12 (ltE c15)) ?_
  refine ks g0 (stE 6 (e92 (⟨t13.1, (⟨t13.2.1, t13.2.2.1⟩ : S90), t13.2.2.2.1, (⟨t13.2.2.2.2.1, t13.2.2.2.2.2⟩ : S90)⟩ : S92)) ((q8.set p9.toNat (⟨t13.1, (⟨t13.2.1, t13.2.2.1⟩ : S90), t13.2.2.2.1, (⟨t13.2.2.2.2.1, t13.2.2.2.2.2⟩ : S90)⟩ : S92)).map e92) (getE (z := z92) c12 c15) setE) ?_
  refine wk_end ?_
  refine ac_blkN ?_
  refine ac_next ?_
  refine wk_start ?_
  refine kv g0 (mv) ?_
  refine kv g0 (add6) ?_
  refine kv g0 (asg) ?_
  refine wk_end ?_
  refine ac_k ?_
  exact acw hE [(0, 0)] 9999 (hK17 k10 (q8.set p9.toNat (⟨t13.1, (⟨t13.2.1, t13.2.2.1⟩ : S90), t13.2.2.2.1, (⟨t13.2.2.2.2.1, t13.2.2.2.2.2⟩ : S90)⟩ : S92)) (wrap64 (p9 + 1)) (Nat.le_refl _) ⟨by omega, H⟩)
 rw [if_neg c11] at H
 refine aw_ifF ?_ (decide_eq_false c11)
 refine aw_exit ?_
 refine ac_then ?_
 refine ac_then ?_
 refine ac_hit rfl ?_
 refine ac_next ?_
 refine aw_grp1 ?_
 refine wk_start ?_
 refine kv g0 (mv) ?_
 refine kv g0 (asg) ?_
 refine wk_end ?_
 refine ac_next ?_
 refine aw_ret ?_
 obtain rfl := Option.some.inj H
 exact acr hE [.tmp 2] (.tmp .nil) (.one _) [(0, 0)] 9999
/-! laws_toRule -/
def laws_toRule.f (k : Nat) (l0_0 : List Int) (l0_1 : List S117) (a0_2 : Int) (a0_3 : Int) : Option ((List Int) × (List S92) × Int × Int) := (laws_toIntS.f k l0_0).bind fun t1 => (laws_toCondS.f k l0_1).bind fun t3 => some (t1, t3, a0_2, a0_3)
theorem laws_toRule.ok {k : Nat} {l0_0 : List Int} {l0_1 : List S117} {a0_2 : Int} {a0_3 : Int} {r : (List Int) × (List S92) × Int × Int} (H : laws_toRule.f k l0_0 l0_1 a0_2 a0_3 = some r) : ACalls Try.prog 79 [] [.agg [.sl .o 1 (l0_0.map (eI .i64)), .sl .o 6 (l0_1.map e117), .lit (.int .i64 a0_2), .lit (.int .i64 a0_3)]] [(0, .row 3 1 (r.1.map (eI .i64))), (1, .row 92 6 (r.2.1.map e92))] (.agg [.row 0, .row 1, .lit (.int .i64 r.2.2.1), .lit (.int .i64 r.2.2.2)]) := by
 refine acalls (fn := Try.f79) (nt := 19) Try.func79 rfl rfl (Nat.le_of_ble_eq_true rfl) fun E hE => ?_
 rw [laws_toRule.f] at H
 refine aw_grp1 ?_
 refine wk_start ?_
 refine kb g0 (bxA 0) ?_
 refine kb g0 (alc 1 [.slice none 0 0, .slice none 0 0, .int .i64 0, .int .i64 0] [.lit (.slice none 0 0), .lit (.slice none 0 0), .lit (.int .i64 0), .lit (.int .i64 0)]) ?_
 refine wk_end ?_
 refine ac_next ?_
 refine aw_grp1 ?_
 refine wk_start ?_
 refine kb g0 (alc 2 [.slice none 0 0, .slice none 0 0, .int .i64 0, .int .i64 0] [.lit (.slice none 0 0), .lit (.slice none 0 0), .lit (.int .i64 0), .lit (.int .i64 0)]) ?_
 refine wk_end ?_
 refine ac_next ?_
 refine aw_grp1 ?_
 refine wk_start ?_
 refine kv g0 (faB 0 0) ?_
 refine kv g0 (ldB) ?_
 obtain ⟨t1, A2, H⟩ := of_bind H
 refine kcS1 6 (.row 3) [(3, .row 3 1 (t1.map (eI .i64)))] g0 (cal (laws_toIntS.ok A2) [3] 9999 .n (hf := Try.func101)) rfl rfl ?_
 refine kv g0 (faB 0 0) ?_
 refine ks g0 (stB 1 [.row 3, .lit (.slice none 0 0), .lit (.int .i64 0), .lit (.int .i64 0)]) ?_
 refine wk_end ?_
 refine ac_next ?_
 refine aw_grp1 ?_
 refine wk_start ?_
 refine kv g0 (faB 1 1) ?_
 refine kv g0 (ldB) ?_
 obtain ⟨t3, A4, H⟩ := of_bind H
 refine kcS1 10 (.row 4) [(4, .row 92 6 (t3.map e92))] g0 (cal (laws_toCondS.ok A4) [4] 9999 .n (hf := Try.func102)) rfl rfl ?_
 refine kv g0 (faB 1 1) ?_
 refine ks g0 (stB 1 [.row 3, .row 4, .lit (.int .i64 0), .lit (.int .i64 0)]) ?_
 refine wk_end ?_
 refine ac_next ?_
 refine aw_grp1 ?_
 refine wk_start ?_
 refine kv g0 (faB 2 2) ?_
 refine kv g0 (ldB) ?_
 refine kv g0 (faB 2 2) ?_
 refine ks g0 (stB 1 [.row 3, .row 4, .lit (.int .i64 a0_2), .lit (.int .i64 0)]) ?_
 refine wk_end ?_
 refine ac_next ?_
 refine aw_grp1 ?_
 refine wk_start ?_
 refine kv g0 (faB 3 3) ?_
 refine kv g0 (ldB) ?_
 refine kv g0 (faB 3 3) ?_
 refine ks g0 (stB 1 [.row 3, .row 4, .lit (.int .i64 a0_2), .lit (.int .i64 a0_3)]) ?_
 refine wk_end ?_
 refine ac_next ?_
 refine aw_grp1 ?_
 refine wk_start ?_
 refine kv g0 (ldBA 4 [.row 3, .row 4, .lit (.int .i64 a0_2), .lit (.int .i64 a0_3)]) ?_
 refine ks g0 (stB 4 [.row 3, .row 4, .lit (.int .i64 a0_2), .lit (.int .i64 a0_3)]) ?_
 refine wk_end ?_
 refine ac_next ?_
 refine aw_ret ?_
 obtain rfl := Option.some.inj H
 exact acr hE [.cell 2 60] (rcA 4 .nil) (.one _) [(0, 3), (1, 4)] 9999
/-! laws_toRuleS -/
def laws_toRuleS.l0 : Nat → (List S86) → (List S60) → Int → Option ((List S60))
 | 0, _, _, _ => none
 | k10 + 1, l0, q8, p9 => if p9 < (l0.length : Int) then if 0 ≤ p9 then ((laws_toRule.f k10 ((rd_T86 l0 p9).f0) ((rd_T86 l0 p9).f1) ((rd_T86 l0 p9).f2) ((rd_T86 l0 p9).f3)).bind fun t13 => (if p9 < (q8.length : Int) then laws_toRuleS.l0 k10 l0 (q8.set p9.toNat (⟨t13.1, t13.2.1, t13.2.2.1, t13.2.2.2⟩ : S60)) (wrap64 (p9 + 1)) else none)) else none else some q8
def laws_toRuleS.f (k : Nat) (l0 : List S86) : Option ((List S60)) := if 0 ≤ (l0.length : Int) then (if (l0.length : Int).toNat ≤ 4398046511104 then laws_toRuleS.l0 k l0 (List.replicate (l0.length : Int).toNat z60) 0 else none) else none
theorem laws_toRuleS.ok {k : Nat} {l0 : List S86} {r : (List S60)} (H : laws_toRuleS.f k l0 = some r) : ACalls Try.prog 38 [] [.sl .o 4 (l0.map e86)] [(0, .drow false ds60 60 4 (r.map e60))] (.row 0) := by
 refine acalls (fn := Try.f38) (nt := 23) Try.func38 rfl rfl (Nat.le_of_ble_eq_true rfl) fun E hE => ?_
 rw [laws_toRuleS.f] at H
 refine aw_grp1 ?_
 refine wk_start ?_
 refine kv g0 (asg) ?_
 refine wk_end ?_
 refine ac_next ?_
 refine aw_grp1 ?_
 refine wk_start ?_
 refine kv g0 (mv) ?_
 refine kv g0 (lnS lenE) ?_
 obtain ⟨c1, H⟩ := of_if H
 obtain ⟨c2, H⟩ := of_if H
 refine kb g0 (mksD 0 60 4 64 ds60 [.slice none 0 0, .slice none 0 0, .int .i64 0, .int .i64 0] (e60 z60) ((List.replicate (l0.length : Int).toNat z60).map e60) c1 (mkb c2 rfl) repE) ?_
 refine kv g0 (asg) ?_
 refine wk_end ?_
 refine ac_next ?_
 refine aw_grp1 ?_
 refine aw_grp1 ?_
 refine wk_start ?_
 refine kv g0 (asg) ?_
 refine wk_end ?_
 refine ac_next ?_
 refine aw_block ?_
 refine ac_g1 (sealD 0 (rfl) cl60) ?_
 refine aw_loop2 (fun (k_ : Nat) (q8 : List S60) (p9 : Int) => k_ ≤ k ∧ laws_toRuleS.l0 k_ l0 q8 p9 = some r) (fun (q8 : List S60) (p9 : Int) => ⟨[(0, .sl .o 4 (l0.map e86)), (3, .row 0), (4, .lit (.int .i64 p9))], [(0, .drow false ds60 60 4 (q8.map e60))]⟩) k (List.replicate (l0.length : Int).toNat z60) 0 ⟨Nat.le_refl _, H⟩ (fun K_ h_ => acw hE [(0, 0)] 9999 h_) (fun _ _ => by intro h_; have h_ := h_.2; rw [laws_toRuleS.l0.eq_1] at h_; cases h_) ?_
 intro k10 q8 p9 hq_ K16 hK17
 have hk10 := hq_.1
 have H := hq_.2
 clear hq_
 rw [laws_toRuleS.l0.eq_2] at H
 refine aw_grp1 ?_
 refine aw_grp1 ?_
 refine wk_start ?_
 refine kv g0 (mv) ?_
 refine kv g0 (mv) ?_
 refine kv g0 (lnS lenE) ?_
 refine kv g0 (lss) ?_
 refine wk_end ?_
 refine ac_next ?_
 by_cases c11 : p9 < (l0.length : Int)
 ·rw [if_pos c11] at H
  refine aw_ifT ?_ (decide_eq_true c11)
  refine aw_skip ?_
  refine ac_next ?_
  refine aw_grp1 ?_
  refine aw_block ?_
  refine wk_start ?_
  refine kv g0 (mv) ?_
  refine kv g0 (mv) ?_
  refine kv g0 (mv) ?_
  refine kv g0 (mv) ?_
  obtain ⟨c12, H⟩ := of_if H
  refine kv g0 (ixS 86 (e86 (rd_T86 l0 p9)) c12 (getE (z := z86) c12 c11)) ?_
  refine kv g0 (ldRA 4 [.sl .o 1 (((rd_T86 l0 p9).f0).map (eI .i64)), .sl .o 6 (((rd_T86 l0 p9).f1).map e117), .lit (.int .i64 ((rd_T86 l0 p9).f2)), .lit (.int .i64 ((rd_T86 l0 p9).f3))]) ?_
  obtain ⟨t13, A14, H⟩ := of_bind H
  refine kcS2 20 (.agg [.row 1, .row 2, .lit (.int .i64 t13.2.2.1), .lit (.int .i64 t13.2.2.2)]) [(1, .row 3 1 (t13.1.map (eI .i64))), (2, .row 92 6 (t13.2.1.map e92))] g0 (cal (laws_toRule.ok A14) [1, 2] 9999 .n (hf := Try.func79)) rfl rfl ?_
  obtain ⟨c15, H⟩ := of_if H
  refine kv g0 (ixD 60 c12 (ltE c15)) ?_
  refine ks g0 (stD 4 ds60 0 4 [.row 1, .row 2, .lit (.int .i64 t13.2.2.1), .lit (.int .i64 t13.2.2.2)] (.agg [.row 1, .row 2, .lit (.int .i64 t13.2.2.1), .lit (.int .i64 t13.2.2.2)]) (getE (f := e60) (z := z60) c12 c15) (rfl)) ?_
  refine wk_end ?_
  refine ac_blkN ?_
  refine ac_next ?_
  refine wk_start ?_
  refine kv g0 (mv) ?_
  refine kv g0 (add6) ?_
  refine kv g0 (asg) ?_
  refine wk_end ?_
  refine ac_g2 (pk 0 1 0 (.agg [.sl .n 1 (t13.1.map (eI .i64)), .row 2, .lit (.int .i64 t13.2.2.1), .lit (.int .i64 t13.2.2.2)]) (setXG (f := e60) (X := .agg [.row 1, .row 2, .lit (.int .i64 t13.2.2.1), .lit (.int .i64 t13.2.2.2)]) c12 c15) (setXX) rfl) ?_
  refine ac_g2 (pk 0 2 1 (.agg [.sl .n 1 (t13.1.map (eI .i64)), .sl .n 6 (t13.2.1.map e92), .lit (.int .i64 t13.2.2.1), .lit (.int .i64 t13.2.2.2)]) (setXG (f := e60) (X := .agg [.sl .n 1 (t13.1.map (eI .i64)), .row 2, .lit (.int .i64 t13.2.2.1), .lit (.int .i64 t13.2.2.2)]) c12 c15) (setXX) rfl) ?_
  refine ac_g1 (sealD 0 (setSeal (f := e60) p9.toNat (⟨t13.1, t13.2.1, t13.2.2.1, t13.2.2.2⟩ : S60)) cl60) ?_
  refine ac_k ?_
  exact acw hE [(0, 0)] 9999 (hK17 k10 (q8.set p9.toNat (⟨t13.1, t13.2.1, t13.2.2.1, t13.2.2.2⟩ : S60)) (wrap64 (p9 + 1)) (Nat.le_refl _) ⟨by omega, H⟩)
 rw [if_neg c11] at H
 refine aw_ifF ?_ (decide_eq_false c11)
 refine aw_exit ?_
 refine ac_then ?_
 refine ac_then ?_
 refine ac_hit rfl ?_
 refine ac_next ?_
 refine aw_grp1 ?_
 refine wk_start ?_
 refine kv g0 (mv) ?_
 refine kv g0 (asg) ?_
 refine wk_end ?_
 refine ac_next ?_
 refine aw_ret ?_
 obtain rfl := Option.some.inj H
 exact acr hE [.tmp 2] (.tmp .nil) (.one _) [(0, 0)] 9999
/-! laws_toPolicy -/
def laws_toPolicy.f (k : Nat) (a0_0 : Int) (a0_1 : Int) (a0_2 : Int) (l0_3 : List S86) : Option (Int × Int × Int × (List S60)) := (laws_toRuleS.f k l0_3).bind fun t1 => some (a0_0, a0_1, a0_2, t1)
theorem laws_toPolicy.ok {k : Nat} {a0_0 : Int} {a0_1 : Int} {a0_2 : Int} {l0_3 : List S86} {r : Int × Int × Int × (List S60)} (H : laws_toPolicy.f k a0_0 a0_1 a0_2 l0_3 = some r) : ACalls Try.prog 10 [] [.agg [.lit (.int .i64 a0_0), .lit (.int .i64 a0_1), .lit (.int .i64 a0_2), .sl .o 4 (l0_3.map e86)]] [(0, .drow false ds60 60 4 (r.2.2.2.map e60))] (.agg [.lit (.int .i64 r.1), .lit (.int .i64 r.2.1), .lit (.int .i64 r.2.2.1), .row 0]) := by
 refine acalls (fn := Try.f10) (nt := 18) Try.func10 rfl rfl (Nat.le_of_ble_eq_true rfl) fun E hE => ?_
 rw [laws_toPolicy.f] at H
 refine aw_grp1 ?_
 refine wk_start ?_
 refine kb g0 (bxA 0) ?_
 refine kb g0 (alc 1 [.int .i64 0, .int .i64 0, .int .i64 0, .slice none 0 0] [.lit (.int .i64 0), .lit (.int .i64 0), .lit (.int .i64 0), .lit (.slice none 0 0)]) ?_
 refine wk_end ?_
 refine ac_next ?_
 refine aw_grp1 ?_
 refine wk_start ?_
 refine kb g0 (alc 2 [.int .i64 0, .int .i64 0, .int .i64 0, .slice none 0 0] [.lit (.int .i64 0), .lit (.int .i64 0), .lit (.int .i64 0), .lit (.slice none 0 0)]) ?_
 refine wk_end ?_
 refine ac_next ?_
 refine aw_grp1 ?_
 refine wk_start ?_
 refine kv g0 (faB 0 0) ?_
 refine kv g0 (ldB) ?_
 refine kv g0 (faB 0 0) ?_
 refine ks g0 (stB 1 [.lit (.int .i64 a0_0), .lit (.int .i64 0), .lit (.int .i64 0), .lit (.slice none 0 0)]) ?_
 refine wk_end ?_
 refine ac_next ?_
 refine aw_grp1 ?_
 refine wk_start ?_
 refine kv g0 (faB 1 1) ?_
 refine kv g0 (ldB) ?_
 refine kv g0 (faB 1 1) ?_
 refine ks g0 (stB 1 [.lit (.int .i64 a0_0), .lit (.int .i64 a0_1), .lit (.int .i64 0), .lit (.slice none 0 0)]) ?_
 refine wk_end ?_
 refine ac_next ?_
 refine aw_grp1 ?_
 refine wk_start ?_
 refine kv g0 (faB 2 2) ?_
 refine kv g0 (ldB) ?_
 refine kv g0 (faB 2 2) ?_
 refine ks g0 (stB 1 [.lit (.int .i64 a0_0), .lit (.int .i64 a0_1), .lit (.int .i64 a0_2), .lit (.slice none 0 0)]) ?_
 refine wk_end ?_
 refine ac_next ?_
 refine aw_grp1 ?_
 refine wk_start ?_
 refine kv g0 (faB 3 3) ?_
 refine kv g0 (ldB) ?_
 obtain ⟨t1, A2, H⟩ := of_bind H
 refine kcS1 15 (.row 3) [(3, .drow false ds60 60 4 (t1.map e60))] g0 (cal (laws_toRuleS.ok A2) [3] 9999 .n (hf := Try.func38)) rfl rfl ?_
 refine kv g0 (faB 3 3) ?_
 refine ks g0 (stB 1 [.lit (.int .i64 a0_0), .lit (.int .i64 a0_1), .lit (.int .i64 a0_2), .row 3]) ?_
 refine wk_end ?_
 refine ac_next ?_
 refine aw_grp1 ?_
 refine wk_start ?_
 refine kv g0 (ldBA 4 [.lit (.int .i64 a0_0), .lit (.int .i64 a0_1), .lit (.int .i64 a0_2), .row 3]) ?_
 refine ks g0 (stB 4 [.lit (.int .i64 a0_0), .lit (.int .i64 a0_1), .lit (.int .i64 a0_2), .row 3]) ?_
 refine wk_end ?_
 refine ac_next ?_
 refine aw_ret ?_
 obtain rfl := Option.some.inj H
 exact acr hE [.cell 2 30] (rcA 4 .nil) (.one _) [(0, 3)] 9999
/-! spec_l09Copy -/
def spec_l09Copy.l0 : Nat → Int → Int → Int → (List S60) → (List S60) → Int → Option (Int × Int × Int × (List S60))
 | 0, _, _, _, _, _, _ => none
 | k8 + 1, a0_0, a0_1, a0_2, l0_3, q6, p7 => if p7 < (l0_3.length : Int) then if 0 ≤ p7 then if ([] : List Int).length + ((rd_T60 l0_3 p7).f0).length < 17592186044416 then if ([] : List S92).length + ((rd_T60 l0_3 p7).f1).length < 2932031007402 then if q6.length + ([(⟨([] : List Int) ++ ((rd_T60 l0_3 p7).f0), ([] : List S92) ++ ((rd_T60 l0_3 p7).f1), (rd_T60 l0_3 p7).f2, (rd_T60 l0_3 p7).f3⟩ : S60)] : List S60).length < 2199023255552 then spec_l09Copy.l0 k8 a0_0 a0_1 a0_2 l0_3 (q6 ++ ([(⟨([] : List Int) ++ ((rd_T60 l0_3 p7).f0), ([] : List S92) ++ ((rd_T60 l0_3 p7).f1), (rd_T60 l0_3 p7).f2, (rd_T60 l0_3 p7).f3⟩ : S60)] : List S60)) (wrap64 (p7 + 1)) else none else none else none else none else some (a0_0, a0_1, a0_2, q6)
def spec_l09Copy.f (k : Nat) (a0_0 : Int) (a0_1 : Int) (a0_2 : Int) (l0_3 : List S60) : Option (Int × Int × Int × (List S60)) := spec_l09Copy.l0 k a0_0 a0_1 a0_2 l0_3 ([] : List S60) 0
theorem spec_l09Copy.ok {k : Nat} {a0_0 : Int} {a0_1 : Int} {a0_2 : Int} {l0_3 : List S60} {r : Int × Int × Int × (List S60)} (H : spec_l09Copy.f k a0_0 a0_1 a0_2 l0_3 = some r) : ACalls Try.prog 45 [] [.agg [.lit (.int .i64 a0_0), .lit (.int .i64 a0_1), .lit (.int .i64 a0_2), .sl .o 4 (l0_3.map e60)]] [(0, .row 60 4 (r.2.2.2.map e60))] (.agg [.lit (.int .i64 r.1), .lit (.int .i64 r.2.1), .lit (.int .i64 r.2.2.1), .row 0]) := by
 refine acalls (fn := Try.f45) (nt := 38) Try.func45 rfl rfl (Nat.le_of_ble_eq_true rfl) fun E hE => ?_
 rw [spec_l09Copy.f] at H
 refine aw_grp1 ?_
 refine wk_start ?_
 refine kb g0 (bxA 0) ?_
 refine kb g0 (alc 1 [.int .i64 0, .int .i64 0, .int .i64 0, .slice none 0 0] [.lit (.int .i64 0), .lit (.int .i64 0), .lit (.int .i64 0), .lit (.slice none 0 0)]) ?_
 refine wk_end ?_
 refine ac_next ?_
 refine aw_grp1 ?_
 refine wk_start ?_
 refine kv g0 (ldBA 4 [.lit (.int .i64 a0_0), .lit (.int .i64 a0_1), .lit (.int .i64 a0_2), .sl .o 4 (l0_3.map e60)]) ?_
 refine kb g0 (alc 2 [.int .i64 0, .int .i64 0, .int .i64 0, .slice none 0 0] [.lit (.int .i64 0), .lit (.int .i64 0), .lit (.int .i64 0), .lit (.slice none 0 0)]) ?_
 refine ks g0 (stB 4 [.lit (.int .i64 a0_0), .lit (.int .i64 a0_1), .lit (.int .i64 a0_2), .sl .o 4 (l0_3.map e60)]) ?_
 refine wk_end ?_
 refine ac_next ?_
 refine aw_grp1 ?_
 refine wk_start ?_
 refine kb g0 (bsl 3 60 4 [.slice none 0 0, .slice none 0 0, .int .i64 0, .int .i64 0] (([] : List S60).map e60)) ?_
 refine kv g0 (faB 3 3) ?_
 refine ks g0 (stB 1 [.lit (.int .i64 a0_0), .lit (.int .i64 a0_1), .lit (.int .i64 a0_2), .row 3]) ?_
 refine wk_end ?_
 refine ac_next ?_
 refine aw_grp1 ?_
 refine aw_grp1 ?_
 refine wk_start ?_
 refine kv g0 (asg) ?_
 refine wk_end ?_
 refine ac_next ?_
 refine aw_block ?_
 refine aw_loop2 (fun (k_ : Nat) (q6 : List S60) (p7 : Int) => k_ ≤ k ∧ spec_l09Copy.l0 k_ a0_0 a0_1 a0_2 l0_3 q6 p7 = some r) (fun (q6 : List S60) (p7 : Int) => ⟨[(1, .box 0 0), (2, .box 1 0), (3, .box 2 0), (4, .lit (.int .i64 p7))], [(0, .box 30 [.lit (.int .i64 a0_0), .lit (.int .i64 a0_1), .lit (.int .i64 a0_2), .sl .o 4 (l0_3.map e60)]), (1, .box 30 [.lit (.int .i64 0), .lit (.int .i64 0), .lit (.int .i64 0), .lit (.slice none 0 0)]), (2, .box 30 [.lit (.int .i64 a0_0), .lit (.int .i64 a0_1), .lit (.int .i64 a0_2), .row 3]), (3, .row 60 4 (q6.map e60))]⟩) k ([] : List S60) 0 ⟨Nat.le_refl _, H⟩ (fun K_ h_ => acw hE [(0, 0), (1, 1), (2, 2), (3, 3)] 9999 h_) (fun _ _ => by intro h_; have h_ := h_.2; rw [spec_l09Copy.l0.eq_1] at h_; cases h_) ?_
 intro k8 q6 p7 hq_ K14 hK15
 have hk8 := hq_.1
 have H := hq_.2
 clear hq_
 rw [spec_l09Copy.l0.eq_2] at H
 refine aw_grp1 ?_
 refine aw_grp1 ?_
 refine wk_start ?_
 refine kv g0 (mv) ?_
 refine kv g0 (faB 3 3) ?_
 refine kv g0 (ldB) ?_
 refine kv g0 (lnS lenE) ?_
 refine kv g0 (lss) ?_
 refine wk_end ?_
 refine ac_next ?_
 by_cases c9 : p7 < (l0_3.length : Int)
 ·rw [if_pos c9] at H
  refine aw_ifT ?_ (decide_eq_true c9)
  refine aw_skip ?_
  refine ac_next ?_
  refine aw_grp1 ?_
  refine aw_block ?_
  refine aw_grp1 ?_
  refine wk_start ?_
  refine kv g0 (faB 3 3) ?_
  refine kv g0 (ldB) ?_
  refine kv g0 (mv) ?_
  obtain ⟨c10, H⟩ := of_if H
  refine kv g0 (ixS 60 (e60 (rd_T60 l0_3 p7)) c10 (getE (z := z60) c10 c9)) ?_
  refine kv g0 (ldRA 4 [.sl .o 1 (((rd_T60 l0_3 p7).f0).map (eI .i64)), .sl .o 6 (((rd_T60 l0_3 p7).f1).map e92), .lit (.int .i64 ((rd_T60 l0_3 p7).f2)), .lit (.int .i64 ((rd_T60 l0_3 p7).f3))]) ?_
  refine kb g0 (alc 4 [.slice none 0 0, .slice none 0 0, .int .i64 0, .int .i64 0] [.lit (.slice none 0 0), .lit (.slice none 0 0), .lit (.int .i64 0), .lit (.int .i64 0)]) ?_
  refine ks g0 (stB 4 [.sl .o 1 (((rd_T60 l0_3 p7).f0).map (eI .i64)), .sl .o 6 (((rd_T60 l0_3 p7).f1).map e92), .lit (.int .i64 ((rd_T60 l0_3 p7).f2)), .lit (.int .i64 ((rd_T60 l0_3 p7).f3))]) ?_
  refine wk_end ?_
  refine ac_next ?_
  refine aw_grp1 ?_
  refine wk_start ?_
  refine kb g0 (bsl 5 3 1 [.int .i64 0] (([] : List Int).map (eI .i64))) ?_
  refine kv g0 (faB 0 0) ?_
  refine kv g0 (ldB) ?_
  obtain ⟨c11, H⟩ := of_if H
  refine kc g0 (apR 6 3 1 8 [.int .i64 0] ((([] : List Int) ++ ((rd_T60 l0_3 p7).f0)).map (eI .i64)) (.slF (flI)) (apb c11 rfl) appE) ?_
  refine kv g0 (faB 0 0) ?_
  refine ks g0 (stB 1 [.row 6, .sl .o 6 (((rd_T60 l0_3 p7).f1).map e92), .lit (.int .i64 ((rd_T60 l0_3 p7).f2)), .lit (.int .i64 ((rd_T60 l0_3 p7).f3))]) ?_
  refine wk_end ?_
  refine ac_next ?_
  refine aw_grp1 ?_
  refine wk_start ?_
  refine kb g0 (bsl 7 92 6 [.int .i64 0, .int .i64 0, .int .i64 0, .int .i64 0, .int .i64 0, .int .i64 0] (([] : List S92).map e92)) ?_
  refine kv g0 (faB 1 1) ?_
  refine kv g0 (ldB) ?_
  obtain ⟨c12, H⟩ := of_if H
  refine kc g0 (apR 8 92 6 48 [.int .i64 0, .int .i64 0, .int .i64 0, .int .i64 0, .int .i64 0, .int .i64 0] ((([] : List S92) ++ ((rd_T60 l0_3 p7).f1)).map e92) (.slF (fl92)) (apb c12 rfl) appE) ?_
  refine kv g0 (faB 1 1) ?_
  refine ks g0 (stB 1 [.row 6, .row 8, .lit (.int .i64 ((rd_T60 l0_3 p7).f2)), .lit (.int .i64 ((rd_T60 l0_3 p7).f3))]) ?_
  refine wk_end ?_
  refine ac_next ?_
  refine ac_frz 6 ?_
  refine ac_frz 8 ?_
  refine wk_start ?_
  refine kv g0 (faB 3 3) ?_
  refine kv g0 (ldB) ?_
  refine kv g0 (ldBA 4 [.sl .n 1 ((([] : List Int) ++ ((rd_T60 l0_3 p7).f0)).map (eI .i64)), .sl .n 6 ((([] : List S92) ++ ((rd_T60 l0_3 p7).f1)).map e92), .lit (.int .i64 ((rd_T60 l0_3 p7).f2)), .lit (.int .i64 ((rd_T60 l0_3 p7).f3))]) ?_
  refine kb g0 (bsl 11 60 4 [.slice none 0 0, .slice none 0 0, .int .i64 0, .int .i64 0] (([(⟨([] : List Int) ++ ((rd_T60 l0_3 p7).f0), ([] : List S92) ++ ((rd_T60 l0_3 p7).f1), (rd_T60 l0_3 p7).f2, (rd_T60 l0_3 p7).f3⟩ : S60)] : List S60).map e60)) ?_
  obtain ⟨c13, H⟩ := of_if H
  refine kc g0 (apR 12 60 4 64 [.slice none 0 0, .slice none 0 0, .int .i64 0, .int .i64 0] ((q6 ++ ([(⟨([] : List Int) ++ ((rd_T60 l0_3 p7).f0), ([] : List S92) ++ ((rd_T60 l0_3 p7).f1), (rd_T60 l0_3 p7).f2, (rd_T60 l0_3 p7).f3⟩ : S60)] : List S60)).map e60) (.row rfl) (apb c13 rfl) appE) ?_
  refine kv g0 (faB 3 3) ?_
  refine ks g0 (stB 1 [.lit (.int .i64 a0_0), .lit (.int .i64 a0_1), .lit (.int .i64 a0_2), .row 12]) ?_
  refine wk_end ?_
  refine ac_blkN ?_
  refine ac_next ?_
  refine wk_start ?_
  refine kv g0 (mv) ?_
  refine kv g0 (add6) ?_
  refine kv g0 (asg) ?_
  refine wk_end ?_
  refine ac_k ?_
  exact acw hE [(0, 0), (1, 1), (2, 2), (3, 12)] 9999 (hK15 k8 (q6 ++ ([(⟨([] : List Int) ++ ((rd_T60 l0_3 p7).f0), ([] : List S92) ++ ((rd_T60 l0_3 p7).f1), (rd_T60 l0_3 p7).f2, (rd_T60 l0_3 p7).f3⟩ : S60)] : List S60)) (wrap64 (p7 + 1)) (Nat.le_refl _) ⟨by omega, H⟩)
 rw [if_neg c9] at H
 refine aw_ifF ?_ (decide_eq_false c9)
 refine aw_exit ?_
 refine ac_then ?_
 refine ac_then ?_
 refine ac_hit rfl ?_
 refine ac_next ?_
 refine aw_grp1 ?_
 refine wk_start ?_
 refine kv g0 (ldBA 4 [.lit (.int .i64 a0_0), .lit (.int .i64 a0_1), .lit (.int .i64 a0_2), .row 3]) ?_
 refine ks g0 (stB 4 [.lit (.int .i64 a0_0), .lit (.int .i64 a0_1), .lit (.int .i64 a0_2), .row 3]) ?_
 refine wk_end ?_
 refine ac_next ?_
 refine aw_ret ?_
 obtain rfl := Option.some.inj H
 exact acr hE [.cell 2 30] (rcA 4 .nil) (.one _) [(0, 3)] 9999
/-! spec_l01In -/
def spec_l01In.f (a0 : Int) (a1 : Int) (a2 : Int) : Option (Bool) := if a0 ≥ a1 then some (decide (a0 ≤ a2)) else some false
theorem spec_l01In.ok {a0 : Int} {a1 : Int} {a2 : Int} {r : Bool} (H : spec_l01In.f a0 a1 a2 = some r) : ACalls Try.prog 96 [] [.lit (.int .i64 a0), .lit (.int .i64 a1), .lit (.int .i64 a2)] [] (.lit (.bool r)) := by
 refine acalls (fn := Try.f96) (nt := 15) Try.func96 rfl rfl (Nat.le_of_ble_eq_true rfl) fun E hE => ?_
 rw [spec_l01In.f] at H
 refine aw_grp1 ?_
 refine wk_start ?_
 refine kv g0 (asg) ?_
 refine wk_end ?_
 refine ac_next ?_
 refine aw_grp1 ?_
 refine wk_start ?_
 refine kv g0 (mv) ?_
 refine kv g0 (mv) ?_
 refine kv g0 (geq) ?_
 refine kv g0 (mv) ?_
 by_cases c1 : a0 ≥ a1
 ·rw [if_pos c1] at H
  refine kv (g1 (decide_eq_true c1)) (mv) ?_
  refine kv (g1 (decide_eq_true c1)) (mv) ?_
  refine kv (g1 (decide_eq_true c1)) (leq) ?_
  refine kv g0 (pkT (decide_eq_true c1)) ?_
  refine kv g0 (asg) ?_
  refine wk_end ?_
  refine ac_next ?_
  refine aw_ret ?_
  obtain rfl := Option.some.inj H
  exact acr hE [.tmp 6] (.tmp .nil) (.one _) [] 9999
 rw [if_neg c1] at H
 refine kx (hT (decide_eq_false c1)) ?_
 refine kx (hT (decide_eq_false c1)) ?_
 refine kx (hT (decide_eq_false c1)) ?_
 refine kv g0 (pkF (decide_eq_false c1)) ?_
 refine kv g0 (asg) ?_
 refine wk_end ?_
 refine ac_next ?_
 refine aw_ret ?_
 obtain rfl := Option.some.inj H
 exact acr hE [.tmp 6] (.tmp .nil) (.one _) [] 9999
/-! spec_HalfOk -/
def spec_HalfOk.f (a0 : Int) : Option (Bool) := (spec_l01In.f a0 0 4294967295).bind fun t1 => some t1
theorem spec_HalfOk.ok {a0 : Int} {r : Bool} (H : spec_HalfOk.f a0 = some r) : ACalls Try.prog 76 [] [.lit (.int .i64 a0)] [] (.lit (.bool r)) := by
 refine acalls (fn := Try.f76) (nt := 5) Try.func76 rfl rfl (Nat.le_of_ble_eq_true rfl) fun E hE => ?_
 rw [spec_HalfOk.f] at H
 refine aw_grp1 ?_
 refine wk_start ?_
 refine kv g0 (asg) ?_
 refine wk_end ?_
 refine ac_next ?_
 refine aw_grp1 ?_
 refine wk_start ?_
 refine kv g0 (mv) ?_
 obtain ⟨t1, A2, H⟩ := of_bind H
 refine kcS0 4 (.lit (.bool t1)) [] g0 (cal (spec_l01In.ok A2) [] 9999 .n (hf := Try.func96)) rfl rfl ?_
 refine kv g0 (asg) ?_
 refine wk_end ?_
 refine ac_next ?_
 refine aw_ret ?_
 obtain rfl := Option.some.inj H
 exact acr hE [.tmp 2] (.tmp .nil) (.one _) [] 9999
/-! spec_WideOk -/
def spec_WideOk.f (a0_0 : Int) (a0_1 : Int) : Option (Bool) := (spec_HalfOk.f a0_0).bind fun t1 => (if t1 = true then ((spec_HalfOk.f a0_1).bind fun t4 => some t4) else some false)
theorem spec_WideOk.ok {a0_0 : Int} {a0_1 : Int} {r : Bool} (H : spec_WideOk.f a0_0 a0_1 = some r) : ACalls Try.prog 109 [] [.agg [.lit (.int .i64 a0_0), .lit (.int .i64 a0_1)]] [] (.lit (.bool r)) := by
 refine acalls (fn := Try.f109) (nt := 11) Try.func109 rfl rfl (Nat.le_of_ble_eq_true rfl) fun E hE => ?_
 rw [spec_WideOk.f] at H
 refine aw_grp1 ?_
 refine wk_start ?_
 refine kb g0 (bxA 0) ?_
 refine kv g0 (asg) ?_
 refine wk_end ?_
 refine ac_next ?_
 refine aw_grp1 ?_
 refine wk_start ?_
 refine kv g0 (faB 0 0) ?_
 refine kv g0 (ldB) ?_
 obtain ⟨t1, A2, H⟩ := of_bind H
 refine kcS0 5 (.lit (.bool t1)) [] g0 (cal (spec_HalfOk.ok A2) [] 9999 .n (hf := Try.func76)) rfl rfl ?_
 refine kv g0 (mv) ?_
 by_cases c3 : t1 = true
 ·rw [if_pos c3] at H
  refine kv (g1 c3) (faB 1 1) ?_
  refine kv (g1 c3) (ldB) ?_
  obtain ⟨t4, A5, H⟩ := of_bind H
  refine kcS0 9 (.lit (.bool t4)) [] (g1 c3) (cal (spec_HalfOk.ok A5) [] 9999 .n (hf := Try.func76)) rfl rfl ?_
  refine kv g0 (pkT c3) ?_
  refine kv g0 (asg) ?_
  refine wk_end ?_
  refine ac_next ?_
  refine aw_ret ?_
  obtain rfl := Option.some.inj H
  exact acr hE [.tmp 2] (.tmp .nil) (.one _) [] 9999
 rw [if_neg c3] at H
 refine kx (hT (bF c3)) ?_
 refine kx (hT (bF c3)) ?_
 refine kx (hT (bF c3)) ?_
 refine kv g0 (pkF (bF c3)) ?_
 refine kv g0 (asg) ?_
 refine wk_end ?_
 refine ac_next ?_
 refine aw_ret ?_
 obtain rfl := Option.some.inj H
 exact acr hE [.tmp 2] (.tmp .nil) (.one _) [] 9999
/-! spec_CondOk -/
def spec_CondOk.f (a0_0 : Int) (a0_1 : Int) (a0_2 : Int) (a0_3 : Int) (a0_4 : Int) (a0_5 : Int) : Option (Bool) := (spec_l01In.f a0_0 0 2).bind fun t1 => (if t1 = true then ((spec_WideOk.f a0_1 a0_2).bind fun t4 => (if t4 = true then ((spec_WideOk.f a0_4 a0_5).bind fun t7 => (if t7 = true then ((spec_l01In.f a0_3 1 6).bind fun t10 => some t10) else some false)) else some false)) else some false)
theorem spec_CondOk.ok {a0_0 : Int} {a0_1 : Int} {a0_2 : Int} {a0_3 : Int} {a0_4 : Int} {a0_5 : Int} {r : Bool} (H : spec_CondOk.f a0_0 a0_1 a0_2 a0_3 a0_4 a0_5 = some r) : ACalls Try.prog 100 [] [.agg [.lit (.int .i64 a0_0), .lit (.int .i64 a0_1), .lit (.int .i64 a0_2), .lit (.int .i64 a0_3), .lit (.int .i64 a0_4), .lit (.int .i64 a0_5)]] [] (.lit (.bool r)) := by
 refine acalls (fn := Try.f100) (nt := 21) Try.func100 rfl rfl (Nat.le_of_ble_eq_true rfl) fun E hE => ?_
 rw [spec_CondOk.f] at H
 refine aw_grp1 ?_
 refine wk_start ?_
 refine kb g0 (bxA 0) ?_
 refine kv g0 (asg) ?_
 refine wk_end ?_
 refine ac_next ?_
 refine aw_grp1 ?_
 refine wk_start ?_
 refine kv g0 (faB 0 0) ?_
 refine kv g0 (ldB) ?_
 obtain ⟨t1, A2, H⟩ := of_bind H
 refine kcS0 5 (.lit (.bool t1)) [] g0 (cal (spec_l01In.ok A2) [] 9999 .n (hf := Try.func96)) rfl rfl ?_
 refine kv g0 (mv) ?_
 by_cases c3 : t1 = true
 ·rw [if_pos c3] at H
  refine kv (g1 c3) (faB 1 1) ?_
  refine kv (g1 c3) (ldBA 2 [.lit (.int .i64 a0_1), .lit (.int .i64 a0_2)]) ?_
  obtain ⟨t4, A5, H⟩ := of_bind H
  refine kcS0 9 (.lit (.bool t4)) [] (g1 c3) (cal (spec_WideOk.ok A5) [] 9999 .n (hf := Try.func109)) rfl rfl ?_
  refine kv g0 (pkT c3) ?_
  refine kv g0 (mv) ?_
  by_cases c6 : t4 = true
  ·rw [if_pos c6] at H
   refine kv (g1 c6) (faB 4 4) ?_
   refine kv (g1 c6) (ldBA 2 [.lit (.int .i64 a0_4), .lit (.int .i64 a0_5)]) ?_
   obtain ⟨t7, A8, H⟩ := of_bind H
   refine kcS0 14 (.lit (.bool t7)) [] (g1 c6) (cal (spec_WideOk.ok A8) [] 9999 .n (hf := Try.func109)) rfl rfl ?_
   refine kv g0 (pkT c6) ?_
   refine kv g0 (mv) ?_
   by_cases c9 : t7 = true
   ·rw [if_pos c9] at H
    refine kv (g1 c9) (faB 3 3) ?_
    refine kv (g1 c9) (ldB) ?_
    obtain ⟨t10, A11, H⟩ := of_bind H
    refine kcS0 19 (.lit (.bool t10)) [] (g1 c9) (cal (spec_l01In.ok A11) [] 9999 .n (hf := Try.func96)) rfl rfl ?_
    refine kv g0 (pkT c9) ?_
    refine kv g0 (asg) ?_
    refine wk_end ?_
    refine ac_next ?_
    refine aw_ret ?_
    obtain rfl := Option.some.inj H
    exact acr hE [.tmp 2] (.tmp .nil) (.one _) [] 9999
   rw [if_neg c9] at H
   refine kx (hT (bF c9)) ?_
   refine kx (hT (bF c9)) ?_
   refine kx (hT (bF c9)) ?_
   refine kv g0 (pkF (bF c9)) ?_
   refine kv g0 (asg) ?_
   refine wk_end ?_
   refine ac_next ?_
   refine aw_ret ?_
   obtain rfl := Option.some.inj H
   exact acr hE [.tmp 2] (.tmp .nil) (.one _) [] 9999
  rw [if_neg c6] at H
  refine kx (hT (bF c6)) ?_
  refine kx (hT (bF c6)) ?_
  refine kx (hT (bF c6)) ?_
  refine kv g0 (pkF (bF c6)) ?_
  refine kv g0 (mv) ?_
  refine kx (hT rfl) ?_
  refine kx (hT rfl) ?_
  refine kx (hT rfl) ?_
  refine kv g0 (pkF rfl) ?_
  refine kv g0 (asg) ?_
  refine wk_end ?_
  refine ac_next ?_
  refine aw_ret ?_
  obtain rfl := Option.some.inj H
  exact acr hE [.tmp 2] (.tmp .nil) (.one _) [] 9999
 rw [if_neg c3] at H
 refine kx (hT (bF c3)) ?_
 refine kx (hT (bF c3)) ?_
 refine kx (hT (bF c3)) ?_
 refine kv g0 (pkF (bF c3)) ?_
 refine kv g0 (mv) ?_
 refine kx (hT rfl) ?_
 refine kx (hT rfl) ?_
 refine kx (hT rfl) ?_
 refine kv g0 (pkF rfl) ?_
 refine kv g0 (mv) ?_
 refine kx (hT rfl) ?_
 refine kx (hT rfl) ?_
 refine kx (hT rfl) ?_
 refine kv g0 (pkF rfl) ?_
 refine kv g0 (asg) ?_
 refine wk_end ?_
 refine ac_next ?_
 refine aw_ret ?_
 obtain rfl := Option.some.inj H
 exact acr hE [.tmp 2] (.tmp .nil) (.one _) [] 9999
/-! spec_l09Act -/
def spec_l09Act.f (a0 : Int) (a1 : Int) : Option (Bool) := (spec_l01In.f a0 0 5).bind fun t1 => (if t1 = true then ((spec_l01In.f a1 0 65535).bind fun t4 => some t4) else some false)
theorem spec_l09Act.ok {a0 : Int} {a1 : Int} {r : Bool} (H : spec_l09Act.f a0 a1 = some r) : ACalls Try.prog 77 [] [.lit (.int .i64 a0), .lit (.int .i64 a1)] [] (.lit (.bool r)) := by
 refine acalls (fn := Try.f77) (nt := 11) Try.func77 rfl rfl (Nat.le_of_ble_eq_true rfl) fun E hE => ?_
 rw [spec_l09Act.f] at H
 refine aw_grp1 ?_
 refine wk_start ?_
 refine kv g0 (asg) ?_
 refine wk_end ?_
 refine ac_next ?_
 refine aw_grp1 ?_
 refine wk_start ?_
 refine kv g0 (mv) ?_
 obtain ⟨t1, A2, H⟩ := of_bind H
 refine kcS0 6 (.lit (.bool t1)) [] g0 (cal (spec_l01In.ok A2) [] 9999 .n (hf := Try.func96)) rfl rfl ?_
 refine kv g0 (mv) ?_
 by_cases c3 : t1 = true
 ·rw [if_pos c3] at H
  refine kv (g1 c3) (mv) ?_
  obtain ⟨t4, A5, H⟩ := of_bind H
  refine kcS0 9 (.lit (.bool t4)) [] (g1 c3) (cal (spec_l01In.ok A5) [] 9999 .n (hf := Try.func96)) rfl rfl ?_
  refine kv g0 (pkT c3) ?_
  refine kv g0 (asg) ?_
  refine wk_end ?_
  refine ac_next ?_
  refine aw_ret ?_
  obtain rfl := Option.some.inj H
  exact acr hE [.tmp 4] (.tmp .nil) (.one _) [] 9999
 rw [if_neg c3] at H
 refine kx (hT (bF c3)) ?_
 refine kx (hT (bF c3)) ?_
 refine kv g0 (pkF (bF c3)) ?_
 refine kv g0 (asg) ?_
 refine wk_end ?_
 refine ac_next ?_
 refine aw_ret ?_
 obtain rfl := Option.some.inj H
 exact acr hE [.tmp 4] (.tmp .nil) (.one _) [] 9999
/-! spec_l09Rule -/
mutual
def spec_l09Rule.l0 : Nat → (List Int) → (List S92) → Int → Int → Int → Option (Bool)
 | 0, _, _, _, _, _ => none
 | k7 + 1, l0_0, l0_1, a0_2, a0_3, p6 => if p6 < (l0_0.length : Int) then if 0 ≤ p6 then ((spec_HalfOk.f (rd l0_0 p6)).bind fun t10 => (if t10 = true then (if p6 > 0 then (if 0 ≤ (wrap64 (p6 - 1)) then (if (wrap64 (p6 - 1)) < (l0_0.length : Int) then if (rd l0_0 (wrap64 (p6 - 1))) ≥ (rd l0_0 p6) then some false else spec_l09Rule.l0 k7 l0_0 l0_1 a0_2 a0_3 (wrap64 (p6 + 1)) else none) else none) else spec_l09Rule.l0 k7 l0_0 l0_1 a0_2 a0_3 (wrap64 (p6 + 1))) else some false)) else none else spec_l09Rule.l1 k7 l0_0 l0_1 a0_2 a0_3 0
def spec_l09Rule.l1 : Nat → (List Int) → (List S92) → Int → Int → Int → Option (Bool)
 | 0, _, _, _, _, _ => none
 | k25 + 1, l0_0, l0_1, a0_2, a0_3, p24 => if p24 < (l0_1.length : Int) then if 0 ≤ p24 then ((spec_CondOk.f ((rd_T92 l0_1 p24).f0) ((rd_T92 l0_1 p24).f1.f0) ((rd_T92 l0_1 p24).f1.f1) ((rd_T92 l0_1 p24).f2) ((rd_T92 l0_1 p24).f3.f0) ((rd_T92 l0_1 p24).f3.f1)).bind fun t28 => if t28 = true then spec_l09Rule.l1 k25 l0_0 l0_1 a0_2 a0_3 (wrap64 (p24 + 1)) else some false) else none else if (l0_0.length : Int) ≤ 4 then (if (l0_1.length : Int) ≤ 3 then ((spec_l09Act.f a0_2 a0_3).bind fun t35 => some t35) else some false) else some false
end
def spec_l09Rule.f (k : Nat) (l0_0 : List Int) (l0_1 : List S92) (a0_2 : Int) (a0_3 : Int) : Option (Bool) := spec_l09Rule.l0 k l0_0 l0_1 a0_2 a0_3 0
theorem spec_l09Rule.ok {k : Nat} {l0_0 : List Int} {l0_1 : List S92} {a0_2 : Int} {a0_3 : Int} {r : Bool} (H : spec_l09Rule.f k l0_0 l0_1 a0_2 a0_3 = some r) : ACalls Try.prog 75 [] [.agg [.sl .o 1 (l0_0.map (eI .i64)), .sl .o 6 (l0_1.map e92), .lit (.int .i64 a0_2), .lit (.int .i64 a0_3)]] [] (.lit (.bool r)) := by
 refine acalls (fn := Try.f75) (nt := 68) Try.func75 rfl rfl (Nat.le_of_ble_eq_true rfl) fun E hE => ?_
 rw [spec_l09Rule.f] at H
 refine aw_grp1 ?_
 refine wk_start ?_
 refine kb g0 (bxA 0) ?_
 refine kv g0 (asg) ?_
 refine wk_end ?_
 refine ac_next ?_
 refine aw_grp1 ?_
 refine aw_grp1 ?_
 refine wk_start ?_
 refine kv g0 (asg) ?_
 refine wk_end ?_
 refine ac_next ?_
 refine aw_block ?_
 refine aw_loop1 (fun (k_ : Nat) (p6 : Int) => k_ ≤ k ∧ spec_l09Rule.l0 k_ l0_0 l0_1 a0_2 a0_3 p6 = some r) (fun (p6 : Int) => ⟨[(1, .box 0 0), (3, .lit (.int .i64 p6))], [(0, .box 60 [.sl .o 1 (l0_0.map (eI .i64)), .sl .o 6 (l0_1.map e92), .lit (.int .i64 a0_2), .lit (.int .i64 a0_3)])]⟩) k 0 ⟨Nat.le_refl _, H⟩ (fun K_ h_ => acw hE [(0, 0)] 9999 h_) (fun _ => by intro h_; have h_ := h_.2; rw [spec_l09Rule.l0.eq_1] at h_; cases h_) ?_
 intro k7 p6 hq_ K17 hK18
 have hk7 := hq_.1
 have H := hq_.2
 clear hq_
 rw [spec_l09Rule.l0.eq_2] at H
 refine aw_grp1 ?_
 refine aw_grp1 ?_
 refine wk_start ?_
 refine kv g0 (mv) ?_
 refine kv g0 (faB 0 0) ?_
 refine kv g0 (ldB) ?_
 refine kv g0 (lnS lenE) ?_
 refine kv g0 (lss) ?_
 refine wk_end ?_
 refine ac_next ?_
 by_cases c8 : p6 < (l0_0.length : Int)
 ·rw [if_pos c8] at H
  refine aw_ifT ?_ (decide_eq_true c8)
  refine aw_skip ?_
  refine ac_next ?_
  refine aw_grp1 ?_
  refine aw_block ?_
  refine aw_grp1 ?_
  refine wk_start ?_
  refine kv g0 (faB 0 0) ?_
  refine kv g0 (ldB) ?_
  refine kv g0 (mv) ?_
  obtain ⟨c9, H⟩ := of_if H
  refine kv g0 (ixS 3 (eI .i64 (rd l0_0 p6)) c9 (getE (z := (0 : Int)) c9 c8)) ?_
  refine kv g0 (ldR (.lit (.int .i64 (rd l0_0 p6)))) ?_
  obtain ⟨t10, A11, H⟩ := of_bind H
  refine kcS0 17 (.lit (.bool t10)) [] g0 (cal (spec_HalfOk.ok A11) [] 9999 .n (hf := Try.func76)) rfl rfl ?_
  refine kv g0 (not_) ?_
  refine kv g0 (mv) ?_
  by_cases c12 : t10 = true
  ·rw [if_pos c12] at H
   refine kv (g1 (nF c12)) (mv) ?_
   refine kv (g1 (nF c12)) (gtr) ?_
   refine kv (g1 (nF c12)) (mv) ?_
   by_cases c13 : p6 > 0
   ·rw [if_pos c13] at H
    refine kv (g1 (decide_eq_true c13)) (faB 0 0) ?_
    refine kv (g1 (decide_eq_true c13)) (ldB) ?_
    refine kv (g1 (decide_eq_true c13)) (mv) ?_
    refine kv (g1 (decide_eq_true c13)) (sub6) ?_
    obtain ⟨c14, H⟩ := of_if H
    obtain ⟨c15, H⟩ := of_if H
    refine kv (g1 (decide_eq_true c13)) (ixS 3 (eI .i64 (rd l0_0 (wrap64 (p6 - 1)))) c14 (getE (z := (0 : Int)) c14 c15)) ?_
    refine kv (g1 (decide_eq_true c13)) (ldR (.lit (.int .i64 (rd l0_0 (wrap64 (p6 - 1)))))) ?_
    refine kv (g1 (decide_eq_true c13)) (faB 0 0) ?_
    refine kv (g1 (decide_eq_true c13)) (ldB) ?_
    refine kv (g1 (decide_eq_true c13)) (mv) ?_
    refine kv (g1 (decide_eq_true c13)) (ixS 3 (eI .i64 (rd l0_0 p6)) c9 (getE (z := (0 : Int)) c9 c8)) ?_
    refine kv (g1 (decide_eq_true c13)) (ldR (.lit (.int .i64 (rd l0_0 p6)))) ?_
    refine kv (g1 (decide_eq_true c13)) (geq) ?_
    refine kv (g1 (nF c12)) (pkT (decide_eq_true c13)) ?_
    refine kv g0 (pkF (nF c12)) ?_
    refine wk_end_draw hM (by kernel_rfl) ?_
    refine ac_next ?_
    by_cases c16 : (rd l0_0 (wrap64 (p6 - 1))) ≥ (rd l0_0 p6)
    ·rw [if_pos c16] at H
     refine aw_ifT ?_ (decide_eq_true c16)
     refine aw_grp1 ?_
     refine wk_start ?_
     refine kv g0 (asg) ?_
     refine wk_end ?_
     refine ac_next ?_
     refine aw_ret ?_
     refine ac_blkR ?_
     refine ac_thenR ?_
     refine ac_thenR ?_
     refine ac_blkR ?_
     refine ac_thenR ?_
     obtain rfl := Option.some.inj H
     exact acr hE [.tmp 2] (.tmp .nil) (.one _) [] 9999
    rw [if_neg c16] at H
    refine aw_ifF ?_ (decide_eq_false c16)
    refine aw_skip ?_
    refine ac_blkN ?_
    refine ac_next ?_
    refine wk_start ?_
    refine kv g0 (mv) ?_
    refine kv g0 (add6) ?_
    refine kv g0 (asg) ?_
    refine wk_end ?_
    refine ac_k ?_
    exact acw hE [(0, 0)] 9999 (hK18 k7 (wrap64 (p6 + 1)) (Nat.le_refl _) ⟨by omega, H⟩)
   rw [if_neg c13] at H
   refine kx (hT (decide_eq_false c13)) ?_
   refine kx (hT (decide_eq_false c13)) ?_
   refine kx (hT (decide_eq_false c13)) ?_
   refine kx (hT (decide_eq_false c13)) ?_
   refine kx (hT (decide_eq_false c13)) ?_
   refine kx (hT (decide_eq_false c13)) ?_
   refine kx (hT (decide_eq_false c13)) ?_
   refine kx (hT (decide_eq_false c13)) ?_
   refine kx (hT (decide_eq_false c13)) ?_
   refine kx (hT (decide_eq_false c13)) ?_
   refine kx (hT (decide_eq_false c13)) ?_
   refine kx (hT (decide_eq_false c13)) ?_
   refine kv (g1 (nF c12)) (pkF (decide_eq_false c13)) ?_
   refine kv g0 (pkF (nF c12)) ?_
   refine wk_end_draw hM (by kernel_rfl) ?_
   refine ac_next ?_
   refine aw_ifF ?_ rfl
   refine aw_skip ?_
   refine ac_blkN ?_
   refine ac_next ?_
   refine wk_start ?_
   refine kv g0 (mv) ?_
   refine kv g0 (add6) ?_
   refine kv g0 (asg) ?_
   refine wk_end ?_
   refine ac_k ?_
   exact acw hE [(0, 0)] 9999 (hK18 k7 (wrap64 (p6 + 1)) (Nat.le_refl _) ⟨by omega, H⟩)
  rw [if_neg c12] at H
  refine kx (hF (nT (bF c12))) ?_
  refine kx (hF (nT (bF c12))) ?_
  refine ku (neT (hF (nT (bF c12)))) ?_
  refine ku neU ?_
  refine ku neU ?_
  refine ku neU ?_
  refine ku neU ?_
  refine ku neU ?_
  refine ku neU ?_
  refine ku neU ?_
  refine ku neU ?_
  refine ku neU ?_
  refine ku neU ?_
  refine ku neU ?_
  refine ku neU ?_
  refine kx (hF (nT (bF c12))) ?_
  refine kv g0 (pkT (nT (bF c12))) ?_
  refine wk_end_draw hM (by kernel_rfl) ?_
  refine ac_next ?_
  refine aw_ifT ?_ rfl
  refine aw_grp1 ?_
  refine wk_start ?_
  refine kv g0 (asg) ?_
  refine wk_end ?_
  refine ac_next ?_
  refine aw_ret ?_
  refine ac_blkR ?_
  refine ac_thenR ?_
  refine ac_thenR ?_
  refine ac_blkR ?_
  refine ac_thenR ?_
  obtain rfl := Option.some.inj H
  exact acr hE [.tmp 2] (.tmp .nil) (.one _) [] 9999
 rw [if_neg c8] at H
 refine aw_ifF ?_ (decide_eq_false c8)
 refine aw_exit ?_
 refine ac_then ?_
 refine ac_then ?_
 refine ac_hit rfl ?_
 refine ac_next ?_
 refine aw_grp1 ?_
 refine aw_grp1 ?_
 refine wk_start ?_
 refine kv g0 (asg) ?_
 refine wk_end ?_
 refine ac_next ?_
 refine aw_block ?_
 refine aw_loop1 (fun (k_ : Nat) (p24 : Int) => k_ ≤ k7 ∧ spec_l09Rule.l1 k_ l0_0 l0_1 a0_2 a0_3 p24 = some r) (fun (p24 : Int) => ⟨[(1, .box 0 0), (4, .lit (.int .i64 p24))], [(0, .box 60 [.sl .o 1 (l0_0.map (eI .i64)), .sl .o 6 (l0_1.map e92), .lit (.int .i64 a0_2), .lit (.int .i64 a0_3)])]⟩) k7 0 ⟨Nat.le_refl _, H⟩ (fun K_ h_ => acw hE [(0, 0)] 9999 h_) (fun _ => by intro h_; have h_ := h_.2; rw [spec_l09Rule.l1.eq_1] at h_; cases h_) ?_
 intro k25 p24 hq_ K31 hK32
 have hk25 := hq_.1
 have H := hq_.2
 clear hq_
 rw [spec_l09Rule.l1.eq_2] at H
 refine aw_grp1 ?_
 refine aw_grp1 ?_
 refine wk_start ?_
 refine kv g0 (mv) ?_
 refine kv g0 (faB 1 1) ?_
 refine kv g0 (ldB) ?_
 refine kv g0 (lnS lenE) ?_
 refine kv g0 (lss) ?_
 refine wk_end ?_
 refine ac_next ?_
 by_cases c26 : p24 < (l0_1.length : Int)
 ·rw [if_pos c26] at H
  refine aw_ifT ?_ (decide_eq_true c26)
  refine aw_skip ?_
  refine ac_next ?_
  refine aw_grp1 ?_
  refine aw_block ?_
  refine aw_grp1 ?_
  refine wk_start ?_
  refine kv g0 (faB 1 1) ?_
  refine kv g0 (ldB) ?_
  refine kv g0 (mv) ?_
  obtain ⟨c27, H⟩ := of_if H
  refine kv g0 (ixS 92 (e92 (rd_T92 l0_1 p24)) c27 (getE (z := z92) c27 c26)) ?_
  refine kv g0 (ldRA 6 [.lit (.int .i64 ((rd_T92 l0_1 p24).f0)), .lit (.int .i64 ((rd_T92 l0_1 p24).f1.f0)), .lit (.int .i64 ((rd_T92 l0_1 p24).f1.f1)), .lit (.int .i64 ((rd_T92 l0_1 p24).f2)), .lit (.int .i64 ((rd_T92 l0_1 p24).f3.f0)), .lit (.int .i64 ((rd_T92 l0_1 p24).f3.f1))]) ?_
  obtain ⟨t28, A29, H⟩ := of_bind H
  refine kcS0 49 (.lit (.bool t28)) [] g0 (cal (spec_CondOk.ok A29) [] 9999 .n (hf := Try.func100)) rfl rfl ?_
  refine kv g0 (not_) ?_
  refine wk_end ?_
  refine ac_next ?_
  by_cases c30 : t28 = true
  ·rw [if_pos c30] at H
   refine aw_ifF ?_ (nF c30)
   refine aw_skip ?_
   refine ac_blkN ?_
   refine ac_next ?_
   refine wk_start ?_
   refine kv g0 (mv) ?_
   refine kv g0 (add6) ?_
   refine kv g0 (asg) ?_
   refine wk_end ?_
   refine ac_k ?_
   exact acw hE [(0, 0)] 9999 (hK32 k25 (wrap64 (p24 + 1)) (Nat.le_refl _) ⟨by omega, H⟩)
  rw [if_neg c30] at H
  refine aw_ifT ?_ (nT (bF c30))
  refine aw_grp1 ?_
  refine wk_start ?_
  refine kv g0 (asg) ?_
  refine wk_end ?_
  refine ac_next ?_
  refine aw_ret ?_
  refine ac_blkR ?_
  refine ac_thenR ?_
  refine ac_thenR ?_
  refine ac_blkR ?_
  refine ac_thenR ?_
  obtain rfl := Option.some.inj H
  exact acr hE [.tmp 2] (.tmp .nil) (.one _) [] 9999
 rw [if_neg c26] at H
 refine aw_ifF ?_ (decide_eq_false c26)
 refine aw_exit ?_
 refine ac_then ?_
 refine ac_then ?_
 refine ac_hit rfl ?_
 refine ac_next ?_
 refine aw_grp1 ?_
 refine wk_start ?_
 refine kv g0 (faB 0 0) ?_
 refine kv g0 (ldB) ?_
 refine kv g0 (lnS lenE) ?_
 refine kv g0 (leq) ?_
 refine kv g0 (mv) ?_
 by_cases c33 : (l0_0.length : Int) ≤ 4
 ·rw [if_pos c33] at H
  refine kv (g1 (decide_eq_true c33)) (faB 1 1) ?_
  refine kv (g1 (decide_eq_true c33)) (ldB) ?_
  refine kv (g1 (decide_eq_true c33)) (lnS lenE) ?_
  refine kv (g1 (decide_eq_true c33)) (leq) ?_
  refine kv g0 (pkT (decide_eq_true c33)) ?_
  refine kv g0 (mv) ?_
  by_cases c34 : (l0_1.length : Int) ≤ 3
  ·rw [if_pos c34] at H
   refine kv (g1 (decide_eq_true c34)) (faB 2 2) ?_
   refine kv (g1 (decide_eq_true c34)) (ldB) ?_
   refine kv (g1 (decide_eq_true c34)) (faB 3 3) ?_
   refine kv (g1 (decide_eq_true c34)) (ldB) ?_
   obtain ⟨t35, A36, H⟩ := of_bind H
   refine kcS0 66 (.lit (.bool t35)) [] (g1 (decide_eq_true c34)) (cal (spec_l09Act.ok A36) [] 9999 .n (hf := Try.func77)) rfl rfl ?_
   refine kv g0 (pkT (decide_eq_true c34)) ?_
   refine kv g0 (asg) ?_
   refine wk_end ?_
   refine ac_next ?_
   refine aw_ret ?_
   obtain rfl := Option.some.inj H
   exact acr hE [.tmp 2] (.tmp .nil) (.one _) [] 9999
  rw [if_neg c34] at H
  refine kx (hT (decide_eq_false c34)) ?_
  refine kx (hT (decide_eq_false c34)) ?_
  refine kx (hT (decide_eq_false c34)) ?_
  refine kx (hT (decide_eq_false c34)) ?_
  refine kx (hT (decide_eq_false c34)) ?_
  refine kv g0 (pkF (decide_eq_false c34)) ?_
  refine kv g0 (asg) ?_
  refine wk_end ?_
  refine ac_next ?_
  refine aw_ret ?_
  obtain rfl := Option.some.inj H
  exact acr hE [.tmp 2] (.tmp .nil) (.one _) [] 9999
 rw [if_neg c33] at H
 refine kx (hT (decide_eq_false c33)) ?_
 refine kx (hT (decide_eq_false c33)) ?_
 refine kx (hT (decide_eq_false c33)) ?_
 refine kx (hT (decide_eq_false c33)) ?_
 refine kv g0 (pkF (decide_eq_false c33)) ?_
 refine kv g0 (mv) ?_
 refine kx (hT rfl) ?_
 refine kx (hT rfl) ?_
 refine kx (hT rfl) ?_
 refine kx (hT rfl) ?_
 refine kx (hT rfl) ?_
 refine kv g0 (pkF rfl) ?_
 refine kv g0 (asg) ?_
 refine wk_end ?_
 refine ac_next ?_
 refine aw_ret ?_
 obtain rfl := Option.some.inj H
 exact acr hE [.tmp 2] (.tmp .nil) (.one _) [] 9999
/-! spec_PolicyOk -/
def spec_PolicyOk.l0 : Nat → Int → Int → Int → (List S60) → Int → Option (Bool)
 | 0, _, _, _, _, _ => none
 | k7 + 1, a0_0, a0_1, a0_2, l0_3, p6 => if p6 < (l0_3.length : Int) then if 0 ≤ p6 then ((spec_l09Rule.f k7 ((rd_T60 l0_3 p6).f0) ((rd_T60 l0_3 p6).f1) ((rd_T60 l0_3 p6).f2) ((rd_T60 l0_3 p6).f3)).bind fun t10 => if t10 = true then spec_PolicyOk.l0 k7 a0_0 a0_1 a0_2 l0_3 (wrap64 (p6 + 1)) else some false) else none else (spec_HalfOk.f a0_0).bind fun t15 => (if t15 = true then ((spec_l09Act.f a0_1 a0_2).bind fun t18 => (if t18 = true then some (decide ((l0_3.length : Int) ≤ 10)) else some false)) else some false)
def spec_PolicyOk.f (k : Nat) (a0_0 : Int) (a0_1 : Int) (a0_2 : Int) (l0_3 : List S60) : Option (Bool) := spec_PolicyOk.l0 k a0_0 a0_1 a0_2 l0_3 0
theorem spec_PolicyOk.ok {k : Nat} {a0_0 : Int} {a0_1 : Int} {a0_2 : Int} {l0_3 : List S60} {r : Bool} (H : spec_PolicyOk.f k a0_0 a0_1 a0_2 l0_3 = some r) : ACalls Try.prog 36 [] [.agg [.lit (.int .i64 a0_0), .lit (.int .i64 a0_1), .lit (.int .i64 a0_2), .sl .o 4 (l0_3.map e60)]] [] (.lit (.bool r)) := by
 refine acalls (fn := Try.f36) (nt := 34) Try.func36 rfl rfl (Nat.le_of_ble_eq_true rfl) fun E hE => ?_
 rw [spec_PolicyOk.f] at H
 refine aw_grp1 ?_
 refine wk_start ?_
 refine kb g0 (bxA 0) ?_
 refine kv g0 (asg) ?_
 refine wk_end ?_
 refine ac_next ?_
 refine aw_grp1 ?_
 refine aw_grp1 ?_
 refine wk_start ?_
 refine kv g0 (asg) ?_
 refine wk_end ?_
 refine ac_next ?_
 refine aw_block ?_
 refine aw_loop1 (fun (k_ : Nat) (p6 : Int) => k_ ≤ k ∧ spec_PolicyOk.l0 k_ a0_0 a0_1 a0_2 l0_3 p6 = some r) (fun (p6 : Int) => ⟨[(1, .box 0 0), (3, .lit (.int .i64 p6))], [(0, .box 30 [.lit (.int .i64 a0_0), .lit (.int .i64 a0_1), .lit (.int .i64 a0_2), .sl .o 4 (l0_3.map e60)])]⟩) k 0 ⟨Nat.le_refl _, H⟩ (fun K_ h_ => acw hE [(0, 0)] 9999 h_) (fun _ => by intro h_; have h_ := h_.2; rw [spec_PolicyOk.l0.eq_1] at h_; cases h_) ?_
 intro k7 p6 hq_ K13 hK14
 have hk7 := hq_.1
 have H := hq_.2
 clear hq_
 rw [spec_PolicyOk.l0.eq_2] at H
 refine aw_grp1 ?_
 refine aw_grp1 ?_
 refine wk_start ?_
 refine kv g0 (mv) ?_
 refine kv g0 (faB 3 3) ?_
 refine kv g0 (ldB) ?_
 refine kv g0 (lnS lenE) ?_
 refine kv g0 (lss) ?_
 refine wk_end ?_
 refine ac_next ?_
 by_cases c8 : p6 < (l0_3.length : Int)
 ·rw [if_pos c8] at H
  refine aw_ifT ?_ (decide_eq_true c8)
  refine aw_skip ?_
  refine ac_next ?_
  refine aw_grp1 ?_
  refine aw_block ?_
  refine aw_grp1 ?_
  refine wk_start ?_
  refine kv g0 (faB 3 3) ?_
  refine kv g0 (ldB) ?_
  refine kv g0 (mv) ?_
  obtain ⟨c9, H⟩ := of_if H
  refine kv g0 (ixS 60 (e60 (rd_T60 l0_3 p6)) c9 (getE (z := z60) c9 c8)) ?_
  refine kv g0 (ldRA 4 [.sl .o 1 (((rd_T60 l0_3 p6).f0).map (eI .i64)), .sl .o 6 (((rd_T60 l0_3 p6).f1).map e92), .lit (.int .i64 ((rd_T60 l0_3 p6).f2)), .lit (.int .i64 ((rd_T60 l0_3 p6).f3))]) ?_
  obtain ⟨t10, A11, H⟩ := of_bind H
  refine kcS0 16 (.lit (.bool t10)) [] g0 (cal (spec_l09Rule.ok A11) [] 9999 .n (hf := Try.func75)) rfl rfl ?_
  refine kv g0 (not_) ?_
  refine wk_end ?_
  refine ac_next ?_
  by_cases c12 : t10 = true
  ·rw [if_pos c12] at H
   refine aw_ifF ?_ (nF c12)
   refine aw_skip ?_
   refine ac_blkN ?_
   refine ac_next ?_
   refine wk_start ?_
   refine kv g0 (mv) ?_
   refine kv g0 (add6) ?_
   refine kv g0 (asg) ?_
   refine wk_end ?_
   refine ac_k ?_
   exact acw hE [(0, 0)] 9999 (hK14 k7 (wrap64 (p6 + 1)) (Nat.le_refl _) ⟨by omega, H⟩)
  rw [if_neg c12] at H
  refine aw_ifT ?_ (nT (bF c12))
  refine aw_grp1 ?_
  refine wk_start ?_
  refine kv g0 (asg) ?_
  refine wk_end ?_
  refine ac_next ?_
  refine aw_ret ?_
  refine ac_blkR ?_
  refine ac_thenR ?_
  refine ac_thenR ?_
  refine ac_blkR ?_
  refine ac_thenR ?_
  obtain rfl := Option.some.inj H
  exact acr hE [.tmp 2] (.tmp .nil) (.one _) [] 9999
 rw [if_neg c8] at H
 refine aw_ifF ?_ (decide_eq_false c8)
 refine aw_exit ?_
 refine ac_then ?_
 refine ac_then ?_
 refine ac_hit rfl ?_
 refine ac_next ?_
 refine aw_grp1 ?_
 refine wk_start ?_
 refine kv g0 (faB 0 0) ?_
 refine kv g0 (ldB) ?_
 obtain ⟨t15, A16, H⟩ := of_bind H
 refine kcS0 20 (.lit (.bool t15)) [] g0 (cal (spec_HalfOk.ok A16) [] 9999 .n (hf := Try.func76)) rfl rfl ?_
 refine kv g0 (mv) ?_
 by_cases c17 : t15 = true
 ·rw [if_pos c17] at H
  refine kv (g1 c17) (faB 1 1) ?_
  refine kv (g1 c17) (ldB) ?_
  refine kv (g1 c17) (faB 2 2) ?_
  refine kv (g1 c17) (ldB) ?_
  obtain ⟨t18, A19, H⟩ := of_bind H
  refine kcS0 26 (.lit (.bool t18)) [] (g1 c17) (cal (spec_l09Act.ok A19) [] 9999 .n (hf := Try.func77)) rfl rfl ?_
  refine kv g0 (pkT c17) ?_
  refine kv g0 (mv) ?_
  by_cases c20 : t18 = true
  ·rw [if_pos c20] at H
   refine kv (g1 c20) (faB 3 3) ?_
   refine kv (g1 c20) (ldB) ?_
   refine kv (g1 c20) (lnS lenE) ?_
   refine kv (g1 c20) (leq) ?_
   refine kv g0 (pkT c20) ?_
   refine kv g0 (asg) ?_
   refine wk_end ?_
   refine ac_next ?_
   refine aw_ret ?_
   obtain rfl := Option.some.inj H
   exact acr hE [.tmp 2] (.tmp .nil) (.one _) [] 9999
  rw [if_neg c20] at H
  refine kx (hT (bF c20)) ?_
  refine kx (hT (bF c20)) ?_
  refine kx (hT (bF c20)) ?_
  refine kx (hT (bF c20)) ?_
  refine kv g0 (pkF (bF c20)) ?_
  refine kv g0 (asg) ?_
  refine wk_end ?_
  refine ac_next ?_
  refine aw_ret ?_
  obtain rfl := Option.some.inj H
  exact acr hE [.tmp 2] (.tmp .nil) (.one _) [] 9999
 rw [if_neg c17] at H
 refine kx (hT (bF c17)) ?_
 refine kx (hT (bF c17)) ?_
 refine kx (hT (bF c17)) ?_
 refine kx (hT (bF c17)) ?_
 refine kx (hT (bF c17)) ?_
 refine kv g0 (pkF (bF c17)) ?_
 refine kv g0 (mv) ?_
 refine kx (hT rfl) ?_
 refine kx (hT rfl) ?_
 refine kx (hT rfl) ?_
 refine kx (hT rfl) ?_
 refine kv g0 (pkF rfl) ?_
 refine kv g0 (asg) ?_
 refine wk_end ?_
 refine ac_next ?_
 refine aw_ret ?_
 obtain rfl := Option.some.inj H
 exact acr hE [.tmp 2] (.tmp .nil) (.one _) [] 9999
/-! spec_l24HasCond -/
def spec_l24HasCond.l0 : Nat → (List S92) → Int → Int → Int → Int → Int → Int → Int → Option (Bool)
 | 0, _, _, _, _, _, _, _, _ => none
 | k5 + 1, l0, a1_0, a1_1, a1_2, a1_3, a1_4, a1_5, p4 => if p4 < (l0.length : Int) then if 0 ≤ p4 then if (((rd_T92 l0 p4).f0) == a1_0 && ((((rd_T92 l0 p4).f1.f0) == a1_1 && (((rd_T92 l0 p4).f1.f1) == a1_2)) && (((rd_T92 l0 p4).f2) == a1_3 && ((((rd_T92 l0 p4).f3.f0) == a1_4 && (((rd_T92 l0 p4).f3.f1) == a1_5)))))) = true then some true else spec_l24HasCond.l0 k5 l0 a1_0 a1_1 a1_2 a1_3 a1_4 a1_5 (wrap64 (p4 + 1)) else none else some false
def spec_l24HasCond.f (k : Nat) (l0 : List S92) (a1_0 : Int) (a1_1 : Int) (a1_2 : Int) (a1_3 : Int) (a1_4 : Int) (a1_5 : Int) : Option (Bool) := spec_l24HasCond.l0 k l0 a1_0 a1_1 a1_2 a1_3 a1_4 a1_5 0
theorem spec_l24HasCond.ok {k : Nat} {l0 : List S92} {a1_0 : Int} {a1_1 : Int} {a1_2 : Int} {a1_3 : Int} {a1_4 : Int} {a1_5 : Int} {r : Bool} (H : spec_l24HasCond.f k l0 a1_0 a1_1 a1_2 a1_3 a1_4 a1_5 = some r) : ACalls Try.prog 78 [] [.sl .o 6 (l0.map e92), .agg [.lit (.int .i64 a1_0), .lit (.int .i64 a1_1), .lit (.int .i64 a1_2), .lit (.int .i64 a1_3), .lit (.int .i64 a1_4), .lit (.int .i64 a1_5)]] [] (.lit (.bool r)) := by
 refine acalls (fn := Try.f78) (nt := 18) Try.func78 rfl rfl (Nat.le_of_ble_eq_true rfl) fun E hE => ?_
 rw [spec_l24HasCond.f] at H
 refine aw_grp1 ?_
 refine wk_start ?_
 refine kb g0 (bxA 0) ?_
 refine kv g0 (asg) ?_
 refine wk_end ?_
 refine ac_next ?_
 refine aw_grp1 ?_
 refine aw_grp1 ?_
 refine wk_start ?_
 refine kv g0 (asg) ?_
 refine wk_end ?_
 refine ac_next ?_
 refine aw_block ?_
 refine aw_loop1 (fun (k_ : Nat) (p4 : Int) => k_ ≤ k ∧ spec_l24HasCond.l0 k_ l0 a1_0 a1_1 a1_2 a1_3 a1_4 a1_5 p4 = some r) (fun (p4 : Int) => ⟨[(0, .sl .o 6 (l0.map e92)), (3, .box 0 0), (5, .lit (.int .i64 p4))], [(0, .box 92 [.lit (.int .i64 a1_0), .lit (.int .i64 a1_1), .lit (.int .i64 a1_2), .lit (.int .i64 a1_3), .lit (.int .i64 a1_4), .lit (.int .i64 a1_5)])]⟩) k 0 ⟨Nat.le_refl _, H⟩ (fun K_ h_ => acw hE [(0, 0)] 9999 h_) (fun _ => by intro h_; have h_ := h_.2; rw [spec_l24HasCond.l0.eq_1] at h_; cases h_) ?_
 intro k5 p4 hq_ K9 hK10
 have hk5 := hq_.1
 have H := hq_.2
 clear hq_
 rw [spec_l24HasCond.l0.eq_2] at H
 refine aw_grp1 ?_
 refine aw_grp1 ?_
 refine wk_start ?_
 refine kv g0 (mv) ?_
 refine kv g0 (mv) ?_
 refine kv g0 (lnS lenE) ?_
 refine kv g0 (lss) ?_
 refine wk_end ?_
 refine ac_next ?_
 by_cases c6 : p4 < (l0.length : Int)
 ·rw [if_pos c6] at H
  refine aw_ifT ?_ (decide_eq_true c6)
  refine aw_skip ?_
  refine ac_next ?_
  refine aw_grp1 ?_
  refine aw_block ?_
  refine aw_grp1 ?_
  refine wk_start ?_
  refine kv g0 (mv) ?_
  refine kv g0 (mv) ?_
  obtain ⟨c7, H⟩ := of_if H
  refine kv g0 (ixS 92 (e92 (rd_T92 l0 p4)) c7 (getE (z := z92) c7 c6)) ?_
  refine kv g0 (ldRA 6 [.lit (.int .i64 ((rd_T92 l0 p4).f0)), .lit (.int .i64 ((rd_T92 l0 p4).f1.f0)), .lit (.int .i64 ((rd_T92 l0 p4).f1.f1)), .lit (.int .i64 ((rd_T92 l0 p4).f2)), .lit (.int .i64 ((rd_T92 l0 p4).f3.f0)), .lit (.int .i64 ((rd_T92 l0 p4).f3.f1))]) ?_
  refine kv g0 (ldBA 6 [.lit (.int .i64 a1_0), .lit (.int .i64 a1_1), .lit (.int .i64 a1_2), .lit (.int .i64 a1_3), .lit (.int .i64 a1_4), .lit (.int .i64 a1_5)]) ?_
  refine kv g0 (eqS (fun w => eq92 _ w ((rd_T92 l0 p4).f0) ((rd_T92 l0 p4).f1.f0) ((rd_T92 l0 p4).f1.f1) ((rd_T92 l0 p4).f2) ((rd_T92 l0 p4).f3.f0) ((rd_T92 l0 p4).f3.f1) a1_0 a1_1 a1_2 a1_3 a1_4 a1_5)) ?_
  refine wk_end_draw hM (by kernel_rfl) ?_
  refine ac_next ?_
  by_cases c8 : (((rd_T92 l0 p4).f0) == a1_0 && ((((rd_T92 l0 p4).f1.f0) == a1_1 && (((rd_T92 l0 p4).f1.f1) == a1_2)) && (((rd_T92 l0 p4).f2) == a1_3 && ((((rd_T92 l0 p4).f3.f0) == a1_4 && (((rd_T92 l0 p4).f3.f1) == a1_5)))))) = true
  ·rw [if_pos c8] at H
   refine aw_ifT ?_ c8
   refine aw_grp1 ?_
   refine wk_start ?_
   refine kv g0 (asg) ?_
   refine wk_end ?_
   refine ac_next ?_
   refine aw_ret ?_
   refine ac_blkR ?_
   refine ac_thenR ?_
   refine ac_thenR ?_
   refine ac_blkR ?_
   refine ac_thenR ?_
   obtain rfl := Option.some.inj H
   exact acr hE [.tmp 4] (.tmp .nil) (.one _) [] 9999
  rw [if_neg c8] at H
  refine aw_ifF ?_ (bF c8)
  refine aw_skip ?_
  refine ac_blkN ?_
  refine ac_next ?_
  refine wk_start ?_
  refine kv g0 (mv) ?_
  refine kv g0 (add6) ?_
  refine kv g0 (asg) ?_
  refine wk_end ?_
  refine ac_k ?_
  exact acw hE [(0, 0)] 9999 (hK10 k5 (wrap64 (p4 + 1)) (Nat.le_refl _) ⟨by omega, H⟩)
 rw [if_neg c6] at H
 refine aw_ifF ?_ (decide_eq_false c6)
 refine aw_exit ?_
 refine ac_then ?_
 refine ac_then ?_
 refine ac_hit rfl ?_
 refine ac_next ?_
 refine aw_grp1 ?_
 refine wk_start ?_
 refine kv g0 (asg) ?_
 refine wk_end ?_
 refine ac_next ?_
 refine aw_ret ?_
 obtain rfl := Option.some.inj H
 exact acr hE [.tmp 4] (.tmp .nil) (.one _) [] 9999
/-! spec_l09In -/
def spec_l09In.l0 : Nat → (List Int) → Int → Int → Option (Bool)
 | 0, _, _, _ => none
 | k5 + 1, l0, a1, p4 => if p4 < (l0.length : Int) then if 0 ≤ p4 then if (rd l0 p4) = a1 then some true else spec_l09In.l0 k5 l0 a1 (wrap64 (p4 + 1)) else none else some false
def spec_l09In.f (k : Nat) (l0 : List Int) (a1 : Int) : Option (Bool) := spec_l09In.l0 k l0 a1 0
theorem spec_l09In.ok {k : Nat} {l0 : List Int} {a1 : Int} {r : Bool} (H : spec_l09In.f k l0 a1 = some r) : ACalls Try.prog 46 [] [.sl .o 1 (l0.map (eI .i64)), .lit (.int .i64 a1)] [] (.lit (.bool r)) := by
 refine acalls (fn := Try.f46) (nt := 18) Try.func46 rfl rfl (Nat.le_of_ble_eq_true rfl) fun E hE => ?_
 rw [spec_l09In.f] at H
 refine aw_grp1 ?_
 refine wk_start ?_
 refine kv g0 (asg) ?_
 refine wk_end ?_
 refine ac_next ?_
 refine aw_grp1 ?_
 refine aw_grp1 ?_
 refine wk_start ?_
 refine kv g0 (asg) ?_
 refine wk_end ?_
 refine ac_next ?_
 refine aw_block ?_
 refine aw_loop1 (fun (k_ : Nat) (p4 : Int) => k_ ≤ k ∧ spec_l09In.l0 k_ l0 a1 p4 = some r) (fun (p4 : Int) => ⟨[(0, .sl .o 1 (l0.map (eI .i64))), (1, .lit (.int .i64 a1)), (5, .lit (.int .i64 p4))], []⟩) k 0 ⟨Nat.le_refl _, H⟩ (fun K_ h_ => acw hE [] 9999 h_) (fun _ => by intro h_; have h_ := h_.2; rw [spec_l09In.l0.eq_1] at h_; cases h_) ?_
 intro k5 p4 hq_ K9 hK10
 have hk5 := hq_.1
 have H := hq_.2
 clear hq_
 rw [spec_l09In.l0.eq_2] at H
 refine aw_grp1 ?_
 refine aw_grp1 ?_
 refine wk_start ?_
 refine kv g0 (mv) ?_
 refine kv g0 (mv) ?_
 refine kv g0 (lnS lenE) ?_
 refine kv g0 (lss) ?_
 refine wk_end ?_
 refine ac_next ?_
 by_cases c6 : p4 < (l0.length : Int)
 ·rw [if_pos c6] at H
  refine aw_ifT ?_ (decide_eq_true c6)
  refine aw_skip ?_
  refine ac_next ?_
  refine aw_grp1 ?_
  refine aw_block ?_
  refine aw_grp1 ?_
  refine wk_start ?_
  refine kv g0 (mv) ?_
  refine kv g0 (mv) ?_
  obtain ⟨c7, H⟩ := of_if H
  refine kv g0 (ixS 3 (eI .i64 (rd l0 p4)) c7 (getE (z := (0 : Int)) c7 c6)) ?_
  refine kv g0 (ldR (.lit (.int .i64 (rd l0 p4)))) ?_
  refine kv g0 (mv) ?_
  refine kv g0 (eql) ?_
  refine wk_end ?_
  refine ac_next ?_
  by_cases c8 : (rd l0 p4) = a1
  ·rw [if_pos c8] at H
   refine aw_ifT ?_ (eT c8)
   refine aw_grp1 ?_
   refine wk_start ?_
   refine kv g0 (asg) ?_
   refine wk_end ?_
   refine ac_next ?_
   refine aw_ret ?_
   refine ac_blkR ?_
   refine ac_thenR ?_
   refine ac_thenR ?_
   refine ac_blkR ?_
   refine ac_thenR ?_
   obtain rfl := Option.some.inj H
   exact acr hE [.tmp 4] (.tmp .nil) (.one _) [] 9999
  rw [if_neg c8] at H
  refine aw_ifF ?_ (eF c8)
  refine aw_skip ?_
  refine ac_blkN ?_
  refine ac_next ?_
  refine wk_start ?_
  refine kv g0 (mv) ?_
  refine kv g0 (add6) ?_
  refine kv g0 (asg) ?_
  refine wk_end ?_
  refine ac_k ?_
  exact acw hE [] 9999 (hK10 k5 (wrap64 (p4 + 1)) (Nat.le_refl _) ⟨by omega, H⟩)
 rw [if_neg c6] at H
 refine aw_ifF ?_ (decide_eq_false c6)
 refine aw_exit ?_
 refine ac_then ?_
 refine ac_then ?_
 refine ac_hit rfl ?_
 refine ac_next ?_
 refine aw_grp1 ?_
 refine wk_start ?_
 refine kv g0 (asg) ?_
 refine wk_end ?_
 refine ac_next ?_
 refine aw_ret ?_
 obtain rfl := Option.some.inj H
 exact acr hE [.tmp 4] (.tmp .nil) (.one _) [] 9999
/-! spec_l24Covers -/
mutual
def spec_l24Covers.l0 : Nat → (List Int) → (List S92) → Int → Int → (List Int) → (List S92) → Int → Int → Int → Option (Bool)
 | 0, _, _, _, _, _, _, _, _, _ => none
 | k7 + 1, l0_0, l0_1, a0_2, a0_3, l1_0, l1_1, a1_2, a1_3, p6 => if p6 < (l0_1.length : Int) then if 0 ≤ p6 then ((spec_l24HasCond.f k7 l1_1 ((rd_T92 l0_1 p6).f0) ((rd_T92 l0_1 p6).f1.f0) ((rd_T92 l0_1 p6).f1.f1) ((rd_T92 l0_1 p6).f2) ((rd_T92 l0_1 p6).f3.f0) ((rd_T92 l0_1 p6).f3.f1)).bind fun t10 => if t10 = true then spec_l24Covers.l0 k7 l0_0 l0_1 a0_2 a0_3 l1_0 l1_1 a1_2 a1_3 (wrap64 (p6 + 1)) else some false) else none else if (l0_0.length : Int) = 0 then some true else spec_l24Covers.l1 k7 l0_0 l0_1 a0_2 a0_3 l1_0 l1_1 a1_2 a1_3 0
def spec_l24Covers.l1 : Nat → (List Int) → (List S92) → Int → Int → (List Int) → (List S92) → Int → Int → Int → Option (Bool)
 | 0, _, _, _, _, _, _, _, _, _ => none
 | k22 + 1, l0_0, l0_1, a0_2, a0_3, l1_0, l1_1, a1_2, a1_3, p21 => if p21 < (l1_0.length : Int) then if 0 ≤ p21 then ((spec_l09In.f k22 l0_0 (rd l1_0 p21)).bind fun t25 => if t25 = true then spec_l24Covers.l1 k22 l0_0 l0_1 a0_2 a0_3 l1_0 l1_1 a1_2 a1_3 (wrap64 (p21 + 1)) else some false) else none else some (decide ((l1_0.length : Int) > 0))
end
def spec_l24Covers.f (k : Nat) (l0_0 : List Int) (l0_1 : List S92) (a0_2 : Int) (a0_3 : Int) (l1_0 : List Int) (l1_1 : List S92) (a1_2 : Int) (a1_3 : Int) : Option (Bool) := spec_l24Covers.l0 k l0_0 l0_1 a0_2 a0_3 l1_0 l1_1 a1_2 a1_3 0
theorem spec_l24Covers.ok {k : Nat} {l0_0 : List Int} {l0_1 : List S92} {a0_2 : Int} {a0_3 : Int} {l1_0 : List Int} {l1_1 : List S92} {a1_2 : Int} {a1_3 : Int} {r : Bool} (H : spec_l24Covers.f k l0_0 l0_1 a0_2 a0_3 l1_0 l1_1 a1_2 a1_3 = some r) : ACalls Try.prog 37 [] [.agg [.sl .o 1 (l0_0.map (eI .i64)), .sl .o 6 (l0_1.map e92), .lit (.int .i64 a0_2), .lit (.int .i64 a0_3)], .agg [.sl .o 1 (l1_0.map (eI .i64)), .sl .o 6 (l1_1.map e92), .lit (.int .i64 a1_2), .lit (.int .i64 a1_3)]] [] (.lit (.bool r)) := by
 refine acalls (fn := Try.f37) (nt := 47) Try.func37 rfl rfl (Nat.le_of_ble_eq_true rfl) fun E hE => ?_
 rw [spec_l24Covers.f] at H
 refine aw_grp1 ?_
 refine wk_start ?_
 refine kb g0 (bxA 0) ?_
 refine kb g0 (bxA 1) ?_
 refine kv g0 (asg) ?_
 refine wk_end ?_
 refine ac_next ?_
 refine aw_grp1 ?_
 refine aw_grp1 ?_
 refine wk_start ?_
 refine kv g0 (asg) ?_
 refine wk_end ?_
 refine ac_next ?_
 refine aw_block ?_
 refine aw_loop1 (fun (k_ : Nat) (p6 : Int) => k_ ≤ k ∧ spec_l24Covers.l0 k_ l0_0 l0_1 a0_2 a0_3 l1_0 l1_1 a1_2 a1_3 p6 = some r) (fun (p6 : Int) => ⟨[(2, .box 0 0), (3, .box 1 0), (5, .lit (.int .i64 p6))], [(0, .box 60 [.sl .o 1 (l0_0.map (eI .i64)), .sl .o 6 (l0_1.map e92), .lit (.int .i64 a0_2), .lit (.int .i64 a0_3)]), (1, .box 60 [.sl .o 1 (l1_0.map (eI .i64)), .sl .o 6 (l1_1.map e92), .lit (.int .i64 a1_2), .lit (.int .i64 a1_3)])]⟩) k 0 ⟨Nat.le_refl _, H⟩ (fun K_ h_ => acw hE [(0, 0), (1, 1)] 9999 h_) (fun _ => by intro h_; have h_ := h_.2; rw [spec_l24Covers.l0.eq_1] at h_; cases h_) ?_
 intro k7 p6 hq_ K13 hK14
 have hk7 := hq_.1
 have H := hq_.2
 clear hq_
 rw [spec_l24Covers.l0.eq_2] at H
 refine aw_grp1 ?_
 refine aw_grp1 ?_
 refine wk_start ?_
 refine kv g0 (mv) ?_
 refine kv g0 (faB 1 1) ?_
 refine kv g0 (ldB) ?_
 refine kv g0 (lnS lenE) ?_
 refine kv g0 (lss) ?_
 refine wk_end ?_
 refine ac_next ?_
 by_cases c8 : p6 < (l0_1.length : Int)
 ·rw [if_pos c8] at H
  refine aw_ifT ?_ (decide_eq_true c8)
  refine aw_skip ?_
  refine ac_next ?_
  refine aw_grp1 ?_
  refine aw_block ?_
  refine aw_grp1 ?_
  refine wk_start ?_
  refine kv g0 (faB 1 1) ?_
  refine kv g0 (ldB) ?_
  refine kv g0 (faB 1 1) ?_
  refine kv g0 (ldB) ?_
  refine kv g0 (mv) ?_
  obtain ⟨c9, H⟩ := of_if H
  refine kv g0 (ixS 92 (e92 (rd_T92 l0_1 p6)) c9 (getE (z := z92) c9 c8)) ?_
  refine kv g0 (ldRA 6 [.lit (.int .i64 ((rd_T92 l0_1 p6).f0)), .lit (.int .i64 ((rd_T92 l0_1 p6).f1.f0)), .lit (.int .i64 ((rd_T92 l0_1 p6).f1.f1)), .lit (.int .i64 ((rd_T92 l0_1 p6).f2)), .lit (.int .i64 ((rd_T92 l0_1 p6).f3.f0)), .lit (.int .i64 ((rd_T92 l0_1 p6).f3.f1))]) ?_
  obtain ⟨t10, A11, H⟩ := of_bind H
  refine kcS0 21 (.lit (.bool t10)) [] g0 (cal (spec_l24HasCond.ok A11) [] 9999 .n (hf := Try.func78)) rfl rfl ?_
  refine kv g0 (not_) ?_
  refine wk_end_draw hM (by kernel_rfl) ?_
  refine ac_next ?_
  by_cases c12 : t10 = true
  ·rw [if_pos c12] at H
   refine aw_ifF ?_ (nF c12)
   refine aw_skip ?_
   refine ac_blkN ?_
   refine ac_next ?_
   refine wk_start ?_
   refine kv g0 (mv) ?_
   refine kv g0 (add6) ?_
   refine kv g0 (asg) ?_
   refine wk_end ?_
   refine ac_k ?_
   exact acw hE [(0, 0), (1, 1)] 9999 (hK14 k7 (wrap64 (p6 + 1)) (Nat.le_refl _) ⟨by omega, H⟩)
  rw [if_neg c12] at H
  refine aw_ifT ?_ (nT (bF c12))
  refine aw_grp1 ?_
  refine wk_start ?_
  refine kv g0 (asg) ?_
  refine wk_end ?_
  refine ac_next ?_
  refine aw_ret ?_
  refine ac_blkR ?_
  refine ac_thenR ?_
  refine ac_thenR ?_
  refine ac_blkR ?_
  refine ac_thenR ?_
  obtain rfl := Option.some.inj H
  exact acr hE [.tmp 4] (.tmp .nil) (.one _) [] 9999
 rw [if_neg c8] at H
 refine aw_ifF ?_ (decide_eq_false c8)
 refine aw_exit ?_
 refine ac_then ?_
 refine ac_then ?_
 refine ac_hit rfl ?_
 refine ac_next ?_
 refine aw_grp1 ?_
 refine aw_grp1 ?_
 refine wk_start ?_
 refine kv g0 (faB 0 0) ?_
 refine kv g0 (ldB) ?_
 refine kv g0 (lnS lenE) ?_
 refine kv g0 (eql) ?_
 refine wk_end ?_
 refine ac_next ?_
 by_cases c15 : (l0_0.length : Int) = 0
 ·rw [if_pos c15] at H
  refine aw_ifT ?_ (eT c15)
  refine aw_grp1 ?_
  refine wk_start ?_
  refine kv g0 (asg) ?_
  refine wk_end ?_
  refine ac_next ?_
  refine aw_ret ?_
  refine ac_thenR ?_
  obtain rfl := Option.some.inj H
  exact acr hE [.tmp 4] (.tmp .nil) (.one _) [] 9999
 rw [if_neg c15] at H
 refine aw_ifF ?_ (eF c15)
 refine aw_skip ?_
 refine ac_next ?_
 refine aw_grp1 ?_
 refine aw_grp1 ?_
 refine wk_start ?_
 refine kv g0 (asg) ?_
 refine wk_end ?_
 refine ac_next ?_
 refine aw_block ?_
 refine aw_loop1 (fun (k_ : Nat) (p21 : Int) => k_ ≤ k7 ∧ spec_l24Covers.l1 k_ l0_0 l0_1 a0_2 a0_3 l1_0 l1_1 a1_2 a1_3 p21 = some r) (fun (p21 : Int) => ⟨[(2, .box 0 0), (3, .box 1 0), (6, .lit (.int .i64 p21))], [(0, .box 60 [.sl .o 1 (l0_0.map (eI .i64)), .sl .o 6 (l0_1.map e92), .lit (.int .i64 a0_2), .lit (.int .i64 a0_3)]), (1, .box 60 [.sl .o 1 (l1_0.map (eI .i64)), .sl .o 6 (l1_1.map e92), .lit (.int .i64 a1_2), .lit (.int .i64 a1_3)])]⟩) k7 0 ⟨Nat.le_refl _, H⟩ (fun K_ h_ => acw hE [(0, 0), (1, 1)] 9999 h_) (fun _ => by intro h_; have h_ := h_.2; rw [spec_l24Covers.l1.eq_1] at h_; cases h_) ?_
 intro k22 p21 hq_ K28 hK29
 have hk22 := hq_.1
 have H := hq_.2
 clear hq_
 rw [spec_l24Covers.l1.eq_2] at H
 refine aw_grp1 ?_
 refine aw_grp1 ?_
 refine wk_start ?_
 refine kv g0 (mv) ?_
 refine kv g0 (faB 0 0) ?_
 refine kv g0 (ldB) ?_
 refine kv g0 (lnS lenE) ?_
 refine kv g0 (lss) ?_
 refine wk_end ?_
 refine ac_next ?_
 by_cases c23 : p21 < (l1_0.length : Int)
 ·rw [if_pos c23] at H
  refine aw_ifT ?_ (decide_eq_true c23)
  refine aw_skip ?_
  refine ac_next ?_
  refine aw_grp1 ?_
  refine aw_block ?_
  refine aw_grp1 ?_
  refine wk_start ?_
  refine kv g0 (faB 0 0) ?_
  refine kv g0 (ldB) ?_
  refine kv g0 (faB 0 0) ?_
  refine kv g0 (ldB) ?_
  refine kv g0 (mv) ?_
  obtain ⟨c24, H⟩ := of_if H
  refine kv g0 (ixS 3 (eI .i64 (rd l1_0 p21)) c24 (getE (z := (0 : Int)) c24 c23)) ?_
  refine kv g0 (ldR (.lit (.int .i64 (rd l1_0 p21)))) ?_
  obtain ⟨t25, A26, H⟩ := of_bind H
  refine kcS0 41 (.lit (.bool t25)) [] g0 (cal (spec_l09In.ok A26) [] 9999 .n (hf := Try.func46)) rfl rfl ?_
  refine kv g0 (not_) ?_
  refine wk_end_draw hM (by kernel_rfl) ?_
  refine ac_next ?_
  by_cases c27 : t25 = true
  ·rw [if_pos c27] at H
   refine aw_ifF ?_ (nF c27)
   refine aw_skip ?_
   refine ac_blkN ?_
   refine ac_next ?_
   refine wk_start ?_
   refine kv g0 (mv) ?_
   refine kv g0 (add6) ?_
   refine kv g0 (asg) ?_
   refine wk_end ?_
   refine ac_k ?_
   exact acw hE [(0, 0), (1, 1)] 9999 (hK29 k22 (wrap64 (p21 + 1)) (Nat.le_refl _) ⟨by omega, H⟩)
  rw [if_neg c27] at H
  refine aw_ifT ?_ (nT (bF c27))
  refine aw_grp1 ?_
  refine wk_start ?_
  refine kv g0 (asg) ?_
  refine wk_end ?_
  refine ac_next ?_
  refine aw_ret ?_
  refine ac_blkR ?_
  refine ac_thenR ?_
  refine ac_thenR ?_
  refine ac_blkR ?_
  refine ac_thenR ?_
  obtain rfl := Option.some.inj H
  exact acr hE [.tmp 4] (.tmp .nil) (.one _) [] 9999
 rw [if_neg c23] at H
 refine aw_ifF ?_ (decide_eq_false c23)
 refine aw_exit ?_
 refine ac_then ?_
 refine ac_then ?_
 refine ac_hit rfl ?_
 refine ac_next ?_
 refine aw_grp1 ?_
 refine wk_start ?_
 refine kv g0 (faB 0 0) ?_
 refine kv g0 (ldB) ?_
 refine kv g0 (lnS lenE) ?_
 refine kv g0 (gtr) ?_
 refine kv g0 (asg) ?_
 refine wk_end ?_
 refine ac_next ?_
 refine aw_ret ?_
 obtain rfl := Option.some.inj H
 exact acr hE [.tmp 4] (.tmp .nil) (.one _) [] 9999
/-! spec_Shadowed -/
mutual
def spec_Shadowed.l0 : Nat → Int → Int → Int → (List S60) → Int → (List Int) → Bool → Int → Option ((List Int))
 | 0, _, _, _, _, _, _, _, _ => none
 | k43 + 1, a0_0, a0_1, a0_2, l0_3, p9, q32, p41, p42 => if p42 < p9 then if p41 = true then spec_Shadowed.l0 k43 a0_0 a0_1 a0_2 l0_3 p9 q32 true (wrap64 (p42 + 1)) else (if 0 ≤ p42 then (if p42 < (l0_3.length : Int) then (if 0 ≤ p9 then ((spec_l24Covers.f k43 ((rd_T60 l0_3 p42).f0) ((rd_T60 l0_3 p42).f1) ((rd_T60 l0_3 p42).f2) ((rd_T60 l0_3 p42).f3) ((rd_T60 l0_3 p9).f0) ((rd_T60 l0_3 p9).f1) ((rd_T60 l0_3 p9).f2) ((rd_T60 l0_3 p9).f3)).bind fun t49 => spec_Shadowed.l0 k43 a0_0 a0_1 a0_2 l0_3 p9 q32 t49 (wrap64 (p42 + 1))) else none) else none) else none) else if p41 = true then (if q32.length + ([p9] : List Int).length < 17592186044416 then spec_Shadowed.l1 k43 a0_0 a0_1 a0_2 l0_3 (q32 ++ ([p9] : List Int)) (wrap64 (p9 + 1)) else none) else spec_Shadowed.l1 k43 a0_0 a0_1 a0_2 l0_3 q32 (wrap64 (p9 + 1))
def spec_Shadowed.l1 : Nat → Int → Int → Int → (List S60) → (List Int) → Int → Option ((List Int))
 | 0, _, _, _, _, _, _ => none
 | k33 + 1, a0_0, a0_1, a0_2, l0_3, q32, p9 => if p9 < (l0_3.length : Int) then spec_Shadowed.l0 k33 a0_0 a0_1 a0_2 l0_3 p9 q32 false 0 else some q32
end
def spec_Shadowed.f (k : Nat) (a0_0 : Int) (a0_1 : Int) (a0_2 : Int) (l0_3 : List S60) : Option ((List Int)) := (spec_PolicyOk.f k a0_0 a0_1 a0_2 l0_3).bind fun t1 => if t1 = true then spec_Shadowed.l1 k a0_0 a0_1 a0_2 l0_3 ([] : List Int) 0 else some ([] : List Int)
theorem spec_Shadowed.ok {k : Nat} {a0_0 : Int} {a0_1 : Int} {a0_2 : Int} {l0_3 : List S60} {r : (List Int)} (H : spec_Shadowed.f k a0_0 a0_1 a0_2 l0_3 = some r) : ACalls Try.prog 9 [] [.agg [.lit (.int .i64 a0_0), .lit (.int .i64 a0_1), .lit (.int .i64 a0_2), .sl .o 4 (l0_3.map e60)]] [(0, .row 3 1 (r.map (eI .i64)))] (.row 0) := by
 refine acalls (fn := Try.f9) (nt := 44) Try.func9 rfl rfl (Nat.le_of_ble_eq_true rfl) fun E hE => ?_
 rw [spec_Shadowed.f] at H
 refine aw_grp1 ?_
 refine wk_start ?_
 refine kb g0 (bxA 0) ?_
 refine kv g0 (asg) ?_
 refine wk_end ?_
 refine ac_next ?_
 refine aw_grp1 ?_
 refine wk_start ?_
 refine kb g0 (bsl 1 3 1 [.int .i64 0] (([] : List Int).map (eI .i64))) ?_
 refine kv g0 (asg) ?_
 refine wk_end ?_
 refine ac_next ?_
 refine aw_grp1 ?_
 refine aw_grp1 ?_
 refine wk_start ?_
 refine kv g0 (ldBA 4 [.lit (.int .i64 a0_0), .lit (.int .i64 a0_1), .lit (.int .i64 a0_2), .sl .o 4 (l0_3.map e60)]) ?_
 obtain ⟨t1, A2, H⟩ := of_bind H
 refine kcS0 9 (.lit (.bool t1)) [] g0 (cal (spec_PolicyOk.ok A2) [] 9999 .n (hf := Try.func36)) rfl rfl ?_
 refine kv g0 (not_) ?_
 refine wk_end ?_
 refine ac_next ?_
 by_cases c3 : t1 = true
 ·rw [if_pos c3] at H
  refine aw_ifF ?_ (nF c3)
  refine aw_skip ?_
  refine ac_next ?_
  refine aw_grp1 ?_
  refine aw_grp1 ?_
  refine wk_start ?_
  refine kv g0 (asg) ?_
  refine wk_end ?_
  refine ac_next ?_
  refine aw_block ?_
  refine aw_loop2 (fun (k_ : Nat) (q32 : List Int) (p9 : Int) => k_ ≤ k ∧ spec_Shadowed.l1 k_ a0_0 a0_1 a0_2 l0_3 q32 p9 = some r) (fun (q32 : List Int) (p9 : Int) => ⟨[(1, .box 0 0), (3, .row 1), (4, .lit (.int .i64 p9))], [(0, .box 30 [.lit (.int .i64 a0_0), .lit (.int .i64 a0_1), .lit (.int .i64 a0_2), .sl .o 4 (l0_3.map e60)]), (1, .row 3 1 (q32.map (eI .i64)))]⟩) k ([] : List Int) 0 ⟨Nat.le_refl _, H⟩ (fun K_ h_ => acw hE [(0, 0), (1, 1)] 9999 h_) (fun _ _ => by intro h_; have h_ := h_.2; rw [spec_Shadowed.l1.eq_1] at h_; cases h_) ?_
  intro k33 q32 p9 hq_ K55 hK56
  have hk33 := hq_.1
  have H := hq_.2
  clear hq_
  rw [spec_Shadowed.l1.eq_2] at H
  refine aw_grp1 ?_
  refine aw_grp1 ?_
  refine wk_start ?_
  refine kv g0 (mv) ?_
  refine kv g0 (faB 3 3) ?_
  refine kv g0 (ldB) ?_
  refine kv g0 (lnS lenE) ?_
  refine kv g0 (lss) ?_
  refine wk_end ?_
  refine ac_next ?_
  by_cases c34 : p9 < (l0_3.length : Int)
  ·rw [if_pos c34] at H
   refine aw_ifT ?_ (decide_eq_true c34)
   refine aw_skip ?_
   refine ac_next ?_
   refine aw_grp1 ?_
   refine aw_block ?_
   refine aw_grp1 ?_
   refine wk_start ?_
   refine kv g0 (asg) ?_
   refine wk_end ?_
   refine ac_next ?_
   refine aw_grp1 ?_
   refine aw_grp1 ?_
   refine wk_start ?_
   refine kv g0 (asg) ?_
   refine wk_end ?_
   refine ac_next ?_
   refine aw_block ?_
   refine aw_loop2 (fun (k_ : Nat) (p41 : Bool) (p42 : Int) => k_ ≤ k33 ∧ spec_Shadowed.l0 k_ a0_0 a0_1 a0_2 l0_3 p9 q32 p41 p42 = some r) (fun (p41 : Bool) (p42 : Int) => ⟨[(1, .box 0 0), (3, .row 1), (4, .lit (.int .i64 p9)), (5, .lit (.bool p41)), (6, .lit (.int .i64 p42))], [(0, .box 30 [.lit (.int .i64 a0_0), .lit (.int .i64 a0_1), .lit (.int .i64 a0_2), .sl .o 4 (l0_3.map e60)]), (1, .row 3 1 (q32.map (eI .i64)))]⟩) k33 false 0 ⟨Nat.le_refl _, H⟩ (fun K_ h_ => acw hE [(0, 0), (1, 1)] 9999 h_) (fun _ _ => by intro h_; have h_ := h_.2; rw [spec_Shadowed.l0.eq_1] at h_; cases h_) ?_
   intro k43 p41 p42 hq_ K51 hK52
   have hk43 := hq_.1
   have H := hq_.2
   clear hq_
   rw [spec_Shadowed.l0.eq_2] at H
   refine aw_grp1 ?_
   refine aw_grp1 ?_
   refine wk_start ?_
   refine kv g0 (mv) ?_
   refine kv g0 (mv) ?_
   refine kv g0 (lss) ?_
   refine wk_end ?_
   refine ac_next ?_
   by_cases c44 : p42 < p9
   ·rw [if_pos c44] at H
    refine aw_ifT ?_ (decide_eq_true c44)
    refine aw_skip ?_
    refine ac_next ?_
    refine aw_grp1 ?_
    refine aw_block ?_
    refine wk_start ?_
    refine kv g0 (mv) ?_
    refine kv g0 (mv) ?_
    by_cases c45 : p41 = true
    ·rw [if_pos c45] at H
     refine kx (hF c45) ?_
     refine kx (hF c45) ?_
     refine kx (hF c45) ?_
     refine kx (hF c45) ?_
     refine kx (hF c45) ?_
     refine kx (hF c45) ?_
     refine kx (hF c45) ?_
     refine kx (hF c45) ?_
     refine kx (hF c45) ?_
     refine kx (hF c45) ?_
     refine kx (hF c45) ?_
     refine kv g0 (pkT c45) ?_
     refine kv g0 (asg) ?_
     refine wk_end_draw hM (by kernel_rfl) ?_
     refine ac_blkN ?_
     refine ac_next ?_
     refine wk_start ?_
     refine kv g0 (mv) ?_
     refine kv g0 (add6) ?_
     refine kv g0 (asg) ?_
     refine wk_end ?_
     refine ac_k ?_
     exact acw hE [(0, 0), (1, 1)] 9999 (hK52 k43 true (wrap64 (p42 + 1)) (Nat.le_refl _) ⟨by omega, H⟩)
    rw [if_neg c45] at H
    refine kv (g1 (bF c45)) (faB 3 3) ?_
    refine kv (g1 (bF c45)) (ldB) ?_
    refine kv (g1 (bF c45)) (mv) ?_
    obtain ⟨c46, H⟩ := of_if H
    obtain ⟨c47, H⟩ := of_if H
    refine kv (g1 (bF c45)) (ixS 60 (e60 (rd_T60 l0_3 p42)) c46 (getE (z := z60) c46 c47)) ?_
    refine kv (g1 (bF c45)) (ldRA 4 [.sl .o 1 (((rd_T60 l0_3 p42).f0).map (eI .i64)), .sl .o 6 (((rd_T60 l0_3 p42).f1).map e92), .lit (.int .i64 ((rd_T60 l0_3 p42).f2)), .lit (.int .i64 ((rd_T60 l0_3 p42).f3))]) ?_
    refine kv (g1 (bF c45)) (faB 3 3) ?_
    refine kv (g1 (bF c45)) (ldB) ?_
    refine kv (g1 (bF c45)) (mv) ?_
    obtain ⟨c48, H⟩ := of_if H
    refine kv (g1 (bF c45)) (ixS 60 (e60 (rd_T60 l0_3 p9)) c48 (getE (z := z60) c48 c34)) ?_
    refine kv (g1 (bF c45)) (ldRA 4 [.sl .o 1 (((rd_T60 l0_3 p9).f0).map (eI .i64)), .sl .o 6 (((rd_T60 l0_3 p9).f1).map e92), .lit (.int .i64 ((rd_T60 l0_3 p9).f2)), .lit (.int .i64 ((rd_T60 l0_3 p9).f3))]) ?_
    obtain ⟨t49, A50, H⟩ := of_bind H
    refine kcS0 36 (.lit (.bool t49)) [] (g1 (bF c45)) (cal (spec_l24Covers.ok A50) [] 9999 .n (hf := Try.func37)) rfl rfl ?_
    refine kv g0 (pkF (bF c45)) ?_
    refine kv g0 (asg) ?_
    refine wk_end_draw hM (by kernel_rfl) ?_
    refine ac_blkN ?_
    refine ac_next ?_
    refine wk_start ?_
    refine kv g0 (mv) ?_
    refine kv g0 (add6) ?_
    refine kv g0 (asg) ?_
    refine wk_end ?_
    refine ac_k ?_
    exact acw hE [(0, 0), (1, 1)] 9999 (hK52 k43 t49 (wrap64 (p42 + 1)) (Nat.le_refl _) ⟨by omega, H⟩)
   rw [if_neg c44] at H
   refine aw_ifF ?_ (decide_eq_false c44)
   refine aw_exit ?_
   refine ac_then ?_
   refine ac_then ?_
   refine ac_hit rfl ?_
   refine ac_next ?_
   refine aw_grp1 ?_
   refine wk_start ?_
   refine kv g0 (mv) ?_
   refine wk_end ?_
   refine ac_next ?_
   by_cases c53 : p41 = true
   ·rw [if_pos c53] at H
    refine aw_ifT ?_ c53
    refine wk_start ?_
    refine kv g0 (mv) ?_
    refine kv g0 (mv) ?_
    refine kb g0 (bsl 2 3 1 [.int .i64 0] (([p9] : List Int).map (eI .i64))) ?_
    obtain ⟨c54, H⟩ := of_if H
    refine kc g0 (apR 3 3 1 8 [.int .i64 0] ((q32 ++ ([p9] : List Int)).map (eI .i64)) (.row rfl) (apb c54 rfl) appE) ?_
    refine kv g0 (asg) ?_
    refine wk_end ?_
    refine ac_blkN ?_
    refine ac_next ?_
    refine wk_start ?_
    refine kv g0 (mv) ?_
    refine kv g0 (add6) ?_
    refine kv g0 (asg) ?_
    refine wk_end ?_
    refine ac_k ?_
    exact acw hE [(0, 0), (1, 3)] 9999 (hK56 k43 (q32 ++ ([p9] : List Int)) (wrap64 (p9 + 1)) (by omega) ⟨by omega, H⟩)
   rw [if_neg c53] at H
   refine aw_ifF ?_ (bF c53)
   refine aw_skip ?_
   refine ac_blkN ?_
   refine ac_next ?_
   refine wk_start ?_
   refine kv g0 (mv) ?_
   refine kv g0 (add6) ?_
   refine kv g0 (asg) ?_
   refine wk_end ?_
   refine ac_k ?_
   exact acw hE [(0, 0), (1, 1)] 9999 (hK56 k43 q32 (wrap64 (p9 + 1)) (by omega) ⟨by omega, H⟩)
  rw [if_neg c34] at H
  refine aw_ifF ?_ (decide_eq_false c34)
  refine aw_exit ?_
  refine ac_then ?_
  refine ac_then ?_
  refine ac_hit rfl ?_
  refine ac_next ?_
  refine aw_grp1 ?_
  refine wk_start ?_
  refine kv g0 (mv) ?_
  refine kv g0 (asg) ?_
  refine wk_end ?_
  refine ac_next ?_
  refine aw_ret ?_
  obtain rfl := Option.some.inj H
  exact acr hE [.tmp 2] (.tmp .nil) (.one _) [(0, 1)] 9999
 rw [if_neg c3] at H
 refine aw_ifT ?_ (nT (bF c3))
 refine aw_grp1 ?_
 refine wk_start ?_
 refine kv g0 (mv) ?_
 refine kv g0 (asg) ?_
 refine wk_end ?_
 refine ac_next ?_
 refine aw_ret ?_
 refine ac_thenR ?_
 obtain rfl := Option.some.inj H
 exact acr hE [.tmp 2] (.tmp .nil) (.one _) [(0, 1)] 9999
/-! spec_Unshadowed -/
def spec_Unshadowed.l0 : Nat → (Int × Int × Int × (List S60)) → ((List Int)) → (List S60) → Int → Option (Int × Int × Int × (List S60))
 | 0, _, _, _, _ => none
 | k16 + 1, t1, t3, q14, p15 => if p15 < (t1.2.2.2.length : Int) then (spec_l09In.f k16 t3 p15).bind fun t18 => if t18 = true then spec_Unshadowed.l0 k16 t1 t3 q14 (wrap64 (p15 + 1)) else (if 0 ≤ p15 then (if q14.length + ([(⟨(rd_T60 t1.2.2.2 p15).f0, (rd_T60 t1.2.2.2 p15).f1, (rd_T60 t1.2.2.2 p15).f2, (rd_T60 t1.2.2.2 p15).f3⟩ : S60)] : List S60).length < 2199023255552 then spec_Unshadowed.l0 k16 t1 t3 (q14 ++ ([(⟨(rd_T60 t1.2.2.2 p15).f0, (rd_T60 t1.2.2.2 p15).f1, (rd_T60 t1.2.2.2 p15).f2, (rd_T60 t1.2.2.2 p15).f3⟩ : S60)] : List S60)) (wrap64 (p15 + 1)) else none) else none) else some (t1.1, t1.2.1, t1.2.2.1, q14)
def spec_Unshadowed.f (k : Nat) (a0_0 : Int) (a0_1 : Int) (a0_2 : Int) (l0_3 : List S60) : Option (Int × Int × Int × (List S60)) := (spec_l09Copy.f k a0_0 a0_1 a0_2 l0_3).bind fun t1 => (spec_Shadowed.f k a0_0 a0_1 a0_2 l0_3).bind fun t3 => (spec_PolicyOk.f k a0_0 a0_1 a0_2 l0_3).bind fun t5 => if t5 = true then spec_Unshadowed.l0 k t1 t3 ([] : List S60) 0 else some (t1.1, t1.2.1, t1.2.2.1, t1.2.2.2)
theorem spec_Unshadowed.ok {k : Nat} {a0_0 : Int} {a0_1 : Int} {a0_2 : Int} {l0_3 : List S60} {r : Int × Int × Int × (List S60)} (H : spec_Unshadowed.f k a0_0 a0_1 a0_2 l0_3 = some r) : ACalls Try.prog 20 [] [.agg [.lit (.int .i64 a0_0), .lit (.int .i64 a0_1), .lit (.int .i64 a0_2), .sl .o 4 (l0_3.map e60)]] [(0, .row 60 4 (r.2.2.2.map e60))] (.agg [.lit (.int .i64 r.1), .lit (.int .i64 r.2.1), .lit (.int .i64 r.2.2.1), .row 0]) := by
 refine acalls (fn := Try.f20) (nt := 38) Try.func20 rfl rfl (Nat.le_of_ble_eq_true rfl) fun E hE => ?_
 rw [spec_Unshadowed.f] at H
 refine aw_grp1 ?_
 refine wk_start ?_
 refine kb g0 (bxA 0) ?_
 refine kb g0 (alc 1 [.int .i64 0, .int .i64 0, .int .i64 0, .slice none 0 0] [.lit (.int .i64 0), .lit (.int .i64 0), .lit (.int .i64 0), .lit (.slice none 0 0)]) ?_
 refine wk_end ?_
 refine ac_next ?_
 refine aw_grp1 ?_
 refine wk_start ?_
 refine kv g0 (ldBA 4 [.lit (.int .i64 a0_0), .lit (.int .i64 a0_1), .lit (.int .i64 a0_2), .sl .o 4 (l0_3.map e60)]) ?_
 obtain ⟨t1, A2, H⟩ := of_bind H
 refine kcS1 8 (.agg [.lit (.int .i64 t1.1), .lit (.int .i64 t1.2.1), .lit (.int .i64 t1.2.2.1), .row 2]) [(2, .row 60 4 (t1.2.2.2.map e60))] g0 (cal (spec_l09Copy.ok A2) [2] 9999 .n (hf := Try.func45)) rfl rfl ?_
 refine kb g0 (alc 3 [.int .i64 0, .int .i64 0, .int .i64 0, .slice none 0 0] [.lit (.int .i64 0), .lit (.int .i64 0), .lit (.int .i64 0), .lit (.slice none 0 0)]) ?_
 refine ks g0 (stB 4 [.lit (.int .i64 t1.1), .lit (.int .i64 t1.2.1), .lit (.int .i64 t1.2.2.1), .row 2]) ?_
 refine wk_end ?_
 refine ac_next ?_
 refine aw_grp1 ?_
 refine wk_start ?_
 refine kv g0 (ldBA 4 [.lit (.int .i64 a0_0), .lit (.int .i64 a0_1), .lit (.int .i64 a0_2), .sl .o 4 (l0_3.map e60)]) ?_
 obtain ⟨t3, A4, H⟩ := of_bind H
 refine kcS1 10 (.row 4) [(4, .row 3 1 (t3.map (eI .i64)))] g0 (cal (spec_Shadowed.ok A4) [4] 9999 .n (hf := Try.func9)) rfl rfl ?_
 refine kv g0 (asg) ?_
 refine wk_end ?_
 refine ac_next ?_
 refine aw_grp1 ?_
 refine aw_grp1 ?_
 refine wk_start ?_
 refine kv g0 (ldBA 4 [.lit (.int .i64 a0_0), .lit (.int .i64 a0_1), .lit (.int .i64 a0_2), .sl .o 4 (l0_3.map e60)]) ?_
 obtain ⟨t5, A6, H⟩ := of_bind H
 refine kcS0 12 (.lit (.bool t5)) [] g0 (cal (spec_PolicyOk.ok A6) [] 9999 .n (hf := Try.func36)) rfl rfl ?_
 refine kv g0 (not_) ?_
 refine wk_end ?_
 refine ac_next ?_
 by_cases c7 : t5 = true
 ·rw [if_pos c7] at H
  refine aw_ifF ?_ (nF c7)
  refine aw_skip ?_
  refine ac_next ?_
  refine aw_grp1 ?_
  refine wk_start ?_
  refine kb g0 (bsl 5 60 4 [.slice none 0 0, .slice none 0 0, .int .i64 0, .int .i64 0] (([] : List S60).map e60)) ?_
  refine kv g0 (asg) ?_
  refine wk_end ?_
  refine ac_next ?_
  refine aw_grp1 ?_
  refine aw_grp1 ?_
  refine wk_start ?_
  refine kv g0 (asg) ?_
  refine wk_end ?_
  refine ac_next ?_
  refine aw_block ?_
  refine aw_loop2 (fun (k_ : Nat) (q14 : List S60) (p15 : Int) => k_ ≤ k ∧ spec_Unshadowed.l0 k_ t1 t3 q14 p15 = some r) (fun (q14 : List S60) (p15 : Int) => ⟨[(2, .box 1 0), (3, .box 3 0), (4, .row 4), (5, .row 5), (6, .lit (.int .i64 p15))], [(1, .box 30 [.lit (.int .i64 0), .lit (.int .i64 0), .lit (.int .i64 0), .lit (.slice none 0 0)]), (2, .row 60 4 (t1.2.2.2.map e60)), (3, .box 30 [.lit (.int .i64 t1.1), .lit (.int .i64 t1.2.1), .lit (.int .i64 t1.2.2.1), .row 2]), (4, .row 3 1 (t3.map (eI .i64))), (5, .row 60 4 (q14.map e60))]⟩) k ([] : List S60) 0 ⟨Nat.le_refl _, H⟩ (fun K_ h_ => acw hE [(1, 1), (2, 2), (3, 3), (4, 4), (5, 5)] 9999 h_) (fun _ _ => by intro h_; have h_ := h_.2; rw [spec_Unshadowed.l0.eq_1] at h_; cases h_) ?_
  intro k16 q14 p15 hq_ K23 hK24
  have hk16 := hq_.1
  have H := hq_.2
  clear hq_
  rw [spec_Unshadowed.l0.eq_2] at H
  refine aw_grp1 ?_
  refine aw_grp1 ?_
  refine wk_start ?_
  refine kv g0 (mv) ?_
  refine kv g0 (faB 3 3) ?_
  refine kv g0 (ldB) ?_
  refine kv g0 (lnR lenE) ?_
  refine kv g0 (lss) ?_
  refine wk_end ?_
  refine ac_next ?_
  by_cases c17 : p15 < (t1.2.2.2.length : Int)
  ·rw [if_pos c17] at H
   refine aw_ifT ?_ (decide_eq_true c17)
   refine aw_skip ?_
   refine ac_next ?_
   refine aw_grp1 ?_
   refine aw_block ?_
   refine aw_grp1 ?_
   refine wk_start ?_
   refine kv g0 (mv) ?_
   refine kv g0 (mv) ?_
   obtain ⟨t18, A19, H⟩ := of_bind H
   refine kcS0 25 (.lit (.bool t18)) [] g0 (cal (spec_l09In.ok A19) [] 9999 .n (hf := Try.func46)) rfl rfl ?_
   refine kv g0 (not_) ?_
   refine wk_end ?_
   refine ac_next ?_
   by_cases c20 : t18 = true
   ·rw [if_pos c20] at H
    refine aw_ifF ?_ (nF c20)
    refine aw_skip ?_
    refine ac_blkN ?_
    refine ac_next ?_
    refine wk_start ?_
    refine kv g0 (mv) ?_
    refine kv g0 (add6) ?_
    refine kv g0 (asg) ?_
    refine wk_end ?_
    refine ac_k ?_
    exact acw hE [(1, 1), (2, 2), (3, 3), (4, 4), (5, 5)] 9999 (hK24 k16 q14 (wrap64 (p15 + 1)) (Nat.le_refl _) ⟨by omega, H⟩)
   rw [if_neg c20] at H
   refine aw_ifT ?_ (nT (bF c20))
   refine wk_start ?_
   refine kv g0 (mv) ?_
   refine kv g0 (faB 3 3) ?_
   refine kv g0 (ldB) ?_
   refine kv g0 (mv) ?_
   obtain ⟨c21, H⟩ := of_if H
   refine kv g0 (ixR 60 c21 (ltE c17)) ?_
   refine kv g0 (ldEA 4 (e60 (rd_T60 t1.2.2.2 p15)) [.sl .n 1 (((rd_T60 t1.2.2.2 p15).f0).map (eI .i64)), .sl .n 6 (((rd_T60 t1.2.2.2 p15).f1).map e92), .lit (.int .i64 ((rd_T60 t1.2.2.2 p15).f2)), .lit (.int .i64 ((rd_T60 t1.2.2.2 p15).f3))] (getE (z := z60) c21 c17)) ?_
   refine kb g0 (bsl 6 60 4 [.slice none 0 0, .slice none 0 0, .int .i64 0, .int .i64 0] (([(⟨(rd_T60 t1.2.2.2 p15).f0, (rd_T60 t1.2.2.2 p15).f1, (rd_T60 t1.2.2.2 p15).f2, (rd_T60 t1.2.2.2 p15).f3⟩ : S60)] : List S60).map e60)) ?_
   obtain ⟨c22, H⟩ := of_if H
   refine kc g0 (apR 7 60 4 64 [.slice none 0 0, .slice none 0 0, .int .i64 0, .int .i64 0] ((q14 ++ ([(⟨(rd_T60 t1.2.2.2 p15).f0, (rd_T60 t1.2.2.2 p15).f1, (rd_T60 t1.2.2.2 p15).f2, (rd_T60 t1.2.2.2 p15).f3⟩ : S60)] : List S60)).map e60) (.row rfl) (apb c22 rfl) appE) ?_
   refine kv g0 (asg) ?_
   refine wk_end ?_
   refine ac_blkN ?_
   refine ac_next ?_
   refine wk_start ?_
   refine kv g0 (mv) ?_
   refine kv g0 (add6) ?_
   refine kv g0 (asg) ?_
   refine wk_end ?_
   refine ac_k ?_
   exact acw hE [(1, 1), (2, 2), (3, 3), (4, 4), (5, 7)] 9999 (hK24 k16 (q14 ++ ([(⟨(rd_T60 t1.2.2.2 p15).f0, (rd_T60 t1.2.2.2 p15).f1, (rd_T60 t1.2.2.2 p15).f2, (rd_T60 t1.2.2.2 p15).f3⟩ : S60)] : List S60)) (wrap64 (p15 + 1)) (Nat.le_refl _) ⟨by omega, H⟩)
  rw [if_neg c17] at H
  refine aw_ifF ?_ (decide_eq_false c17)
  refine aw_exit ?_
  refine ac_then ?_
  refine ac_then ?_
  refine ac_hit rfl ?_
  refine ac_next ?_
  refine aw_grp1 ?_
  refine wk_start ?_
  refine kv g0 (mv) ?_
  refine kv g0 (faB 3 3) ?_
  refine ks g0 (stB 1 [.lit (.int .i64 t1.1), .lit (.int .i64 t1.2.1), .lit (.int .i64 t1.2.2.1), .row 5]) ?_
  refine wk_end ?_
  refine ac_next ?_
  refine aw_grp1 ?_
  refine wk_start ?_
  refine kv g0 (ldBA 4 [.lit (.int .i64 t1.1), .lit (.int .i64 t1.2.1), .lit (.int .i64 t1.2.2.1), .row 5]) ?_
  refine ks g0 (stB 4 [.lit (.int .i64 t1.1), .lit (.int .i64 t1.2.1), .lit (.int .i64 t1.2.2.1), .row 5]) ?_
  refine wk_end ?_
  refine ac_next ?_
  refine aw_ret ?_
  obtain rfl := Option.some.inj H
  exact acr hE [.cell 2 30] (rcA 4 .nil) (.one _) [(0, 5)] 9999
 rw [if_neg c7] at H
 refine aw_ifT ?_ (nT (bF c7))
 refine aw_grp1 ?_
 refine wk_start ?_
 refine kv g0 (ldBA 4 [.lit (.int .i64 t1.1), .lit (.int .i64 t1.2.1), .lit (.int .i64 t1.2.2.1), .row 2]) ?_
 refine ks g0 (stB 4 [.lit (.int .i64 t1.1), .lit (.int .i64 t1.2.1), .lit (.int .i64 t1.2.2.1), .row 2]) ?_
 refine wk_end ?_
 refine ac_next ?_
 refine aw_ret ?_
 refine ac_thenR ?_
 obtain rfl := Option.some.inj H
 exact acr hE [.cell 2 30] (rcA 4 .nil) (.one _) [(0, 2)] 9999
/-! spec_Lessened -/
mutual
def spec_Lessened.l0 : Nat → Int → Int → Int → (List S60) → (Int × Int × Int × (List S60)) → Int → Option (Int × Int × Int × (List S60))
 | 0, _, _, _, _, _, _ => none
 | k13 + 1, a0_0, a0_1, a0_2, l0_3, t1, p12 => if p12 > 0 then (if 0 ≤ (wrap64 (p12 - 1)) then (if (wrap64 (p12 - 1)) < (t1.2.2.2.length : Int) then (if ((rd_T60 t1.2.2.2 (wrap64 (p12 - 1))).f2) = a0_1 then if ((rd_T60 t1.2.2.2 (wrap64 (p12 - 1))).f3) = a0_2 then spec_Lessened.l0 k13 a0_0 a0_1 a0_2 l0_3 t1 (wrap64 (p12 - 1)) else spec_Lessened.j0 k13 t1 p12 else spec_Lessened.j0 k13 t1 p12) else none) else none) else spec_Lessened.j0 k13 t1 p12
def spec_Lessened.j0 : Nat → (Int × Int × Int × (List S60)) → Int → Option (Int × Int × Int × (List S60))
 | 0, _, _ => none
 | k22 + 1, t1, p21 => if 0 ≤ p21 then (if p21 ≤ (t1.2.2.2.length : Int) then (if ([] : List S60).length + (t1.2.2.2.take p21.toNat).length < 2199023255552 then some (t1.1, t1.2.1, t1.2.2.1, ([] : List S60) ++ (t1.2.2.2.take p21.toNat)) else none) else none) else none
end
def spec_Lessened.f (k : Nat) (a0_0 : Int) (a0_1 : Int) (a0_2 : Int) (l0_3 : List S60) : Option (Int × Int × Int × (List S60)) := (spec_Unshadowed.f k a0_0 a0_1 a0_2 l0_3).bind fun t1 => (spec_PolicyOk.f k a0_0 a0_1 a0_2 l0_3).bind fun t3 => if t3 = true then spec_Lessened.l0 k a0_0 a0_1 a0_2 l0_3 t1 (t1.2.2.2.length : Int) else some (t1.1, t1.2.1, t1.2.2.1, t1.2.2.2)
theorem spec_Lessened.ok {k : Nat} {a0_0 : Int} {a0_1 : Int} {a0_2 : Int} {l0_3 : List S60} {r : Int × Int × Int × (List S60)} (H : spec_Lessened.f k a0_0 a0_1 a0_2 l0_3 = some r) : ACalls Try.prog 22 [] [.agg [.lit (.int .i64 a0_0), .lit (.int .i64 a0_1), .lit (.int .i64 a0_2), .sl .o 4 (l0_3.map e60)]] [(0, .row 60 4 (r.2.2.2.map e60))] (.agg [.lit (.int .i64 r.1), .lit (.int .i64 r.2.1), .lit (.int .i64 r.2.2.1), .row 0]) := by
 refine acalls (fn := Try.f22) (nt := 50) Try.func22 rfl rfl (Nat.le_of_ble_eq_true rfl) fun E hE => ?_
 rw [spec_Lessened.f] at H
 refine aw_grp1 ?_
 refine wk_start ?_
 refine kb g0 (bxA 0) ?_
 refine kb g0 (alc 1 [.int .i64 0, .int .i64 0, .int .i64 0, .slice none 0 0] [.lit (.int .i64 0), .lit (.int .i64 0), .lit (.int .i64 0), .lit (.slice none 0 0)]) ?_
 refine wk_end ?_
 refine ac_next ?_
 refine aw_grp1 ?_
 refine wk_start ?_
 refine kv g0 (ldBA 4 [.lit (.int .i64 a0_0), .lit (.int .i64 a0_1), .lit (.int .i64 a0_2), .sl .o 4 (l0_3.map e60)]) ?_
 obtain ⟨t1, A2, H⟩ := of_bind H
 refine kcS1 6 (.agg [.lit (.int .i64 t1.1), .lit (.int .i64 t1.2.1), .lit (.int .i64 t1.2.2.1), .row 2]) [(2, .row 60 4 (t1.2.2.2.map e60))] g0 (cal (spec_Unshadowed.ok A2) [2] 9999 .n (hf := Try.func20)) rfl rfl ?_
 refine kb g0 (alc 3 [.int .i64 0, .int .i64 0, .int .i64 0, .slice none 0 0] [.lit (.int .i64 0), .lit (.int .i64 0), .lit (.int .i64 0), .lit (.slice none 0 0)]) ?_
 refine ks g0 (stB 4 [.lit (.int .i64 t1.1), .lit (.int .i64 t1.2.1), .lit (.int .i64 t1.2.2.1), .row 2]) ?_
 refine wk_end ?_
 refine ac_next ?_
 refine aw_grp1 ?_
 refine aw_grp1 ?_
 refine wk_start ?_
 refine kv g0 (ldBA 4 [.lit (.int .i64 a0_0), .lit (.int .i64 a0_1), .lit (.int .i64 a0_2), .sl .o 4 (l0_3.map e60)]) ?_
 obtain ⟨t3, A4, H⟩ := of_bind H
 refine kcS0 8 (.lit (.bool t3)) [] g0 (cal (spec_PolicyOk.ok A4) [] 9999 .n (hf := Try.func36)) rfl rfl ?_
 refine kv g0 (not_) ?_
 refine wk_end ?_
 refine ac_next ?_
 by_cases c5 : t3 = true
 ·rw [if_pos c5] at H
  refine aw_ifF ?_ (nF c5)
  refine aw_skip ?_
  refine ac_next ?_
  refine aw_grp1 ?_
  refine wk_start ?_
  refine kv g0 (faB 3 3) ?_
  refine kv g0 (ldB) ?_
  refine kv g0 (lnR lenE) ?_
  refine kv g0 (asg) ?_
  refine wk_end ?_
  refine ac_next ?_
  refine aw_cut1 (J := fun K_ => ∀ (k_ : Nat) (p21 : Int), k_ ≤ k → spec_Lessened.j0 k_ t1 p21 = some r → ACont E 50 ⟨[(2, .box 1 0), (3, .box 3 0), (4, .lit (.int .i64 p21))], [(1, .box 30 [.lit (.int .i64 0), .lit (.int .i64 0), .lit (.int .i64 0), .lit (.slice none 0 0)]), (2, .row 60 4 (t1.2.2.2.map e60)), (3, .box 30 [.lit (.int .i64 t1.1), .lit (.int .i64 t1.2.1), .lit (.int .i64 t1.2.2.1), .row 2])]⟩ K_) ?_ ?_
  ·intro K_ hJ26
   refine aw_block ?_
   refine aw_loop1 (fun (k_ : Nat) (p12 : Int) => k_ ≤ k ∧ spec_Lessened.l0 k_ a0_0 a0_1 a0_2 l0_3 t1 p12 = some r) (fun (p12 : Int) => ⟨[(1, .box 0 0), (2, .box 1 0), (3, .box 3 0), (4, .lit (.int .i64 p12))], [(0, .box 30 [.lit (.int .i64 a0_0), .lit (.int .i64 a0_1), .lit (.int .i64 a0_2), .sl .o 4 (l0_3.map e60)]), (1, .box 30 [.lit (.int .i64 0), .lit (.int .i64 0), .lit (.int .i64 0), .lit (.slice none 0 0)]), (2, .row 60 4 (t1.2.2.2.map e60)), (3, .box 30 [.lit (.int .i64 t1.1), .lit (.int .i64 t1.2.1), .lit (.int .i64 t1.2.2.1), .row 2])]⟩) k (t1.2.2.2.length : Int) ⟨Nat.le_refl _, H⟩ (fun K_ h_ => acw hE [(0, 0), (1, 1), (2, 2), (3, 3)] 9999 h_) (fun _ => by intro h_; have h_ := h_.2; rw [spec_Lessened.l0.eq_1] at h_; cases h_) ?_
   intro k13 p12 hq_ K19 hK20
   have hk13 := hq_.1
   have H := hq_.2
   clear hq_
   rw [spec_Lessened.l0.eq_2] at H
   refine aw_grp1 ?_
   refine aw_grp1 ?_
   refine wk_start ?_
   refine kv g0 (mv) ?_
   refine kv g0 (gtr) ?_
   refine kv g0 (mv) ?_
   by_cases c14 : p12 > 0
   ·rw [if_pos c14] at H
    refine kv (g1 (decide_eq_true c14)) (faB 3 3) ?_
    refine kv (g1 (decide_eq_true c14)) (ldB) ?_
    refine kv (g1 (decide_eq_true c14)) (mv) ?_
    refine kv (g1 (decide_eq_true c14)) (sub6) ?_
    obtain ⟨c15, H⟩ := of_if H
    obtain ⟨c16, H⟩ := of_if H
    refine kv (g1 (decide_eq_true c14)) (ixR 60 c15 (ltE c16)) ?_
    refine kv (g1 (decide_eq_true c14)) (faE 2 2) ?_
    refine kv (g1 (decide_eq_true c14)) (ldE (e60 (rd_T60 t1.2.2.2 (wrap64 (p12 - 1)))) (.lit (.int .i64 ((rd_T60 t1.2.2.2 (wrap64 (p12 - 1))).f2))) (getE (z := z60) c15 c16)) ?_
    refine kv (g1 (decide_eq_true c14)) (faB 1 1) ?_
    refine kv (g1 (decide_eq_true c14)) (ldB) ?_
    refine kv (g1 (decide_eq_true c14)) (eql) ?_
    refine kv g0 (pkT (decide_eq_true c14)) ?_
    refine kv g0 (mv) ?_
    by_cases c17 : ((rd_T60 t1.2.2.2 (wrap64 (p12 - 1))).f2) = a0_1
    ·rw [if_pos c17] at H
     refine kv (g1 (eT c17)) (faB 3 3) ?_
     refine kv (g1 (eT c17)) (ldB) ?_
     refine kv (g1 (eT c17)) (mv) ?_
     refine kv (g1 (eT c17)) (sub6) ?_
     refine kv (g1 (eT c17)) (ixR 60 c15 (ltE c16)) ?_
     refine kv (g1 (eT c17)) (faE 3 3) ?_
     refine kv (g1 (eT c17)) (ldE (e60 (rd_T60 t1.2.2.2 (wrap64 (p12 - 1)))) (.lit (.int .i64 ((rd_T60 t1.2.2.2 (wrap64 (p12 - 1))).f3))) (getE (z := z60) c15 c16)) ?_
     refine kv (g1 (eT c17)) (faB 2 2) ?_
     refine kv (g1 (eT c17)) (ldB) ?_
     refine kv (g1 (eT c17)) (eql) ?_
     refine kv g0 (pkT (eT c17)) ?_
     refine wk_end_draw hM (by kernel_rfl) ?_
     refine ac_next ?_
     by_cases c18 : ((rd_T60 t1.2.2.2 (wrap64 (p12 - 1))).f3) = a0_2
     ·rw [if_pos c18] at H
      refine aw_ifT ?_ (eT c18)
      refine aw_skip ?_
      refine ac_next ?_
      refine aw_block ?_
      refine wk_start ?_
      refine kv g0 (mv) ?_
      refine kv g0 (sub6) ?_
      refine kv g0 (asg) ?_
      refine wk_end ?_
      refine ac_blkN ?_
      refine ac_k ?_
      exact acw hE [(0, 0), (1, 1), (2, 2), (3, 3)] 9999 (hK20 k13 (wrap64 (p12 - 1)) (Nat.le_refl _) ⟨by omega, H⟩)
     rw [if_neg c18] at H
     refine aw_ifF ?_ (eF c18)
     refine aw_exit ?_
     refine ac_then ?_
     refine ac_then ?_
     refine ac_hit rfl ?_
     refine ac_k ?_
     exact acw hE [(1, 1), (2, 2), (3, 3)] 9999 (hJ26 k13 p12 (by omega) H)
    rw [if_neg c17] at H
    refine kx (hT (eF c17)) ?_
    refine kx (hT (eF c17)) ?_
    refine kx (hT (eF c17)) ?_
    refine kx (hT (eF c17)) ?_
    refine kx (hT (eF c17)) ?_
    refine kx (hT (eF c17)) ?_
    refine kx (hT (eF c17)) ?_
    refine kx (hT (eF c17)) ?_
    refine kx (hT (eF c17)) ?_
    refine kx (hT (eF c17)) ?_
    refine kv g0 (pkF (eF c17)) ?_
    refine wk_end_draw hM (by kernel_rfl) ?_
    refine ac_next ?_
    refine aw_ifF ?_ rfl
    refine aw_exit ?_
    refine ac_then ?_
    refine ac_then ?_
    refine ac_hit rfl ?_
    refine ac_k ?_
    exact acw hE [(1, 1), (2, 2), (3, 3)] 9999 (hJ26 k13 p12 (by omega) H)
   rw [if_neg c14] at H
   refine kx (hT (decide_eq_false c14)) ?_
   refine kx (hT (decide_eq_false c14)) ?_
   refine kx (hT (decide_eq_false c14)) ?_
   refine kx (hT (decide_eq_false c14)) ?_
   refine kx (hT (decide_eq_false c14)) ?_
   refine kx (hT (decide_eq_false c14)) ?_
   refine kx (hT (decide_eq_false c14)) ?_
   refine kx (hT (decide_eq_false c14)) ?_
   refine kx (hT (decide_eq_false c14)) ?_
   refine kx (hT (decide_eq_false c14)) ?_
   refine kv g0 (pkF (decide_eq_false c14)) ?_
   refine kv g0 (mv) ?_
   refine kx (hT rfl) ?_
   refine kx (hT rfl) ?_
   refine kx (hT rfl) ?_
   refine kx (hT rfl) ?_
   refine kx (hT rfl) ?_
   refine kx (hT rfl) ?_
   refine kx (hT rfl) ?_
   refine kx (hT rfl) ?_
   refine kx (hT rfl) ?_
   refine kx (hT rfl) ?_
   refine kv g0 (pkF rfl) ?_
   refine wk_end_draw hM (by kernel_rfl) ?_
   refine ac_next ?_
   refine aw_ifF ?_ rfl
   refine aw_exit ?_
   refine ac_then ?_
   refine ac_then ?_
   refine ac_hit rfl ?_
   refine ac_k ?_
   exact acw hE [(1, 1), (2, 2), (3, 3)] 9999 (hJ26 k13 p12 (by omega) H)
  intro k_ p21 hk_ H
  rcases k_ with _ | k22
  ·rw [spec_Lessened.j0.eq_1] at H; cases H
  have hk22 : k22 ≤ k := by omega
  clear hk_
  rw [spec_Lessened.j0.eq_2] at H
  refine aw_grp1 ?_
  refine wk_start ?_
  refine kb g0 (bsl 4 60 4 [.slice none 0 0, .slice none 0 0, .int .i64 0, .int .i64 0] (([] : List S60).map e60)) ?_
  refine kv g0 (faB 3 3) ?_
  refine kv g0 (ldB) ?_
  refine kv g0 (mv) ?_
  obtain ⟨c23, H⟩ := of_if H
  obtain ⟨c24, H⟩ := of_if H
  refine kv g0 (srH 60 c23 c24) ?_
  obtain ⟨c25, H⟩ := of_if H
  refine kc g0 (apR 5 60 4 64 [.slice none 0 0, .slice none 0 0, .int .i64 0, .int .i64 0] ((([] : List S60) ++ (t1.2.2.2.take p21.toNat)).map e60) (nwS rfl mapT) (apb c25 rfl) appE) ?_
  refine kv g0 (faB 3 3) ?_
  refine ks g0 (stB 1 [.lit (.int .i64 t1.1), .lit (.int .i64 t1.2.1), .lit (.int .i64 t1.2.2.1), .row 5]) ?_
  refine wk_end ?_
  refine ac_next ?_
  refine aw_grp1 ?_
  refine wk_start ?_
  refine kv g0 (ldBA 4 [.lit (.int .i64 t1.1), .lit (.int .i64 t1.2.1), .lit (.int .i64 t1.2.2.1), .row 5]) ?_
  refine ks g0 (stB 4 [.lit (.int .i64 t1.1), .lit (.int .i64 t1.2.1), .lit (.int .i64 t1.2.2.1), .row 5]) ?_
  refine wk_end ?_
  refine ac_next ?_
  refine aw_ret ?_
  obtain rfl := Option.some.inj H
  exact acr hE [.cell 2 30] (rcA 4 .nil) (.one _) [(0, 5)] 9999
 rw [if_neg c5] at H
 refine aw_ifT ?_ (nT (bF c5))
 refine aw_grp1 ?_
 refine wk_start ?_
 refine kv g0 (ldBA 4 [.lit (.int .i64 t1.1), .lit (.int .i64 t1.2.1), .lit (.int .i64 t1.2.2.1), .row 2]) ?_
 refine ks g0 (stB 4 [.lit (.int .i64 t1.1), .lit (.int .i64 t1.2.1), .lit (.int .i64 t1.2.2.1), .row 2]) ?_
 refine wk_end ?_
 refine ac_next ?_
 refine aw_ret ?_
 refine ac_thenR ?_
 obtain rfl := Option.some.inj H
 exact acr hE [.cell 2 30] (rcA 4 .nil) (.one _) [(0, 2)] 9999
/-! impl_copyRule -/
def impl_copyRule.f (l0_0 : List Int) (l0_1 : List S92) (a0_2 : Int) (a0_3 : Int) : Option ((List Int) × (List S92) × Int × Int) := if ([] : List Int).length + l0_0.length < 17592186044416 then if ([] : List S92).length + l0_1.length < 2932031007402 then some (([] : List Int) ++ l0_0, ([] : List S92) ++ l0_1, a0_2, a0_3) else none else none
theorem impl_copyRule.ok {l0_0 : List Int} {l0_1 : List S92} {a0_2 : Int} {a0_3 : Int} {r : (List Int) × (List S92) × Int × Int} (H : impl_copyRule.f l0_0 l0_1 a0_2 a0_3 = some r) : ACalls Try.prog 87 [] [.agg [.sl .o 1 (l0_0.map (eI .i64)), .sl .o 6 (l0_1.map e92), .lit (.int .i64 a0_2), .lit (.int .i64 a0_3)]] [(0, .row 3 1 (r.1.map (eI .i64))), (1, .row 92 6 (r.2.1.map e92))] (.agg [.row 0, .row 1, .lit (.int .i64 r.2.2.1), .lit (.int .i64 r.2.2.2)]) := by
 refine acalls (fn := Try.f87) (nt := 14) Try.func87 rfl rfl (Nat.le_of_ble_eq_true rfl) fun E hE => ?_
 rw [impl_copyRule.f] at H
 refine aw_grp1 ?_
 refine wk_start ?_
 refine kb g0 (bxA 0) ?_
 refine kb g0 (alc 1 [.slice none 0 0, .slice none 0 0, .int .i64 0, .int .i64 0] [.lit (.slice none 0 0), .lit (.slice none 0 0), .lit (.int .i64 0), .lit (.int .i64 0)]) ?_
 refine wk_end ?_
 refine ac_next ?_
 refine aw_grp1 ?_
 refine wk_start ?_
 refine kb g0 (bsl 2 3 1 [.int .i64 0] (([] : List Int).map (eI .i64))) ?_
 refine kv g0 (faB 0 0) ?_
 refine kv g0 (ldB) ?_
 obtain ⟨c1, H⟩ := of_if H
 refine kc g0 (apR 3 3 1 8 [.int .i64 0] ((([] : List Int) ++ l0_0).map (eI .i64)) (.slF (flI)) (apb c1 rfl) appE) ?_
 refine kv g0 (faB 0 0) ?_
 refine ks g0 (stB 1 [.row 3, .sl .o 6 (l0_1.map e92), .lit (.int .i64 a0_2), .lit (.int .i64 a0_3)]) ?_
 refine wk_end ?_
 refine ac_next ?_
 refine aw_grp1 ?_
 refine wk_start ?_
 refine kb g0 (bsl 4 92 6 [.int .i64 0, .int .i64 0, .int .i64 0, .int .i64 0, .int .i64 0, .int .i64 0] (([] : List S92).map e92)) ?_
 refine kv g0 (faB 1 1) ?_
 refine kv g0 (ldB) ?_
 obtain ⟨c2, H⟩ := of_if H
 refine kc g0 (apR 5 92 6 48 [.int .i64 0, .int .i64 0, .int .i64 0, .int .i64 0, .int .i64 0, .int .i64 0] ((([] : List S92) ++ l0_1).map e92) (.slF (fl92)) (apb c2 rfl) appE) ?_
 refine kv g0 (faB 1 1) ?_
 refine ks g0 (stB 1 [.row 3, .row 5, .lit (.int .i64 a0_2), .lit (.int .i64 a0_3)]) ?_
 refine wk_end ?_
 refine ac_next ?_
 refine aw_grp1 ?_
 refine wk_start ?_
 refine kv g0 (ldBA 4 [.row 3, .row 5, .lit (.int .i64 a0_2), .lit (.int .i64 a0_3)]) ?_
 refine ks g0 (stB 4 [.row 3, .row 5, .lit (.int .i64 a0_2), .lit (.int .i64 a0_3)]) ?_
 refine wk_end ?_
 refine ac_next ?_
 refine aw_ret ?_
 obtain rfl := Option.some.inj H
 exact acr hE [.cell 2 60] (rcA 4 .nil) (.one _) [(0, 3), (1, 5)] 9999
/-! impl_copyPolicy -/
def impl_copyPolicy.l0 : Nat → Int → Int → Int → (List S60) → (List S60) → Int → Option (Int × Int × Int × (List S60))
 | 0, _, _, _, _, _, _ => none
 | k8 + 1, a0_0, a0_1, a0_2, l0_3, q6, p7 => if p7 < (l0_3.length : Int) then if 0 ≤ p7 then (impl_copyRule.f ((rd_T60 l0_3 p7).f0) ((rd_T60 l0_3 p7).f1) ((rd_T60 l0_3 p7).f2) ((rd_T60 l0_3 p7).f3)).bind fun t11 => (if q6.length + 1 < 2199023255552 then impl_copyPolicy.l0 k8 a0_0 a0_1 a0_2 l0_3 (q6 ++ [(⟨t11.1, t11.2.1, t11.2.2.1, t11.2.2.2⟩ : S60)]) (wrap64 (p7 + 1)) else none) else none else some (a0_0, a0_1, a0_2, q6)
def impl_copyPolicy.f (k : Nat) (a0_0 : Int) (a0_1 : Int) (a0_2 : Int) (l0_3 : List S60) : Option (Int × Int × Int × (List S60)) := impl_copyPolicy.l0 k a0_0 a0_1 a0_2 l0_3 ([] : List S60) 0
theorem impl_copyPolicy.ok {k : Nat} {a0_0 : Int} {a0_1 : Int} {a0_2 : Int} {l0_3 : List S60} {r : Int × Int × Int × (List S60)} (H : impl_copyPolicy.f k a0_0 a0_1 a0_2 l0_3 = some r) : ACalls Try.prog 47 [] [.agg [.lit (.int .i64 a0_0), .lit (.int .i64 a0_1), .lit (.int .i64 a0_2), .sl .o 4 (l0_3.map e60)]] [(0, .drow false ds60 60 4 (r.2.2.2.map e60))] (.agg [.lit (.int .i64 r.1), .lit (.int .i64 r.2.1), .lit (.int .i64 r.2.2.1), .row 0]) := by
 refine acalls (fn := Try.f47) (nt := 23) Try.func47 rfl rfl (Nat.le_of_ble_eq_true rfl) fun E hE => ?_
 rw [impl_copyPolicy.f] at H
 refine aw_grp1 ?_
 refine wk_start ?_
 refine kb g0 (bxA 0) ?_
 refine kb g0 (alc 1 [.int .i64 0, .int .i64 0, .int .i64 0, .slice none 0 0] [.lit (.int .i64 0), .lit (.int .i64 0), .lit (.int .i64 0), .lit (.slice none 0 0)]) ?_
 refine wk_end ?_
 refine ac_next ?_
 refine aw_grp1 ?_
 refine wk_start ?_
 refine kb g0 (bsl 2 60 4 [.slice none 0 0, .slice none 0 0, .int .i64 0, .int .i64 0] (([] : List S60).map e60)) ?_
 refine kv g0 (asg) ?_
 refine wk_end ?_
 refine ac_next ?_
 refine aw_grp1 ?_
 refine aw_grp1 ?_
 refine wk_start ?_
 refine kv g0 (faB 3 3) ?_
 refine kv g0 (ldB) ?_
 refine kv g0 (lnS lenE) ?_
 refine kv g0 (mv) ?_
 refine wk_end ?_
 refine ac_next ?_
 refine aw_block ?_
 refine ac_g1 (liftD 2 ds60) ?_
 refine aw_loop2 (fun (k_ : Nat) (q6 : List S60) (p7 : Int) => k_ ≤ k ∧ impl_copyPolicy.l0 k_ a0_0 a0_1 a0_2 l0_3 q6 p7 = some r) (fun (q6 : List S60) (p7 : Int) => ⟨[(1, .box 0 0), (2, .box 1 0), (3, .row 2), (8, .sl .o 4 (l0_3.map e60)), (9, .lit (.int .i64 (l0_3.length : Int))), (10, .lit (.int .i64 p7))], [(0, .box 30 [.lit (.int .i64 a0_0), .lit (.int .i64 a0_1), .lit (.int .i64 a0_2), .sl .o 4 (l0_3.map e60)]), (1, .box 30 [.lit (.int .i64 0), .lit (.int .i64 0), .lit (.int .i64 0), .lit (.slice none 0 0)]), (2, .drow false ds60 60 4 (q6.map e60))]⟩) k ([] : List S60) 0 ⟨Nat.le_refl _, H⟩ (fun K_ h_ => acw hE [(0, 0), (1, 1), (2, 2)] 9999 h_) (fun _ _ => by intro h_; have h_ := h_.2; rw [impl_copyPolicy.l0.eq_1] at h_; cases h_) ?_
 intro k8 q6 p7 hq_ K14 hK15
 have hk8 := hq_.1
 have H := hq_.2
 clear hq_
 rw [impl_copyPolicy.l0.eq_2] at H
 refine aw_grp1 ?_
 refine wk_start ?_
 refine kv g0 (lss) ?_
 refine wk_end ?_
 refine ac_next ?_
 refine aw_grp1 ?_
 by_cases c9 : p7 < (l0_3.length : Int)
 ·rw [if_pos c9] at H
  refine aw_ifT ?_ (decide_eq_true c9)
  refine aw_skip ?_
  refine ac_next ?_
  refine aw_grp1 ?_
  refine aw_block ?_
  refine aw_grp1 ?_
  refine wk_start ?_
  obtain ⟨c10, H⟩ := of_if H
  refine kv g0 (ixS 60 (e60 (rd_T60 l0_3 p7)) c10 (getE (z := z60) c10 c9)) ?_
  refine kv g0 (ldRA 4 [.sl .o 1 (((rd_T60 l0_3 p7).f0).map (eI .i64)), .sl .o 6 (((rd_T60 l0_3 p7).f1).map e92), .lit (.int .i64 ((rd_T60 l0_3 p7).f2)), .lit (.int .i64 ((rd_T60 l0_3 p7).f3))]) ?_
  refine kb g0 (alc 3 [.slice none 0 0, .slice none 0 0, .int .i64 0, .int .i64 0] [.lit (.slice none 0 0), .lit (.slice none 0 0), .lit (.int .i64 0), .lit (.int .i64 0)]) ?_
  refine ks g0 (stB 4 [.sl .o 1 (((rd_T60 l0_3 p7).f0).map (eI .i64)), .sl .o 6 (((rd_T60 l0_3 p7).f1).map e92), .lit (.int .i64 ((rd_T60 l0_3 p7).f2)), .lit (.int .i64 ((rd_T60 l0_3 p7).f3))]) ?_
  refine wk_end ?_
  refine ac_next ?_
  refine wk_start ?_
  refine kv g0 (mv) ?_
  refine kv g0 (ldBA 4 [.sl .o 1 (((rd_T60 l0_3 p7).f0).map (eI .i64)), .sl .o 6 (((rd_T60 l0_3 p7).f1).map e92), .lit (.int .i64 ((rd_T60 l0_3 p7).f2)), .lit (.int .i64 ((rd_T60 l0_3 p7).f3))]) ?_
  obtain ⟨t11, A12, H⟩ := of_bind H
  refine kcS2 16 (.agg [.row 4, .row 5, .lit (.int .i64 t11.2.2.1), .lit (.int .i64 t11.2.2.2)]) [(4, .row 3 1 (t11.1.map (eI .i64))), (5, .row 92 6 (t11.2.1.map e92))] g0 (cal (impl_copyRule.ok A12) [4, 5] 9999 .n (hf := Try.func87)) rfl rfl ?_
  refine kb g0 (bslD 6 60 4 ds60 [.slice none 0 0, .slice none 0 0, .int .i64 0, .int .i64 0] [.agg [.row 4, .row 5, .lit (.int .i64 t11.2.2.1), .lit (.int .i64 t11.2.2.2)]]) ?_
  obtain ⟨c13, H⟩ := of_if H
  refine kcS3 18 (.row 7) [(2, .gone), (6, .gone), (7, .drow true ds60 60 4 (q6.map e60 ++ [.agg [.row 4, .row 5, .lit (.int .i64 t11.2.2.1), .lit (.int .i64 t11.2.2.2)]]))] g0 (apD 7 60 4 64 [.slice none 0 0, .slice none 0 0, .int .i64 0, .int .i64 0] (q6.map e60 ++ [.agg [.row 4, .row 5, .lit (.int .i64 t11.2.2.1), .lit (.int .i64 t11.2.2.2)]]) (apbD (m := q6.length) (n := 1) (List.length_map ..) rfl c13 rfl) rfl).owp rfl rfl ?_
  refine kv g0 (asg) ?_
  refine wk_end ?_
  refine ac_blkN ?_
  refine ac_next ?_
  refine wk_start ?_
  refine kv g0 (add6) ?_
  refine kv g0 (mv) ?_
  refine wk_end ?_
  refine ac_g2 (pk 7 4 0 (.agg [.sl .n 1 (t11.1.map (eI .i64)), .row 5, .lit (.int .i64 t11.2.2.1), .lit (.int .i64 t11.2.2.2)]) (appX (f := e60) (X := .agg [.row 4, .row 5, .lit (.int .i64 t11.2.2.1), .lit (.int .i64 t11.2.2.2)])) (appXX (f := e60)) rfl) ?_
  refine ac_g2 (pk 7 5 1 (.agg [.sl .n 1 (t11.1.map (eI .i64)), .sl .n 6 (t11.2.1.map e92), .lit (.int .i64 t11.2.2.1), .lit (.int .i64 t11.2.2.2)]) (appX (f := e60) (X := .agg [.sl .n 1 (t11.1.map (eI .i64)), .row 5, .lit (.int .i64 t11.2.2.1), .lit (.int .i64 t11.2.2.2)])) (appXX (f := e60)) rfl) ?_
  refine ac_g1 (sealD 7 (appSeal (f := e60) (⟨t11.1, t11.2.1, t11.2.2.1, t11.2.2.2⟩ : S60)) cl60) ?_
  refine ac_k ?_
  exact acw hE [(0, 0), (1, 1), (2, 7)] 9999 (hK15 k8 (q6 ++ [(⟨t11.1, t11.2.1, t11.2.2.1, t11.2.2.2⟩ : S60)]) (wrap64 (p7 + 1)) (Nat.le_refl _) ⟨by omega, H⟩)
 rw [if_neg c9] at H
 refine aw_ifF ?_ (decide_eq_false c9)
 refine aw_exit ?_
 refine ac_then ?_
 refine ac_then ?_
 refine ac_hit rfl ?_
 refine ac_next ?_
 refine aw_grp1 ?_
 refine wk_start ?_
 refine kv g0 (mv) ?_
 refine kv g0 (faB 3 3) ?_
 refine ks g0 (stB 1 [.lit (.int .i64 a0_0), .lit (.int .i64 a0_1), .lit (.int .i64 a0_2), .row 2]) ?_
 refine wk_end ?_
 refine ac_next ?_
 refine aw_grp1 ?_
 refine wk_start ?_
 refine kv g0 (ldBA 4 [.lit (.int .i64 a0_0), .lit (.int .i64 a0_1), .lit (.int .i64 a0_2), .row 2]) ?_
 refine ks g0 (stB 4 [.lit (.int .i64 a0_0), .lit (.int .i64 a0_1), .lit (.int .i64 a0_2), .row 2]) ?_
 refine wk_end ?_
 refine ac_next ?_
 refine aw_ret ?_
 obtain rfl := Option.some.inj H
 exact acr hE [.cell 2 30] (rcA 4 .nil) (.one _) [(0, 2)] 9999
/-! impl_within -/
def impl_within.f (a0 : Int) (a1 : Int) (a2 : Int) : Option (Bool) := if a0 ≥ a1 then some (decide (a0 ≤ a2)) else some false
theorem impl_within.ok {a0 : Int} {a1 : Int} {a2 : Int} {r : Bool} (H : impl_within.f a0 a1 a2 = some r) : ACalls Try.prog 72 [] [.lit (.int .i64 a0), .lit (.int .i64 a1), .lit (.int .i64 a2)] [] (.lit (.bool r)) := by
 refine acalls (fn := Try.f72) (nt := 15) Try.func72 rfl rfl (Nat.le_of_ble_eq_true rfl) fun E hE => ?_
 rw [impl_within.f] at H
 refine aw_grp1 ?_
 refine wk_start ?_
 refine kv g0 (asg) ?_
 refine wk_end ?_
 refine ac_next ?_
 refine aw_grp1 ?_
 refine wk_start ?_
 refine kv g0 (mv) ?_
 refine kv g0 (mv) ?_
 refine kv g0 (geq) ?_
 refine kv g0 (mv) ?_
 by_cases c1 : a0 ≥ a1
 ·rw [if_pos c1] at H
  refine kv (g1 (decide_eq_true c1)) (mv) ?_
  refine kv (g1 (decide_eq_true c1)) (mv) ?_
  refine kv (g1 (decide_eq_true c1)) (leq) ?_
  refine kv g0 (pkT (decide_eq_true c1)) ?_
  refine kv g0 (asg) ?_
  refine wk_end ?_
  refine ac_next ?_
  refine aw_ret ?_
  obtain rfl := Option.some.inj H
  exact acr hE [.tmp 6] (.tmp .nil) (.one _) [] 9999
 rw [if_neg c1] at H
 refine kx (hT (decide_eq_false c1)) ?_
 refine kx (hT (decide_eq_false c1)) ?_
 refine kx (hT (decide_eq_false c1)) ?_
 refine kv g0 (pkF (decide_eq_false c1)) ?_
 refine kv g0 (asg) ?_
 refine wk_end ?_
 refine ac_next ?_
 refine aw_ret ?_
 obtain rfl := Option.some.inj H
 exact acr hE [.tmp 6] (.tmp .nil) (.one _) [] 9999
/-! impl_HalfOk -/
def impl_HalfOk.f (a0 : Int) : Option (Bool) := (impl_within.f a0 0 4294967295).bind fun t1 => some t1
theorem impl_HalfOk.ok {a0 : Int} {r : Bool} (H : impl_HalfOk.f a0 = some r) : ACalls Try.prog 81 [] [.lit (.int .i64 a0)] [] (.lit (.bool r)) := by
 refine acalls (fn := Try.f81) (nt := 5) Try.func81 rfl rfl (Nat.le_of_ble_eq_true rfl) fun E hE => ?_
 rw [impl_HalfOk.f] at H
 refine aw_grp1 ?_
 refine wk_start ?_
 refine kv g0 (asg) ?_
 refine wk_end ?_
 refine ac_next ?_
 refine aw_grp1 ?_
 refine wk_start ?_
 refine kv g0 (mv) ?_
 obtain ⟨t1, A2, H⟩ := of_bind H
 refine kcS0 4 (.lit (.bool t1)) [] g0 (cal (impl_within.ok A2) [] 9999 .n (hf := Try.func72)) rfl rfl ?_
 refine kv g0 (asg) ?_
 refine wk_end ?_
 refine ac_next ?_
 refine aw_ret ?_
 obtain rfl := Option.some.inj H
 exact acr hE [.tmp 2] (.tmp .nil) (.one _) [] 9999
/-! impl_WideOk -/
def impl_WideOk.f (a0_0 : Int) (a0_1 : Int) : Option (Bool) := (impl_HalfOk.f a0_0).bind fun t1 => (if t1 = true then ((impl_HalfOk.f a0_1).bind fun t4 => some t4) else some false)
theorem impl_WideOk.ok {a0_0 : Int} {a0_1 : Int} {r : Bool} (H : impl_WideOk.f a0_0 a0_1 = some r) : ACalls Try.prog 111 [] [.agg [.lit (.int .i64 a0_0), .lit (.int .i64 a0_1)]] [] (.lit (.bool r)) := by
 refine acalls (fn := Try.f111) (nt := 11) Try.func111 rfl rfl (Nat.le_of_ble_eq_true rfl) fun E hE => ?_
 rw [impl_WideOk.f] at H
 refine aw_grp1 ?_
 refine wk_start ?_
 refine kb g0 (bxA 0) ?_
 refine kv g0 (asg) ?_
 refine wk_end ?_
 refine ac_next ?_
 refine aw_grp1 ?_
 refine wk_start ?_
 refine kv g0 (faB 0 0) ?_
 refine kv g0 (ldB) ?_
 obtain ⟨t1, A2, H⟩ := of_bind H
 refine kcS0 5 (.lit (.bool t1)) [] g0 (cal (impl_HalfOk.ok A2) [] 9999 .n (hf := Try.func81)) rfl rfl ?_
 refine kv g0 (mv) ?_
 by_cases c3 : t1 = true
 ·rw [if_pos c3] at H
  refine kv (g1 c3) (faB 1 1) ?_
  refine kv (g1 c3) (ldB) ?_
  obtain ⟨t4, A5, H⟩ := of_bind H
  refine kcS0 9 (.lit (.bool t4)) [] (g1 c3) (cal (impl_HalfOk.ok A5) [] 9999 .n (hf := Try.func81)) rfl rfl ?_
  refine kv g0 (pkT c3) ?_
  refine kv g0 (asg) ?_
  refine wk_end ?_
  refine ac_next ?_
  refine aw_ret ?_
  obtain rfl := Option.some.inj H
  exact acr hE [.tmp 2] (.tmp .nil) (.one _) [] 9999
 rw [if_neg c3] at H
 refine kx (hT (bF c3)) ?_
 refine kx (hT (bF c3)) ?_
 refine kx (hT (bF c3)) ?_
 refine kv g0 (pkF (bF c3)) ?_
 refine kv g0 (asg) ?_
 refine wk_end ?_
 refine ac_next ?_
 refine aw_ret ?_
 obtain rfl := Option.some.inj H
 exact acr hE [.tmp 2] (.tmp .nil) (.one _) [] 9999
/-! impl_CondOk -/
def impl_CondOk.f (a0_0 : Int) (a0_1 : Int) (a0_2 : Int) (a0_3 : Int) (a0_4 : Int) (a0_5 : Int) : Option (Bool) := (impl_within.f a0_0 0 2).bind fun t1 => (if t1 = true then ((impl_WideOk.f a0_1 a0_2).bind fun t4 => (if t4 = true then ((impl_WideOk.f a0_4 a0_5).bind fun t7 => (if t7 = true then ((impl_within.f a0_3 1 6).bind fun t10 => some t10) else some false)) else some false)) else some false)
theorem impl_CondOk.ok {a0_0 : Int} {a0_1 : Int} {a0_2 : Int} {a0_3 : Int} {a0_4 : Int} {a0_5 : Int} {r : Bool} (H : impl_CondOk.f a0_0 a0_1 a0_2 a0_3 a0_4 a0_5 = some r) : ACalls Try.prog 103 [] [.agg [.lit (.int .i64 a0_0), .lit (.int .i64 a0_1), .lit (.int .i64 a0_2), .lit (.int .i64 a0_3), .lit (.int .i64 a0_4), .lit (.int .i64 a0_5)]] [] (.lit (.bool r)) := by
 refine acalls (fn := Try.f103) (nt := 21) Try.func103 rfl rfl (Nat.le_of_ble_eq_true rfl) fun E hE => ?_
 rw [impl_CondOk.f] at H
 refine aw_grp1 ?_
 refine wk_start ?_
 refine kb g0 (bxA 0) ?_
 refine kv g0 (asg) ?_
 refine wk_end ?_
 refine ac_next ?_
 refine aw_grp1 ?_
 refine wk_start ?_
 refine kv g0 (faB 0 0) ?_
 refine kv g0 (ldB) ?_
 obtain ⟨t1, A2, H⟩ := of_bind H
 refine kcS0 5 (.lit (.bool t1)) [] g0 (cal (impl_within.ok A2) [] 9999 .n (hf := Try.func72)) rfl rfl ?_
 refine kv g0 (mv) ?_
 by_cases c3 : t1 = true
 ·rw [if_pos c3] at H
  refine kv (g1 c3) (faB 1 1) ?_
  refine kv (g1 c3) (ldBA 2 [.lit (.int .i64 a0_1), .lit (.int .i64 a0_2)]) ?_
  obtain ⟨t4, A5, H⟩ := of_bind H
  refine kcS0 9 (.lit (.bool t4)) [] (g1 c3) (cal (impl_WideOk.ok A5) [] 9999 .n (hf := Try.func111)) rfl rfl ?_
  refine kv g0 (pkT c3) ?_
  refine kv g0 (mv) ?_
  by_cases c6 : t4 = true
  ·rw [if_pos c6] at H
   refine kv (g1 c6) (faB 4 4) ?_
   refine kv (g1 c6) (ldBA 2 [.lit (.int .i64 a0_4), .lit (.int .i64 a0_5)]) ?_
   obtain ⟨t7, A8, H⟩ := of_bind H
   refine kcS0 14 (.lit (.bool t7)) [] (g1 c6) (cal (impl_WideOk.ok A8) [] 9999 .n (hf := Try.func111)) rfl rfl ?_
   refine kv g0 (pkT c6) ?_
   refine kv g0 (mv) ?_
   by_cases c9 : t7 = true
   ·rw [if_pos c9] at H
    refine kv (g1 c9) (faB 3 3) ?_
    refine kv (g1 c9) (ldB) ?_
    obtain ⟨t10, A11, H⟩ := of_bind H
    refine kcS0 19 (.lit (.bool t10)) [] (g1 c9) (cal (impl_within.ok A11) [] 9999 .n (hf := Try.func72)) rfl rfl ?_
    refine kv g0 (pkT c9) ?_
    refine kv g0 (asg) ?_
    refine wk_end ?_
    refine ac_next ?_
    refine aw_ret ?_
    obtain rfl := Option.some.inj H
    exact acr hE [.tmp 2] (.tmp .nil) (.one _) [] 9999
   rw [if_neg c9] at H
   refine kx (hT (bF c9)) ?_
   refine kx (hT (bF c9)) ?_
   refine kx (hT (bF c9)) ?_
   refine kv g0 (pkF (bF c9)) ?_
   refine kv g0 (asg) ?_
   refine wk_end ?_
   refine ac_next ?_
   refine aw_ret ?_
   obtain rfl := Option.some.inj H
   exact acr hE [.tmp 2] (.tmp .nil) (.one _) [] 9999
  rw [if_neg c6] at H
  refine kx (hT (bF c6)) ?_
  refine kx (hT (bF c6)) ?_
  refine kx (hT (bF c6)) ?_
  refine kv g0 (pkF (bF c6)) ?_
  refine kv g0 (mv) ?_
  refine kx (hT rfl) ?_
  refine kx (hT rfl) ?_
  refine kx (hT rfl) ?_
  refine kv g0 (pkF rfl) ?_
  refine kv g0 (asg) ?_
  refine wk_end ?_
  refine ac_next ?_
  refine aw_ret ?_
  obtain rfl := Option.some.inj H
  exact acr hE [.tmp 2] (.tmp .nil) (.one _) [] 9999
 rw [if_neg c3] at H
 refine kx (hT (bF c3)) ?_
 refine kx (hT (bF c3)) ?_
 refine kx (hT (bF c3)) ?_
 refine kv g0 (pkF (bF c3)) ?_
 refine kv g0 (mv) ?_
 refine kx (hT rfl) ?_
 refine kx (hT rfl) ?_
 refine kx (hT rfl) ?_
 refine kv g0 (pkF rfl) ?_
 refine kv g0 (mv) ?_
 refine kx (hT rfl) ?_
 refine kx (hT rfl) ?_
 refine kx (hT rfl) ?_
 refine kv g0 (pkF rfl) ?_
 refine kv g0 (asg) ?_
 refine wk_end ?_
 refine ac_next ?_
 refine aw_ret ?_
 obtain rfl := Option.some.inj H
 exact acr hE [.tmp 2] (.tmp .nil) (.one _) [] 9999
/-! impl_actionOk -/
def impl_actionOk.f (a0 : Int) (a1 : Int) : Option (Bool) := (impl_within.f a0 0 5).bind fun t1 => (if t1 = true then ((impl_within.f a1 0 65535).bind fun t4 => some t4) else some false)
theorem impl_actionOk.ok {a0 : Int} {a1 : Int} {r : Bool} (H : impl_actionOk.f a0 a1 = some r) : ACalls Try.prog 82 [] [.lit (.int .i64 a0), .lit (.int .i64 a1)] [] (.lit (.bool r)) := by
 refine acalls (fn := Try.f82) (nt := 11) Try.func82 rfl rfl (Nat.le_of_ble_eq_true rfl) fun E hE => ?_
 rw [impl_actionOk.f] at H
 refine aw_grp1 ?_
 refine wk_start ?_
 refine kv g0 (asg) ?_
 refine wk_end ?_
 refine ac_next ?_
 refine aw_grp1 ?_
 refine wk_start ?_
 refine kv g0 (mv) ?_
 obtain ⟨t1, A2, H⟩ := of_bind H
 refine kcS0 6 (.lit (.bool t1)) [] g0 (cal (impl_within.ok A2) [] 9999 .n (hf := Try.func72)) rfl rfl ?_
 refine kv g0 (mv) ?_
 by_cases c3 : t1 = true
 ·rw [if_pos c3] at H
  refine kv (g1 c3) (mv) ?_
  obtain ⟨t4, A5, H⟩ := of_bind H
  refine kcS0 9 (.lit (.bool t4)) [] (g1 c3) (cal (impl_within.ok A5) [] 9999 .n (hf := Try.func72)) rfl rfl ?_
  refine kv g0 (pkT c3) ?_
  refine kv g0 (asg) ?_
  refine wk_end ?_
  refine ac_next ?_
  refine aw_ret ?_
  obtain rfl := Option.some.inj H
  exact acr hE [.tmp 4] (.tmp .nil) (.one _) [] 9999
 rw [if_neg c3] at H
 refine kx (hT (bF c3)) ?_
 refine kx (hT (bF c3)) ?_
 refine kv g0 (pkF (bF c3)) ?_
 refine kv g0 (asg) ?_
 refine wk_end ?_
 refine ac_next ?_
 refine aw_ret ?_
 obtain rfl := Option.some.inj H
 exact acr hE [.tmp 4] (.tmp .nil) (.one _) [] 9999
end Go.Proofs.Ythgmgbccgokfeaa.PFnExactLessened
