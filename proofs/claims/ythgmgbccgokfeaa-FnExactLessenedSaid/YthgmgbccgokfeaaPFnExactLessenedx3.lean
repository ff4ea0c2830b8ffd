import Derived.Test.YthgmgbccgokfeaaPFnExactLessenedx2
set_option linter.unusedVariables false
set_option linter.unusedSimpArgs false
set_option maxRecDepth 100000
namespace Go.Proofs.Ythgmgbccgokfeaa.PFnExactLessened
open Go Go.RowKit Go.Proofs.YthgmgbccgokfeaaA
/-! laws_heldCondS -/
def laws_heldCondS.l0 : Nat → (List S92) → Int → Int → Option (Int)
 | 0, _, _, _ => none
 | k11 + 1, l0, p9, p10 => if p10 < (l0.length : Int) then if 0 ≤ p10 then if ((rd_T92 l0 p10).f0) = p9 then if ((rd_T92 l0 p10).f1.f0) = (wrap64 (p9 + 1)) then if ((rd_T92 l0 p10).f1.f1) = (wrap64 ((wrap64 (p9 + 1)) + 1)) then if ((rd_T92 l0 p10).f2) = (wrap64 ((wrap64 ((wrap64 (p9 + 1)) + 1)) + 1)) then if ((rd_T92 l0 p10).f3.f0) = (wrap64 ((wrap64 ((wrap64 ((wrap64 (p9 + 1)) + 1)) + 1)) + 1)) then if ((rd_T92 l0 p10).f3.f1) = (wrap64 ((wrap64 ((wrap64 ((wrap64 ((wrap64 (p9 + 1)) + 1)) + 1)) + 1)) + 1)) then laws_heldCondS.l0 k11 l0 (wrap64 ((wrap64 ((wrap64 ((wrap64 ((wrap64 ((wrap64 (p9 + 1)) + 1)) + 1)) + 1)) + 1)) + 1)) (wrap64 (p10 + 1)) else some (-1) else some (-1) else some (-1) else some (-1) else some (-1) else some (-1) else none else some p9
def laws_heldCondS.f (k : Nat) (l0 : List S92) (a1 : Int) : Option (Int) := laws_heldCondS.l0 k l0 a1 0
theorem laws_heldCondS.ok {k : Nat} {l0 : List S92} {a1 : Int} {r : Int} (H : laws_heldCondS.f k l0 a1 = some r) : ACalls Try.prog 89 [] [.sl .o 6 (l0.map e92), .lit (.int .i64 a1)] [] (.lit (.int .i64 r)) := by
 refine acalls (fn := Try.f89) (nt := 71) Try.func89 rfl rfl (Nat.le_of_ble_eq_true rfl) fun E hE => ?_
 rw [laws_heldCondS.f] at H
 refine aw_grp1 ?_
 refine wk_start ?_
 refine kv g0 (asg) ?_
 refine wk_end ?_
 refine ac_next ?_
 refine aw_grp1 ?_
 refine aw_grp1 ?_
 refine wk_start ?_
 refine kv g0 (asg) ?_
 refine wk_end ?_
 refine ac_next ?_
 refine aw_block ?_
 refine aw_loop2 (fun (k_ : Nat) (p9 : Int) (p10 : Int) => k_ ≤ k ∧ laws_heldCondS.l0 k_ l0 p9 p10 = some r) (fun (p9 : Int) (p10 : Int) => ⟨[(0, .sl .o 6 (l0.map e92)), (1, .lit (.int .i64 p9)), (5, .lit (.int .i64 p10))], []⟩) k a1 0 ⟨Nat.le_refl _, H⟩ (fun K_ h_ => acw hE [] 9999 h_) (fun _ _ => by intro h_; have h_ := h_.2; rw [laws_heldCondS.l0.eq_1] at h_; cases h_) ?_
 intro k11 p9 p10 hq_ K20 hK21
 have hk11 := hq_.1
 have H := hq_.2
 clear hq_
 rw [laws_heldCondS.l0.eq_2] at H
 refine aw_grp1 ?_
 refine aw_grp1 ?_
 refine wk_start ?_
 refine kv g0 (mv) ?_
 refine kv g0 (mv) ?_
 refine kv g0 (lnS lenE) ?_
 refine kv g0 (lss) ?_
 refine wk_end ?_
 refine ac_next ?_
 by_cases c12 : p10 < (l0.length : Int)
 ·rw [if_pos c12] at H
  refine aw_ifT ?_ (decide_eq_true c12)
  refine aw_skip ?_
  refine ac_next ?_
  refine aw_grp1 ?_
  refine aw_block ?_
  refine aw_grp1 ?_
  refine aw_grp1 ?_
  refine wk_start ?_
  refine kv g0 (mv) ?_
  refine kv g0 (mv) ?_
  obtain ⟨c13, H⟩ := of_if H
  refine kv g0 (ixS 92 (e92 (rd_T92 l0 p10)) c13 (getE (z := z92) c13 c12)) ?_
  refine kv g0 (faR 0 0) ?_
  refine kv g0 (ldR (.lit (.int .i64 ((rd_T92 l0 p10).f0)))) ?_
  refine kv g0 (mv) ?_
  refine kv g0 (neq) ?_
  refine wk_end ?_
  refine ac_next ?_
  by_cases c14 : ((rd_T92 l0 p10).f0) = p9
  ·rw [if_pos c14] at H
   refine aw_ifF ?_ (eM c14)
   refine aw_skip ?_
   refine ac_next ?_
   refine aw_grp1 ?_
   refine wk_start ?_
   refine kv g0 (mv) ?_
   refine kv g0 (add6) ?_
   refine kv g0 (asg) ?_
   refine wk_end ?_
   refine ac_next ?_
   refine aw_grp1 ?_
   refine aw_grp1 ?_
   refine wk_start ?_
   refine kv g0 (mv) ?_
   refine kv g0 (mv) ?_
   refine kv g0 (ixS 92 (e92 (rd_T92 l0 p10)) c13 (getE (z := z92) c13 c12)) ?_
   refine kv g0 (faR 1 1) ?_
   refine kv g0 (faR 0 1) ?_
   refine kv g0 (ldR (.lit (.int .i64 ((rd_T92 l0 p10).f1.f0)))) ?_
   refine kv g0 (mv) ?_
   refine kv g0 (neq) ?_
   refine wk_end ?_
   refine ac_next ?_
   by_cases c15 : ((rd_T92 l0 p10).f1.f0) = (wrap64 (p9 + 1))
   ·rw [if_pos c15] at H
    refine aw_ifF ?_ (eM c15)
    refine aw_skip ?_
    refine ac_next ?_
    refine aw_grp1 ?_
    refine wk_start ?_
    refine kv g0 (mv) ?_
    refine kv g0 (add6) ?_
    refine kv g0 (asg) ?_
    refine wk_end ?_
    refine ac_next ?_
    refine aw_grp1 ?_
    refine aw_grp1 ?_
    refine wk_start ?_
    refine kv g0 (mv) ?_
    refine kv g0 (mv) ?_
    refine kv g0 (ixS 92 (e92 (rd_T92 l0 p10)) c13 (getE (z := z92) c13 c12)) ?_
    refine kv g0 (faR 1 1) ?_
    refine kv g0 (faR 1 2) ?_
    refine kv g0 (ldR (.lit (.int .i64 ((rd_T92 l0 p10).f1.f1)))) ?_
    refine kv g0 (mv) ?_
    refine kv g0 (neq) ?_
    refine wk_end ?_
    refine ac_next ?_
    by_cases c16 : ((rd_T92 l0 p10).f1.f1) = (wrap64 ((wrap64 (p9 + 1)) + 1))
    ·rw [if_pos c16] at H
     refine aw_ifF ?_ (eM c16)
     refine aw_skip ?_
     refine ac_next ?_
     refine aw_grp1 ?_
     refine wk_start ?_
     refine kv g0 (mv) ?_
     refine kv g0 (add6) ?_
     refine kv g0 (asg) ?_
     refine wk_end ?_
     refine ac_next ?_
     refine aw_grp1 ?_
     refine aw_grp1 ?_
     refine wk_start ?_
     refine kv g0 (mv) ?_
     refine kv g0 (mv) ?_
     refine kv g0 (ixS 92 (e92 (rd_T92 l0 p10)) c13 (getE (z := z92) c13 c12)) ?_
     refine kv g0 (faR 3 3) ?_
     refine kv g0 (ldR (.lit (.int .i64 ((rd_T92 l0 p10).f2)))) ?_
     refine kv g0 (mv) ?_
     refine kv g0 (neq) ?_
     refine wk_end ?_
     refine ac_next ?_
     by_cases c17 : ((rd_T92 l0 p10).f2) = (wrap64 ((wrap64 ((wrap64 (p9 + 1)) + 1)) + 1))
     ·rw [if_pos c17] at H
      refine aw_ifF ?_ (eM c17)
      refine aw_skip ?_
      refine ac_next ?_
      refine aw_grp1 ?_
      refine wk_start ?_
      refine kv g0 (mv) ?_
      refine kv g0 (add6) ?_
      refine kv g0 (asg) ?_
      refine wk_end ?_
      refine ac_next ?_
      refine aw_grp1 ?_
      refine aw_grp1 ?_
      refine wk_start ?_
      refine kv g0 (mv) ?_
      refine kv g0 (mv) ?_
      refine kv g0 (ixS 92 (e92 (rd_T92 l0 p10)) c13 (getE (z := z92) c13 c12)) ?_
      refine kv g0 (faR 4 4) ?_
      refine kv g0 (faR 0 4) ?_
      refine kv g0 (ldR (.lit (.int .i64 ((rd_T92 l0 p10).f3.f0)))) ?_
      refine kv g0 (mv) ?_
      refine kv g0 (neq) ?_
      refine wk_end ?_
      refine ac_next ?_
      by_cases c18 : ((rd_T92 l0 p10).f3.f0) = (wrap64 ((wrap64 ((wrap64 ((wrap64 (p9 + 1)) + 1)) + 1)) + 1))
      ·rw [if_pos c18] at H
       refine aw_ifF ?_ (eM c18)
       refine aw_skip ?_
       refine ac_next ?_
       refine aw_grp1 ?_
       refine wk_start ?_
       refine kv g0 (mv) ?_
       refine kv g0 (add6) ?_
       refine kv g0 (asg) ?_
       refine wk_end ?_
       refine ac_next ?_
       refine aw_grp1 ?_
       refine aw_grp1 ?_
       refine wk_start ?_
       refine kv g0 (mv) ?_
       refine kv g0 (mv) ?_
       refine kv g0 (ixS 92 (e92 (rd_T92 l0 p10)) c13 (getE (z := z92) c13 c12)) ?_
       refine kv g0 (faR 4 4) ?_
       refine kv g0 (faR 1 5) ?_
       refine kv g0 (ldR (.lit (.int .i64 ((rd_T92 l0 p10).f3.f1)))) ?_
       refine kv g0 (mv) ?_
       refine kv g0 (neq) ?_
       refine wk_end ?_
       refine ac_next ?_
       by_cases c19 : ((rd_T92 l0 p10).f3.f1) = (wrap64 ((wrap64 ((wrap64 ((wrap64 ((wrap64 (p9 + 1)) + 1)) + 1)) + 1)) + 1))
       ·rw [if_pos c19] at H
        refine aw_ifF ?_ (eM c19)
        refine aw_skip ?_
        refine ac_next ?_
        refine wk_start ?_
        refine kv g0 (mv) ?_
        refine kv g0 (add6) ?_
        refine kv g0 (asg) ?_
        refine wk_end ?_
        refine ac_blkN ?_
        refine ac_next ?_
        refine wk_start ?_
        refine kv g0 (mv) ?_
        refine kv g0 (add6) ?_
        refine kv g0 (asg) ?_
        refine wk_end ?_
        refine ac_k ?_
        exact acw hE [] 9999 (hK21 k11 (wrap64 ((wrap64 ((wrap64 ((wrap64 ((wrap64 ((wrap64 (p9 + 1)) + 1)) + 1)) + 1)) + 1)) + 1)) (wrap64 (p10 + 1)) (Nat.le_refl _) ⟨by omega, H⟩)
       rw [if_neg c19] at H
       refine aw_ifT ?_ (eN c19)
       refine aw_grp1 ?_
       refine wk_start ?_
       refine kv g0 (asg) ?_
       refine wk_end ?_
       refine ac_next ?_
       refine aw_ret ?_
       refine ac_thenR ?_
       refine ac_blkR ?_
       refine ac_thenR ?_
       refine ac_thenR ?_
       refine ac_blkR ?_
       refine ac_thenR ?_
       obtain rfl := Option.some.inj H
       exact acr hE [.tmp 4] (.tmp .nil) (.one _) [] 9999
      rw [if_neg c18] at H
      refine aw_ifT ?_ (eN c18)
      refine aw_grp1 ?_
      refine wk_start ?_
      refine kv g0 (asg) ?_
      refine wk_end ?_
      refine ac_next ?_
      refine aw_ret ?_
      refine ac_thenR ?_
      refine ac_blkR ?_
      refine ac_thenR ?_
      refine ac_thenR ?_
      refine ac_blkR ?_
      refine ac_thenR ?_
      obtain rfl := Option.some.inj H
      exact acr hE [.tmp 4] (.tmp .nil) (.one _) [] 9999
     rw [if_neg c17] at H
     refine aw_ifT ?_ (eN c17)
     refine aw_grp1 ?_
     refine wk_start ?_
     refine kv g0 (asg) ?_
     refine wk_end ?_
     refine ac_next ?_
     refine aw_ret ?_
     refine ac_thenR ?_
     refine ac_blkR ?_
     refine ac_thenR ?_
     refine ac_thenR ?_
     refine ac_blkR ?_
     refine ac_thenR ?_
     obtain rfl := Option.some.inj H
     exact acr hE [.tmp 4] (.tmp .nil) (.one _) [] 9999
    rw [if_neg c16] at H
    refine aw_ifT ?_ (eN c16)
    refine aw_grp1 ?_
    refine wk_start ?_
    refine kv g0 (asg) ?_
    refine wk_end ?_
    refine ac_next ?_
    refine aw_ret ?_
    refine ac_thenR ?_
    refine ac_blkR ?_
    refine ac_thenR ?_
    refine ac_thenR ?_
    refine ac_blkR ?_
    refine ac_thenR ?_
    obtain rfl := Option.some.inj H
    exact acr hE [.tmp 4] (.tmp .nil) (.one _) [] 9999
   rw [if_neg c15] at H
   refine aw_ifT ?_ (eN c15)
   refine aw_grp1 ?_
   refine wk_start ?_
   refine kv g0 (asg) ?_
   refine wk_end ?_
   refine ac_next ?_
   refine aw_ret ?_
   refine ac_thenR ?_
   refine ac_blkR ?_
   refine ac_thenR ?_
   refine ac_thenR ?_
   refine ac_blkR ?_
   refine ac_thenR ?_
   obtain rfl := Option.some.inj H
   exact acr hE [.tmp 4] (.tmp .nil) (.one _) [] 9999
  rw [if_neg c14] at H
  refine aw_ifT ?_ (eN c14)
  refine aw_grp1 ?_
  refine wk_start ?_
  refine kv g0 (asg) ?_
  refine wk_end ?_
  refine ac_next ?_
  refine aw_ret ?_
  refine ac_thenR ?_
  refine ac_blkR ?_
  refine ac_thenR ?_
  refine ac_thenR ?_
  refine ac_blkR ?_
  refine ac_thenR ?_
  obtain rfl := Option.some.inj H
  exact acr hE [.tmp 4] (.tmp .nil) (.one _) [] 9999
 rw [if_neg c12] at H
 refine aw_ifF ?_ (decide_eq_false c12)
 refine aw_exit ?_
 refine ac_then ?_
 refine ac_then ?_
 refine ac_hit rfl ?_
 refine ac_next ?_
 refine aw_grp1 ?_
 refine wk_start ?_
 refine kv g0 (mv) ?_
 refine kv g0 (asg) ?_
 refine wk_end ?_
 refine ac_next ?_
 refine aw_ret ?_
 obtain rfl := Option.some.inj H
 exact acr hE [.tmp 4] (.tmp .nil) (.one _) [] 9999
/-! laws_heldRuleS -/
def laws_heldRuleS.l0 : Nat → (List S60) → Int → Int → Option (Int)
 | 0, _, _, _ => none
 | k13 + 1, l0, p11, p12 => if p12 < (l0.length : Int) then if 0 ≤ p12 then ((laws_heldIntS.f k13 ((rd_T60 l0 p12).f0) p11).bind fun t16 => if t16 < 0 then some (-1) else (laws_heldCondS.f k13 ((rd_T60 l0 p12).f1) t16).bind fun t19 => if t19 < 0 then some (-1) else if ((rd_T60 l0 p12).f2) = t19 then if ((rd_T60 l0 p12).f3) = (wrap64 (t19 + 1)) then laws_heldRuleS.l0 k13 l0 (wrap64 ((wrap64 (t19 + 1)) + 1)) (wrap64 (p12 + 1)) else some (-1) else some (-1)) else none else some p11
def laws_heldRuleS.f (k : Nat) (l0 : List S60) (a1 : Int) : Option (Int) := laws_heldRuleS.l0 k l0 a1 0
theorem laws_heldRuleS.ok {k : Nat} {l0 : List S60} {a1 : Int} {r : Int} (H : laws_heldRuleS.f k l0 a1 = some r) : ACalls Try.prog 51 [] [.sl .o 4 (l0.map e60), .lit (.int .i64 a1)] [] (.lit (.int .i64 r)) := by
 refine acalls (fn := Try.f51) (nt := 49) Try.func51 rfl rfl (Nat.le_of_ble_eq_true rfl) fun E hE => ?_
 rw [laws_heldRuleS.f] at H
 refine aw_grp1 ?_
 refine wk_start ?_
 refine kv g0 (asg) ?_
 refine wk_end ?_
 refine ac_next ?_
 refine aw_grp1 ?_
 refine aw_grp1 ?_
 refine wk_start ?_
 refine kv g0 (asg) ?_
 refine wk_end ?_
 refine ac_next ?_
 refine aw_block ?_
 refine aw_loop2 (fun (k_ : Nat) (p11 : Int) (p12 : Int) => k_ ≤ k ∧ laws_heldRuleS.l0 k_ l0 p11 p12 = some r) (fun (p11 : Int) (p12 : Int) => ⟨[(0, .sl .o 4 (l0.map e60)), (1, .lit (.int .i64 p11)), (5, .lit (.int .i64 p12))], []⟩) k a1 0 ⟨Nat.le_refl _, H⟩ (fun K_ h_ => acw hE [] 9999 h_) (fun _ _ => by intro h_; have h_ := h_.2; rw [laws_heldRuleS.l0.eq_1] at h_; cases h_) ?_
 intro k13 p11 p12 hq_ K24 hK25
 have hk13 := hq_.1
 have H := hq_.2
 clear hq_
 rw [laws_heldRuleS.l0.eq_2] at H
 refine aw_grp1 ?_
 refine aw_grp1 ?_
 refine wk_start ?_
 refine kv g0 (mv) ?_
 refine kv g0 (mv) ?_
 refine kv g0 (lnS lenE) ?_
 refine kv g0 (lss) ?_
 refine wk_end ?_
 refine ac_next ?_
 by_cases c14 : p12 < (l0.length : Int)
 ·rw [if_pos c14] at H
  refine aw_ifT ?_ (decide_eq_true c14)
  refine aw_skip ?_
  refine ac_next ?_
  refine aw_grp1 ?_
  refine aw_block ?_
  refine aw_grp1 ?_
  refine wk_start ?_
  refine kv g0 (mv) ?_
  refine kv g0 (mv) ?_
  obtain ⟨c15, H⟩ := of_if H
  refine kv g0 (ixS 60 (e60 (rd_T60 l0 p12)) c15 (getE (z := z60) c15 c14)) ?_
  refine kv g0 (faR 0 0) ?_
  refine kv g0 (ldR (.sl .o 1 (((rd_T60 l0 p12).f0).map (eI .i64)))) ?_
  refine kv g0 (mv) ?_
  obtain ⟨t16, A17, H⟩ := of_bind H
  refine kcS0 18 (.lit (.int .i64 t16)) [] g0 (cal (laws_heldIntS.ok A17) [] 9999 .n (hf := Try.func16)) rfl rfl ?_
  refine kv g0 (asg) ?_
  refine wk_end ?_
  refine ac_next ?_
  refine aw_grp1 ?_
  refine aw_grp1 ?_
  refine wk_start ?_
  refine kv g0 (mv) ?_
  refine kv g0 (lss) ?_
  refine wk_end ?_
  refine ac_next ?_
  by_cases c18 : t16 < 0
  ·rw [if_pos c18] at H
   refine aw_ifT ?_ (decide_eq_true c18)
   refine aw_grp1 ?_
   refine wk_start ?_
   refine kv g0 (asg) ?_
   refine wk_end ?_
   refine ac_next ?_
   refine aw_ret ?_
   refine ac_thenR ?_
   refine ac_blkR ?_
   refine ac_thenR ?_
   refine ac_thenR ?_
   refine ac_blkR ?_
   refine ac_thenR ?_
   obtain rfl := Option.some.inj H
   exact acr hE [.tmp 4] (.tmp .nil) (.one _) [] 9999
  rw [if_neg c18] at H
  refine aw_ifF ?_ (decide_eq_false c18)
  refine aw_skip ?_
  refine ac_next ?_
  refine aw_grp1 ?_
  refine wk_start ?_
  refine kv g0 (mv) ?_
  refine kv g0 (mv) ?_
  refine kv g0 (ixS 60 (e60 (rd_T60 l0 p12)) c15 (getE (z := z60) c15 c14)) ?_
  refine kv g0 (faR 1 1) ?_
  refine kv g0 (ldR (.sl .o 6 (((rd_T60 l0 p12).f1).map e92))) ?_
  refine kv g0 (mv) ?_
  obtain ⟨t19, A20, H⟩ := of_bind H
  refine kcS0 27 (.lit (.int .i64 t19)) [] g0 (cal (laws_heldCondS.ok A20) [] 9999 .n (hf := Try.func89)) rfl rfl ?_
  refine kv g0 (asg) ?_
  refine wk_end ?_
  refine ac_next ?_
  refine aw_grp1 ?_
  refine aw_grp1 ?_
  refine wk_start ?_
  refine kv g0 (mv) ?_
  refine kv g0 (lss) ?_
  refine wk_end ?_
  refine ac_next ?_
  by_cases c21 : t19 < 0
  ·rw [if_pos c21] at H
   refine aw_ifT ?_ (decide_eq_true c21)
   refine aw_grp1 ?_
   refine wk_start ?_
   refine kv g0 (asg) ?_
   refine wk_end ?_
   refine ac_next ?_
   refine aw_ret ?_
   refine ac_thenR ?_
   refine ac_blkR ?_
   refine ac_thenR ?_
   refine ac_thenR ?_
   refine ac_blkR ?_
   refine ac_thenR ?_
   obtain rfl := Option.some.inj H
   exact acr hE [.tmp 4] (.tmp .nil) (.one _) [] 9999
  rw [if_neg c21] at H
  refine aw_ifF ?_ (decide_eq_false c21)
  refine aw_skip ?_
  refine ac_next ?_
  refine aw_grp1 ?_
  refine aw_grp1 ?_
  refine wk_start ?_
  refine kv g0 (mv) ?_
  refine kv g0 (mv) ?_
  refine kv g0 (ixS 60 (e60 (rd_T60 l0 p12)) c15 (getE (z := z60) c15 c14)) ?_
  refine kv g0 (faR 2 2) ?_
  refine kv g0 (ldR (.lit (.int .i64 ((rd_T60 l0 p12).f2)))) ?_
  refine kv g0 (mv) ?_
  refine kv g0 (neq) ?_
  refine wk_end ?_
  refine ac_next ?_
  by_cases c22 : ((rd_T60 l0 p12).f2) = t19
  ·rw [if_pos c22] at H
   refine aw_ifF ?_ (eM c22)
   refine aw_skip ?_
   refine ac_next ?_
   refine aw_grp1 ?_
   refine wk_start ?_
   refine kv g0 (mv) ?_
   refine kv g0 (add6) ?_
   refine kv g0 (asg) ?_
   refine wk_end ?_
   refine ac_next ?_
   refine aw_grp1 ?_
   refine aw_grp1 ?_
   refine wk_start ?_
   refine kv g0 (mv) ?_
   refine kv g0 (mv) ?_
   refine kv g0 (ixS 60 (e60 (rd_T60 l0 p12)) c15 (getE (z := z60) c15 c14)) ?_
   refine kv g0 (faR 3 3) ?_
   refine kv g0 (ldR (.lit (.int .i64 ((rd_T60 l0 p12).f3)))) ?_
   refine kv g0 (mv) ?_
   refine kv g0 (neq) ?_
   refine wk_end ?_
   refine ac_next ?_
   by_cases c23 : ((rd_T60 l0 p12).f3) = (wrap64 (t19 + 1))
   ·rw [if_pos c23] at H
    refine aw_ifF ?_ (eM c23)
    refine aw_skip ?_
    refine ac_next ?_
    refine wk_start ?_
    refine kv g0 (mv) ?_
    refine kv g0 (add6) ?_
    refine kv g0 (asg) ?_
    refine wk_end ?_
    refine ac_blkN ?_
    refine ac_next ?_
    refine wk_start ?_
    refine kv g0 (mv) ?_
    refine kv g0 (add6) ?_
    refine kv g0 (asg) ?_
    refine wk_end ?_
    refine ac_k ?_
    exact acw hE [] 9999 (hK25 k13 (wrap64 ((wrap64 (t19 + 1)) + 1)) (wrap64 (p12 + 1)) (Nat.le_refl _) ⟨by omega, H⟩)
   rw [if_neg c23] at H
   refine aw_ifT ?_ (eN c23)
   refine aw_grp1 ?_
   refine wk_start ?_
   refine kv g0 (asg) ?_
   refine wk_end ?_
   refine ac_next ?_
   refine aw_ret ?_
   refine ac_thenR ?_
   refine ac_blkR ?_
   refine ac_thenR ?_
   refine ac_thenR ?_
   refine ac_blkR ?_
   refine ac_thenR ?_
   obtain rfl := Option.some.inj H
   exact acr hE [.tmp 4] (.tmp .nil) (.one _) [] 9999
  rw [if_neg c22] at H
  refine aw_ifT ?_ (eN c22)
  refine aw_grp1 ?_
  refine wk_start ?_
  refine kv g0 (asg) ?_
  refine wk_end ?_
  refine ac_next ?_
  refine aw_ret ?_
  refine ac_thenR ?_
  refine ac_blkR ?_
  refine ac_thenR ?_
  refine ac_thenR ?_
  refine ac_blkR ?_
  refine ac_thenR ?_
  obtain rfl := Option.some.inj H
  exact acr hE [.tmp 4] (.tmp .nil) (.one _) [] 9999
 rw [if_neg c14] at H
 refine aw_ifF ?_ (decide_eq_false c14)
 refine aw_exit ?_
 refine ac_then ?_
 refine ac_then ?_
 refine ac_hit rfl ?_
 refine ac_next ?_
 refine aw_grp1 ?_
 refine wk_start ?_
 refine kv g0 (mv) ?_
 refine kv g0 (asg) ?_
 refine wk_end ?_
 refine ac_next ?_
 refine aw_ret ?_
 obtain rfl := Option.some.inj H
 exact acr hE [.tmp 4] (.tmp .nil) (.one _) [] 9999
/-! laws_heldPolicy -/
def laws_heldPolicy.f (k : Nat) (a0_0 : Int) (a0_1 : Int) (a0_2 : Int) (l0_3 : List S60) (a1 : Int) : Option (Int) := (laws_heldRuleS.f k l0_3 a1).bind fun t1 => if t1 < 0 then some (-1) else some t1
theorem laws_heldPolicy.ok {k : Nat} {a0_0 : Int} {a0_1 : Int} {a0_2 : Int} {l0_3 : List S60} {a1 : Int} {r : Int} (H : laws_heldPolicy.f k a0_0 a0_1 a0_2 l0_3 a1 = some r) : ACalls Try.prog 19 [] [.agg [.lit (.int .i64 a0_0), .lit (.int .i64 a0_1), .lit (.int .i64 a0_2), .sl .o 4 (l0_3.map e60)], .lit (.int .i64 a1)] [] (.lit (.int .i64 r)) := by
 refine acalls (fn := Try.f19) (nt := 12) Try.func19 rfl rfl (Nat.le_of_ble_eq_true rfl) fun E hE => ?_
 rw [laws_heldPolicy.f] at H
 refine aw_grp1 ?_
 refine wk_start ?_
 refine kb g0 (bxA 0) ?_
 refine kv g0 (asg) ?_
 refine wk_end ?_
 refine ac_next ?_
 refine aw_grp1 ?_
 refine wk_start ?_
 refine kv g0 (faB 3 3) ?_
 refine kv g0 (ldB) ?_
 refine kv g0 (mv) ?_
 obtain ⟨t1, A2, H⟩ := of_bind H
 refine kcS0 8 (.lit (.int .i64 t1)) [] g0 (cal (laws_heldRuleS.ok A2) [] 9999 .n (hf := Try.func51)) rfl rfl ?_
 refine kv g0 (asg) ?_
 refine wk_end ?_
 refine ac_next ?_
 refine aw_grp1 ?_
 refine aw_grp1 ?_
 refine wk_start ?_
 refine kv g0 (mv) ?_
 refine kv g0 (lss) ?_
 refine wk_end ?_
 refine ac_next ?_
 by_cases c3 : t1 < 0
 ·rw [if_pos c3] at H
  refine aw_ifT ?_ (decide_eq_true c3)
  refine aw_grp1 ?_
  refine wk_start ?_
  refine kv g0 (asg) ?_
  refine wk_end ?_
  refine ac_next ?_
  refine aw_ret ?_
  refine ac_thenR ?_
  obtain rfl := Option.some.inj H
  exact acr hE [.tmp 4] (.tmp .nil) (.one _) [] 9999
 rw [if_neg c3] at H
 refine aw_ifF ?_ (decide_eq_false c3)
 refine aw_skip ?_
 refine ac_next ?_
 refine aw_grp1 ?_
 refine wk_start ?_
 refine kv g0 (mv) ?_
 refine kv g0 (asg) ?_
 refine wk_end ?_
 refine ac_next ?_
 refine aw_ret ?_
 obtain rfl := Option.some.inj H
 exact acr hE [.tmp 4] (.tmp .nil) (.one _) [] 9999
/-! laws_FnExactLessened -/
def laws_FnExactLessened.f (k : Nat) (a0_0 : Int) (a0_1 : Int) (a0_2 : Int) (l0_3 : List S86) : Option (Bool) := (laws_szPolicy.f k a0_0 a0_1 a0_2 l0_3 1048576).bind fun t1 => if t1 < 0 then some true else (laws_toPolicy.f k a0_0 a0_1 a0_2 l0_3).bind fun t4 => ((spec_Lessened.f k t4.1 t4.2.1 t4.2.2.1 t4.2.2.2).bind fun t6 => (laws_toPolicy.f k a0_0 a0_1 a0_2 l0_3).bind fun t8 => (impl_Lessened.f k t8.1 t8.2.1 t8.2.2.1 t8.2.2.2).bind fun t10 => (laws_eqPolicy.f k t10.1 t10.2.1 t10.2.2.1 t10.2.2.2 t6.1 t6.2.1 t6.2.2.1 t6.2.2.2).bind fun t12 => if t12 = true then (laws_toPolicy.f k a0_0 a0_1 a0_2 l0_3).bind fun t15 => ((laws_eqPolicy.f k t8.1 t8.2.1 t8.2.2.1 t8.2.2.2 t15.1 t15.2.1 t15.2.2.1 t15.2.2.2).bind fun t17 => if t17 = true then (laws_markPolicy.f k t8.1 t8.2.1 t8.2.2.1 t8.2.2.2 1).bind fun t20 => if t20.1 < 0 then some false else ((laws_eqPolicy.f k t10.1 t10.2.1 t10.2.2.1 t10.2.2.2 t6.1 t6.2.1 t6.2.2.1 t6.2.2.2).bind fun t23 => if t23 = true then (laws_markPolicy.f k t10.1 t10.2.1 t10.2.2.1 t10.2.2.2 1).bind fun t26 => (laws_heldPolicy.f k t10.1 t10.2.1 t10.2.2.1 t26.2 1).bind fun t28 => if t28 < 0 then some false else if t28 = t26.1 then (laws_toPolicy.f k a0_0 a0_1 a0_2 l0_3).bind fun t32 => ((impl_Lessened.f k t32.1 t32.2.1 t32.2.2.1 t32.2.2.2).bind fun t34 => (laws_eqPolicy.f k t34.1 t34.2.1 t34.2.2.1 t34.2.2.2 t6.1 t6.2.1 t6.2.2.1 t6.2.2.2).bind fun t36 => if t36 = true then (laws_heldPolicy.f k t10.1 t10.2.1 t10.2.2.1 t26.2 1).bind fun t39 => if t39 < 0 then some false else if t39 = t26.1 then some true else some false else some false) else some false else some false) else some false) else some false)
theorem laws_FnExactLessened.ok {k : Nat} {a0_0 : Int} {a0_1 : Int} {a0_2 : Int} {l0_3 : List S86} {r : Bool} (H : laws_FnExactLessened.f k a0_0 a0_1 a0_2 l0_3 = some r) : ACalls Try.prog 6 [] [.agg [.lit (.int .i64 a0_0), .lit (.int .i64 a0_1), .lit (.int .i64 a0_2), .sl .o 4 (l0_3.map e86)]] [] (.lit (.bool r)) := by
 refine acalls (fn := Try.f6) (nt := 69) Try.func6 rfl rfl (Nat.le_of_ble_eq_true rfl) fun E hE => ?_
 rw [laws_FnExactLessened.f] at H
 refine aw_grp1 ?_
 refine wk_start ?_
 refine kb g0 (bxA 0) ?_
 refine kv g0 (asg) ?_
 refine wk_end ?_
 refine ac_next ?_
 refine aw_grp1 ?_
 refine wk_start ?_
 refine kv g0 (asg) ?_
 refine wk_end ?_
 refine ac_next ?_
 refine aw_grp1 ?_
 refine wk_start ?_
 refine kv g0 (ldBA 4 [.lit (.int .i64 a0_0), .lit (.int .i64 a0_1), .lit (.int .i64 a0_2), .sl .o 4 (l0_3.map e86)]) ?_
 refine kv g0 (mv) ?_
 obtain ⟨t1, A2, H⟩ := of_bind H
 refine kcS0 13 (.lit (.int .i64 t1)) [] g0 (cal (laws_szPolicy.ok A2) [] 9999 .n (hf := Try.func8)) rfl rfl ?_
 refine kv g0 (asg) ?_
 refine wk_end ?_
 refine ac_next ?_
 refine aw_grp1 ?_
 refine aw_grp1 ?_
 refine wk_start ?_
 refine kv g0 (mv) ?_
 refine kv g0 (lss) ?_
 refine wk_end ?_
 refine ac_next ?_
 by_cases c3 : t1 < 0
 ·rw [if_pos c3] at H
  refine aw_ifT ?_ (decide_eq_true c3)
  refine aw_grp1 ?_
  refine wk_start ?_
  refine kv g0 (asg) ?_
  refine wk_end ?_
  refine ac_next ?_
  refine aw_ret ?_
  refine ac_thenR ?_
  obtain rfl := Option.some.inj H
  exact acr hE [.tmp 2] (.tmp .nil) (.one _) [] 9999
 rw [if_neg c3] at H
 refine aw_ifF ?_ (decide_eq_false c3)
 refine aw_skip ?_
 refine ac_next ?_
 refine aw_grp1 ?_
 refine wk_start ?_
 refine kv g0 (ldBA 4 [.lit (.int .i64 a0_0), .lit (.int .i64 a0_1), .lit (.int .i64 a0_2), .sl .o 4 (l0_3.map e86)]) ?_
 obtain ⟨t4, A5, H⟩ := of_bind H
 refine kcS1 17 (.agg [.lit (.int .i64 t4.1), .lit (.int .i64 t4.2.1), .lit (.int .i64 t4.2.2.1), .row 1]) [(1, .drow false ds60 60 4 (t4.2.2.2.map e60))] g0 (cal (laws_toPolicy.ok A5) [1] 9999 .n (hf := Try.func10)) rfl rfl ?_
 obtain ⟨t6, A7, H⟩ := of_bind H
 refine kcS1 18 (.agg [.lit (.int .i64 t6.1), .lit (.int .i64 t6.2.1), .lit (.int .i64 t6.2.2.1), .row 2]) [(2, .row 60 4 (t6.2.2.2.map e60))] g0 (cal (spec_Lessened.ok A7) [2] 9999 .n (hf := Try.func22)) rfl rfl ?_
 refine kb g0 (alc 3 [.int .i64 0, .int .i64 0, .int .i64 0, .slice none 0 0] [.lit (.int .i64 0), .lit (.int .i64 0), .lit (.int .i64 0), .lit (.slice none 0 0)]) ?_
 refine ks g0 (stB 4 [.lit (.int .i64 t6.1), .lit (.int .i64 t6.2.1), .lit (.int .i64 t6.2.2.1), .row 2]) ?_
 refine wk_end ?_
 refine ac_next ?_
 refine aw_grp1 ?_
 refine wk_start ?_
 refine kv g0 (ldBA 4 [.lit (.int .i64 a0_0), .lit (.int .i64 a0_1), .lit (.int .i64 a0_2), .sl .o 4 (l0_3.map e86)]) ?_
 obtain ⟨t8, A9, H⟩ := of_bind H
 refine kcS1 20 (.agg [.lit (.int .i64 t8.1), .lit (.int .i64 t8.2.1), .lit (.int .i64 t8.2.2.1), .row 4]) [(4, .drow false ds60 60 4 (t8.2.2.2.map e60))] g0 (cal (laws_toPolicy.ok A9) [4] 9999 .n (hf := Try.func10)) rfl rfl ?_
 refine kb g0 (alc 5 [.int .i64 0, .int .i64 0, .int .i64 0, .slice none 0 0] [.lit (.int .i64 0), .lit (.int .i64 0), .lit (.int .i64 0), .lit (.slice none 0 0)]) ?_
 refine ks g0 (stB 4 [.lit (.int .i64 t8.1), .lit (.int .i64 t8.2.1), .lit (.int .i64 t8.2.2.1), .row 4]) ?_
 refine wk_end ?_
 refine ac_next ?_
 refine aw_grp1 ?_
 refine wk_start ?_
 refine kv g0 (ldBA 4 [.lit (.int .i64 t8.1), .lit (.int .i64 t8.2.1), .lit (.int .i64 t8.2.2.1), .row 4]) ?_
 obtain ⟨t10, A11, H⟩ := of_bind H
 refine kcS1 22 (.agg [.lit (.int .i64 t10.1), .lit (.int .i64 t10.2.1), .lit (.int .i64 t10.2.2.1), .row 6]) [(6, .drow false ds60 60 4 (t10.2.2.2.map e60))] g0 (cal (impl_Lessened.ok A11) [6] 9999 .n (hf := Try.func23)) rfl rfl ?_
 refine kb g0 (alc 7 [.int .i64 0, .int .i64 0, .int .i64 0, .slice none 0 0] [.lit (.int .i64 0), .lit (.int .i64 0), .lit (.int .i64 0), .lit (.slice none 0 0)]) ?_
 refine ks g0 (stB 4 [.lit (.int .i64 t10.1), .lit (.int .i64 t10.2.1), .lit (.int .i64 t10.2.2.1), .row 6]) ?_
 refine wk_end ?_
 refine ac_next ?_
 refine aw_grp1 ?_
 refine aw_grp1 ?_
 refine wk_start ?_
 refine kv g0 (ldBA 4 [.lit (.int .i64 t10.1), .lit (.int .i64 t10.2.1), .lit (.int .i64 t10.2.2.1), .row 6]) ?_
 refine kv g0 (ldBA 4 [.lit (.int .i64 t6.1), .lit (.int .i64 t6.2.1), .lit (.int .i64 t6.2.2.1), .row 2]) ?_
 obtain ⟨t12, A13, H⟩ := of_bind H
 refine kcS0 25 (.lit (.bool t12)) [] g0 (cal (laws_eqPolicy.ok A13) [] 9999 .n (hf := Try.func13)) rfl rfl ?_
 refine kv g0 (not_) ?_
 refine wk_end ?_
 refine ac_next ?_
 by_cases c14 : t12 = true
 ·rw [if_pos c14] at H
  refine aw_ifF ?_ (nF c14)
  refine aw_skip ?_
  refine ac_next ?_
  refine aw_grp1 ?_
  refine aw_grp1 ?_
  refine wk_start ?_
  refine kv g0 (ldBA 4 [.lit (.int .i64 t8.1), .lit (.int .i64 t8.2.1), .lit (.int .i64 t8.2.2.1), .row 4]) ?_
  refine kv g0 (ldBA 4 [.lit (.int .i64 a0_0), .lit (.int .i64 a0_1), .lit (.int .i64 a0_2), .sl .o 4 (l0_3.map e86)]) ?_
  obtain ⟨t15, A16, H⟩ := of_bind H
  refine kcS1 29 (.agg [.lit (.int .i64 t15.1), .lit (.int .i64 t15.2.1), .lit (.int .i64 t15.2.2.1), .row 8]) [(8, .drow false ds60 60 4 (t15.2.2.2.map e60))] g0 (cal (laws_toPolicy.ok A16) [8] 9999 .n (hf := Try.func10)) rfl rfl ?_
  obtain ⟨t17, A18, H⟩ := of_bind H
  refine kcS0 30 (.lit (.bool t17)) [] g0 (cal (laws_eqPolicy.ok A18) [] 9999 .n (hf := Try.func13)) rfl rfl ?_
  refine kv g0 (not_) ?_
  refine wk_end_draw hM (by kernel_rfl) ?_
  refine ac_next ?_
  by_cases c19 : t17 = true
  ·rw [if_pos c19] at H
   refine aw_ifF ?_ (nF c19)
   refine aw_skip ?_
   refine ac_next ?_
   refine aw_grp1 ?_
   refine wk_start ?_
   refine kv g0 (asg) ?_
   refine wk_end ?_
   refine ac_next ?_
   refine aw_grp1 ?_
   refine wk_start ?_
   refine kv g0 (ldBA 4 [.lit (.int .i64 t8.1), .lit (.int .i64 t8.2.1), .lit (.int .i64 t8.2.2.1), .row 4]) ?_
   refine kv g0 (mv) ?_
   obtain ⟨t20, A21, H⟩ := of_bind H
   refine kcS1 34 (.lit (.int .i64 t20.1)) [(4, .drow false ds60 60 4 (t20.2.map e60))] g0 (cal (laws_markPolicy.ok A21) [4] 9999 .n (hf := Try.func14)) rfl rfl ?_
   refine kv g0 (asg) ?_
   refine wk_end ?_
   refine ac_next ?_
   refine aw_grp1 ?_
   refine aw_grp1 ?_
   refine wk_start ?_
   refine kv g0 (mv) ?_
   refine kv g0 (lss) ?_
   refine kv g0 (mv) ?_
   by_cases c22 : t20.1 < 0
   ·rw [if_pos c22] at H
    refine kx (hF (decide_eq_true c22)) ?_
    refine kx (hF (decide_eq_true c22)) ?_
    refine kx (hF (decide_eq_true c22)) ?_
    refine kx (hF (decide_eq_true c22)) ?_
    refine kv g0 (pkT (decide_eq_true c22)) ?_
    refine wk_end ?_
    refine ac_next ?_
    refine aw_ifT ?_ rfl
    refine aw_grp1 ?_
    refine wk_start ?_
    refine kv g0 (asg) ?_
    refine wk_end ?_
    refine ac_next ?_
    refine aw_ret ?_
    refine ac_thenR ?_
    obtain rfl := Option.some.inj H
    exact acr hE [.tmp 2] (.tmp .nil) (.one _) [] 9999
   rw [if_neg c22] at H
   refine kv (g1 (decide_eq_false c22)) (ldBA 4 [.lit (.int .i64 t10.1), .lit (.int .i64 t10.2.1), .lit (.int .i64 t10.2.2.1), .row 6]) ?_
   refine kv (g1 (decide_eq_false c22)) (ldBA 4 [.lit (.int .i64 t6.1), .lit (.int .i64 t6.2.1), .lit (.int .i64 t6.2.2.1), .row 2]) ?_
   obtain ⟨t23, A24, H⟩ := of_bind H
   refine kcS0 40 (.lit (.bool t23)) [] (g1 (decide_eq_false c22)) (cal (laws_eqPolicy.ok A24) [] 9999 .n (hf := Try.func13)) rfl rfl ?_
   refine kv (g1 (decide_eq_false c22)) (not_) ?_
   refine kv g0 (pkF (decide_eq_false c22)) ?_
   refine wk_end ?_
   refine ac_next ?_
   by_cases c25 : t23 = true
   ·rw [if_pos c25] at H
    refine aw_ifF ?_ (nF c25)
    refine aw_skip ?_
    refine ac_next ?_
    refine aw_grp1 ?_
    refine wk_start ?_
    refine kv g0 (asg) ?_
    refine wk_end ?_
    refine ac_next ?_
    refine aw_grp1 ?_
    refine wk_start ?_
    refine kv g0 (ldBA 4 [.lit (.int .i64 t10.1), .lit (.int .i64 t10.2.1), .lit (.int .i64 t10.2.2.1), .row 6]) ?_
    refine kv g0 (mv) ?_
    obtain ⟨t26, A27, H⟩ := of_bind H
    refine kcS1 45 (.lit (.int .i64 t26.1)) [(6, .drow false ds60 60 4 (t26.2.map e60))] g0 (cal (laws_markPolicy.ok A27) [6] 9999 .n (hf := Try.func14)) rfl rfl ?_
    refine kv g0 (asg) ?_
    refine wk_end ?_
    refine ac_next ?_
    refine aw_grp1 ?_
    refine wk_start ?_
    refine kv g0 (asg) ?_
    refine wk_end ?_
    refine ac_next ?_
    refine aw_grp1 ?_
    refine wk_start ?_
    refine kv g0 (ldBA 4 [.lit (.int .i64 t10.1), .lit (.int .i64 t10.2.1), .lit (.int .i64 t10.2.2.1), .row 6]) ?_
    refine kv g0 (mv) ?_
    obtain ⟨t28, A29, H⟩ := of_bind H
    refine kcS0 48 (.lit (.int .i64 t28)) [] g0 (cal (laws_heldPolicy.ok A29) [] 9999 .n (hf := Try.func19)) rfl rfl ?_
    refine kv g0 (asg) ?_
    refine wk_end ?_
    refine ac_next ?_
    refine aw_grp1 ?_
    refine aw_grp1 ?_
    refine wk_start ?_
    refine kv g0 (mv) ?_
    refine kv g0 (lss) ?_
    refine wk_end ?_
    refine ac_next ?_
    by_cases c30 : t28 < 0
    ·rw [if_pos c30] at H
     refine aw_ifT ?_ (decide_eq_true c30)
     refine aw_grp1 ?_
     refine wk_start ?_
     refine kv g0 (asg) ?_
     refine wk_end ?_
     refine ac_next ?_
     refine aw_ret ?_
     refine ac_thenR ?_
     obtain rfl := Option.some.inj H
     exact acr hE [.tmp 2] (.tmp .nil) (.one _) [] 9999
    rw [if_neg c30] at H
    refine aw_ifF ?_ (decide_eq_false c30)
    refine aw_skip ?_
    refine ac_next ?_
    refine aw_grp1 ?_
    refine aw_grp1 ?_
    refine wk_start ?_
    refine kv g0 (mv) ?_
    refine kv g0 (mv) ?_
    refine kv g0 (neq) ?_
    refine wk_end ?_
    refine ac_next ?_
    by_cases c31 : t28 = t26.1
    ·rw [if_pos c31] at H
     refine aw_ifF ?_ (eM c31)
     refine aw_skip ?_
     refine ac_next ?_
     refine aw_grp1 ?_
     refine wk_start ?_
     refine kv g0 (ldBA 4 [.lit (.int .i64 a0_0), .lit (.int .i64 a0_1), .lit (.int .i64 a0_2), .sl .o 4 (l0_3.map e86)]) ?_
     obtain ⟨t32, A33, H⟩ := of_bind H
     refine kcS1 55 (.agg [.lit (.int .i64 t32.1), .lit (.int .i64 t32.2.1), .lit (.int .i64 t32.2.2.1), .row 9]) [(9, .drow false ds60 60 4 (t32.2.2.2.map e60))] g0 (cal (laws_toPolicy.ok A33) [9] 9999 .n (hf := Try.func10)) rfl rfl ?_
     obtain ⟨t34, A35, H⟩ := of_bind H
     refine kcS1 56 (.agg [.lit (.int .i64 t34.1), .lit (.int .i64 t34.2.1), .lit (.int .i64 t34.2.2.1), .row 10]) [(10, .drow false ds60 60 4 (t34.2.2.2.map e60))] g0 (cal (impl_Lessened.ok A35) [10] 9999 .n (hf := Try.func23)) rfl rfl ?_
     refine kb g0 (alc 11 [.int .i64 0, .int .i64 0, .int .i64 0, .slice none 0 0] [.lit (.int .i64 0), .lit (.int .i64 0), .lit (.int .i64 0), .lit (.slice none 0 0)]) ?_
     refine ks g0 (stB 4 [.lit (.int .i64 t34.1), .lit (.int .i64 t34.2.1), .lit (.int .i64 t34.2.2.1), .row 10]) ?_
     refine wk_end ?_
     refine ac_next ?_
     refine aw_grp1 ?_
     refine aw_grp1 ?_
     refine wk_start ?_
     refine kv g0 (ldBA 4 [.lit (.int .i64 t34.1), .lit (.int .i64 t34.2.1), .lit (.int .i64 t34.2.2.1), .row 10]) ?_
     refine kv g0 (ldBA 4 [.lit (.int .i64 t6.1), .lit (.int .i64 t6.2.1), .lit (.int .i64 t6.2.2.1), .row 2]) ?_
     obtain ⟨t36, A37, H⟩ := of_bind H
     refine kcS0 59 (.lit (.bool t36)) [] g0 (cal (laws_eqPolicy.ok A37) [] 9999 .n (hf := Try.func13)) rfl rfl ?_
     refine kv g0 (not_) ?_
     refine wk_end ?_
     refine ac_next ?_
     by_cases c38 : t36 = true
     ·rw [if_pos c38] at H
      refine aw_ifF ?_ (nF c38)
      refine aw_skip ?_
      refine ac_next ?_
      refine aw_grp1 ?_
      refine wk_start ?_
      refine kv g0 (asg) ?_
      refine wk_end ?_
      refine ac_next ?_
      refine aw_grp1 ?_
      refine wk_start ?_
      refine kv g0 (ldBA 4 [.lit (.int .i64 t10.1), .lit (.int .i64 t10.2.1), .lit (.int .i64 t10.2.2.1), .row 6]) ?_
      refine kv g0 (mv) ?_
      obtain ⟨t39, A40, H⟩ := of_bind H
      refine kcS0 63 (.lit (.int .i64 t39)) [] g0 (cal (laws_heldPolicy.ok A40) [] 9999 .n (hf := Try.func19)) rfl rfl ?_
      refine kv g0 (asg) ?_
      refine wk_end ?_
      refine ac_next ?_
      refine aw_grp1 ?_
      refine aw_grp1 ?_
      refine wk_start ?_
      refine kv g0 (mv) ?_
      refine kv g0 (lss) ?_
      refine wk_end ?_
      refine ac_next ?_
      by_cases c41 : t39 < 0
      ·rw [if_pos c41] at H
       refine aw_ifT ?_ (decide_eq_true c41)
       refine aw_grp1 ?_
       refine wk_start ?_
       refine kv g0 (asg) ?_
       refine wk_end ?_
       refine ac_next ?_
       refine aw_ret ?_
       refine ac_thenR ?_
       obtain rfl := Option.some.inj H
       exact acr hE [.tmp 2] (.tmp .nil) (.one _) [] 9999
      rw [if_neg c41] at H
      refine aw_ifF ?_ (decide_eq_false c41)
      refine aw_skip ?_
      refine ac_next ?_
      refine aw_grp1 ?_
      refine aw_grp1 ?_
      refine wk_start ?_
      refine kv g0 (mv) ?_
      refine kv g0 (mv) ?_
      refine kv g0 (neq) ?_
      refine wk_end ?_
      refine ac_next ?_
      by_cases c42 : t39 = t26.1
      ·rw [if_pos c42] at H
       refine aw_ifF ?_ (eM c42)
       refine aw_skip ?_
       refine ac_next ?_
       refine aw_grp1 ?_
       refine wk_start ?_
       refine kv g0 (asg) ?_
       refine wk_end ?_
       refine ac_next ?_
       refine aw_ret ?_
       obtain rfl := Option.some.inj H
       exact acr hE [.tmp 2] (.tmp .nil) (.one _) [] 9999
      rw [if_neg c42] at H
      refine aw_ifT ?_ (eN c42)
      refine aw_grp1 ?_
      refine wk_start ?_
      refine kv g0 (asg) ?_
      refine wk_end ?_
      refine ac_next ?_
      refine aw_ret ?_
      refine ac_thenR ?_
      obtain rfl := Option.some.inj H
      exact acr hE [.tmp 2] (.tmp .nil) (.one _) [] 9999
     rw [if_neg c38] at H
     refine aw_ifT ?_ (nT (bF c38))
     refine aw_grp1 ?_
     refine wk_start ?_
     refine kv g0 (asg) ?_
     refine wk_end ?_
     refine ac_next ?_
     refine aw_ret ?_
     refine ac_thenR ?_
     obtain rfl := Option.some.inj H
     exact acr hE [.tmp 2] (.tmp .nil) (.one _) [] 9999
    rw [if_neg c31] at H
    refine aw_ifT ?_ (eN c31)
    refine aw_grp1 ?_
    refine wk_start ?_
    refine kv g0 (asg) ?_
    refine wk_end ?_
    refine ac_next ?_
    refine aw_ret ?_
    refine ac_thenR ?_
    obtain rfl := Option.some.inj H
    exact acr hE [.tmp 2] (.tmp .nil) (.one _) [] 9999
   rw [if_neg c25] at H
   refine aw_ifT ?_ (nT (bF c25))
   refine aw_grp1 ?_
   refine wk_start ?_
   refine kv g0 (asg) ?_
   refine wk_end ?_
   refine ac_next ?_
   refine aw_ret ?_
   refine ac_thenR ?_
   obtain rfl := Option.some.inj H
   exact acr hE [.tmp 2] (.tmp .nil) (.one _) [] 9999
  rw [if_neg c19] at H
  refine aw_ifT ?_ (nT (bF c19))
  refine aw_grp1 ?_
  refine wk_start ?_
  refine kv g0 (asg) ?_
  refine wk_end ?_
  refine ac_next ?_
  refine aw_ret ?_
  refine ac_thenR ?_
  obtain rfl := Option.some.inj H
  exact acr hE [.tmp 2] (.tmp .nil) (.one _) [] 9999
 rw [if_neg c14] at H
 refine aw_ifT ?_ (nT (bF c14))
 refine aw_grp1 ?_
 refine wk_start ?_
 refine kv g0 (asg) ?_
 refine wk_end ?_
 refine ac_next ?_
 refine aw_ret ?_
 refine ac_thenR ?_
 obtain rfl := Option.some.inj H
 exact acr hE [.tmp 2] (.tmp .nil) (.one _) [] 9999
end Go.Proofs.Ythgmgbccgokfeaa.PFnExactLessened
