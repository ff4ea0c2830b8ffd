import Derived.Test.YtkkglhhkpihmgaaPFnExactWorldNewx2
set_option linter.unusedVariables false
set_option linter.unusedSimpArgs false
set_option maxRecDepth 100000
namespace Go.Proofs.Ytkkglhhkpihmgaa.PFnExactWorldNew
open Go Go.RowKit Go.Proofs.YtkkglhhkpihmgaaA
/-! laws_heldEarlyS -/
def laws_heldEarlyS.l0 : Nat → (List S135) → Int → Int → Option (Int)
 | 0, _, _, _ => none
 | k11 + 1, l0, p9, p10 => if p10 < (l0.length : Int) then if 0 ≤ p10 then if ((rd_T135 l0 p10).f0) = p9 then if ((rd_T135 l0 p10).f1) = (wrap64 (p9 + 1)) then if ((rd_T135 l0 p10).f2.f0) = (wrap64 ((wrap64 (p9 + 1)) + 1)) then if ((rd_T135 l0 p10).f2.f1) = (wrap64 ((wrap64 ((wrap64 (p9 + 1)) + 1)) + 1)) then if ((rd_T135 l0 p10).f2.f2) = (wrap64 ((wrap64 ((wrap64 ((wrap64 (p9 + 1)) + 1)) + 1)) + 1)) then if ((rd_T135 l0 p10).f2.f3) = (wrap64 ((wrap64 ((wrap64 ((wrap64 ((wrap64 (p9 + 1)) + 1)) + 1)) + 1)) + 1)) then laws_heldEarlyS.l0 k11 l0 (wrap64 ((wrap64 ((wrap64 ((wrap64 ((wrap64 ((wrap64 (p9 + 1)) + 1)) + 1)) + 1)) + 1)) + 1)) (wrap64 (p10 + 1)) else some (-1) else some (-1) else some (-1) else some (-1) else some (-1) else some (-1) else none else some p9
def laws_heldEarlyS.f (k : Nat) (l0 : List S135) (a1 : Int) : Option (Int) := laws_heldEarlyS.l0 k l0 a1 0
theorem laws_heldEarlyS.ok {k : Nat} {l0 : List S135} {a1 : Int} {r : Int} (H : laws_heldEarlyS.f k l0 a1 = some r) : ACalls Try.prog 70 [] [.sl .o 6 (l0.map e135), .lit (.int .i64 a1)] [] (.lit (.int .i64 r)) := by
 refine acalls (fn := Try.f70) (nt := 71) Try.func70 rfl rfl (Nat.le_of_ble_eq_true rfl) fun E hE => ?_
 rw [laws_heldEarlyS.f] at H
 refine aw_grp1 ?_
 refine wk_start ?_
 refine kv g0 (asg) ?_
 refine wk_end ?_
 refine ac_next ?_
 refine aw_grp1 ?_
 refine aw_grp1 ?_
 refine wk_start ?_
 refine kv g0 (asg) ?_
 refine wk_end ?_
 refine ac_next ?_
 refine aw_block ?_
 refine aw_loop2 (fun (k_ : Nat) (p9 : Int) (p10 : Int) => k_ ≤ k ∧ laws_heldEarlyS.l0 k_ l0 p9 p10 = some r) (fun (p9 : Int) (p10 : Int) => ⟨[(0, .sl .o 6 (l0.map e135)), (1, .lit (.int .i64 p9)), (5, .lit (.int .i64 p10))], []⟩) k a1 0 ⟨Nat.le_refl _, H⟩ (fun K_ h_ => acw hE [] 9999 h_) (fun _ _ => by intro h_; have h_ := h_.2; rw [laws_heldEarlyS.l0.eq_1] at h_; cases h_) ?_
 intro k11 p9 p10 hq_ K20 hK21
 have hk11 := hq_.1
 have H := hq_.2
 clear hq_
 rw [laws_heldEarlyS.l0.eq_2] at H
 refine aw_grp1 ?_
 refine aw_grp1 ?_
 refine wk_start ?_
 refine kv g0 (mv) ?_
 refine kv g0 (mv) ?_
 refine kv g0 (lnS lenE) ?_
 refine kv g0 (lss) ?_
 refine wk_end ?_
 refine ac_next ?_
 by_cases c12 : p10 < (l0.length : Int)
 ·rw [if_pos c12] at H
  refine aw_ifT ?_ (decide_eq_true c12)
  refine aw_skip ?_
  refine ac_next ?_
  refine aw_grp1 ?_
  refine aw_block ?_
  refine aw_grp1 ?_
  refine aw_grp1 ?_
  refine wk_start ?_
  refine kv g0 (mv) ?_
  refine kv g0 (mv) ?_
  obtain ⟨c13, H⟩ := of_if H
  refine kv g0 (ixS 135 (e135 (rd_T135 l0 p10)) c13 (getE (z := z135) c13 c12)) ?_
  refine kv g0 (faR 0 0) ?_
  refine kv g0 (ldR (.lit (.int .i64 ((rd_T135 l0 p10).f0)))) ?_
  refine kv g0 (mv) ?_
  refine kv g0 (neq) ?_
  refine wk_end ?_
  refine ac_next ?_
  by_cases c14 : ((rd_T135 l0 p10).f0) = p9
  ·rw [if_pos c14] at H
   refine aw_ifF ?_ (eM c14)
   refine aw_skip ?_
   refine ac_next ?_
   refine aw_grp1 ?_
   refine wk_start ?_
   refine kv g0 (mv) ?_
   refine kv g0 (add6) ?_
   refine kv g0 (asg) ?_
   refine wk_end ?_
   refine ac_next ?_
   refine aw_grp1 ?_
   refine aw_grp1 ?_
   refine wk_start ?_
   refine kv g0 (mv) ?_
   refine kv g0 (mv) ?_
   refine kv g0 (ixS 135 (e135 (rd_T135 l0 p10)) c13 (getE (z := z135) c13 c12)) ?_
   refine kv g0 (faR 1 1) ?_
   refine kv g0 (ldR (.lit (.int .i64 ((rd_T135 l0 p10).f1)))) ?_
   refine kv g0 (mv) ?_
   refine kv g0 (neq) ?_
   refine wk_end ?_
   refine ac_next ?_
   by_cases c15 : ((rd_T135 l0 p10).f1) = (wrap64 (p9 + 1))
   ·rw [if_pos c15] at H
    refine aw_ifF ?_ (eM c15)
    refine aw_skip ?_
    refine ac_next ?_
    refine aw_grp1 ?_
    refine wk_start ?_
    refine kv g0 (mv) ?_
    refine kv g0 (add6) ?_
    refine kv g0 (asg) ?_
    refine wk_end ?_
    refine ac_next ?_
    refine aw_grp1 ?_
    refine aw_grp1 ?_
    refine wk_start ?_
    refine kv g0 (mv) ?_
    refine kv g0 (mv) ?_
    refine kv g0 (ixS 135 (e135 (rd_T135 l0 p10)) c13 (getE (z := z135) c13 c12)) ?_
    refine kv g0 (faR 2 2) ?_
    refine kv g0 (faR 0 2) ?_
    refine kv g0 (ldR (.lit (.int .i64 ((rd_T135 l0 p10).f2.f0)))) ?_
    refine kv g0 (mv) ?_
    refine kv g0 (neq) ?_
    refine wk_end ?_
    refine ac_next ?_
    by_cases c16 : ((rd_T135 l0 p10).f2.f0) = (wrap64 ((wrap64 (p9 + 1)) + 1))
    ·rw [if_pos c16] at H
     refine aw_ifF ?_ (eM c16)
     refine aw_skip ?_
     refine ac_next ?_
     refine aw_grp1 ?_
     refine wk_start ?_
     refine kv g0 (mv) ?_
     refine kv g0 (add6) ?_
     refine kv g0 (asg) ?_
     refine wk_end ?_
     refine ac_next ?_
     refine aw_grp1 ?_
     refine aw_grp1 ?_
     refine wk_start ?_
     refine kv g0 (mv) ?_
     refine kv g0 (mv) ?_
     refine kv g0 (ixS 135 (e135 (rd_T135 l0 p10)) c13 (getE (z := z135) c13 c12)) ?_
     refine kv g0 (faR 2 2) ?_
     refine kv g0 (faR 1 3) ?_
     refine kv g0 (ldR (.lit (.int .i64 ((rd_T135 l0 p10).f2.f1)))) ?_
     refine kv g0 (mv) ?_
     refine kv g0 (neq) ?_
     refine wk_end ?_
     refine ac_next ?_
     by_cases c17 : ((rd_T135 l0 p10).f2.f1) = (wrap64 ((wrap64 ((wrap64 (p9 + 1)) + 1)) + 1))
     ·rw [if_pos c17] at H
      refine aw_ifF ?_ (eM c17)
      refine aw_skip ?_
      refine ac_next ?_
      refine aw_grp1 ?_
      refine wk_start ?_
      refine kv g0 (mv) ?_
      refine kv g0 (add6) ?_
      refine kv g0 (asg) ?_
      refine wk_end ?_
      refine ac_next ?_
      refine aw_grp1 ?_
      refine aw_grp1 ?_
      refine wk_start ?_
      refine kv g0 (mv) ?_
      refine kv g0 (mv) ?_
      refine kv g0 (ixS 135 (e135 (rd_T135 l0 p10)) c13 (getE (z := z135) c13 c12)) ?_
      refine kv g0 (faR 2 2) ?_
      refine kv g0 (faR 2 4) ?_
      refine kv g0 (ldR (.lit (.int .i64 ((rd_T135 l0 p10).f2.f2)))) ?_
      refine kv g0 (mv) ?_
      refine kv g0 (neq) ?_
      refine wk_end ?_
      refine ac_next ?_
      by_cases c18 : ((rd_T135 l0 p10).f2.f2) = (wrap64 ((wrap64 ((wrap64 ((wrap64 (p9 + 1)) + 1)) + 1)) + 1))
      ·rw [if_pos c18] at H
       refine aw_ifF ?_ (eM c18)
       refine aw_skip ?_
       refine ac_next ?_
       refine aw_grp1 ?_
       refine wk_start ?_
       refine kv g0 (mv) ?_
       refine kv g0 (add6) ?_
       refine kv g0 (asg) ?_
       refine wk_end ?_
       refine ac_next ?_
       refine aw_grp1 ?_
       refine aw_grp1 ?_
       refine wk_start ?_
       refine kv g0 (mv) ?_
       refine kv g0 (mv) ?_
       refine kv g0 (ixS 135 (e135 (rd_T135 l0 p10)) c13 (getE (z := z135) c13 c12)) ?_
       refine kv g0 (faR 2 2) ?_
       refine kv g0 (faR 3 5) ?_
       refine kv g0 (ldR (.lit (.int .i64 ((rd_T135 l0 p10).f2.f3)))) ?_
       refine kv g0 (mv) ?_
       refine kv g0 (neq) ?_
       refine wk_end ?_
       refine ac_next ?_
       by_cases c19 : ((rd_T135 l0 p10).f2.f3) = (wrap64 ((wrap64 ((wrap64 ((wrap64 ((wrap64 (p9 + 1)) + 1)) + 1)) + 1)) + 1))
       ·rw [if_pos c19] at H
        refine aw_ifF ?_ (eM c19)
        refine aw_skip ?_
        refine ac_next ?_
        refine wk_start ?_
        refine kv g0 (mv) ?_
        refine kv g0 (add6) ?_
        refine kv g0 (asg) ?_
        refine wk_end ?_
        refine ac_blkN ?_
        refine ac_next ?_
        refine wk_start ?_
        refine kv g0 (mv) ?_
        refine kv g0 (add6) ?_
        refine kv g0 (asg) ?_
        refine wk_end ?_
        refine ac_k ?_
        exact acw hE [] 9999 (hK21 k11 (wrap64 ((wrap64 ((wrap64 ((wrap64 ((wrap64 ((wrap64 (p9 + 1)) + 1)) + 1)) + 1)) + 1)) + 1)) (wrap64 (p10 + 1)) (Nat.le_refl _) ⟨by omega, H⟩)
       rw [if_neg c19] at H
       refine aw_ifT ?_ (eN c19)
       refine aw_grp1 ?_
       refine wk_start ?_
       refine kv g0 (asg) ?_
       refine wk_end ?_
       refine ac_next ?_
       refine aw_ret ?_
       refine ac_thenR ?_
       refine ac_blkR ?_
       refine ac_thenR ?_
       refine ac_thenR ?_
       refine ac_blkR ?_
       refine ac_thenR ?_
       obtain rfl := Option.some.inj H
       exact acr hE [.tmp 4] (.tmp .nil) (.one _) [] 9999
      rw [if_neg c18] at H
      refine aw_ifT ?_ (eN c18)
      refine aw_grp1 ?_
      refine wk_start ?_
      refine kv g0 (asg) ?_
      refine wk_end ?_
      refine ac_next ?_
      refine aw_ret ?_
      refine ac_thenR ?_
      refine ac_blkR ?_
      refine ac_thenR ?_
      refine ac_thenR ?_
      refine ac_blkR ?_
      refine ac_thenR ?_
      obtain rfl := Option.some.inj H
      exact acr hE [.tmp 4] (.tmp .nil) (.one _) [] 9999
     rw [if_neg c17] at H
     refine aw_ifT ?_ (eN c17)
     refine aw_grp1 ?_
     refine wk_start ?_
     refine kv g0 (asg) ?_
     refine wk_end ?_
     refine ac_next ?_
     refine aw_ret ?_
     refine ac_thenR ?_
     refine ac_blkR ?_
     refine ac_thenR ?_
     refine ac_thenR ?_
     refine ac_blkR ?_
     refine ac_thenR ?_
     obtain rfl := Option.some.inj H
     exact acr hE [.tmp 4] (.tmp .nil) (.one _) [] 9999
    rw [if_neg c16] at H
    refine aw_ifT ?_ (eN c16)
    refine aw_grp1 ?_
    refine wk_start ?_
    refine kv g0 (asg) ?_
    refine wk_end ?_
    refine ac_next ?_
    refine aw_ret ?_
    refine ac_thenR ?_
    refine ac_blkR ?_
    refine ac_thenR ?_
    refine ac_thenR ?_
    refine ac_blkR ?_
    refine ac_thenR ?_
    obtain rfl := Option.some.inj H
    exact acr hE [.tmp 4] (.tmp .nil) (.one _) [] 9999
   rw [if_neg c15] at H
   refine aw_ifT ?_ (eN c15)
   refine aw_grp1 ?_
   refine wk_start ?_
   refine kv g0 (asg) ?_
   refine wk_end ?_
   refine ac_next ?_
   refine aw_ret ?_
   refine ac_thenR ?_
   refine ac_blkR ?_
   refine ac_thenR ?_
   refine ac_thenR ?_
   refine ac_blkR ?_
   refine ac_thenR ?_
   obtain rfl := Option.some.inj H
   exact acr hE [.tmp 4] (.tmp .nil) (.one _) [] 9999
  rw [if_neg c14] at H
  refine aw_ifT ?_ (eN c14)
  refine aw_grp1 ?_
  refine wk_start ?_
  refine kv g0 (asg) ?_
  refine wk_end ?_
  refine ac_next ?_
  refine aw_ret ?_
  refine ac_thenR ?_
  refine ac_blkR ?_
  refine ac_thenR ?_
  refine ac_thenR ?_
  refine ac_blkR ?_
  refine ac_thenR ?_
  obtain rfl := Option.some.inj H
  exact acr hE [.tmp 4] (.tmp .nil) (.one _) [] 9999
 rw [if_neg c12] at H
 refine aw_ifF ?_ (decide_eq_false c12)
 refine aw_exit ?_
 refine ac_then ?_
 refine ac_then ?_
 refine ac_hit rfl ?_
 refine ac_next ?_
 refine aw_grp1 ?_
 refine wk_start ?_
 refine kv g0 (mv) ?_
 refine kv g0 (asg) ?_
 refine wk_end ?_
 refine ac_next ?_
 refine aw_ret ?_
 obtain rfl := Option.some.inj H
 exact acr hE [.tmp 4] (.tmp .nil) (.one _) [] 9999
/-! laws_heldKeeper -/
def laws_heldKeeper.f (k : Nat) (l0_0 : List S133) (l0_1 : List Int) (l0_2 : List S135) (a0_3 : Int) (l0_4 : List Int) (a1 : Int) : Option (Int) := (laws_heldEntryS.f k l0_0 a1).bind fun t1 => if t1 < 0 then some (-1) else (laws_heldIntS.f k l0_1 t1).bind fun t4 => if t4 < 0 then some (-1) else (laws_heldEarlyS.f k l0_2 t4).bind fun t7 => if t7 < 0 then some (-1) else (laws_heldIntS.f k l0_4 t7).bind fun t10 => if t10 < 0 then some (-1) else some t10
theorem laws_heldKeeper.ok {k : Nat} {l0_0 : List S133} {l0_1 : List Int} {l0_2 : List S135} {a0_3 : Int} {l0_4 : List Int} {a1 : Int} {r : Int} (H : laws_heldKeeper.f k l0_0 l0_1 l0_2 a0_3 l0_4 a1 = some r) : ACalls Try.prog 38 [] [.agg [.sl .o 6 (l0_0.map e133), .sl .o 1 (l0_1.map (eI .i64)), .sl .o 6 (l0_2.map e135), .lit (.int .i64 a0_3), .sl .o 1 (l0_4.map (eI .i64))], .lit (.int .i64 a1)] [] (.lit (.int .i64 r)) := by
 refine acalls (fn := Try.f38) (nt := 30) Try.func38 rfl rfl (Nat.le_of_ble_eq_true rfl) fun E hE => ?_
 rw [laws_heldKeeper.f] at H
 refine aw_grp1 ?_
 refine wk_start ?_
 refine kb g0 (bxA 0) ?_
 refine kv g0 (asg) ?_
 refine wk_end ?_
 refine ac_next ?_
 refine aw_grp1 ?_
 refine wk_start ?_
 refine kv g0 (faB 0 0) ?_
 refine kv g0 (ldB) ?_
 refine kv g0 (mv) ?_
 obtain ⟨t1, A2, H⟩ := of_bind H
 refine kcS0 8 (.lit (.int .i64 t1)) [] g0 (cal (laws_heldEntryS.ok A2) [] 9999 .n (hf := Try.func69)) rfl rfl ?_
 refine kv g0 (asg) ?_
 refine wk_end ?_
 refine ac_next ?_
 refine aw_grp1 ?_
 refine aw_grp1 ?_
 refine wk_start ?_
 refine kv g0 (mv) ?_
 refine kv g0 (lss) ?_
 refine wk_end ?_
 refine ac_next ?_
 by_cases c3 : t1 < 0
 ·rw [if_pos c3] at H
  refine aw_ifT ?_ (decide_eq_true c3)
  refine aw_grp1 ?_
  refine wk_start ?_
  refine kv g0 (asg) ?_
  refine wk_end ?_
  refine ac_next ?_
  refine aw_ret ?_
  refine ac_thenR ?_
  obtain rfl := Option.some.inj H
  exact acr hE [.tmp 4] (.tmp .nil) (.one _) [] 9999
 rw [if_neg c3] at H
 refine aw_ifF ?_ (decide_eq_false c3)
 refine aw_skip ?_
 refine ac_next ?_
 refine aw_grp1 ?_
 refine wk_start ?_
 refine kv g0 (faB 1 1) ?_
 refine kv g0 (ldB) ?_
 refine kv g0 (mv) ?_
 obtain ⟨t4, A5, H⟩ := of_bind H
 refine kcS0 14 (.lit (.int .i64 t4)) [] g0 (cal (laws_heldIntS.ok A5) [] 9999 .n (hf := Try.func40)) rfl rfl ?_
 refine kv g0 (asg) ?_
 refine wk_end ?_
 refine ac_next ?_
 refine aw_grp1 ?_
 refine aw_grp1 ?_
 refine wk_start ?_
 refine kv g0 (mv) ?_
 refine kv g0 (lss) ?_
 refine wk_end ?_
 refine ac_next ?_
 by_cases c6 : t4 < 0
 ·rw [if_pos c6] at H
  refine aw_ifT ?_ (decide_eq_true c6)
  refine aw_grp1 ?_
  refine wk_start ?_
  refine kv g0 (asg) ?_
  refine wk_end ?_
  refine ac_next ?_
  refine aw_ret ?_
  refine ac_thenR ?_
  obtain rfl := Option.some.inj H
  exact acr hE [.tmp 4] (.tmp .nil) (.one _) [] 9999
 rw [if_neg c6] at H
 refine aw_ifF ?_ (decide_eq_false c6)
 refine aw_skip ?_
 refine ac_next ?_
 refine aw_grp1 ?_
 refine wk_start ?_
 refine kv g0 (faB 2 2) ?_
 refine kv g0 (ldB) ?_
 refine kv g0 (mv) ?_
 obtain ⟨t7, A8, H⟩ := of_bind H
 refine kcS0 20 (.lit (.int .i64 t7)) [] g0 (cal (laws_heldEarlyS.ok A8) [] 9999 .n (hf := Try.func70)) rfl rfl ?_
 refine kv g0 (asg) ?_
 refine wk_end ?_
 refine ac_next ?_
 refine aw_grp1 ?_
 refine aw_grp1 ?_
 refine wk_start ?_
 refine kv g0 (mv) ?_
 refine kv g0 (lss) ?_
 refine wk_end ?_
 refine ac_next ?_
 by_cases c9 : t7 < 0
 ·rw [if_pos c9] at H
  refine aw_ifT ?_ (decide_eq_true c9)
  refine aw_grp1 ?_
  refine wk_start ?_
  refine kv g0 (asg) ?_
  refine wk_end ?_
  refine ac_next ?_
  refine aw_ret ?_
  refine ac_thenR ?_
  obtain rfl := Option.some.inj H
  exact acr hE [.tmp 4] (.tmp .nil) (.one _) [] 9999
 rw [if_neg c9] at H
 refine aw_ifF ?_ (decide_eq_false c9)
 refine aw_skip ?_
 refine ac_next ?_
 refine aw_grp1 ?_
 refine wk_start ?_
 refine kv g0 (faB 4 4) ?_
 refine kv g0 (ldB) ?_
 refine kv g0 (mv) ?_
 obtain ⟨t10, A11, H⟩ := of_bind H
 refine kcS0 26 (.lit (.int .i64 t10)) [] g0 (cal (laws_heldIntS.ok A11) [] 9999 .n (hf := Try.func40)) rfl rfl ?_
 refine kv g0 (asg) ?_
 refine wk_end ?_
 refine ac_next ?_
 refine aw_grp1 ?_
 refine aw_grp1 ?_
 refine wk_start ?_
 refine kv g0 (mv) ?_
 refine kv g0 (lss) ?_
 refine wk_end ?_
 refine ac_next ?_
 by_cases c12 : t10 < 0
 ·rw [if_pos c12] at H
  refine aw_ifT ?_ (decide_eq_true c12)
  refine aw_grp1 ?_
  refine wk_start ?_
  refine kv g0 (asg) ?_
  refine wk_end ?_
  refine ac_next ?_
  refine aw_ret ?_
  refine ac_thenR ?_
  obtain rfl := Option.some.inj H
  exact acr hE [.tmp 4] (.tmp .nil) (.one _) [] 9999
 rw [if_neg c12] at H
 refine aw_ifF ?_ (decide_eq_false c12)
 refine aw_skip ?_
 refine ac_next ?_
 refine aw_grp1 ?_
 refine wk_start ?_
 refine kv g0 (mv) ?_
 refine kv g0 (asg) ?_
 refine wk_end ?_
 refine ac_next ?_
 refine aw_ret ?_
 obtain rfl := Option.some.inj H
 exact acr hE [.tmp 4] (.tmp .nil) (.one _) [] 9999
/-! laws_heldLetterS -/
def laws_heldLetterS.l0 : Nat → (List S99) → Int → Int → Option (Int)
 | 0, _, _, _ => none
 | k10 + 1, l0, p8, p9 => if p9 < (l0.length : Int) then if 0 ≤ p9 then if ((rd_T99 l0 p9).f0) = ((p8.tmod 3) == 0) then (laws_markText.f k10 (wrap64 (p8 + 1))).bind fun t14 => if (((rd_T99 l0 p9).f1).toList == t14.toList) = true then if ((rd_T99 l0 p9).f2) = (((wrap64 ((wrap64 (p8 + 1)) + 1)).tmod 3) == 0) then laws_heldLetterS.l0 k10 l0 (wrap64 ((wrap64 ((wrap64 (p8 + 1)) + 1)) + 1)) (wrap64 (p9 + 1)) else some (-1) else some (-1) else some (-1) else none else some p8
def laws_heldLetterS.f (k : Nat) (l0 : List S99) (a1 : Int) : Option (Int) := laws_heldLetterS.l0 k l0 a1 0
theorem laws_heldLetterS.ok {k : Nat} {l0 : List S99} {a1 : Int} {r : Int} (H : laws_heldLetterS.f k l0 a1 = some r) : ACalls Try.prog 39 [] [.sl .o 3 (l0.map e99), .lit (.int .i64 a1)] [] (.lit (.int .i64 r)) := by
 refine acalls (fn := Try.f39) (nt := 45) Try.func39 rfl rfl (Nat.le_of_ble_eq_true rfl) fun E hE => ?_
 rw [laws_heldLetterS.f] at H
 refine aw_grp1 ?_
 refine wk_start ?_
 refine kv g0 (asg) ?_
 refine wk_end ?_
 refine ac_next ?_
 refine aw_grp1 ?_
 refine aw_grp1 ?_
 refine wk_start ?_
 refine kv g0 (asg) ?_
 refine wk_end ?_
 refine ac_next ?_
 refine aw_block ?_
 refine aw_loop2 (fun (k_ : Nat) (p8 : Int) (p9 : Int) => k_ ≤ k ∧ laws_heldLetterS.l0 k_ l0 p8 p9 = some r) (fun (p8 : Int) (p9 : Int) => ⟨[(0, .sl .o 3 (l0.map e99)), (1, .lit (.int .i64 p8)), (5, .lit (.int .i64 p9))], []⟩) k a1 0 ⟨Nat.le_refl _, H⟩ (fun K_ h_ => acw hE [] 9999 h_) (fun _ _ => by intro h_; have h_ := h_.2; rw [laws_heldLetterS.l0.eq_1] at h_; cases h_) ?_
 intro k10 p8 p9 hq_ K18 hK19
 have hk10 := hq_.1
 have H := hq_.2
 clear hq_
 rw [laws_heldLetterS.l0.eq_2] at H
 refine aw_grp1 ?_
 refine aw_grp1 ?_
 refine wk_start ?_
 refine kv g0 (mv) ?_
 refine kv g0 (mv) ?_
 refine kv g0 (lnS lenE) ?_
 refine kv g0 (lss) ?_
 refine wk_end ?_
 refine ac_next ?_
 by_cases c11 : p9 < (l0.length : Int)
 ·rw [if_pos c11] at H
  refine aw_ifT ?_ (decide_eq_true c11)
  refine aw_skip ?_
  refine ac_next ?_
  refine aw_grp1 ?_
  refine aw_block ?_
  refine aw_grp1 ?_
  refine aw_grp1 ?_
  refine wk_start ?_
  refine kv g0 (mv) ?_
  refine kv g0 (mv) ?_
  obtain ⟨c12, H⟩ := of_if H
  refine kv g0 (ixS 99 (e99 (rd_T99 l0 p9)) c12 (getE (z := z99) c12 c11)) ?_
  refine kv g0 (faR 0 0) ?_
  refine kv g0 (ldR (.lit (.bool ((rd_T99 l0 p9).f0)))) ?_
  refine kv g0 (mv) ?_
  refine kv g0 (rem (by decide : (3 : Int) ≠ 0)) ?_
  refine kv g0 (eql) ?_
  refine kv g0 (bne) ?_
  refine wk_end ?_
  refine ac_next ?_
  by_cases c13 : ((rd_T99 l0 p9).f0) = ((p8.tmod 3) == 0)
  ·rw [if_pos c13] at H
   refine aw_ifF ?_ (nF (eTb c13))
   refine aw_skip ?_
   refine ac_next ?_
   refine aw_grp1 ?_
   refine wk_start ?_
   refine kv g0 (mv) ?_
   refine kv g0 (add6) ?_
   refine kv g0 (asg) ?_
   refine wk_end ?_
   refine ac_next ?_
   refine aw_grp1 ?_
   refine aw_grp1 ?_
   refine wk_start ?_
   refine kv g0 (mv) ?_
   refine kv g0 (mv) ?_
   refine kv g0 (ixS 99 (e99 (rd_T99 l0 p9)) c12 (getE (z := z99) c12 c11)) ?_
   refine kv g0 (faR 1 1) ?_
   refine kv g0 (ldR (.lit (.string ((rd_T99 l0 p9).f1)))) ?_
   refine kv g0 (mv) ?_
   obtain ⟨t14, A15, H⟩ := of_bind H
   refine kcS0 29 (.lit (.string t14)) [] g0 (cal (laws_markText.ok A15) [] 9999 .n (hf := Try.func66)) rfl rfl ?_
   refine kv g0 (sne) ?_
   refine wk_end_draw hM (by kernel_rfl) ?_
   refine ac_next ?_
   by_cases c16 : (((rd_T99 l0 p9).f1).toList == t14.toList) = true
   ·rw [if_pos c16] at H
    refine aw_ifF ?_ (nF c16)
    refine aw_skip ?_
    refine ac_next ?_
    refine aw_grp1 ?_
    refine wk_start ?_
    refine kv g0 (mv) ?_
    refine kv g0 (add6) ?_
    refine kv g0 (asg) ?_
    refine wk_end ?_
    refine ac_next ?_
    refine aw_grp1 ?_
    refine aw_grp1 ?_
    refine wk_start ?_
    refine kv g0 (mv) ?_
    refine kv g0 (mv) ?_
    refine kv g0 (ixS 99 (e99 (rd_T99 l0 p9)) c12 (getE (z := z99) c12 c11)) ?_
    refine kv g0 (faR 2 2) ?_
    refine kv g0 (ldR (.lit (.bool ((rd_T99 l0 p9).f2)))) ?_
    refine kv g0 (mv) ?_
    refine kv g0 (rem (by decide : (3 : Int) ≠ 0)) ?_
    refine kv g0 (eql) ?_
    refine kv g0 (bne) ?_
    refine wk_end ?_
    refine ac_next ?_
    by_cases c17 : ((rd_T99 l0 p9).f2) = (((wrap64 ((wrap64 (p8 + 1)) + 1)).tmod 3) == 0)
    ·rw [if_pos c17] at H
     refine aw_ifF ?_ (nF (eTb c17))
     refine aw_skip ?_
     refine ac_next ?_
     refine wk_start ?_
     refine kv g0 (mv) ?_
     refine kv g0 (add6) ?_
     refine kv g0 (asg) ?_
     refine wk_end ?_
     refine ac_blkN ?_
     refine ac_next ?_
     refine wk_start ?_
     refine kv g0 (mv) ?_
     refine kv g0 (add6) ?_
     refine kv g0 (asg) ?_
     refine wk_end ?_
     refine ac_k ?_
     exact acw hE [] 9999 (hK19 k10 (wrap64 ((wrap64 ((wrap64 (p8 + 1)) + 1)) + 1)) (wrap64 (p9 + 1)) (Nat.le_refl _) ⟨by omega, H⟩)
    rw [if_neg c17] at H
    refine aw_ifT ?_ (nT (eFb c17))
    refine aw_grp1 ?_
    refine wk_start ?_
    refine kv g0 (asg) ?_
    refine wk_end ?_
    refine ac_next ?_
    refine aw_ret ?_
    refine ac_thenR ?_
    refine ac_blkR ?_
    refine ac_thenR ?_
    refine ac_thenR ?_
    refine ac_blkR ?_
    refine ac_thenR ?_
    obtain rfl := Option.some.inj H
    exact acr hE [.tmp 4] (.tmp .nil) (.one _) [] 9999
   rw [if_neg c16] at H
   refine aw_ifT ?_ (nT (bF c16))
   refine aw_grp1 ?_
   refine wk_start ?_
   refine kv g0 (asg) ?_
   refine wk_end ?_
   refine ac_next ?_
   refine aw_ret ?_
   refine ac_thenR ?_
   refine ac_blkR ?_
   refine ac_thenR ?_
   refine ac_thenR ?_
   refine ac_blkR ?_
   refine ac_thenR ?_
   obtain rfl := Option.some.inj H
   exact acr hE [.tmp 4] (.tmp .nil) (.one _) [] 9999
  rw [if_neg c13] at H
  refine aw_ifT ?_ (nT (eFb c13))
  refine aw_grp1 ?_
  refine wk_start ?_
  refine kv g0 (asg) ?_
  refine wk_end ?_
  refine ac_next ?_
  refine aw_ret ?_
  refine ac_thenR ?_
  refine ac_blkR ?_
  refine ac_thenR ?_
  refine ac_thenR ?_
  refine ac_blkR ?_
  refine ac_thenR ?_
  obtain rfl := Option.some.inj H
  exact acr hE [.tmp 4] (.tmp .nil) (.one _) [] 9999
 rw [if_neg c11] at H
 refine aw_ifF ?_ (decide_eq_false c11)
 refine aw_exit ?_
 refine ac_then ?_
 refine ac_then ?_
 refine ac_hit rfl ?_
 refine ac_next ?_
 refine aw_grp1 ?_
 refine wk_start ?_
 refine kv g0 (mv) ?_
 refine kv g0 (asg) ?_
 refine wk_end ?_
 refine ac_next ?_
 refine aw_ret ?_
 obtain rfl := Option.some.inj H
 exact acr hE [.tmp 4] (.tmp .nil) (.one _) [] 9999
/-! laws_heldSeenS -/
def laws_heldSeenS.l0 : Nat → (List S83) → Int → Int → Option (Int)
 | 0, _, _, _ => none
 | k9 + 1, l0, p7, p8 => if p8 < (l0.length : Int) then if 0 ≤ p8 then if ((rd_T83 l0 p8).f0) = p7 then if ((rd_T83 l0 p8).f1) = (wrap64 (p7 + 1)) then if ((rd_T83 l0 p8).f2) = (wrap64 ((wrap64 (p7 + 1)) + 1)) then if ((rd_T83 l0 p8).f3) = (((wrap64 ((wrap64 ((wrap64 (p7 + 1)) + 1)) + 1)).tmod 3) == 0) then laws_heldSeenS.l0 k9 l0 (wrap64 ((wrap64 ((wrap64 ((wrap64 (p7 + 1)) + 1)) + 1)) + 1)) (wrap64 (p8 + 1)) else some (-1) else some (-1) else some (-1) else some (-1) else none else some p7
def laws_heldSeenS.f (k : Nat) (l0 : List S83) (a1 : Int) : Option (Int) := laws_heldSeenS.l0 k l0 a1 0
theorem laws_heldSeenS.ok {k : Nat} {l0 : List S83} {a1 : Int} {r : Int} (H : laws_heldSeenS.f k l0 a1 = some r) : ACalls Try.prog 16 [] [.sl .o 4 (l0.map e83), .lit (.int .i64 a1)] [] (.lit (.int .i64 r)) := by
 refine acalls (fn := Try.f16) (nt := 51) Try.func16 rfl rfl (Nat.le_of_ble_eq_true rfl) fun E hE => ?_
 rw [laws_heldSeenS.f] at H
 refine aw_grp1 ?_
 refine wk_start ?_
 refine kv g0 (asg) ?_
 refine wk_end ?_
 refine ac_next ?_
 refine aw_grp1 ?_
 refine aw_grp1 ?_
 refine wk_start ?_
 refine kv g0 (asg) ?_
 refine wk_end ?_
 refine ac_next ?_
 refine aw_block ?_
 refine aw_loop2 (fun (k_ : Nat) (p7 : Int) (p8 : Int) => k_ ≤ k ∧ laws_heldSeenS.l0 k_ l0 p7 p8 = some r) (fun (p7 : Int) (p8 : Int) => ⟨[(0, .sl .o 4 (l0.map e83)), (1, .lit (.int .i64 p7)), (5, .lit (.int .i64 p8))], []⟩) k a1 0 ⟨Nat.le_refl _, H⟩ (fun K_ h_ => acw hE [] 9999 h_) (fun _ _ => by intro h_; have h_ := h_.2; rw [laws_heldSeenS.l0.eq_1] at h_; cases h_) ?_
 intro k9 p7 p8 hq_ K16 hK17
 have hk9 := hq_.1
 have H := hq_.2
 clear hq_
 rw [laws_heldSeenS.l0.eq_2] at H
 refine aw_grp1 ?_
 refine aw_grp1 ?_
 refine wk_start ?_
 refine kv g0 (mv) ?_
 refine kv g0 (mv) ?_
 refine kv g0 (lnS lenE) ?_
 refine kv g0 (lss) ?_
 refine wk_end ?_
 refine ac_next ?_
 by_cases c10 : p8 < (l0.length : Int)
 ·rw [if_pos c10] at H
  refine aw_ifT ?_ (decide_eq_true c10)
  refine aw_skip ?_
  refine ac_next ?_
  refine aw_grp1 ?_
  refine aw_block ?_
  refine aw_grp1 ?_
  refine aw_grp1 ?_
  refine wk_start ?_
  refine kv g0 (mv) ?_
  refine kv g0 (mv) ?_
  obtain ⟨c11, H⟩ := of_if H
  refine kv g0 (ixS 83 (e83 (rd_T83 l0 p8)) c11 (getE (z := z83) c11 c10)) ?_
  refine kv g0 (faR 0 0) ?_
  refine kv g0 (ldR (.lit (.int .i64 ((rd_T83 l0 p8).f0)))) ?_
  refine kv g0 (mv) ?_
  refine kv g0 (neq) ?_
  refine wk_end ?_
  refine ac_next ?_
  by_cases c12 : ((rd_T83 l0 p8).f0) = p7
  ·rw [if_pos c12] at H
   refine aw_ifF ?_ (eM c12)
   refine aw_skip ?_
   refine ac_next ?_
   refine aw_grp1 ?_
   refine wk_start ?_
   refine kv g0 (mv) ?_
   refine kv g0 (add6) ?_
   refine kv g0 (asg) ?_
   refine wk_end ?_
   refine ac_next ?_
   refine aw_grp1 ?_
   refine aw_grp1 ?_
   refine wk_start ?_
   refine kv g0 (mv) ?_
   refine kv g0 (mv) ?_
   refine kv g0 (ixS 83 (e83 (rd_T83 l0 p8)) c11 (getE (z := z83) c11 c10)) ?_
   refine kv g0 (faR 1 1) ?_
   refine kv g0 (ldR (.lit (.int .i64 ((rd_T83 l0 p8).f1)))) ?_
   refine kv g0 (mv) ?_
   refine kv g0 (neq) ?_
   refine wk_end ?_
   refine ac_next ?_
   by_cases c13 : ((rd_T83 l0 p8).f1) = (wrap64 (p7 + 1))
   ·rw [if_pos c13] at H
    refine aw_ifF ?_ (eM c13)
    refine aw_skip ?_
    refine ac_next ?_
    refine aw_grp1 ?_
    refine wk_start ?_
    refine kv g0 (mv) ?_
    refine kv g0 (add6) ?_
    refine kv g0 (asg) ?_
    refine wk_end ?_
    refine ac_next ?_
    refine aw_grp1 ?_
    refine aw_grp1 ?_
    refine wk_start ?_
    refine kv g0 (mv) ?_
    refine kv g0 (mv) ?_
    refine kv g0 (ixS 83 (e83 (rd_T83 l0 p8)) c11 (getE (z := z83) c11 c10)) ?_
    refine kv g0 (faR 2 2) ?_
    refine kv g0 (ldR (.lit (.int .i64 ((rd_T83 l0 p8).f2)))) ?_
    refine kv g0 (mv) ?_
    refine kv g0 (neq) ?_
    refine wk_end ?_
    refine ac_next ?_
    by_cases c14 : ((rd_T83 l0 p8).f2) = (wrap64 ((wrap64 (p7 + 1)) + 1))
    ·rw [if_pos c14] at H
     refine aw_ifF ?_ (eM c14)
     refine aw_skip ?_
     refine ac_next ?_
     refine aw_grp1 ?_
     refine wk_start ?_
     refine kv g0 (mv) ?_
     refine kv g0 (add6) ?_
     refine kv g0 (asg) ?_
     refine wk_end ?_
     refine ac_next ?_
     refine aw_grp1 ?_
     refine aw_grp1 ?_
     refine wk_start ?_
     refine kv g0 (mv) ?_
     refine kv g0 (mv) ?_
     refine kv g0 (ixS 83 (e83 (rd_T83 l0 p8)) c11 (getE (z := z83) c11 c10)) ?_
     refine kv g0 (faR 3 3) ?_
     refine kv g0 (ldR (.lit (.bool ((rd_T83 l0 p8).f3)))) ?_
     refine kv g0 (mv) ?_
     refine kv g0 (rem (by decide : (3 : Int) ≠ 0)) ?_
     refine kv g0 (eql) ?_
     refine kv g0 (bne) ?_
     refine wk_end ?_
     refine ac_next ?_
     by_cases c15 : ((rd_T83 l0 p8).f3) = (((wrap64 ((wrap64 ((wrap64 (p7 + 1)) + 1)) + 1)).tmod 3) == 0)
     ·rw [if_pos c15] at H
      refine aw_ifF ?_ (nF (eTb c15))
      refine aw_skip ?_
      refine ac_next ?_
      refine wk_start ?_
      refine kv g0 (mv) ?_
      refine kv g0 (add6) ?_
      refine kv g0 (asg) ?_
      refine wk_end ?_
      refine ac_blkN ?_
      refine ac_next ?_
      refine wk_start ?_
      refine kv g0 (mv) ?_
      refine kv g0 (add6) ?_
      refine kv g0 (asg) ?_
      refine wk_end ?_
      refine ac_k ?_
      exact acw hE [] 9999 (hK17 k9 (wrap64 ((wrap64 ((wrap64 ((wrap64 (p7 + 1)) + 1)) + 1)) + 1)) (wrap64 (p8 + 1)) (Nat.le_refl _) ⟨by omega, H⟩)
     rw [if_neg c15] at H
     refine aw_ifT ?_ (nT (eFb c15))
     refine aw_grp1 ?_
     refine wk_start ?_
     refine kv g0 (asg) ?_
     refine wk_end ?_
     refine ac_next ?_
     refine aw_ret ?_
     refine ac_thenR ?_
     refine ac_blkR ?_
     refine ac_thenR ?_
     refine ac_thenR ?_
     refine ac_blkR ?_
     refine ac_thenR ?_
     obtain rfl := Option.some.inj H
     exact acr hE [.tmp 4] (.tmp .nil) (.one _) [] 9999
    rw [if_neg c14] at H
    refine aw_ifT ?_ (eN c14)
    refine aw_grp1 ?_
    refine wk_start ?_
    refine kv g0 (asg) ?_
    refine wk_end ?_
    refine ac_next ?_
    refine aw_ret ?_
    refine ac_thenR ?_
    refine ac_blkR ?_
    refine ac_thenR ?_
    refine ac_thenR ?_
    refine ac_blkR ?_
    refine ac_thenR ?_
    obtain rfl := Option.some.inj H
    exact acr hE [.tmp 4] (.tmp .nil) (.one _) [] 9999
   rw [if_neg c13] at H
   refine aw_ifT ?_ (eN c13)
   refine aw_grp1 ?_
   refine wk_start ?_
   refine kv g0 (asg) ?_
   refine wk_end ?_
   refine ac_next ?_
   refine aw_ret ?_
   refine ac_thenR ?_
   refine ac_blkR ?_
   refine ac_thenR ?_
   refine ac_thenR ?_
   refine ac_blkR ?_
   refine ac_thenR ?_
   obtain rfl := Option.some.inj H
   exact acr hE [.tmp 4] (.tmp .nil) (.one _) [] 9999
  rw [if_neg c12] at H
  refine aw_ifT ?_ (eN c12)
  refine aw_grp1 ?_
  refine wk_start ?_
  refine kv g0 (asg) ?_
  refine wk_end ?_
  refine ac_next ?_
  refine aw_ret ?_
  refine ac_thenR ?_
  refine ac_blkR ?_
  refine ac_thenR ?_
  refine ac_thenR ?_
  refine ac_blkR ?_
  refine ac_thenR ?_
  obtain rfl := Option.some.inj H
  exact acr hE [.tmp 4] (.tmp .nil) (.one _) [] 9999
 rw [if_neg c10] at H
 refine aw_ifF ?_ (decide_eq_false c10)
 refine aw_exit ?_
 refine ac_then ?_
 refine ac_then ?_
 refine ac_hit rfl ?_
 refine ac_next ?_
 refine aw_grp1 ?_
 refine wk_start ?_
 refine kv g0 (mv) ?_
 refine kv g0 (asg) ?_
 refine wk_end ?_
 refine ac_next ?_
 refine aw_ret ?_
 obtain rfl := Option.some.inj H
 exact acr hE [.tmp 4] (.tmp .nil) (.one _) [] 9999
/-! laws_heldWorld -/
def laws_heldWorld.f (k : Nat) (l0_0 : List (List (List S151))) (l0_1 : List S59) (l0_2 : List S62) (l0_3 : List S133) (l0_4 : List Int) (l0_5 : List S135) (a0_6 : Int) (l0_7 : List Int) (l0_8 : List S99) (a0_9 : Int) (l0_10 : List Int) (l0_11 : List S83) (a1 : Int) : Option (Int) := (laws_heldInsSSS.f k l0_0 a1).bind fun t1 => if t1 < 0 then some (-1) else (laws_heldRingS.f k l0_1 t1).bind fun t4 => if t4 < 0 then some (-1) else (laws_heldSenderS.f k l0_2 t4).bind fun t7 => if t7 < 0 then some (-1) else (laws_heldKeeper.f k l0_3 l0_4 l0_5 a0_6 l0_7 t7).bind fun t10 => if t10 < 0 then some (-1) else (laws_heldLetterS.f k l0_8 t10).bind fun t13 => if t13 < 0 then some (-1) else (laws_heldIntS.f k l0_10 t13).bind fun t16 => if t16 < 0 then some (-1) else (laws_heldSeenS.f k l0_11 t16).bind fun t19 => if t19 < 0 then some (-1) else some t19
theorem laws_heldWorld.ok {k : Nat} {l0_0 : List (List (List S151))} {l0_1 : List S59} {l0_2 : List S62} {l0_3 : List S133} {l0_4 : List Int} {l0_5 : List S135} {a0_6 : Int} {l0_7 : List Int} {l0_8 : List S99} {a0_9 : Int} {l0_10 : List Int} {l0_11 : List S83} {a1 : Int} {r : Int} (H : laws_heldWorld.f k l0_0 l0_1 l0_2 l0_3 l0_4 l0_5 a0_6 l0_7 l0_8 a0_9 l0_10 l0_11 a1 = some r) : ACalls Try.prog 9 [] [.agg [.sl .o 1 (l0_0.map (eL 1 (eL 4 (e151)))), .sl .o 4 (l0_1.map e59), .sl .o 5 (l0_2.map e62), .sl .o 6 (l0_3.map e133), .sl .o 1 (l0_4.map (eI .i64)), .sl .o 6 (l0_5.map e135), .lit (.int .i64 a0_6), .sl .o 1 (l0_7.map (eI .i64)), .sl .o 3 (l0_8.map e99), .lit (.int .i64 a0_9), .sl .o 1 (l0_10.map (eI .i64)), .sl .o 4 (l0_11.map e83)], .lit (.int .i64 a1)] [] (.lit (.int .i64 r)) := by
 refine acalls (fn := Try.f9) (nt := 48) Try.func9 rfl rfl (Nat.le_of_ble_eq_true rfl) fun E hE => ?_
 rw [laws_heldWorld.f] at H
 refine aw_grp1 ?_
 refine wk_start ?_
 refine kb g0 (bxA 0) ?_
 refine kv g0 (asg) ?_
 refine wk_end ?_
 refine ac_next ?_
 refine aw_grp1 ?_
 refine wk_start ?_
 refine kv g0 (faB 0 0) ?_
 refine kv g0 (ldB) ?_
 refine kv g0 (mv) ?_
 obtain ⟨t1, A2, H⟩ := of_bind H
 refine kcS0 8 (.lit (.int .i64 t1)) [] g0 (cal (laws_heldInsSSS.ok A2) [] 9999 .n (hf := Try.func35)) rfl rfl ?_
 refine kv g0 (asg) ?_
 refine wk_end ?_
 refine ac_next ?_
 refine aw_grp1 ?_
 refine aw_grp1 ?_
 refine wk_start ?_
 refine kv g0 (mv) ?_
 refine kv g0 (lss) ?_
 refine wk_end ?_
 refine ac_next ?_
 by_cases c3 : t1 < 0
 ·rw [if_pos c3] at H
  refine aw_ifT ?_ (decide_eq_true c3)
  refine aw_grp1 ?_
  refine wk_start ?_
  refine kv g0 (asg) ?_
  refine wk_end ?_
  refine ac_next ?_
  refine aw_ret ?_
  refine ac_thenR ?_
  obtain rfl := Option.some.inj H
  exact acr hE [.tmp 4] (.tmp .nil) (.one _) [] 9999
 rw [if_neg c3] at H
 refine aw_ifF ?_ (decide_eq_false c3)
 refine aw_skip ?_
 refine ac_next ?_
 refine aw_grp1 ?_
 refine wk_start ?_
 refine kv g0 (faB 1 1) ?_
 refine kv g0 (ldB) ?_
 refine kv g0 (mv) ?_
 obtain ⟨t4, A5, H⟩ := of_bind H
 refine kcS0 14 (.lit (.int .i64 t4)) [] g0 (cal (laws_heldRingS.ok A5) [] 9999 .n (hf := Try.func36)) rfl rfl ?_
 refine kv g0 (asg) ?_
 refine wk_end ?_
 refine ac_next ?_
 refine aw_grp1 ?_
 refine aw_grp1 ?_
 refine wk_start ?_
 refine kv g0 (mv) ?_
 refine kv g0 (lss) ?_
 refine wk_end ?_
 refine ac_next ?_
 by_cases c6 : t4 < 0
 ·rw [if_pos c6] at H
  refine aw_ifT ?_ (decide_eq_true c6)
  refine aw_grp1 ?_
  refine wk_start ?_
  refine kv g0 (asg) ?_
  refine wk_end ?_
  refine ac_next ?_
  refine aw_ret ?_
  refine ac_thenR ?_
  obtain rfl := Option.some.inj H
  exact acr hE [.tmp 4] (.tmp .nil) (.one _) [] 9999
 rw [if_neg c6] at H
 refine aw_ifF ?_ (decide_eq_false c6)
 refine aw_skip ?_
 refine ac_next ?_
 refine aw_grp1 ?_
 refine wk_start ?_
 refine kv g0 (faB 2 2) ?_
 refine kv g0 (ldB) ?_
 refine kv g0 (mv) ?_
 obtain ⟨t7, A8, H⟩ := of_bind H
 refine kcS0 20 (.lit (.int .i64 t7)) [] g0 (cal (laws_heldSenderS.ok A8) [] 9999 .n (hf := Try.func37)) rfl rfl ?_
 refine kv g0 (asg) ?_
 refine wk_end ?_
 refine ac_next ?_
 refine aw_grp1 ?_
 refine aw_grp1 ?_
 refine wk_start ?_
 refine kv g0 (mv) ?_
 refine kv g0 (lss) ?_
 refine wk_end ?_
 refine ac_next ?_
 by_cases c9 : t7 < 0
 ·rw [if_pos c9] at H
  refine aw_ifT ?_ (decide_eq_true c9)
  refine aw_grp1 ?_
  refine wk_start ?_
  refine kv g0 (asg) ?_
  refine wk_end ?_
  refine ac_next ?_
  refine aw_ret ?_
  refine ac_thenR ?_
  obtain rfl := Option.some.inj H
  exact acr hE [.tmp 4] (.tmp .nil) (.one _) [] 9999
 rw [if_neg c9] at H
 refine aw_ifF ?_ (decide_eq_false c9)
 refine aw_skip ?_
 refine ac_next ?_
 refine aw_grp1 ?_
 refine wk_start ?_
 refine kv g0 (faB 3 3) ?_
 refine kv g0 (ldBA 5 [.sl .o 6 (l0_3.map e133), .sl .o 1 (l0_4.map (eI .i64)), .sl .o 6 (l0_5.map e135), .lit (.int .i64 a0_6), .sl .o 1 (l0_7.map (eI .i64))]) ?_
 refine kv g0 (mv) ?_
 obtain ⟨t10, A11, H⟩ := of_bind H
 refine kcS0 26 (.lit (.int .i64 t10)) [] g0 (cal (laws_heldKeeper.ok A11) [] 9999 .n (hf := Try.func38)) rfl rfl ?_
 refine kv g0 (asg) ?_
 refine wk_end ?_
 refine ac_next ?_
 refine aw_grp1 ?_
 refine aw_grp1 ?_
 refine wk_start ?_
 refine kv g0 (mv) ?_
 refine kv g0 (lss) ?_
 refine wk_end ?_
 refine ac_next ?_
 by_cases c12 : t10 < 0
 ·rw [if_pos c12] at H
  refine aw_ifT ?_ (decide_eq_true c12)
  refine aw_grp1 ?_
  refine wk_start ?_
  refine kv g0 (asg) ?_
  refine wk_end ?_
  refine ac_next ?_
  refine aw_ret ?_
  refine ac_thenR ?_
  obtain rfl := Option.some.inj H
  exact acr hE [.tmp 4] (.tmp .nil) (.one _) [] 9999
 rw [if_neg c12] at H
 refine aw_ifF ?_ (decide_eq_false c12)
 refine aw_skip ?_
 refine ac_next ?_
 refine aw_grp1 ?_
 refine wk_start ?_
 refine kv g0 (faB 8 8) ?_
 refine kv g0 (ldB) ?_
 refine kv g0 (mv) ?_
 obtain ⟨t13, A14, H⟩ := of_bind H
 refine kcS0 32 (.lit (.int .i64 t13)) [] g0 (cal (laws_heldLetterS.ok A14) [] 9999 .n (hf := Try.func39)) rfl rfl ?_
 refine kv g0 (asg) ?_
 refine wk_end ?_
 refine ac_next ?_
 refine aw_grp1 ?_
 refine aw_grp1 ?_
 refine wk_start ?_
 refine kv g0 (mv) ?_
 refine kv g0 (lss) ?_
 refine wk_end ?_
 refine ac_next ?_
 by_cases c15 : t13 < 0
 ·rw [if_pos c15] at H
  refine aw_ifT ?_ (decide_eq_true c15)
  refine aw_grp1 ?_
  refine wk_start ?_
  refine kv g0 (asg) ?_
  refine wk_end ?_
  refine ac_next ?_
  refine aw_ret ?_
  refine ac_thenR ?_
  obtain rfl := Option.some.inj H
  exact acr hE [.tmp 4] (.tmp .nil) (.one _) [] 9999
 rw [if_neg c15] at H
 refine aw_ifF ?_ (decide_eq_false c15)
 refine aw_skip ?_
 refine ac_next ?_
 refine aw_grp1 ?_
 refine wk_start ?_
 refine kv g0 (faB 10 10) ?_
 refine kv g0 (ldB) ?_
 refine kv g0 (mv) ?_
 obtain ⟨t16, A17, H⟩ := of_bind H
 refine kcS0 38 (.lit (.int .i64 t16)) [] g0 (cal (laws_heldIntS.ok A17) [] 9999 .n (hf := Try.func40)) rfl rfl ?_
 refine kv g0 (asg) ?_
 refine wk_end ?_
 refine ac_next ?_
 refine aw_grp1 ?_
 refine aw_grp1 ?_
 refine wk_start ?_
 refine kv g0 (mv) ?_
 refine kv g0 (lss) ?_
 refine wk_end ?_
 refine ac_next ?_
 by_cases c18 : t16 < 0
 ·rw [if_pos c18] at H
  refine aw_ifT ?_ (decide_eq_true c18)
  refine aw_grp1 ?_
  refine wk_start ?_
  refine kv g0 (asg) ?_
  refine wk_end ?_
  refine ac_next ?_
  refine aw_ret ?_
  refine ac_thenR ?_
  obtain rfl := Option.some.inj H
  exact acr hE [.tmp 4] (.tmp .nil) (.one _) [] 9999
 rw [if_neg c18] at H
 refine aw_ifF ?_ (decide_eq_false c18)
 refine aw_skip ?_
 refine ac_next ?_
 refine aw_grp1 ?_
 refine wk_start ?_
 refine kv g0 (faB 11 11) ?_
 refine kv g0 (ldB) ?_
 refine kv g0 (mv) ?_
 obtain ⟨t19, A20, H⟩ := of_bind H
 refine kcS0 44 (.lit (.int .i64 t19)) [] g0 (cal (laws_heldSeenS.ok A20) [] 9999 .n (hf := Try.func16)) rfl rfl ?_
 refine kv g0 (asg) ?_
 refine wk_end ?_
 refine ac_next ?_
 refine aw_grp1 ?_
 refine aw_grp1 ?_
 refine wk_start ?_
 refine kv g0 (mv) ?_
 refine kv g0 (lss) ?_
 refine wk_end ?_
 refine ac_next ?_
 by_cases c21 : t19 < 0
 ·rw [if_pos c21] at H
  refine aw_ifT ?_ (decide_eq_true c21)
  refine aw_grp1 ?_
  refine wk_start ?_
  refine kv g0 (asg) ?_
  refine wk_end ?_
  refine ac_next ?_
  refine aw_ret ?_
  refine ac_thenR ?_
  obtain rfl := Option.some.inj H
  exact acr hE [.tmp 4] (.tmp .nil) (.one _) [] 9999
 rw [if_neg c21] at H
 refine aw_ifF ?_ (decide_eq_false c21)
 refine aw_skip ?_
 refine ac_next ?_
 refine aw_grp1 ?_
 refine wk_start ?_
 refine kv g0 (mv) ?_
 refine kv g0 (asg) ?_
 refine wk_end ?_
 refine ac_next ?_
 refine aw_ret ?_
 obtain rfl := Option.some.inj H
 exact acr hE [.tmp 4] (.tmp .nil) (.one _) [] 9999
/-! laws_FnExactWorldNew -/
def laws_FnExactWorldNew.f (k : Nat)  : Option (Bool) := (spec_WorldNew.f k).bind fun t1 => (impl_WorldNew.f k).bind fun t3 => (laws_eqWorld.f k t3.1 t3.2.1 t3.2.2.1 t3.2.2.2.1 t3.2.2.2.2.1 t3.2.2.2.2.2.1 t3.2.2.2.2.2.2.1 t3.2.2.2.2.2.2.2.1 t3.2.2.2.2.2.2.2.2.1 t3.2.2.2.2.2.2.2.2.2.1 t3.2.2.2.2.2.2.2.2.2.2.1 t3.2.2.2.2.2.2.2.2.2.2.2 t1.1 t1.2.1 t1.2.2.1 ([]) t1.2.2.2.1 ([]) t1.2.2.2.2.1 t1.2.2.2.2.2.1 ([]) t1.2.2.2.2.2.2 ([]) ([])).bind fun t5 => if t5 = true then (laws_markWorld.f k t3.1 t3.2.1 t3.2.2.1 t3.2.2.2.1 t3.2.2.2.2.1 t3.2.2.2.2.2.1 t3.2.2.2.2.2.2.1 t3.2.2.2.2.2.2.2.1 t3.2.2.2.2.2.2.2.2.1 t3.2.2.2.2.2.2.2.2.2.1 t3.2.2.2.2.2.2.2.2.2.2.1 t3.2.2.2.2.2.2.2.2.2.2.2 1).bind fun t8 => (laws_heldWorld.f k t8.2.1 t8.2.2.1 t8.2.2.2.1 t8.2.2.2.2.1 t8.2.2.2.2.2.1 t8.2.2.2.2.2.2.1 t3.2.2.2.2.2.2.1 t8.2.2.2.2.2.2.2.1 t8.2.2.2.2.2.2.2.2.1 t3.2.2.2.2.2.2.2.2.2.1 t8.2.2.2.2.2.2.2.2.2.1 t8.2.2.2.2.2.2.2.2.2.2 1).bind fun t10 => if t10 < 0 then some false else if t10 = t8.1 then (impl_WorldNew.f k).bind fun t14 => (laws_eqWorld.f k t14.1 t14.2.1 t14.2.2.1 t14.2.2.2.1 t14.2.2.2.2.1 t14.2.2.2.2.2.1 t14.2.2.2.2.2.2.1 t14.2.2.2.2.2.2.2.1 t14.2.2.2.2.2.2.2.2.1 t14.2.2.2.2.2.2.2.2.2.1 t14.2.2.2.2.2.2.2.2.2.2.1 t14.2.2.2.2.2.2.2.2.2.2.2 t1.1 t1.2.1 t1.2.2.1 ([]) t1.2.2.2.1 ([]) t1.2.2.2.2.1 t1.2.2.2.2.2.1 ([]) t1.2.2.2.2.2.2 ([]) ([])).bind fun t16 => if t16 = true then (laws_heldWorld.f k t8.2.1 t8.2.2.1 t8.2.2.2.1 t8.2.2.2.2.1 t8.2.2.2.2.2.1 t8.2.2.2.2.2.2.1 t3.2.2.2.2.2.2.1 t8.2.2.2.2.2.2.2.1 t8.2.2.2.2.2.2.2.2.1 t3.2.2.2.2.2.2.2.2.2.1 t8.2.2.2.2.2.2.2.2.2.1 t8.2.2.2.2.2.2.2.2.2.2 1).bind fun t19 => if t19 < 0 then some false else if t19 = t8.1 then some true else some false else some false else some false else some false
theorem laws_FnExactWorldNew.ok {k : Nat} {r : Bool} (H : laws_FnExactWorldNew.f k = some r) : ACalls Try.prog 3 [] [] [] (.lit (.bool r)) := by
 refine acalls (fn := Try.f3) (nt := 36) Try.func3 rfl rfl (Nat.le_of_ble_eq_true rfl) fun E hE => ?_
 rw [laws_FnExactWorldNew.f] at H
 refine aw_grp1 ?_
 refine wk_start ?_
 refine kv g0 (asg) ?_
 refine wk_end ?_
 refine ac_next ?_
 refine aw_grp1 ?_
 refine wk_start ?_
 obtain ⟨t1, A2, H⟩ := of_bind H
 refine kcS5 6 (.agg [.row 0, .row 1, .row 2, .lit (.slice none 0 0), .row 3, .lit (.slice none 0 0), .lit (.int .i64 t1.2.2.2.2.1), .row 4, .lit (.slice none 0 0), .lit (.int .i64 t1.2.2.2.2.2.2), .lit (.slice none 0 0), .lit (.slice none 0 0)]) [(0, .row 56 1 (t1.1.map (eL 1 (eL 4 (e151))))), (1, .row 59 4 (t1.2.1.map e59)), (2, .row 62 5 (t1.2.2.1.map e62)), (3, .row 3 1 (t1.2.2.2.1.map (eI .i64))), (4, .row 3 1 (t1.2.2.2.2.2.1.map (eI .i64)))] g0 (cal (spec_WorldNew.ok A2) [0, 1, 2, 3, 4] 9999 .n (hf := Try.func5)) rfl rfl ?_
 refine kb g0 (alc 5 [.slice none 0 0, .slice none 0 0, .slice none 0 0, .slice none 0 0, .slice none 0 0, .slice none 0 0, .int .i64 0, .slice none 0 0, .slice none 0 0, .int .i64 0, .slice none 0 0, .slice none 0 0] [.lit (.slice none 0 0), .lit (.slice none 0 0), .lit (.slice none 0 0), .lit (.slice none 0 0), .lit (.slice none 0 0), .lit (.slice none 0 0), .lit (.int .i64 0), .lit (.slice none 0 0), .lit (.slice none 0 0), .lit (.int .i64 0), .lit (.slice none 0 0), .lit (.slice none 0 0)]) ?_
 refine ks g0 (stB 12 [.row 0, .row 1, .row 2, .lit (.slice none 0 0), .row 3, .lit (.slice none 0 0), .lit (.int .i64 t1.2.2.2.2.1), .row 4, .lit (.slice none 0 0), .lit (.int .i64 t1.2.2.2.2.2.2), .lit (.slice none 0 0), .lit (.slice none 0 0)]) ?_
 refine wk_end ?_
 refine ac_next ?_
 refine aw_grp1 ?_
 refine wk_start ?_
 obtain ⟨t3, A4, H⟩ := of_bind H
 refine kcS10 7 (.agg [.row 6, .row 7, .row 8, .row 9, .row 10, .row 11, .lit (.int .i64 t3.2.2.2.2.2.2.1), .row 12, .row 13, .lit (.int .i64 t3.2.2.2.2.2.2.2.2.2.1), .row 14, .row 15]) [(6, .drow false [.own 127 [.own 151 []]] 56 1 (t3.1.map (eL 1 (eL 4 (e151))))), (7, .drow false ds59 59 4 (t3.2.1.map e59)), (8, .drow false ds62 62 5 (t3.2.2.1.map e62)), (9, .row 133 6 (t3.2.2.2.1.map e133)), (10, .row 3 1 (t3.2.2.2.2.1.map (eI .i64))), (11, .row 135 6 (t3.2.2.2.2.2.1.map e135)), (12, .row 3 1 (t3.2.2.2.2.2.2.2.1.map (eI .i64))), (13, .row 99 3 (t3.2.2.2.2.2.2.2.2.1.map e99)), (14, .row 3 1 (t3.2.2.2.2.2.2.2.2.2.2.1.map (eI .i64))), (15, .row 83 4 (t3.2.2.2.2.2.2.2.2.2.2.2.map e83))] g0 (cal (impl_WorldNew.ok A4) [6, 7, 8, 9, 10, 11, 12, 13, 14, 15] 9999 .n (hf := Try.func6)) rfl rfl ?_
 refine kb g0 (alc 16 [.slice none 0 0, .slice none 0 0, .slice none 0 0, .slice none 0 0, .slice none 0 0, .slice none 0 0, .int .i64 0, .slice none 0 0, .slice none 0 0, .int .i64 0, .slice none 0 0, .slice none 0 0] [.lit (.slice none 0 0), .lit (.slice none 0 0), .lit (.slice none 0 0), .lit (.slice none 0 0), .lit (.slice none 0 0), .lit (.slice none 0 0), .lit (.int .i64 0), .lit (.slice none 0 0), .lit (.slice none 0 0), .lit (.int .i64 0), .lit (.slice none 0 0), .lit (.slice none 0 0)]) ?_
 refine ks g0 (stB 12 [.row 6, .row 7, .row 8, .row 9, .row 10, .row 11, .lit (.int .i64 t3.2.2.2.2.2.2.1), .row 12, .row 13, .lit (.int .i64 t3.2.2.2.2.2.2.2.2.2.1), .row 14, .row 15]) ?_
 refine wk_end ?_
 refine ac_next ?_
 refine aw_grp1 ?_
 refine aw_grp1 ?_
 refine wk_start ?_
 refine kv g0 (ldBA 12 [.row 6, .row 7, .row 8, .row 9, .row 10, .row 11, .lit (.int .i64 t3.2.2.2.2.2.2.1), .row 12, .row 13, .lit (.int .i64 t3.2.2.2.2.2.2.2.2.2.1), .row 14, .row 15]) ?_
 refine kv g0 (ldBA 12 [.row 0, .row 1, .row 2, .lit (.slice none 0 0), .row 3, .lit (.slice none 0 0), .lit (.int .i64 t1.2.2.2.2.1), .row 4, .lit (.slice none 0 0), .lit (.int .i64 t1.2.2.2.2.2.2), .lit (.slice none 0 0), .lit (.slice none 0 0)]) ?_
 obtain ⟨t5, A6, H⟩ := of_bind H
 refine kcS0 10 (.lit (.bool t5)) [] g0 (cal (laws_eqWorld.ok A6) [] 9999 .n (hf := Try.func7)) rfl rfl ?_
 refine kv g0 (not_) ?_
 refine wk_end ?_
 refine ac_next ?_
 by_cases c7 : t5 = true
 ·rw [if_pos c7] at H
  refine aw_ifF ?_ (nF c7)
  refine aw_skip ?_
  refine ac_next ?_
  refine aw_grp1 ?_
  refine wk_start ?_
  refine kv g0 (asg) ?_
  refine wk_end ?_
  refine ac_next ?_
  refine aw_grp1 ?_
  refine wk_start ?_
  refine kv g0 (ldBA 12 [.row 6, .row 7, .row 8, .row 9, .row 10, .row 11, .lit (.int .i64 t3.2.2.2.2.2.2.1), .row 12, .row 13, .lit (.int .i64 t3.2.2.2.2.2.2.2.2.2.1), .row 14, .row 15]) ?_
  refine kv g0 (mv) ?_
  obtain ⟨t8, A9, H⟩ := of_bind H
  refine kcS10 14 (.lit (.int .i64 t8.1)) [(6, .drow false [.own 127 [.own 151 []]] 56 1 (t8.2.1.map (eL 1 (eL 4 (e151))))), (7, .drow false ds59 59 4 (t8.2.2.1.map e59)), (8, .drow false ds62 62 5 (t8.2.2.2.1.map e62)), (9, .row 133 6 (t8.2.2.2.2.1.map e133)), (10, .row 3 1 (t8.2.2.2.2.2.1.map (eI .i64))), (11, .row 135 6 (t8.2.2.2.2.2.2.1.map e135)), (12, .row 3 1 (t8.2.2.2.2.2.2.2.1.map (eI .i64))), (13, .row 99 3 (t8.2.2.2.2.2.2.2.2.1.map e99)), (14, .row 3 1 (t8.2.2.2.2.2.2.2.2.2.1.map (eI .i64))), (15, .row 83 4 (t8.2.2.2.2.2.2.2.2.2.2.map e83))] g0 (cal (laws_markWorld.ok A9) [6, 7, 8, 9, 10, 11, 12, 13, 14, 15] 9999 .n (hf := Try.func8)) rfl rfl ?_
  refine kv g0 (asg) ?_
  refine wk_end ?_
  refine ac_next ?_
  refine aw_grp1 ?_
  refine wk_start ?_
  refine kv g0 (asg) ?_
  refine wk_end ?_
  refine ac_next ?_
  refine aw_grp1 ?_
  refine wk_start ?_
  refine kv g0 (ldBA 12 [.row 6, .row 7, .row 8, .row 9, .row 10, .row 11, .lit (.int .i64 t3.2.2.2.2.2.2.1), .row 12, .row 13, .lit (.int .i64 t3.2.2.2.2.2.2.2.2.2.1), .row 14, .row 15]) ?_
  refine kv g0 (mv) ?_
  obtain ⟨t10, A11, H⟩ := of_bind H
  refine kcS0 17 (.lit (.int .i64 t10)) [] g0 (cal (laws_heldWorld.ok A11) [] 9999 .n (hf := Try.func9)) rfl rfl ?_
  refine kv g0 (asg) ?_
  refine wk_end ?_
  refine ac_next ?_
  refine aw_grp1 ?_
  refine aw_grp1 ?_
  refine wk_start ?_
  refine kv g0 (mv) ?_
  refine kv g0 (lss) ?_
  refine wk_end ?_
  refine ac_next ?_
  by_cases c12 : t10 < 0
  ·rw [if_pos c12] at H
   refine aw_ifT ?_ (decide_eq_true c12)
   refine aw_grp1 ?_
   refine wk_start ?_
   refine kv g0 (asg) ?_
   refine wk_end ?_
   refine ac_next ?_
   refine aw_ret ?_
   refine ac_thenR ?_
   obtain rfl := Option.some.inj H
   exact acr hE [.tmp 0] (.tmp .nil) (.one _) [] 9999
  rw [if_neg c12] at H
  refine aw_ifF ?_ (decide_eq_false c12)
  refine aw_skip ?_
  refine ac_next ?_
  refine aw_grp1 ?_
  refine aw_grp1 ?_
  refine wk_start ?_
  refine kv g0 (mv) ?_
  refine kv g0 (mv) ?_
  refine kv g0 (neq) ?_
  refine wk_end ?_
  refine ac_next ?_
  by_cases c13 : t10 = t8.1
  ·rw [if_pos c13] at H
   refine aw_ifF ?_ (eM c13)
   refine aw_skip ?_
   refine ac_next ?_
   refine aw_grp1 ?_
   refine wk_start ?_
   obtain ⟨t14, A15, H⟩ := of_bind H
   refine kcS10 23 (.agg [.row 17, .row 18, .row 19, .row 20, .row 21, .row 22, .lit (.int .i64 t14.2.2.2.2.2.2.1), .row 23, .row 24, .lit (.int .i64 t14.2.2.2.2.2.2.2.2.2.1), .row 25, .row 26]) [(17, .drow false [.own 127 [.own 151 []]] 56 1 (t14.1.map (eL 1 (eL 4 (e151))))), (18, .drow false ds59 59 4 (t14.2.1.map e59)), (19, .drow false ds62 62 5 (t14.2.2.1.map e62)), (20, .row 133 6 (t14.2.2.2.1.map e133)), (21, .row 3 1 (t14.2.2.2.2.1.map (eI .i64))), (22, .row 135 6 (t14.2.2.2.2.2.1.map e135)), (23, .row 3 1 (t14.2.2.2.2.2.2.2.1.map (eI .i64))), (24, .row 99 3 (t14.2.2.2.2.2.2.2.2.1.map e99)), (25, .row 3 1 (t14.2.2.2.2.2.2.2.2.2.2.1.map (eI .i64))), (26, .row 83 4 (t14.2.2.2.2.2.2.2.2.2.2.2.map e83))] g0 (cal (impl_WorldNew.ok A15) [17, 18, 19, 20, 21, 22, 23, 24, 25, 26] 9999 .n (hf := Try.func6)) rfl rfl ?_
   refine kb g0 (alc 27 [.slice none 0 0, .slice none 0 0, .slice none 0 0, .slice none 0 0, .slice none 0 0, .slice none 0 0, .int .i64 0, .slice none 0 0, .slice none 0 0, .int .i64 0, .slice none 0 0, .slice none 0 0] [.lit (.slice none 0 0), .lit (.slice none 0 0), .lit (.slice none 0 0), .lit (.slice none 0 0), .lit (.slice none 0 0), .lit (.slice none 0 0), .lit (.int .i64 0), .lit (.slice none 0 0), .lit (.slice none 0 0), .lit (.int .i64 0), .lit (.slice none 0 0), .lit (.slice none 0 0)]) ?_
   refine ks g0 (stB 12 [.row 17, .row 18, .row 19, .row 20, .row 21, .row 22, .lit (.int .i64 t14.2.2.2.2.2.2.1), .row 23, .row 24, .lit (.int .i64 t14.2.2.2.2.2.2.2.2.2.1), .row 25, .row 26]) ?_
   refine wk_end ?_
   refine ac_next ?_
   refine aw_grp1 ?_
   refine aw_grp1 ?_
   refine wk_start ?_
   refine kv g0 (ldBA 12 [.row 17, .row 18, .row 19, .row 20, .row 21, .row 22, .lit (.int .i64 t14.2.2.2.2.2.2.1), .row 23, .row 24, .lit (.int .i64 t14.2.2.2.2.2.2.2.2.2.1), .row 25, .row 26]) ?_
   refine kv g0 (ldBA 12 [.row 0, .row 1, .row 2, .lit (.slice none 0 0), .row 3, .lit (.slice none 0 0), .lit (.int .i64 t1.2.2.2.2.1), .row 4, .lit (.slice none 0 0), .lit (.int .i64 t1.2.2.2.2.2.2), .lit (.slice none 0 0), .lit (.slice none 0 0)]) ?_
   obtain ⟨t16, A17, H⟩ := of_bind H
   refine kcS0 26 (.lit (.bool t16)) [] g0 (cal (laws_eqWorld.ok A17) [] 9999 .n (hf := Try.func7)) rfl rfl ?_
   refine kv g0 (not_) ?_
   refine wk_end ?_
   refine ac_next ?_
   by_cases c18 : t16 = true
   ·rw [if_pos c18] at H
    refine aw_ifF ?_ (nF c18)
    refine aw_skip ?_
    refine ac_next ?_
    refine aw_grp1 ?_
    refine wk_start ?_
    refine kv g0 (asg) ?_
    refine wk_end ?_
    refine ac_next ?_
    refine aw_grp1 ?_
    refine wk_start ?_
    refine kv g0 (ldBA 12 [.row 6, .row 7, .row 8, .row 9, .row 10, .row 11, .lit (.int .i64 t3.2.2.2.2.2.2.1), .row 12, .row 13, .lit (.int .i64 t3.2.2.2.2.2.2.2.2.2.1), .row 14, .row 15]) ?_
    refine kv g0 (mv) ?_
    obtain ⟨t19, A20, H⟩ := of_bind H
    refine kcS0 30 (.lit (.int .i64 t19)) [] g0 (cal (laws_heldWorld.ok A20) [] 9999 .n (hf := Try.func9)) rfl rfl ?_
    refine kv g0 (asg) ?_
    refine wk_end ?_
    refine ac_next ?_
    refine aw_grp1 ?_
    refine aw_grp1 ?_
    refine wk_start ?_
    refine kv g0 (mv) ?_
    refine kv g0 (lss) ?_
    refine wk_end ?_
    refine ac_next ?_
    by_cases c21 : t19 < 0
    ·rw [if_pos c21] at H
     refine aw_ifT ?_ (decide_eq_true c21)
     refine aw_grp1 ?_
     refine wk_start ?_
     refine kv g0 (asg) ?_
     refine wk_end ?_
     refine ac_next ?_
     refine aw_ret ?_
     refine ac_thenR ?_
     obtain rfl := Option.some.inj H
     exact acr hE [.tmp 0] (.tmp .nil) (.one _) [] 9999
    rw [if_neg c21] at H
    refine aw_ifF ?_ (decide_eq_false c21)
    refine aw_skip ?_
    refine ac_next ?_
    refine aw_grp1 ?_
    refine aw_grp1 ?_
    refine wk_start ?_
    refine kv g0 (mv) ?_
    refine kv g0 (mv) ?_
    refine kv g0 (neq) ?_
    refine wk_end ?_
    refine ac_next ?_
    by_cases c22 : t19 = t8.1
    ·rw [if_pos c22] at H
     refine aw_ifF ?_ (eM c22)
     refine aw_skip ?_
     refine ac_next ?_
     refine aw_grp1 ?_
     refine wk_start ?_
     refine kv g0 (asg) ?_
     refine wk_end ?_
     refine ac_next ?_
     refine aw_ret ?_
     obtain rfl := Option.some.inj H
     exact acr hE [.tmp 0] (.tmp .nil) (.one _) [] 9999
    rw [if_neg c22] at H
    refine aw_ifT ?_ (eN c22)
    refine aw_grp1 ?_
    refine wk_start ?_
    refine kv g0 (asg) ?_
    refine wk_end ?_
    refine ac_next ?_
    refine aw_ret ?_
    refine ac_thenR ?_
    obtain rfl := Option.some.inj H
    exact acr hE [.tmp 0] (.tmp .nil) (.one _) [] 9999
   rw [if_neg c18] at H
   refine aw_ifT ?_ (nT (bF c18))
   refine aw_grp1 ?_
   refine wk_start ?_
   refine kv g0 (asg) ?_
   refine wk_end ?_
   refine ac_next ?_
   refine aw_ret ?_
   refine ac_thenR ?_
   obtain rfl := Option.some.inj H
   exact acr hE [.tmp 0] (.tmp .nil) (.one _) [] 9999
  rw [if_neg c13] at H
  refine aw_ifT ?_ (eN c13)
  refine aw_grp1 ?_
  refine wk_start ?_
  refine kv g0 (asg) ?_
  refine wk_end ?_
  refine ac_next ?_
  refine aw_ret ?_
  refine ac_thenR ?_
  obtain rfl := Option.some.inj H
  exact acr hE [.tmp 0] (.tmp .nil) (.one _) [] 9999
 rw [if_neg c7] at H
 refine aw_ifT ?_ (nT (bF c7))
 refine aw_grp1 ?_
 refine wk_start ?_
 refine kv g0 (asg) ?_
 refine wk_end ?_
 refine ac_next ?_
 refine aw_ret ?_
 refine ac_thenR ?_
 obtain rfl := Option.some.inj H
 exact acr hE [.tmp 0] (.tmp .nil) (.one _) [] 9999
end Go.Proofs.Ytkkglhhkpihmgaa.PFnExactWorldNew
