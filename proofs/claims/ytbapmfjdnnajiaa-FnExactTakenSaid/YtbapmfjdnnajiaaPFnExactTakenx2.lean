import Derived.Test.YtbapmfjdnnajiaaPFnExactTakenx1
set_option linter.unusedVariables false
set_option linter.unusedSimpArgs false
set_option maxRecDepth 100000
namespace Go.Proofs.Ytbapmfjdnnajiaa.PFnExactTaken
open Go Go.RowKit Go.Proofs.YtbapmfjdnnajiaaA
/-! laws_eqItemS -/
def laws_eqItemS.l0 : Nat → (List S43) → (List S43) → Int → Option (Bool)
 | 0, _, _, _ => none
 | k9 + 1, l0, l1, p8 => if p8 < (l0.length : Int) then if 0 ≤ p8 then (if p8 < (l1.length : Int) then ((laws_eqItem.f ((rd_T43 l0 p8).f0) ((rd_T43 l0 p8).f1) ((rd_T43 l0 p8).f2) ((rd_T43 l0 p8).f3) ((rd_T43 l1 p8).f0) ((rd_T43 l1 p8).f1) ((rd_T43 l1 p8).f2) ((rd_T43 l1 p8).f3)).bind fun t13 => if t13 = true then laws_eqItemS.l0 k9 l0 l1 (wrap64 (p8 + 1)) else some false) else none) else none else some true
def laws_eqItemS.f (k : Nat) (l0 : List S43) (l1 : List S43) : Option (Bool) := if (l0.length : Int) = (l1.length : Int) then laws_eqItemS.l0 k l0 l1 0 else some false
theorem laws_eqItemS.ok {k : Nat} {l0 : List S43} {l1 : List S43} {r : Bool} (H : laws_eqItemS.f k l0 l1 = some r) : ACalls Try.prog 155 [] [.sl .o 4 (l0.map e43), .sl .o 4 (l1.map e43)] [] (.lit (.bool r)) := by
 refine acalls (fn := Try.f155) (nt := 27) Try.func155 rfl rfl (Nat.le_of_ble_eq_true rfl) fun E hE => ?_
 rw [laws_eqItemS.f] at H
 refine aw_grp1 ?_
 refine wk_start ?_
 refine kv g0 (asg) ?_
 refine wk_end ?_
 refine ac_next ?_
 refine aw_grp1 ?_
 refine aw_grp1 ?_
 refine wk_start ?_
 refine kv g0 (mv) ?_
 refine kv g0 (lnS lenE) ?_
 refine kv g0 (mv) ?_
 refine kv g0 (lnS lenE) ?_
 refine kv g0 (neq) ?_
 refine wk_end ?_
 refine ac_next ?_
 by_cases c1 : (l0.length : Int) = (l1.length : Int)
 ·rw [if_pos c1] at H
  refine aw_ifF ?_ (eM c1)
  refine aw_skip ?_
  refine ac_next ?_
  refine aw_grp1 ?_
  refine aw_grp1 ?_
  refine wk_start ?_
  refine kv g0 (asg) ?_
  refine wk_end ?_
  refine ac_next ?_
  refine aw_block ?_
  refine aw_loop1 (fun (k_ : Nat) (p8 : Int) => k_ ≤ k ∧ laws_eqItemS.l0 k_ l0 l1 p8 = some r) (fun (p8 : Int) => ⟨[(0, .sl .o 4 (l0.map e43)), (1, .sl .o 4 (l1.map e43)), (5, .lit (.int .i64 p8))], []⟩) k 0 ⟨Nat.le_refl _, H⟩ (fun K_ h_ => acw hE [] 9999 h_) (fun _ => by intro h_; have h_ := h_.2; rw [laws_eqItemS.l0.eq_1] at h_; cases h_) ?_
  intro k9 p8 hq_ K16 hK17
  have hk9 := hq_.1
  have H := hq_.2
  clear hq_
  rw [laws_eqItemS.l0.eq_2] at H
  refine aw_grp1 ?_
  refine aw_grp1 ?_
  refine wk_start ?_
  refine kv g0 (mv) ?_
  refine kv g0 (mv) ?_
  refine kv g0 (lnS lenE) ?_
  refine kv g0 (lss) ?_
  refine wk_end ?_
  refine ac_next ?_
  by_cases c10 : p8 < (l0.length : Int)
  ·rw [if_pos c10] at H
   refine aw_ifT ?_ (decide_eq_true c10)
   refine aw_skip ?_
   refine ac_next ?_
   refine aw_grp1 ?_
   refine aw_block ?_
   refine aw_grp1 ?_
   refine wk_start ?_
   refine kv g0 (mv) ?_
   refine kv g0 (mv) ?_
   obtain ⟨c11, H⟩ := of_if H
   refine kv g0 (ixS 43 (e43 (rd_T43 l0 p8)) c11 (getE (z := z43) c11 c10)) ?_
   refine kv g0 (ldRA 4 [.lit (.int .i64 ((rd_T43 l0 p8).f0)), .lit (.int .i64 ((rd_T43 l0 p8).f1)), .lit (.int .i64 ((rd_T43 l0 p8).f2)), .lit (.int .i64 ((rd_T43 l0 p8).f3))]) ?_
   refine kv g0 (mv) ?_
   refine kv g0 (mv) ?_
   obtain ⟨c12, H⟩ := of_if H
   refine kv g0 (ixS 43 (e43 (rd_T43 l1 p8)) c11 (getE (z := z43) c11 c12)) ?_
   refine kv g0 (ldRA 4 [.lit (.int .i64 ((rd_T43 l1 p8).f0)), .lit (.int .i64 ((rd_T43 l1 p8).f1)), .lit (.int .i64 ((rd_T43 l1 p8).f2)), .lit (.int .i64 ((rd_T43 l1 p8).f3))]) ?_
   obtain ⟨t13, A14, H⟩ := of_bind H
   refine kcS0 25 (.lit (.bool t13)) [] g0 (cal (laws_eqItem.ok A14) [] 9999 .n (hf := Try.func185)) rfl rfl ?_
   refine kv g0 (not_) ?_
   refine wk_end_draw hM (by kernel_rfl) ?_
   refine ac_next ?_
   by_cases c15 : t13 = true
   ·rw [if_pos c15] at H
    refine aw_ifF ?_ (nF c15)
    refine aw_skip ?_
    refine ac_blkN ?_
    refine ac_next ?_
    refine wk_start ?_
    refine kv g0 (mv) ?_
    refine kv g0 (add6) ?_
    refine kv g0 (asg) ?_
    refine wk_end ?_
    refine ac_k ?_
    exact acw hE [] 9999 (hK17 k9 (wrap64 (p8 + 1)) (Nat.le_refl _) ⟨by omega, H⟩)
   rw [if_neg c15] at H
   refine aw_ifT ?_ (nT (bF c15))
   refine aw_grp1 ?_
   refine wk_start ?_
   refine kv g0 (asg) ?_
   refine wk_end ?_
   refine ac_next ?_
   refine aw_ret ?_
   refine ac_blkR ?_
   refine ac_thenR ?_
   refine ac_thenR ?_
   refine ac_blkR ?_
   refine ac_thenR ?_
   obtain rfl := Option.some.inj H
   exact acr hE [.tmp 4] (.tmp .nil) (.one _) [] 9999
  rw [if_neg c10] at H
  refine aw_ifF ?_ (decide_eq_false c10)
  refine aw_exit ?_
  refine ac_then ?_
  refine ac_then ?_
  refine ac_hit rfl ?_
  refine ac_next ?_
  refine aw_grp1 ?_
  refine wk_start ?_
  refine kv g0 (asg) ?_
  refine wk_end ?_
  refine ac_next ?_
  refine aw_ret ?_
  obtain rfl := Option.some.inj H
  exact acr hE [.tmp 4] (.tmp .nil) (.one _) [] 9999
 rw [if_neg c1] at H
 refine aw_ifT ?_ (eN c1)
 refine aw_grp1 ?_
 refine wk_start ?_
 refine kv g0 (asg) ?_
 refine wk_end ?_
 refine ac_next ?_
 refine aw_ret ?_
 refine ac_thenR ?_
 obtain rfl := Option.some.inj H
 exact acr hE [.tmp 4] (.tmp .nil) (.one _) [] 9999
/-! laws_eqSender -/
def laws_eqSender.f (k : Nat) (a0_0 : Int) (a0_1 : Int) (l0_2 : List S43) (a0_3 : Int) (a0_4 : Int) (a1_0 : Int) (a1_1 : Int) (l1_2 : List S43) (a1_3 : Int) (a1_4 : Int) : Option (Bool) := if a0_0 = a1_0 then if a0_1 = a1_1 then (laws_eqItemS.f k l0_2 l1_2).bind fun t3 => if t3 = true then if a0_3 = a1_3 then if a0_4 = a1_4 then some true else some false else some false else some false else some false else some false
theorem laws_eqSender.ok {k : Nat} {a0_0 : Int} {a0_1 : Int} {l0_2 : List S43} {a0_3 : Int} {a0_4 : Int} {a1_0 : Int} {a1_1 : Int} {l1_2 : List S43} {a1_3 : Int} {a1_4 : Int} {r : Bool} (H : laws_eqSender.f k a0_0 a0_1 l0_2 a0_3 a0_4 a1_0 a1_1 l1_2 a1_3 a1_4 = some r) : ACalls Try.prog 72 [] [.agg [.lit (.int .i64 a0_0), .lit (.int .i64 a0_1), .sl .o 4 (l0_2.map e43), .lit (.int .i64 a0_3), .lit (.int .i64 a0_4)], .agg [.lit (.int .i64 a1_0), .lit (.int .i64 a1_1), .sl .o 4 (l1_2.map e43), .lit (.int .i64 a1_3), .lit (.int .i64 a1_4)]] [] (.lit (.bool r)) := by
 refine acalls (fn := Try.f72) (nt := 31) Try.func72 rfl rfl (Nat.le_of_ble_eq_true rfl) fun E hE => ?_
 rw [laws_eqSender.f] at H
 refine aw_grp1 ?_
 refine wk_start ?_
 refine kb g0 (bxA 0) ?_
 refine kb g0 (bxA 1) ?_
 refine kv g0 (asg) ?_
 refine wk_end ?_
 refine ac_next ?_
 refine aw_grp1 ?_
 refine aw_grp1 ?_
 refine wk_start ?_
 refine kv g0 (faB 0 0) ?_
 refine kv g0 (ldB) ?_
 refine kv g0 (faB 0 0) ?_
 refine kv g0 (ldB) ?_
 refine kv g0 (neq) ?_
 refine wk_end ?_
 refine ac_next ?_
 by_cases c1 : a0_0 = a1_0
 ·rw [if_pos c1] at H
  refine aw_ifF ?_ (eM c1)
  refine aw_skip ?_
  refine ac_next ?_
  refine aw_grp1 ?_
  refine aw_grp1 ?_
  refine wk_start ?_
  refine kv g0 (faB 1 1) ?_
  refine kv g0 (ldB) ?_
  refine kv g0 (faB 1 1) ?_
  refine kv g0 (ldB) ?_
  refine kv g0 (neq) ?_
  refine wk_end ?_
  refine ac_next ?_
  by_cases c2 : a0_1 = a1_1
  ·rw [if_pos c2] at H
   refine aw_ifF ?_ (eM c2)
   refine aw_skip ?_
   refine ac_next ?_
   refine aw_grp1 ?_
   refine aw_grp1 ?_
   refine wk_start ?_
   refine kv g0 (faB 2 2) ?_
   refine kv g0 (ldB) ?_
   refine kv g0 (faB 2 2) ?_
   refine kv g0 (ldB) ?_
   obtain ⟨t3, A4, H⟩ := of_bind H
   refine kcS0 19 (.lit (.bool t3)) [] g0 (cal (laws_eqItemS.ok A4) [] 9999 .n (hf := Try.func155)) rfl rfl ?_
   refine kv g0 (not_) ?_
   refine wk_end ?_
   refine ac_next ?_
   by_cases c5 : t3 = true
   ·rw [if_pos c5] at H
    refine aw_ifF ?_ (nF c5)
    refine aw_skip ?_
    refine ac_next ?_
    refine aw_grp1 ?_
    refine aw_grp1 ?_
    refine wk_start ?_
    refine kv g0 (faB 3 3) ?_
    refine kv g0 (ldB) ?_
    refine kv g0 (faB 3 3) ?_
    refine kv g0 (ldB) ?_
    refine kv g0 (neq) ?_
    refine wk_end ?_
    refine ac_next ?_
    by_cases c6 : a0_3 = a1_3
    ·rw [if_pos c6] at H
     refine aw_ifF ?_ (eM c6)
     refine aw_skip ?_
     refine ac_next ?_
     refine aw_grp1 ?_
     refine aw_grp1 ?_
     refine wk_start ?_
     refine kv g0 (faB 4 4) ?_
     refine kv g0 (ldB) ?_
     refine kv g0 (faB 4 4) ?_
     refine kv g0 (ldB) ?_
     refine kv g0 (neq) ?_
     refine wk_end ?_
     refine ac_next ?_
     by_cases c7 : a0_4 = a1_4
     ·rw [if_pos c7] at H
      refine aw_ifF ?_ (eM c7)
      refine aw_skip ?_
      refine ac_next ?_
      refine aw_grp1 ?_
      refine wk_start ?_
      refine kv g0 (asg) ?_
      refine wk_end ?_
      refine ac_next ?_
      refine aw_ret ?_
      obtain rfl := Option.some.inj H
      exact acr hE [.tmp 4] (.tmp .nil) (.one _) [] 9999
     rw [if_neg c7] at H
     refine aw_ifT ?_ (eN c7)
     refine aw_grp1 ?_
     refine wk_start ?_
     refine kv g0 (asg) ?_
     refine wk_end ?_
     refine ac_next ?_
     refine aw_ret ?_
     refine ac_thenR ?_
     obtain rfl := Option.some.inj H
     exact acr hE [.tmp 4] (.tmp .nil) (.one _) [] 9999
    rw [if_neg c6] at H
    refine aw_ifT ?_ (eN c6)
    refine aw_grp1 ?_
    refine wk_start ?_
    refine kv g0 (asg) ?_
    refine wk_end ?_
    refine ac_next ?_
    refine aw_ret ?_
    refine ac_thenR ?_
    obtain rfl := Option.some.inj H
    exact acr hE [.tmp 4] (.tmp .nil) (.one _) [] 9999
   rw [if_neg c5] at H
   refine aw_ifT ?_ (nT (bF c5))
   refine aw_grp1 ?_
   refine wk_start ?_
   refine kv g0 (asg) ?_
   refine wk_end ?_
   refine ac_next ?_
   refine aw_ret ?_
   refine ac_thenR ?_
   obtain rfl := Option.some.inj H
   exact acr hE [.tmp 4] (.tmp .nil) (.one _) [] 9999
  rw [if_neg c2] at H
  refine aw_ifT ?_ (eN c2)
  refine aw_grp1 ?_
  refine wk_start ?_
  refine kv g0 (asg) ?_
  refine wk_end ?_
  refine ac_next ?_
  refine aw_ret ?_
  refine ac_thenR ?_
  obtain rfl := Option.some.inj H
  exact acr hE [.tmp 4] (.tmp .nil) (.one _) [] 9999
 rw [if_neg c1] at H
 refine aw_ifT ?_ (eN c1)
 refine aw_grp1 ?_
 refine wk_start ?_
 refine kv g0 (asg) ?_
 refine wk_end ?_
 refine ac_next ?_
 refine aw_ret ?_
 refine ac_thenR ?_
 obtain rfl := Option.some.inj H
 exact acr hE [.tmp 4] (.tmp .nil) (.one _) [] 9999
/-! laws_eqRing -/
def laws_eqRing.f (k : Nat) (l0_0 : List S43) (a0_1 : Int) (a0_2 : Int) (a0_3 : Int) (l1_0 : List S43) (a1_1 : Int) (a1_2 : Int) (a1_3 : Int) : Option (Bool) := (laws_eqItemS.f k l0_0 l1_0).bind fun t1 => if t1 = true then if a0_1 = a1_1 then if a0_2 = a1_2 then if a0_3 = a1_3 then some true else some false else some false else some false else some false
theorem laws_eqRing.ok {k : Nat} {l0_0 : List S43} {a0_1 : Int} {a0_2 : Int} {a0_3 : Int} {l1_0 : List S43} {a1_1 : Int} {a1_2 : Int} {a1_3 : Int} {r : Bool} (H : laws_eqRing.f k l0_0 a0_1 a0_2 a0_3 l1_0 a1_1 a1_2 a1_3 = some r) : ACalls Try.prog 73 [] [.agg [.sl .o 4 (l0_0.map e43), .lit (.int .i64 a0_1), .lit (.int .i64 a0_2), .lit (.int .i64 a0_3)], .agg [.sl .o 4 (l1_0.map e43), .lit (.int .i64 a1_1), .lit (.int .i64 a1_2), .lit (.int .i64 a1_3)]] [] (.lit (.bool r)) := by
 refine acalls (fn := Try.f73) (nt := 26) Try.func73 rfl rfl (Nat.le_of_ble_eq_true rfl) fun E hE => ?_
 rw [laws_eqRing.f] at H
 refine aw_grp1 ?_
 refine wk_start ?_
 refine kb g0 (bxA 0) ?_
 refine kb g0 (bxA 1) ?_
 refine kv g0 (asg) ?_
 refine wk_end ?_
 refine ac_next ?_
 refine aw_grp1 ?_
 refine aw_grp1 ?_
 refine wk_start ?_
 refine kv g0 (faB 0 0) ?_
 refine kv g0 (ldB) ?_
 refine kv g0 (faB 0 0) ?_
 refine kv g0 (ldB) ?_
 obtain ⟨t1, A2, H⟩ := of_bind H
 refine kcS0 9 (.lit (.bool t1)) [] g0 (cal (laws_eqItemS.ok A2) [] 9999 .n (hf := Try.func155)) rfl rfl ?_
 refine kv g0 (not_) ?_
 refine wk_end ?_
 refine ac_next ?_
 by_cases c3 : t1 = true
 ·rw [if_pos c3] at H
  refine aw_ifF ?_ (nF c3)
  refine aw_skip ?_
  refine ac_next ?_
  refine aw_grp1 ?_
  refine aw_grp1 ?_
  refine wk_start ?_
  refine kv g0 (faB 1 1) ?_
  refine kv g0 (ldB) ?_
  refine kv g0 (faB 1 1) ?_
  refine kv g0 (ldB) ?_
  refine kv g0 (neq) ?_
  refine wk_end ?_
  refine ac_next ?_
  by_cases c4 : a0_1 = a1_1
  ·rw [if_pos c4] at H
   refine aw_ifF ?_ (eM c4)
   refine aw_skip ?_
   refine ac_next ?_
   refine aw_grp1 ?_
   refine aw_grp1 ?_
   refine wk_start ?_
   refine kv g0 (faB 2 2) ?_
   refine kv g0 (ldB) ?_
   refine kv g0 (faB 2 2) ?_
   refine kv g0 (ldB) ?_
   refine kv g0 (neq) ?_
   refine wk_end ?_
   refine ac_next ?_
   by_cases c5 : a0_2 = a1_2
   ·rw [if_pos c5] at H
    refine aw_ifF ?_ (eM c5)
    refine aw_skip ?_
    refine ac_next ?_
    refine aw_grp1 ?_
    refine aw_grp1 ?_
    refine wk_start ?_
    refine kv g0 (faB 3 3) ?_
    refine kv g0 (ldB) ?_
    refine kv g0 (faB 3 3) ?_
    refine kv g0 (ldB) ?_
    refine kv g0 (neq) ?_
    refine wk_end ?_
    refine ac_next ?_
    by_cases c6 : a0_3 = a1_3
    ·rw [if_pos c6] at H
     refine aw_ifF ?_ (eM c6)
     refine aw_skip ?_
     refine ac_next ?_
     refine aw_grp1 ?_
     refine wk_start ?_
     refine kv g0 (asg) ?_
     refine wk_end ?_
     refine ac_next ?_
     refine aw_ret ?_
     obtain rfl := Option.some.inj H
     exact acr hE [.tmp 4] (.tmp .nil) (.one _) [] 9999
    rw [if_neg c6] at H
    refine aw_ifT ?_ (eN c6)
    refine aw_grp1 ?_
    refine wk_start ?_
    refine kv g0 (asg) ?_
    refine wk_end ?_
    refine ac_next ?_
    refine aw_ret ?_
    refine ac_thenR ?_
    obtain rfl := Option.some.inj H
    exact acr hE [.tmp 4] (.tmp .nil) (.one _) [] 9999
   rw [if_neg c5] at H
   refine aw_ifT ?_ (eN c5)
   refine aw_grp1 ?_
   refine wk_start ?_
   refine kv g0 (asg) ?_
   refine wk_end ?_
   refine ac_next ?_
   refine aw_ret ?_
   refine ac_thenR ?_
   obtain rfl := Option.some.inj H
   exact acr hE [.tmp 4] (.tmp .nil) (.one _) [] 9999
  rw [if_neg c4] at H
  refine aw_ifT ?_ (eN c4)
  refine aw_grp1 ?_
  refine wk_start ?_
  refine kv g0 (asg) ?_
  refine wk_end ?_
  refine ac_next ?_
  refine aw_ret ?_
  refine ac_thenR ?_
  obtain rfl := Option.some.inj H
  exact acr hE [.tmp 4] (.tmp .nil) (.one _) [] 9999
 rw [if_neg c3] at H
 refine aw_ifT ?_ (nT (bF c3))
 refine aw_grp1 ?_
 refine wk_start ?_
 refine kv g0 (asg) ?_
 refine wk_end ?_
 refine ac_next ?_
 refine aw_ret ?_
 refine ac_thenR ?_
 obtain rfl := Option.some.inj H
 exact acr hE [.tmp 4] (.tmp .nil) (.one _) [] 9999
/-! laws_markItemS -/
def laws_markItemS.l0 : Nat → (List S43) → Int → Int → Option (Int × (List S43))
 | 0, _, _, _ => none
 | k6 + 1, q3, p4, p5 => if p5 < (q3.length : Int) then if 0 ≤ p5 then laws_markItemS.l0 k6 ((((q3.set p5.toNat (⟨p4, (rd_T43 q3 p5).f1, (rd_T43 q3 p5).f2, (rd_T43 q3 p5).f3⟩ : S43)).set p5.toNat (⟨(rd_T43 (q3.set p5.toNat (⟨p4, (rd_T43 q3 p5).f1, (rd_T43 q3 p5).f2, (rd_T43 q3 p5).f3⟩ : S43)) p5).f0, wrap64 (p4 + 1), (rd_T43 (q3.set p5.toNat (⟨p4, (rd_T43 q3 p5).f1, (rd_T43 q3 p5).f2, (rd_T43 q3 p5).f3⟩ : S43)) p5).f2, (rd_T43 (q3.set p5.toNat (⟨p4, (rd_T43 q3 p5).f1, (rd_T43 q3 p5).f2, (rd_T43 q3 p5).f3⟩ : S43)) p5).f3⟩ : S43)).set p5.toNat (⟨(rd_T43 ((q3.set p5.toNat (⟨p4, (rd_T43 q3 p5).f1, (rd_T43 q3 p5).f2, (rd_T43 q3 p5).f3⟩ : S43)).set p5.toNat (⟨(rd_T43 (q3.set p5.toNat (⟨p4, (rd_T43 q3 p5).f1, (rd_T43 q3 p5).f2, (rd_T43 q3 p5).f3⟩ : S43)) p5).f0, wrap64 (p4 + 1), (rd_T43 (q3.set p5.toNat (⟨p4, (rd_T43 q3 p5).f1, (rd_T43 q3 p5).f2, (rd_T43 q3 p5).f3⟩ : S43)) p5).f2, (rd_T43 (q3.set p5.toNat (⟨p4, (rd_T43 q3 p5).f1, (rd_T43 q3 p5).f2, (rd_T43 q3 p5).f3⟩ : S43)) p5).f3⟩ : S43)) p5).f0, (rd_T43 ((q3.set p5.toNat (⟨p4, (rd_T43 q3 p5).f1, (rd_T43 q3 p5).f2, (rd_T43 q3 p5).f3⟩ : S43)).set p5.toNat (⟨(rd_T43 (q3.set p5.toNat (⟨p4, (rd_T43 q3 p5).f1, (rd_T43 q3 p5).f2, (rd_T43 q3 p5).f3⟩ : S43)) p5).f0, wrap64 (p4 + 1), (rd_T43 (q3.set p5.toNat (⟨p4, (rd_T43 q3 p5).f1, (rd_T43 q3 p5).f2, (rd_T43 q3 p5).f3⟩ : S43)) p5).f2, (rd_T43 (q3.set p5.toNat (⟨p4, (rd_T43 q3 p5).f1, (rd_T43 q3 p5).f2, (rd_T43 q3 p5).f3⟩ : S43)) p5).f3⟩ : S43)) p5).f1, wrap64 ((wrap64 (p4 + 1)) + 1), (rd_T43 ((q3.set p5.toNat (⟨p4, (rd_T43 q3 p5).f1, (rd_T43 q3 p5).f2, (rd_T43 q3 p5).f3⟩ : S43)).set p5.toNat (⟨(rd_T43 (q3.set p5.toNat (⟨p4, (rd_T43 q3 p5).f1, (rd_T43 q3 p5).f2, (rd_T43 q3 p5).f3⟩ : S43)) p5).f0, wrap64 (p4 + 1), (rd_T43 (q3.set p5.toNat (⟨p4, (rd_T43 q3 p5).f1, (rd_T43 q3 p5).f2, (rd_T43 q3 p5).f3⟩ : S43)) p5).f2, (rd_T43 (q3.set p5.toNat (⟨p4, (rd_T43 q3 p5).f1, (rd_T43 q3 p5).f2, (rd_T43 q3 p5).f3⟩ : S43)) p5).f3⟩ : S43)) p5).f3⟩ : S43)).set p5.toNat (⟨(rd_T43 (((q3.set p5.toNat (⟨p4, (rd_T43 q3 p5).f1, (rd_T43 q3 p5).f2, (rd_T43 q3 p5).f3⟩ : S43)).set p5.toNat (⟨(rd_T43 (q3.set p5.toNat (⟨p4, (rd_T43 q3 p5).f1, (rd_T43 q3 p5).f2, (rd_T43 q3 p5).f3⟩ : S43)) p5).f0, wrap64 (p4 + 1), (rd_T43 (q3.set p5.toNat (⟨p4, (rd_T43 q3 p5).f1, (rd_T43 q3 p5).f2, (rd_T43 q3 p5).f3⟩ : S43)) p5).f2, (rd_T43 (q3.set p5.toNat (⟨p4, (rd_T43 q3 p5).f1, (rd_T43 q3 p5).f2, (rd_T43 q3 p5).f3⟩ : S43)) p5).f3⟩ : S43)).set p5.toNat (⟨(rd_T43 ((q3.set p5.toNat (⟨p4, (rd_T43 q3 p5).f1, (rd_T43 q3 p5).f2, (rd_T43 q3 p5).f3⟩ : S43)).set p5.toNat (⟨(rd_T43 (q3.set p5.toNat (⟨p4, (rd_T43 q3 p5).f1, (rd_T43 q3 p5).f2, (rd_T43 q3 p5).f3⟩ : S43)) p5).f0, wrap64 (p4 + 1), (rd_T43 (q3.set p5.toNat (⟨p4, (rd_T43 q3 p5).f1, (rd_T43 q3 p5).f2, (rd_T43 q3 p5).f3⟩ : S43)) p5).f2, (rd_T43 (q3.set p5.toNat (⟨p4, (rd_T43 q3 p5).f1, (rd_T43 q3 p5).f2, (rd_T43 q3 p5).f3⟩ : S43)) p5).f3⟩ : S43)) p5).f0, (rd_T43 ((q3.set p5.toNat (⟨p4, (rd_T43 q3 p5).f1, (rd_T43 q3 p5).f2, (rd_T43 q3 p5).f3⟩ : S43)).set p5.toNat (⟨(rd_T43 (q3.set p5.toNat (⟨p4, (rd_T43 q3 p5).f1, (rd_T43 q3 p5).f2, (rd_T43 q3 p5).f3⟩ : S43)) p5).f0, wrap64 (p4 + 1), (rd_T43 (q3.set p5.toNat (⟨p4, (rd_T43 q3 p5).f1, (rd_T43 q3 p5).f2, (rd_T43 q3 p5).f3⟩ : S43)) p5).f2, (rd_T43 (q3.set p5.toNat (⟨p4, (rd_T43 q3 p5).f1, (rd_T43 q3 p5).f2, (rd_T43 q3 p5).f3⟩ : S43)) p5).f3⟩ : S43)) p5).f1, wrap64 ((wrap64 (p4 + 1)) + 1), (rd_T43 ((q3.set p5.toNat (⟨p4, (rd_T43 q3 p5).f1, (rd_T43 q3 p5).f2, (rd_T43 q3 p5).f3⟩ : S43)).set p5.toNat (⟨(rd_T43 (q3.set p5.toNat (⟨p4, (rd_T43 q3 p5).f1, (rd_T43 q3 p5).f2, (rd_T43 q3 p5).f3⟩ : S43)) p5).f0, wrap64 (p4 + 1), (rd_T43 (q3.set p5.toNat (⟨p4, (rd_T43 q3 p5).f1, (rd_T43 q3 p5).f2, (rd_T43 q3 p5).f3⟩ : S43)) p5).f2, (rd_T43 (q3.set p5.toNat (⟨p4, (rd_T43 q3 p5).f1, (rd_T43 q3 p5).f2, (rd_T43 q3 p5).f3⟩ : S43)) p5).f3⟩ : S43)) p5).f3⟩ : S43)) p5).f0, (rd_T43 (((q3.set p5.toNat (⟨p4, (rd_T43 q3 p5).f1, (rd_T43 q3 p5).f2, (rd_T43 q3 p5).f3⟩ : S43)).set p5.toNat (⟨(rd_T43 (q3.set p5.toNat (⟨p4, (rd_T43 q3 p5).f1, (rd_T43 q3 p5).f2, (rd_T43 q3 p5).f3⟩ : S43)) p5).f0, wrap64 (p4 + 1), (rd_T43 (q3.set p5.toNat (⟨p4, (rd_T43 q3 p5).f1, (rd_T43 q3 p5).f2, (rd_T43 q3 p5).f3⟩ : S43)) p5).f2, (rd_T43 (q3.set p5.toNat (⟨p4, (rd_T43 q3 p5).f1, (rd_T43 q3 p5).f2, (rd_T43 q3 p5).f3⟩ : S43)) p5).f3⟩ : S43)).set p5.toNat (⟨(rd_T43 ((q3.set p5.toNat (⟨p4, (rd_T43 q3 p5).f1, (rd_T43 q3 p5).f2, (rd_T43 q3 p5).f3⟩ : S43)).set p5.toNat (⟨(rd_T43 (q3.set p5.toNat (⟨p4, (rd_T43 q3 p5).f1, (rd_T43 q3 p5).f2, (rd_T43 q3 p5).f3⟩ : S43)) p5).f0, wrap64 (p4 + 1), (rd_T43 (q3.set p5.toNat (⟨p4, (rd_T43 q3 p5).f1, (rd_T43 q3 p5).f2, (rd_T43 q3 p5).f3⟩ : S43)) p5).f2, (rd_T43 (q3.set p5.toNat (⟨p4, (rd_T43 q3 p5).f1, (rd_T43 q3 p5).f2, (rd_T43 q3 p5).f3⟩ : S43)) p5).f3⟩ : S43)) p5).f0, (rd_T43 ((q3.set p5.toNat (⟨p4, (rd_T43 q3 p5).f1, (rd_T43 q3 p5).f2, (rd_T43 q3 p5).f3⟩ : S43)).set p5.toNat (⟨(rd_T43 (q3.set p5.toNat (⟨p4, (rd_T43 q3 p5).f1, (rd_T43 q3 p5).f2, (rd_T43 q3 p5).f3⟩ : S43)) p5).f0, wrap64 (p4 + 1), (rd_T43 (q3.set p5.toNat (⟨p4, (rd_T43 q3 p5).f1, (rd_T43 q3 p5).f2, (rd_T43 q3 p5).f3⟩ : S43)) p5).f2, (rd_T43 (q3.set p5.toNat (⟨p4, (rd_T43 q3 p5).f1, (rd_T43 q3 p5).f2, (rd_T43 q3 p5).f3⟩ : S43)) p5).f3⟩ : S43)) p5).f1, wrap64 ((wrap64 (p4 + 1)) + 1), (rd_T43 ((q3.set p5.toNat (⟨p4, (rd_T43 q3 p5).f1, (rd_T43 q3 p5).f2, (rd_T43 q3 p5).f3⟩ : S43)).set p5.toNat (⟨(rd_T43 (q3.set p5.toNat (⟨p4, (rd_T43 q3 p5).f1, (rd_T43 q3 p5).f2, (rd_T43 q3 p5).f3⟩ : S43)) p5).f0, wrap64 (p4 + 1), (rd_T43 (q3.set p5.toNat (⟨p4, (rd_T43 q3 p5).f1, (rd_T43 q3 p5).f2, (rd_T43 q3 p5).f3⟩ : S43)) p5).f2, (rd_T43 (q3.set p5.toNat (⟨p4, (rd_T43 q3 p5).f1, (rd_T43 q3 p5).f2, (rd_T43 q3 p5).f3⟩ : S43)) p5).f3⟩ : S43)) p5).f3⟩ : S43)) p5).f1, (rd_T43 (((q3.set p5.toNat (⟨p4, (rd_T43 q3 p5).f1, (rd_T43 q3 p5).f2, (rd_T43 q3 p5).f3⟩ : S43)).set p5.toNat (⟨(rd_T43 (q3.set p5.toNat (⟨p4, (rd_T43 q3 p5).f1, (rd_T43 q3 p5).f2, (rd_T43 q3 p5).f3⟩ : S43)) p5).f0, wrap64 (p4 + 1), (rd_T43 (q3.set p5.toNat (⟨p4, (rd_T43 q3 p5).f1, (rd_T43 q3 p5).f2, (rd_T43 q3 p5).f3⟩ : S43)) p5).f2, (rd_T43 (q3.set p5.toNat (⟨p4, (rd_T43 q3 p5).f1, (rd_T43 q3 p5).f2, (rd_T43 q3 p5).f3⟩ : S43)) p5).f3⟩ : S43)).set p5.toNat (⟨(rd_T43 ((q3.set p5.toNat (⟨p4, (rd_T43 q3 p5).f1, (rd_T43 q3 p5).f2, (rd_T43 q3 p5).f3⟩ : S43)).set p5.toNat (⟨(rd_T43 (q3.set p5.toNat (⟨p4, (rd_T43 q3 p5).f1, (rd_T43 q3 p5).f2, (rd_T43 q3 p5).f3⟩ : S43)) p5).f0, wrap64 (p4 + 1), (rd_T43 (q3.set p5.toNat (⟨p4, (rd_T43 q3 p5).f1, (rd_T43 q3 p5).f2, (rd_T43 q3 p5).f3⟩ : S43)) p5).f2, (rd_T43 (q3.set p5.toNat (⟨p4, (rd_T43 q3 p5).f1, (rd_T43 q3 p5).f2, (rd_T43 q3 p5).f3⟩ : S43)) p5).f3⟩ : S43)) p5).f0, (rd_T43 ((q3.set p5.toNat (⟨p4, (rd_T43 q3 p5).f1, (rd_T43 q3 p5).f2, (rd_T43 q3 p5).f3⟩ : S43)).set p5.toNat (⟨(rd_T43 (q3.set p5.toNat (⟨p4, (rd_T43 q3 p5).f1, (rd_T43 q3 p5).f2, (rd_T43 q3 p5).f3⟩ : S43)) p5).f0, wrap64 (p4 + 1), (rd_T43 (q3.set p5.toNat (⟨p4, (rd_T43 q3 p5).f1, (rd_T43 q3 p5).f2, (rd_T43 q3 p5).f3⟩ : S43)) p5).f2, (rd_T43 (q3.set p5.toNat (⟨p4, (rd_T43 q3 p5).f1, (rd_T43 q3 p5).f2, (rd_T43 q3 p5).f3⟩ : S43)) p5).f3⟩ : S43)) p5).f1, wrap64 ((wrap64 (p4 + 1)) + 1), (rd_T43 ((q3.set p5.toNat (⟨p4, (rd_T43 q3 p5).f1, (rd_T43 q3 p5).f2, (rd_T43 q3 p5).f3⟩ : S43)).set p5.toNat (⟨(rd_T43 (q3.set p5.toNat (⟨p4, (rd_T43 q3 p5).f1, (rd_T43 q3 p5).f2, (rd_T43 q3 p5).f3⟩ : S43)) p5).f0, wrap64 (p4 + 1), (rd_T43 (q3.set p5.toNat (⟨p4, (rd_T43 q3 p5).f1, (rd_T43 q3 p5).f2, (rd_T43 q3 p5).f3⟩ : S43)) p5).f2, (rd_T43 (q3.set p5.toNat (⟨p4, (rd_T43 q3 p5).f1, (rd_T43 q3 p5).f2, (rd_T43 q3 p5).f3⟩ : S43)) p5).f3⟩ : S43)) p5).f3⟩ : S43)) p5).f2, wrap64 ((wrap64 ((wrap64 (p4 + 1)) + 1)) + 1)⟩ : S43)) (wrap64 ((wrap64 ((wrap64 ((wrap64 (p4 + 1)) + 1)) + 1)) + 1)) (wrap64 (p5 + 1)) else none else some (p4, q3)
def laws_markItemS.f (k : Nat) (l0 : List S43) (a1 : Int) : Option (Int × (List S43)) := laws_markItemS.l0 k l0 a1 0
theorem laws_markItemS.ok {k : Nat} {l0 : List S43} {a1 : Int} {r : Int × (List S43)} (H : laws_markItemS.f k l0 a1 = some r) : ACalls Try.prog 156 [(0, .row 43 4 (l0.map e43))] [.row 0, .lit (.int .i64 a1)] [(0, .row 43 4 (r.2.map e43))] (.lit (.int .i64 r.1)) := by
 refine acalls (fn := Try.f156) (nt := 41) Try.func156 rfl rfl (Nat.le_of_ble_eq_true rfl) fun E hE => ?_
 rw [laws_markItemS.f] at H
 refine aw_grp1 ?_
 refine wk_start ?_
 refine kv g0 (asg) ?_
 refine wk_end ?_
 refine ac_next ?_
 refine aw_grp1 ?_
 refine aw_grp1 ?_
 refine wk_start ?_
 refine kv g0 (asg) ?_
 refine wk_end ?_
 refine ac_next ?_
 refine aw_block ?_
 refine aw_loop3 (fun (k_ : Nat) (q3 : List S43) (p4 : Int) (p5 : Int) => k_ ≤ k ∧ laws_markItemS.l0 k_ q3 p4 p5 = some r) (fun (q3 : List S43) (p4 : Int) (p5 : Int) => ⟨[(0, .row 0), (1, .lit (.int .i64 p4)), (5, .lit (.int .i64 p5))], [(0, .row 43 4 (q3.map e43))]⟩) k l0 a1 0 ⟨Nat.le_refl _, H⟩ (fun K_ h_ => acw hE [(0, 0)] 9999 h_) (fun _ _ _ => by intro h_; have h_ := h_.2; rw [laws_markItemS.l0.eq_1] at h_; cases h_) ?_
 intro k6 q3 p4 p5 hq_ K9 hK10
 have hk6 := hq_.1
 have H := hq_.2
 clear hq_
 rw [laws_markItemS.l0.eq_2] at H
 refine aw_grp1 ?_
 refine aw_grp1 ?_
 refine wk_start ?_
 refine kv g0 (mv) ?_
 refine kv g0 (mv) ?_
 refine kv g0 (lnR lenE) ?_
 refine kv g0 (lss) ?_
 refine wk_end ?_
 refine ac_next ?_
 by_cases c7 : p5 < (q3.length : Int)
 ·rw [if_pos c7] at H
  refine aw_ifT ?_ (decide_eq_true c7)
  refine aw_skip ?_
  refine ac_next ?_
  refine aw_grp1 ?_
  refine aw_block ?_
  refine aw_grp1 ?_
  refine wk_start ?_
  refine kv g0 (mv) ?_
  refine kv g0 (mv) ?_
  refine kv g0 (mv) ?_
  obtain ⟨c8, H⟩ := of_if H
  refine kv g0 (ixR 43 c8 (ltE c7)) ?_
  refine kv g0 (faE 0 0) ?_
  refine ks g0 (stE 1 (e43 (⟨p4, (rd_T43 q3 p5).f1, (rd_T43 q3 p5).f2, (rd_T43 q3 p5).f3⟩ : S43)) ((q3.set p5.toNat (⟨p4, (rd_T43 q3 p5).f1, (rd_T43 q3 p5).f2, (rd_T43 q3 p5).f3⟩ : S43)).map e43) (getE (z := z43) c8 c7) setE) ?_
  refine wk_end ?_
  refine ac_next ?_
  refine aw_grp1 ?_
  refine wk_start ?_
  refine kv g0 (mv) ?_
  refine kv g0 (add6) ?_
  refine kv g0 (asg) ?_
  refine wk_end ?_
  refine ac_next ?_
  refine aw_grp1 ?_
  refine wk_start ?_
  refine kv g0 (mv) ?_
  refine kv g0 (mv) ?_
  refine kv g0 (mv) ?_
  refine kv g0 (ixR 43 c8 (ltE (ls c7))) ?_
  refine kv g0 (faE 1 1) ?_
  refine ks g0 (stE 1 (e43 (⟨(rd_T43 (q3.set p5.toNat (⟨p4, (rd_T43 q3 p5).f1, (rd_T43 q3 p5).f2, (rd_T43 q3 p5).f3⟩ : S43)) p5).f0, wrap64 (p4 + 1), (rd_T43 (q3.set p5.toNat (⟨p4, (rd_T43 q3 p5).f1, (rd_T43 q3 p5).f2, (rd_T43 q3 p5).f3⟩ : S43)) p5).f2, (rd_T43 (q3.set p5.toNat (⟨p4, (rd_T43 q3 p5).f1, (rd_T43 q3 p5).f2, (rd_T43 q3 p5).f3⟩ : S43)) p5).f3⟩ : S43)) (((q3.set p5.toNat (⟨p4, (rd_T43 q3 p5).f1, (rd_T43 q3 p5).f2, (rd_T43 q3 p5).f3⟩ : S43)).set p5.toNat (⟨(rd_T43 (q3.set p5.toNat (⟨p4, (rd_T43 q3 p5).f1, (rd_T43 q3 p5).f2, (rd_T43 q3 p5).f3⟩ : S43)) p5).f0, wrap64 (p4 + 1), (rd_T43 (q3.set p5.toNat (⟨p4, (rd_T43 q3 p5).f1, (rd_T43 q3 p5).f2, (rd_T43 q3 p5).f3⟩ : S43)) p5).f2, (rd_T43 (q3.set p5.toNat (⟨p4, (rd_T43 q3 p5).f1, (rd_T43 q3 p5).f2, (rd_T43 q3 p5).f3⟩ : S43)) p5).f3⟩ : S43)).map e43) (getE (z := z43) c8 (ls c7)) setE) ?_
  refine wk_end ?_
  refine ac_next ?_
  refine aw_grp1 ?_
  refine wk_start ?_
  refine kv g0 (mv) ?_
  refine kv g0 (add6) ?_
  refine kv g0 (asg) ?_
  refine wk_end ?_
  refine ac_next ?_
  refine aw_grp1 ?_
  refine wk_start ?_
  refine kv g0 (mv) ?_
  refine kv g0 (mv) ?_
  refine kv g0 (mv) ?_
  refine kv g0 (ixR 43 c8 (ltE (ls (ls c7)))) ?_
  refine kv g0 (faE 2 2) ?_
  refine ks g0 (stE 1 (e43 (⟨(rd_T43 ((q3.set p5.toNat (⟨p4, (rd_T43 q3 p5).f1, (rd_T43 q3 p5).f2, (rd_T43 q3 p5).f3⟩ : S43)).set p5.toNat (⟨(rd_T43 (q3.set p5.toNat (⟨p4, (rd_T43 q3 p5).f1, (rd_T43 q3 p5).f2, (rd_T43 q3 p5).f3⟩ : S43)) p5).f0, wrap64 (p4 + 1), (rd_T43 (q3.set p5.toNat (⟨p4, (rd_T43 q3 p5).f1, (rd_T43 q3 p5).f2, (rd_T43 q3 p5).f3⟩ : S43)) p5).f2, (rd_T43 (q3.set p5.toNat (⟨p4, (rd_T43 q3 p5).f1, (rd_T43 q3 p5).f2, (rd_T43 q3 p5).f3⟩ : S43)) p5).f3⟩ : S43)) p5).f0, (rd_T43 ((q3.set p5.toNat (⟨p4, (rd_T43 q3 p5).f1, (rd_T43 q3 p5).f2, (rd_T43 q3 p5).f3⟩ : S43)).set p5.toNat (⟨(rd_T43 (q3.set p5.toNat (⟨p4, (rd_T43 q3 p5).f1, (rd_T43 q3 p5).f2, (rd_T43 q3 p5).f3⟩ : S43)) p5).f0, wrap64 (p4 + 1), (rd_T43 (q3.set p5.toNat (⟨p4, (rd_T43 q3 p5).f1, (rd_T43 q3 p5).f2, (rd_T43 q3 p5).f3⟩ : S43)) p5).f2, (rd_T43 (q3.set p5.toNat (⟨p4, (rd_T43 q3 p5).f1, (rd_T43 q3 p5).f2, (rd_T43 q3 p5).f3⟩ : S43)) p5).f3⟩ : S43)) p5).f1, wrap64 ((wrap64 (p4 + 1)) + 1), (rd_T43 ((q3.set p5.toNat (⟨p4, (rd_T43 q3 p5).f1, (rd_T43 q3 p5).f2, (rd_T43 q3 p5).f3⟩ : S43)).set p5.toNat (⟨(rd_T43 (q3.set p5.toNat (⟨p4, (rd_T43 q3 p5).f1, (rd_T43 q3 p5).f2, (rd_T43 q3 p5).f3⟩ : S43)) p5).f0, wrap64 (p4 + 1), (rd_T43 (q3.set p5.toNat (⟨p4, (rd_T43 q3 p5).f1, (rd_T43 q3 p5).f2, (rd_T43 q3 p5).f3⟩ : S43)) p5).f2, (rd_T43 (q3.set p5.toNat (⟨p4, (rd_T43 q3 p5).f1, (rd_T43 q3 p5).f2, (rd_T43 q3 p5).f3⟩ : S43)) p5).f3⟩ : S43)) p5).f3⟩ : S43)) ((((q3.set p5.toNat (⟨p4, (rd_T43 q3 p5).f1, (rd_T43 q3 p5).f2, (rd_T43 q3 p5).f3⟩ : S43)).set p5.toNat (⟨(rd_T43 (q3.set p5.toNat (⟨p4, (rd_T43 q3 p5).f1, (rd_T43 q3 p5).f2, (rd_T43 q3 p5).f3⟩ : S43)) p5).f0, wrap64 (p4 + 1), (rd_T43 (q3.set p5.toNat (⟨p4, (rd_T43 q3 p5).f1, (rd_T43 q3 p5).f2, (rd_T43 q3 p5).f3⟩ : S43)) p5).f2, (rd_T43 (q3.set p5.toNat (⟨p4, (rd_T43 q3 p5).f1, (rd_T43 q3 p5).f2, (rd_T43 q3 p5).f3⟩ : S43)) p5).f3⟩ : S43)).set p5.toNat (⟨(rd_T43 ((q3.set p5.toNat (⟨p4, (rd_T43 q3 p5).f1, (rd_T43 q3 p5).f2, (rd_T43 q3 p5).f3⟩ : S43)).set p5.toNat (⟨(rd_T43 (q3.set p5.toNat (⟨p4, (rd_T43 q3 p5).f1, (rd_T43 q3 p5).f2, (rd_T43 q3 p5).f3⟩ : S43)) p5).f0, wrap64 (p4 + 1), (rd_T43 (q3.set p5.toNat (⟨p4, (rd_T43 q3 p5).f1, (rd_T43 q3 p5).f2, (rd_T43 q3 p5).f3⟩ : S43)) p5).f2, (rd_T43 (q3.set p5.toNat (⟨p4, (rd_T43 q3 p5).f1, (rd_T43 q3 p5).f2, (rd_T43 q3 p5).f3⟩ : S43)) p5).f3⟩ : S43)) p5).f0, (rd_T43 ((q3.set p5.toNat (⟨p4, (rd_T43 q3 p5).f1, (rd_T43 q3 p5).f2, (rd_T43 q3 p5).f3⟩ : S43)).set p5.toNat (⟨(rd_T43 (q3.set p5.toNat (⟨p4, (rd_T43 q3 p5).f1, (rd_T43 q3 p5).f2, (rd_T43 q3 p5).f3⟩ : S43)) p5).f0, wrap64 (p4 + 1), (rd_T43 (q3.set p5.toNat (⟨p4, (rd_T43 q3 p5).f1, (rd_T43 q3 p5).f2, (rd_T43 q3 p5).f3⟩ : S43)) p5).f2, (rd_T43 (q3.set p5.toNat (⟨p4, (rd_T43 q3 p5).f1, (rd_T43 q3 p5).f2, (rd_T43 q3 p5).f3⟩ : S43)) p5).f3⟩ : S43)) p5).f1, wrap64 ((wrap64 (p4 + 1)) + 1), (rd_T43 ((q3.set p5.toNat (⟨p4, (rd_T43 q3 p5).f1, (rd_T43 q3 p5).f2, (rd_T43 q3 p5).f3⟩ : S43)).set p5.toNat (⟨(rd_T43 (q3.set p5.toNat (⟨p4, (rd_T43 q3 p5).f1, (rd_T43 q3 p5).f2, (rd_T43 q3 p5).f3⟩ : S43)) p5).f0, wrap64 (p4 + 1), (rd_T43 (q3.set p5.toNat (⟨p4, (rd_T43 q3 p5).f1, (rd_T43 q3 p5).f2, (rd_T43 q3 p5).f3⟩ : S43)) p5).f2, (rd_T43 (q3.set p5.toNat (⟨p4, (rd_T43 q3 p5).f1, (rd_T43 q3 p5).f2, (rd_T43 q3 p5).f3⟩ : S43)) p5).f3⟩ : S43)) p5).f3⟩ : S43)).map e43) (getE (z := z43) c8 (ls (ls c7))) setE) ?_
  refine wk_end ?_
  refine ac_next ?_
  refine aw_grp1 ?_
  refine wk_start ?_
  refine kv g0 (mv) ?_
  refine kv g0 (add6) ?_
  refine kv g0 (asg) ?_
  refine wk_end ?_
  refine ac_next ?_
  refine aw_grp1 ?_
  refine wk_start ?_
  refine kv g0 (mv) ?_
  refine kv g0 (mv) ?_
  refine kv g0 (mv) ?_
  refine kv g0 (ixR 43 c8 (ltE (ls (ls (ls c7))))) ?_
  refine kv g0 (faE 3 3) ?_
  refine ks g0 (stE 1 (e43 (⟨(rd_T43 (((q3.set p5.toNat (⟨p4, (rd_T43 q3 p5).f1, (rd_T43 q3 p5).f2, (rd_T43 q3 p5).f3⟩ : S43)).set p5.toNat (⟨(rd_T43 (q3.set p5.toNat (⟨p4, (rd_T43 q3 p5).f1, (rd_T43 q3 p5).f2, (rd_T43 q3 p5).f3⟩ : S43)) p5).f0, wrap64 (p4 + 1), (rd_T43 (q3.set p5.toNat (⟨p4, (rd_T43 q3 p5).f1, (rd_T43 q3 p5).f2, (rd_T43 q3 p5).f3⟩ : S43)) p5).f2, (rd_T43 (q3.set p5.toNat (⟨p4, (rd_T43 q3 p5).f1, (rd_T43 q3 p5).f2, (rd_T43 q3 p5).f3⟩ : S43)) p5).f3⟩ : S43)).set p5.toNat (⟨(rd_T43 ((q3.set p5.toNat (⟨p4, (rd_T43 q3 p5).f1, (rd_T43 q3 p5).f2, (rd_T43 q3 p5).f3⟩ : S43)).set p5.toNat (⟨(rd_T43 (q3.set p5.toNat (⟨p4, (rd_T43 q3 p5).f1, (rd_T43 q3 p5).f2, (rd_T43 q3 p5).f3⟩ : S43)) p5).f0, wrap64 (p4 + 1), (rd_T43 (q3.set p5.toNat (⟨p4, (rd_T43 q3 p5).f1, (rd_T43 q3 p5).f2, (rd_T43 q3 p5).f3⟩ : S43)) p5).f2, (rd_T43 (q3.set p5.toNat (⟨p4, (rd_T43 q3 p5).f1, (rd_T43 q3 p5).f2, (rd_T43 q3 p5).f3⟩ : S43)) p5).f3⟩ : S43)) p5).f0, (rd_T43 ((q3.set p5.toNat (⟨p4, (rd_T43 q3 p5).f1, (rd_T43 q3 p5).f2, (rd_T43 q3 p5).f3⟩ : S43)).set p5.toNat (⟨(rd_T43 (q3.set p5.toNat (⟨p4, (rd_T43 q3 p5).f1, (rd_T43 q3 p5).f2, (rd_T43 q3 p5).f3⟩ : S43)) p5).f0, wrap64 (p4 + 1), (rd_T43 (q3.set p5.toNat (⟨p4, (rd_T43 q3 p5).f1, (rd_T43 q3 p5).f2, (rd_T43 q3 p5).f3⟩ : S43)) p5).f2, (rd_T43 (q3.set p5.toNat (⟨p4, (rd_T43 q3 p5).f1, (rd_T43 q3 p5).f2, (rd_T43 q3 p5).f3⟩ : S43)) p5).f3⟩ : S43)) p5).f1, wrap64 ((wrap64 (p4 + 1)) + 1), (rd_T43 ((q3.set p5.toNat (⟨p4, (rd_T43 q3 p5).f1, (rd_T43 q3 p5).f2, (rd_T43 q3 p5).f3⟩ : S43)).set p5.toNat (⟨(rd_T43 (q3.set p5.toNat (⟨p4, (rd_T43 q3 p5).f1, (rd_T43 q3 p5).f2, (rd_T43 q3 p5).f3⟩ : S43)) p5).f0, wrap64 (p4 + 1), (rd_T43 (q3.set p5.toNat (⟨p4, (rd_T43 q3 p5).f1, (rd_T43 q3 p5).f2, (rd_T43 q3 p5).f3⟩ : S43)) p5).f2, (rd_T43 (q3.set p5.toNat (⟨p4, (rd_T43 q3 p5).f1, (rd_T43 q3 p5).f2, (rd_T43 q3 p5).f3⟩ : S43)) p5).f3⟩ : S43)) p5).f3⟩ : S43)) p5).f0, (rd_T43 (((q3.set p5.toNat (⟨p4, (rd_T43 q3 p5).f1, (rd_T43 q3 p5).f2, (rd_T43 q3 p5).f3⟩ : S43)).set p5.toNat (⟨(rd_T43 (q3.set p5.toNat (⟨p4, (rd_T43 q3 p5).f1, (rd_T43 q3 p5).f2, (rd_T43 q3 p5).f3⟩ : S43)) p5).f0, wrap64 (p4 + 1), (rd_T43 (q3.set p5.toNat (⟨p4, (rd_T43 q3 p5).f1, (rd_T43 q3 p5).f2, (rd_T43 q3 p5).f3⟩ : S43)) p5).f2, (rd_T43 (q3.set p5.toNat (⟨p4, (rd_T43 q3 p5).f1, (rd_T43 q3 p5).f2, (rd_T43 q3 p5).f3⟩ : S43)) p5).f3⟩ : S43)).set p5.toNat (⟨(rd_T43 ((q3.set p5.toNat (⟨p4, (rd_T43 q3 p5).f1, (rd_T43 q3 p5).f2, (rd_T43 q3 p5).f3⟩ : S43)).set p5.toNat (⟨(rd_T43 (q3.set p5.toNat (⟨p4, (rd_T43 q3 p5).f1, (rd_T43 q3 p5).f2, (rd_T43 q3 p5).f3⟩ : S43)) p5).f0, wrap64 (p4 + 1), (rd_T43 (q3.set p5.toNat (⟨p4, (rd_T43 q3 p5).f1, (rd_T43 q3 p5).f2, (rd_T43 q3 p5).f3⟩ : S43)) p5).f2, (rd_T43 (q3.set p5.toNat (⟨p4, (rd_T43 q3 p5).f1, (rd_T43 q3 p5).f2, (rd_T43 q3 p5).f3⟩ : S43)) p5).f3⟩ : S43)) p5).f0, (rd_T43 ((q3.set p5.toNat (⟨p4, (rd_T43 q3 p5).f1, (rd_T43 q3 p5).f2, (rd_T43 q3 p5).f3⟩ : S43)).set p5.toNat (⟨(rd_T43 (q3.set p5.toNat (⟨p4, (rd_T43 q3 p5).f1, (rd_T43 q3 p5).f2, (rd_T43 q3 p5).f3⟩ : S43)) p5).f0, wrap64 (p4 + 1), (rd_T43 (q3.set p5.toNat (⟨p4, (rd_T43 q3 p5).f1, (rd_T43 q3 p5).f2, (rd_T43 q3 p5).f3⟩ : S43)) p5).f2, (rd_T43 (q3.set p5.toNat (⟨p4, (rd_T43 q3 p5).f1, (rd_T43 q3 p5).f2, (rd_T43 q3 p5).f3⟩ : S43)) p5).f3⟩ : S43)) p5).f1, wrap64 ((wrap64 (p4 + 1)) + 1), (rd_T43 ((q3.set p5.toNat (⟨p4, (rd_T43 q3 p5).f1, (rd_T43 q3 p5).f2, (rd_T43 q3 p5).f3⟩ : S43)).set p5.toNat (⟨(rd_T43 (q3.set p5.toNat (⟨p4, (rd_T43 q3 p5).f1, (rd_T43 q3 p5).f2, (rd_T43 q3 p5).f3⟩ : S43)) p5).f0, wrap64 (p4 + 1), (rd_T43 (q3.set p5.toNat (⟨p4, (rd_T43 q3 p5).f1, (rd_T43 q3 p5).f2, (rd_T43 q3 p5).f3⟩ : S43)) p5).f2, (rd_T43 (q3.set p5.toNat (⟨p4, (rd_T43 q3 p5).f1, (rd_T43 q3 p5).f2, (rd_T43 q3 p5).f3⟩ : S43)) p5).f3⟩ : S43)) p5).f3⟩ : S43)) p5).f1, (rd_T43 (((q3.set p5.toNat (⟨p4, (rd_T43 q3 p5).f1, (rd_T43 q3 p5).f2, (rd_T43 q3 p5).f3⟩ : S43)).set p5.toNat (⟨(rd_T43 (q3.set p5.toNat (⟨p4, (rd_T43 q3 p5).f1, (rd_T43 q3 p5).f2, (rd_T43 q3 p5).f3⟩ : S43)) p5).f0, wrap64 (p4 + 1), (rd_T43 (q3.set p5.toNat (⟨p4, (rd_T43 q3 p5).f1, (rd_T43 q3 p5).f2, (rd_T43 q3 p5).f3⟩ : S43)) p5).f2, (rd_T43 (q3.set p5.toNat (⟨p4, (rd_T43 q3 p5).f1, (rd_T43 q3 p5).f2, (rd_T43 q3 p5).f3⟩ : S43)) p5).f3⟩ : S43)).set p5.toNat (⟨(rd_T43 ((q3.set p5.toNat (⟨p4, (rd_T43 q3 p5).f1, (rd_T43 q3 p5).f2, (rd_T43 q3 p5).f3⟩ : S43)).set p5.toNat (⟨(rd_T43 (q3.set p5.toNat (⟨p4, (rd_T43 q3 p5).f1, (rd_T43 q3 p5).f2, (rd_T43 q3 p5).f3⟩ : S43)) p5).f0, wrap64 (p4 + 1), (rd_T43 (q3.set p5.toNat (⟨p4, (rd_T43 q3 p5).f1, (rd_T43 q3 p5).f2, (rd_T43 q3 p5).f3⟩ : S43)) p5).f2, (rd_T43 (q3.set p5.toNat (⟨p4, (rd_T43 q3 p5).f1, (rd_T43 q3 p5).f2, (rd_T43 q3 p5).f3⟩ : S43)) p5).f3⟩ : S43)) p5).f0, (rd_T43 ((q3.set p5.toNat (⟨p4, (rd_T43 q3 p5).f1, (rd_T43 q3 p5).f2, (rd_T43 q3 p5).f3⟩ : S43)).set p5.toNat (⟨(rd_T43 (q3.set p5.toNat (⟨p4, (rd_T43 q3 p5).f1, (rd_T43 q3 p5).f2, (rd_T43 q3 p5).f3⟩ : S43)) p5).f0, wrap64 (p4 + 1), (rd_T43 (q3.set p5.toNat (⟨p4, (rd_T43 q3 p5).f1, (rd_T43 q3 p5).f2, (rd_T43 q3 p5).f3⟩ : S43)) p5).f2, (rd_T43 (q3.set p5.toNat (⟨p4, (rd_T43 q3 p5).f1, (rd_T43 q3 p5).f2, (rd_T43 q3 p5).f3⟩ : S43)) p5).f3⟩ : S43)) p5).f1, wrap64 ((wrap64 (p4 + 1)) + 1), (rd_T43 ((q3.set p5.toNat (⟨p4, (rd_T43 q3 p5).f1, (rd_T43 q3 p5).f2, (rd_T43 q3 p5).f3⟩ : S43)).set p5.toNat (⟨(rd_T43 (q3.set p5.toNat (⟨p4, (rd_T43 q3 p5).f1, (rd_T43 q3 p5).f2, (rd_T43 q3 p5).f3⟩ : S43)) p5).f0, wrap64 (p4 + 1), (rd_T43 (q3.set p5.toNat (⟨p4, (rd_T43 q3 p5).f1, (rd_T43 q3 p5).f2, (rd_T43 q3 p5).f3⟩ : S43)) p5).f2, (rd_T43 (q3.set p5.toNat (⟨p4, (rd_T43 q3 p5).f1, (rd_T43 q3 p5).f2, (rd_T43 q3 p5).f3⟩ : S43)) p5).f3⟩ : S43)) p5).f3⟩ : S43)) p5).f2, wrap64 ((wrap64 ((wrap64 (p4 + 1)) + 1)) + 1)⟩ : S43)) (((((q3.set p5.toNat (⟨p4, (rd_T43 q3 p5).f1, (rd_T43 q3 p5).f2, (rd_T43 q3 p5).f3⟩ : S43)).set p5.toNat (⟨(rd_T43 (q3.set p5.toNat (⟨p4, (rd_T43 q3 p5).f1, (rd_T43 q3 p5).f2, (rd_T43 q3 p5).f3⟩ : S43)) p5).f0, wrap64 (p4 + 1), (rd_T43 (q3.set p5.toNat (⟨p4, (rd_T43 q3 p5).f1, (rd_T43 q3 p5).f2, (rd_T43 q3 p5).f3⟩ : S43)) p5).f2, (rd_T43 (q3.set p5.toNat (⟨p4, (rd_T43 q3 p5).f1, (rd_T43 q3 p5).f2, (rd_T43 q3 p5).f3⟩ : S43)) p5).f3⟩ : S43)).set p5.toNat (⟨(rd_T43 ((q3.set p5.toNat (⟨p4, (rd_T43 q3 p5).f1, (rd_T43 q3 p5).f2, (rd_T43 q3 p5).f3⟩ : S43)).set p5.toNat (⟨(rd_T43 (q3.set p5.toNat (⟨p4, (rd_T43 q3 p5).f1, (rd_T43 q3 p5).f2, (rd_T43 q3 p5).f3⟩ : S43)) p5).f0, wrap64 (p4 + 1), (rd_T43 (q3.set p5.toNat (⟨p4, (rd_T43 q3 p5).f1, (rd_T43 q3 p5).f2, (rd_T43 q3 p5).f3⟩ : S43)) p5).f2, (rd_T43 (q3.set p5.toNat (⟨p4, (rd_T43 q3 p5).f1, (rd_T43 q3 p5).f2, (rd_T43 q3 p5).f3⟩ : S43)) p5).f3⟩ : S43)) p5).f0, (rd_T43 ((q3.set p5.toNat (⟨p4, (rd_T43 q3 p5).f1, (rd_T43 q3 p5).f2, (rd_T43 q3 p5).f3⟩ : S43)).set p5.toNat (⟨(rd_T43 (q3.set p5.toNat (⟨p4, (rd_T43 q3 p5).f1, (rd_T43 q3 p5).f2, (rd_T43 q3 p5).f3⟩ : S43)) p5).f0, wrap64 (p4 + 1), (rd_T43 (q3.set p5.toNat (⟨p4, (rd_T43 q3 p5).f1, (rd_T43 q3 p5).f2, (rd_T43 q3 p5).f3⟩ : S43)) p5).f2, (rd_T43 (q3.set p5.toNat (⟨p4, (rd_T43 q3 p5).f1, (rd_T43 q3 p5).f2, (rd_T43 q3 p5).f3⟩ : S43)) p5).f3⟩ : S43)) p5).f1, wrap64 ((wrap64 (p4 + 1)) + 1), (rd_T43 ((q3.set p5.toNat (⟨p4, (rd_T43 q3 p5).f1, (rd_T43 q3 p5).f2, (rd_T43 q3 p5).f3⟩ : S43)).set p5.toNat (⟨(rd_T43 (q3.set p5.toNat (⟨p4, (rd_T43 q3 p5).f1, (rd_T43 q3 p5).f2, (rd_T43 q3 p5).f3⟩ : S43)) p5).f0, wrap64 (p4 + 1), (rd_T43 (q3.set p5.toNat (⟨p4, (rd_T43 q3 p5).f1, (rd_T43 q3 p5).f2, (rd_T43 q3 p5).f3⟩ : S43)) p5).f2, (rd_T43 (q3.set p5.toNat (⟨p4, (rd_T43 q3 p5).f1, (rd_T43 q3 p5).f2, (rd_T43 q3 p5).f3⟩ : S43)) p5).f3⟩ : S43)) p5).f3⟩ : S43)).set p5.toNat (⟨(rd_T43 (((q3.set p5.toNat (⟨p4, (rd_T43 q3 p5).f1, (rd_T43 q3 p5).f2, (rd_T43 q3 p5).f3⟩ : S43)).set p5.toNat (⟨(rd_T43 (q3.set p5.toNat (⟨p4, (rd_T43 q3 p5).f1, (rd_T43 q3 p5).f2, (rd_T43 q3 p5).f3⟩ : S43)) p5).f0, wrap64 (p4 + 1), (rd_T43 (q3.set p5.toNat (⟨p4, (rd_T43 q3 p5).f1, (rd_T43 q3 p5).f2, (rd_T43 q3 p5).f3⟩ : S43)) p5).f2, (rd_T43 (q3.set p5.toNat (⟨p4, (rd_T43 q3 p5).f1, (rd_T43 q3 p5).f2, (rd_T43 q3 p5).f3⟩ : S43)) p5).f3⟩ : S43)).set p5.toNat (⟨(rd_T43 ((q3.set p5.toNat (⟨p4, (rd_T43 q3 p5).f1, (rd_T43 q3 p5).f2, (rd_T43 q3 p5).f3⟩ : S43)).set p5.toNat (⟨(rd_T43 (q3.set p5.toNat (⟨p4, (rd_T43 q3 p5).f1, (rd_T43 q3 p5).f2, (rd_T43 q3 p5).f3⟩ : S43)) p5).f0, wrap64 (p4 + 1), (rd_T43 (q3.set p5.toNat (⟨p4, (rd_T43 q3 p5).f1, (rd_T43 q3 p5).f2, (rd_T43 q3 p5).f3⟩ : S43)) p5).f2, (rd_T43 (q3.set p5.toNat (⟨p4, (rd_T43 q3 p5).f1, (rd_T43 q3 p5).f2, (rd_T43 q3 p5).f3⟩ : S43)) p5).f3⟩ : S43)) p5).f0, (rd_T43 ((q3.set p5.toNat (⟨p4, (rd_T43 q3 p5).f1, (rd_T43 q3 p5).f2, (rd_T43 q3 p5).f3⟩ : S43)).set p5.toNat (⟨(rd_T43 (q3.set p5.toNat (⟨p4, (rd_T43 q3 p5).f1, (rd_T43 q3 p5).f2, (rd_T43 q3 p5).f3⟩ : S43)) p5).f0, wrap64 (p4 + 1), (rd_T43 (q3.set p5.toNat (⟨p4, (rd_T43 q3 p5).f1, (rd_T43 q3 p5).f2, (rd_T43 q3 p5).f3⟩ : S43)) p5).f2, (rd_T43 (q3.set p5.toNat (⟨p4, (rd_T43 q3 p5).f1, (rd_T43 q3 p5).f2, (rd_T43 q3 p5).f3⟩ : S43)) p5).f3⟩ : S43)) p5).f1, wrap64 ((wrap64 (p4 + 1)) + 1), (rd_T43 ((q3.set p5.toNat (⟨p4, (rd_T43 q3 p5).f1, (rd_T43 q3 p5).f2, (rd_T43 q3 p5).f3⟩ : S43)).set p5.toNat (⟨(rd_T43 (q3.set p5.toNat (⟨p4, (rd_T43 q3 p5).f1, (rd_T43 q3 p5).f2, (rd_T43 q3 p5).f3⟩ : S43)) p5).f0, wrap64 (p4 + 1), (rd_T43 (q3.set p5.toNat (⟨p4, (rd_T43 q3 p5).f1, (rd_T43 q3 p5).f2, (rd_T43 q3 p5).f3⟩ : S43)) p5).f2, (rd_T43 (q3.set p5.toNat (⟨p4, (rd_T43 q3 p5).f1, (rd_T43 q3 p5).f2, (rd_T43 q3 p5).f3⟩ : S43)) p5).f3⟩ : S43)) p5).f3⟩ : S43)) p5).f0, (rd_T43 (((q3.set p5.toNat (⟨p4, (rd_T43 q3 p5).f1, (rd_T43 q3 p5).f2, (rd_T43 q3 p5).f3⟩ : S43)).set p5.toNat (⟨(rd_T43 (q3.set p5.toNat (⟨p4, (rd_T43 q3 p5).f1, (rd_T43 q3 p5).f2, (rd_T43 q3 p5).f3⟩ : S43)) p5).f0, wrap64 (p4 + 1), (rd_T43 (q3.set p5.toNat (⟨p4, (rd_T43 q3 p5).f1, (rd_T43 q3 p5).f2, (rd_T43 q3 p5).f3⟩ : S43)) p5).f2, (rd_T43 (q3.set p5.toNat (⟨p4, (rd_T43 q3 p5).f1, (rd_T43 q3 p5).f2, (rd_T43 q3 p5).f3⟩ : S43)) p5).f3⟩ : S43)).set p5.toNat (⟨(rd_T43 ((q3.set p5.toNat (⟨p4, (rd_T43 q3 p5).f1, (rd_T43 q3 p5).f2, (rd_T43 q3 p5).f3⟩ : S43)).set p5.toNat (⟨(rd_T43 (q3.set p5.toNat (⟨p4, (rd_T43 q3 p5).f1, (rd_T43 q3 p5).f2, (rd_T43 q3 p5).f3⟩ : S43)) p5).f0, wrap64 (p4 + 1), (rd_T43 (q3.set p5.toNat (⟨p4, (rd_T43 q3 p5).f1, (rd_T43 q3 p5).f2, (rd_T43 q3 p5).f3⟩ : S43)) p5).f2, (rd_T43 (q3.set p5.toNat (⟨p4, (rd_T43 q3 p5).f1, (rd_T43 q3 p5).f2, (rd_T43 q3 p5).f3⟩ : S43)) p5).f3⟩ : S43)) p5).f0, (rd_T43 ((q3.set p5.toNat (⟨p4, (rd_T43 q3 p5).f1, (rd_T43 q3 p5).f2, (rd_T43 q3 p5).f3⟩ : S43)).set p5.toNat (⟨(rd_T43 (q3.set p5.toNat (⟨p4, (rd_T43 q3 p5).f1, (rd_T43 q3 p5).f2, (rd_T43 q3 p5).f3⟩ : S43)) p5).f0, wrap64 (p4 + 1), (rd_T43 (q3.set p5.toNat (⟨p4, (rd_T43 q3 p5).f1, (rd_T43 q3 p5).f2, (rd_T43 q3 p5).f3⟩ : S43)) p5).f2, (rd_T43 (q3.set p5.toNat (⟨p4, (rd_T43 q3 p5).f1, (rd_T43 q3 p5).f2, (rd_T43 q3 p5).f3⟩ : S43)) p5).f3⟩ : S43)) p5).f1, wrap64 ((wrap64 (p4 + 1)) + 1), (rd_T43 ((q3.set p5.toNat (⟨p4, (rd_T43 q3 p5).f1, (rd_T43 q3 p5).f2, (rd_T43 q3 p5).f3⟩ : S43)).set p5.toNat (⟨(rd_T43 (q3.set p5.toNat (⟨p4, (rd_T43 q3 p5).f1, (rd_T43 q3 p5).f2, (rd_T43 q3 p5).f3⟩ : S43)) p5).f0, wrap64 (p4 + 1), (rd_T43 (q3.set p5.toNat (⟨p4, (rd_T43 q3 p5).f1, (rd_T43 q3 p5).f2, (rd_T43 q3 p5).f3⟩ : S43)) p5).f2, (rd_T43 (q3.set p5.toNat (⟨p4, (rd_T43 q3 p5).f1, (rd_T43 q3 p5).f2, (rd_T43 q3 p5).f3⟩ : S43)) p5).f3⟩ : S43)) p5).f3⟩ : S43)) p5).f1, (rd_T43 (((q3.set p5.toNat (⟨p4, (rd_T43 q3 p5).f1, (rd_T43 q3 p5).f2, (rd_T43 q3 p5).f3⟩ : S43)).set p5.toNat (⟨(rd_T43 (q3.set p5.toNat (⟨p4, (rd_T43 q3 p5).f1, (rd_T43 q3 p5).f2, (rd_T43 q3 p5).f3⟩ : S43)) p5).f0, wrap64 (p4 + 1), (rd_T43 (q3.set p5.toNat (⟨p4, (rd_T43 q3 p5).f1, (rd_T43 q3 p5).f2, (rd_T43 q3 p5).f3⟩ : S43)) p5).f2, (rd_T43 (q3.set p5.toNat (⟨p4, (rd_T43 q3 p5).f1, (rd_T43 q3 p5).f2, (rd_T43 q3 p5).f3⟩ : S43)) p5).f3⟩ : S43)).set p5.toNat (⟨(rd_T43 ((q3.set p5.toNat (⟨p4, (rd_T43 q3 p5).f1, (rd_T43 q3 p5).f2, (rd_T43 q3 p5).f3⟩ : S43)).set p5.toNat (⟨(rd_T43 (q3.set p5.toNat (⟨p4, (rd_T43 q3 p5).f1, (rd_T43 q3 p5).f2, (rd_T43 q3 p5).f3⟩ : S43)) p5).f0, wrap64 (p4 + 1), (rd_T43 (q3.set p5.toNat (⟨p4, (rd_T43 q3 p5).f1, (rd_T43 q3 p5).f2, (rd_T43 q3 p5).f3⟩ : S43)) p5).f2, (rd_T43 (q3.set p5.toNat (⟨p4, (rd_T43 q3 p5).f1, (rd_T43 q3 p5).f2, (rd_T43 q3 p5).f3⟩ : S43)) p5).f3⟩ : S43)) p5).f0, (rd_T43 ((q3.set p5.toNat (⟨p4, (rd_T43 q3 p5).f1, (rd_T43 q3 p5).f2, (rd_T43 q3 p5).f3⟩ : S43)).set p5.toNat (⟨(rd_T43 (q3.set p5.toNat (⟨p4, (rd_T43 q3 p5).f1, (rd_T43 q3 p5).f2, (rd_T43 q3 p5).f3⟩ : S43)) p5).f0, wrap64 (p4 + 1), (rd_T43 (q3.set p5.toNat (⟨p4, (rd_T43 q3 p5).f1, (rd_T43 q3 p5).f2, (rd_T43 q3 p5).f3⟩ : S43)) p5).f2, (rd_T43 (q3.set p5.toNat (⟨p4, (rd_T43 q3 p5).f1, (rd_T43 q3 p5).f2, (rd_T43 q3 p5).f3⟩ : S43)) p5).f3⟩ : S43)) p5).f1, wrap64 ((wrap64 (p4 + 1)) + 1), (rd_T43 ((q3.set p5.toNat (⟨p4, (rd_T43 q3 p5).f1, (rd_T43 q3 p5).f2, (rd_T43 q3 p5).f3⟩ : S43)).set p5.toNat (⟨(rd_T43 (q3.set p5.toNat (⟨p4, (rd_T43 q3 p5).f1, (rd_T43 q3 p5).f2, (rd_T43 q3 p5).f3⟩ : S43)) p5).f0, wrap64 (p4 + 1), (rd_T43 (q3.set p5.toNat (⟨p4, (rd_T43 q3 p5).f1, (rd_T43 q3 p5).f2, (rd_T43 q3 p5).f3⟩ : S43)) p5).f2, (rd_T43 (q3.set p5.toNat (⟨p4, (rd_T43 q3 p5).f1, (rd_T43 q3 p5).f2, (rd_T43 q3 p5).f3⟩ : S43)) p5).f3⟩ : S43)) p5).f3⟩ : S43)) p5).f2, wrap64 ((wrap64 ((wrap64 (p4 + 1)) + 1)) + 1)⟩ : S43)).map e43) (getE (z := z43) c8 (ls (ls (ls c7)))) setE) ?_
  refine wk_end ?_
  refine ac_next ?_
  refine wk_start ?_
  refine kv g0 (mv) ?_
  refine kv g0 (add6) ?_
  refine kv g0 (asg) ?_
  refine wk_end ?_
  refine ac_blkN ?_
  refine ac_next ?_
  refine wk_start ?_
  refine kv g0 (mv) ?_
  refine kv g0 (add6) ?_
  refine kv g0 (asg) ?_
  refine wk_end ?_
  refine ac_k ?_
  exact acw hE [(0, 0)] 9999 (hK10 k6 ((((q3.set p5.toNat (⟨p4, (rd_T43 q3 p5).f1, (rd_T43 q3 p5).f2, (rd_T43 q3 p5).f3⟩ : S43)).set p5.toNat (⟨(rd_T43 (q3.set p5.toNat (⟨p4, (rd_T43 q3 p5).f1, (rd_T43 q3 p5).f2, (rd_T43 q3 p5).f3⟩ : S43)) p5).f0, wrap64 (p4 + 1), (rd_T43 (q3.set p5.toNat (⟨p4, (rd_T43 q3 p5).f1, (rd_T43 q3 p5).f2, (rd_T43 q3 p5).f3⟩ : S43)) p5).f2, (rd_T43 (q3.set p5.toNat (⟨p4, (rd_T43 q3 p5).f1, (rd_T43 q3 p5).f2, (rd_T43 q3 p5).f3⟩ : S43)) p5).f3⟩ : S43)).set p5.toNat (⟨(rd_T43 ((q3.set p5.toNat (⟨p4, (rd_T43 q3 p5).f1, (rd_T43 q3 p5).f2, (rd_T43 q3 p5).f3⟩ : S43)).set p5.toNat (⟨(rd_T43 (q3.set p5.toNat (⟨p4, (rd_T43 q3 p5).f1, (rd_T43 q3 p5).f2, (rd_T43 q3 p5).f3⟩ : S43)) p5).f0, wrap64 (p4 + 1), (rd_T43 (q3.set p5.toNat (⟨p4, (rd_T43 q3 p5).f1, (rd_T43 q3 p5).f2, (rd_T43 q3 p5).f3⟩ : S43)) p5).f2, (rd_T43 (q3.set p5.toNat (⟨p4, (rd_T43 q3 p5).f1, (rd_T43 q3 p5).f2, (rd_T43 q3 p5).f3⟩ : S43)) p5).f3⟩ : S43)) p5).f0, (rd_T43 ((q3.set p5.toNat (⟨p4, (rd_T43 q3 p5).f1, (rd_T43 q3 p5).f2, (rd_T43 q3 p5).f3⟩ : S43)).set p5.toNat (⟨(rd_T43 (q3.set p5.toNat (⟨p4, (rd_T43 q3 p5).f1, (rd_T43 q3 p5).f2, (rd_T43 q3 p5).f3⟩ : S43)) p5).f0, wrap64 (p4 + 1), (rd_T43 (q3.set p5.toNat (⟨p4, (rd_T43 q3 p5).f1, (rd_T43 q3 p5).f2, (rd_T43 q3 p5).f3⟩ : S43)) p5).f2, (rd_T43 (q3.set p5.toNat (⟨p4, (rd_T43 q3 p5).f1, (rd_T43 q3 p5).f2, (rd_T43 q3 p5).f3⟩ : S43)) p5).f3⟩ : S43)) p5).f1, wrap64 ((wrap64 (p4 + 1)) + 1), (rd_T43 ((q3.set p5.toNat (⟨p4, (rd_T43 q3 p5).f1, (rd_T43 q3 p5).f2, (rd_T43 q3 p5).f3⟩ : S43)).set p5.toNat (⟨(rd_T43 (q3.set p5.toNat (⟨p4, (rd_T43 q3 p5).f1, (rd_T43 q3 p5).f2, (rd_T43 q3 p5).f3⟩ : S43)) p5).f0, wrap64 (p4 + 1), (rd_T43 (q3.set p5.toNat (⟨p4, (rd_T43 q3 p5).f1, (rd_T43 q3 p5).f2, (rd_T43 q3 p5).f3⟩ : S43)) p5).f2, (rd_T43 (q3.set p5.toNat (⟨p4, (rd_T43 q3 p5).f1, (rd_T43 q3 p5).f2, (rd_T43 q3 p5).f3⟩ : S43)) p5).f3⟩ : S43)) p5).f3⟩ : S43)).set p5.toNat (⟨(rd_T43 (((q3.set p5.toNat (⟨p4, (rd_T43 q3 p5).f1, (rd_T43 q3 p5).f2, (rd_T43 q3 p5).f3⟩ : S43)).set p5.toNat (⟨(rd_T43 (q3.set p5.toNat (⟨p4, (rd_T43 q3 p5).f1, (rd_T43 q3 p5).f2, (rd_T43 q3 p5).f3⟩ : S43)) p5).f0, wrap64 (p4 + 1), (rd_T43 (q3.set p5.toNat (⟨p4, (rd_T43 q3 p5).f1, (rd_T43 q3 p5).f2, (rd_T43 q3 p5).f3⟩ : S43)) p5).f2, (rd_T43 (q3.set p5.toNat (⟨p4, (rd_T43 q3 p5).f1, (rd_T43 q3 p5).f2, (rd_T43 q3 p5).f3⟩ : S43)) p5).f3⟩ : S43)).set p5.toNat (⟨(rd_T43 ((q3.set p5.toNat (⟨p4, (rd_T43 q3 p5).f1, (rd_T43 q3 p5).f2, (rd_T43 q3 p5).f3⟩ : S43)).set p5.toNat (⟨(rd_T43 (q3.set p5.toNat (⟨p4, (rd_T43 q3 p5).f1, (rd_T43 q3 p5).f2, (rd_T43 q3 p5).f3⟩ : S43)) p5).f0, wrap64 (p4 + 1), (rd_T43 (q3.set p5.toNat (⟨p4, (rd_T43 q3 p5).f1, (rd_T43 q3 p5).f2, (rd_T43 q3 p5).f3⟩ : S43)) p5).f2, (rd_T43 (q3.set p5.toNat (⟨p4, (rd_T43 q3 p5).f1, (rd_T43 q3 p5).f2, (rd_T43 q3 p5).f3⟩ : S43)) p5).f3⟩ : S43)) p5).f0, (rd_T43 ((q3.set p5.toNat (⟨p4, (rd_T43 q3 p5).f1, (rd_T43 q3 p5).f2, (rd_T43 q3 p5).f3⟩ : S43)).set p5.toNat (⟨(rd_T43 (q3.set p5.toNat (⟨p4, (rd_T43 q3 p5).f1, (rd_T43 q3 p5).f2, (rd_T43 q3 p5).f3⟩ : S43)) p5).f0, wrap64 (p4 + 1), (rd_T43 (q3.set p5.toNat (⟨p4, (rd_T43 q3 p5).f1, (rd_T43 q3 p5).f2, (rd_T43 q3 p5).f3⟩ : S43)) p5).f2, (rd_T43 (q3.set p5.toNat (⟨p4, (rd_T43 q3 p5).f1, (rd_T43 q3 p5).f2, (rd_T43 q3 p5).f3⟩ : S43)) p5).f3⟩ : S43)) p5).f1, wrap64 ((wrap64 (p4 + 1)) + 1), (rd_T43 ((q3.set p5.toNat (⟨p4, (rd_T43 q3 p5).f1, (rd_T43 q3 p5).f2, (rd_T43 q3 p5).f3⟩ : S43)).set p5.toNat (⟨(rd_T43 (q3.set p5.toNat (⟨p4, (rd_T43 q3 p5).f1, (rd_T43 q3 p5).f2, (rd_T43 q3 p5).f3⟩ : S43)) p5).f0, wrap64 (p4 + 1), (rd_T43 (q3.set p5.toNat (⟨p4, (rd_T43 q3 p5).f1, (rd_T43 q3 p5).f2, (rd_T43 q3 p5).f3⟩ : S43)) p5).f2, (rd_T43 (q3.set p5.toNat (⟨p4, (rd_T43 q3 p5).f1, (rd_T43 q3 p5).f2, (rd_T43 q3 p5).f3⟩ : S43)) p5).f3⟩ : S43)) p5).f3⟩ : S43)) p5).f0, (rd_T43 (((q3.set p5.toNat (⟨p4, (rd_T43 q3 p5).f1, (rd_T43 q3 p5).f2, (rd_T43 q3 p5).f3⟩ : S43)).set p5.toNat (⟨(rd_T43 (q3.set p5.toNat (⟨p4, (rd_T43 q3 p5).f1, (rd_T43 q3 p5).f2, (rd_T43 q3 p5).f3⟩ : S43)) p5).f0, wrap64 (p4 + 1), (rd_T43 (q3.set p5.toNat (⟨p4, (rd_T43 q3 p5).f1, (rd_T43 q3 p5).f2, (rd_T43 q3 p5).f3⟩ : S43)) p5).f2, (rd_T43 (q3.set p5.toNat (⟨p4, (rd_T43 q3 p5).f1, (rd_T43 q3 p5).f2, (rd_T43 q3 p5).f3⟩ : S43)) p5).f3⟩ : S43)).set p5.toNat (⟨(rd_T43 ((q3.set p5.toNat (⟨p4, (rd_T43 q3 p5).f1, (rd_T43 q3 p5).f2, (rd_T43 q3 p5).f3⟩ : S43)).set p5.toNat (⟨(rd_T43 (q3.set p5.toNat (⟨p4, (rd_T43 q3 p5).f1, (rd_T43 q3 p5).f2, (rd_T43 q3 p5).f3⟩ : S43)) p5).f0, wrap64 (p4 + 1), (rd_T43 (q3.set p5.toNat (⟨p4, (rd_T43 q3 p5).f1, (rd_T43 q3 p5).f2, (rd_T43 q3 p5).f3⟩ : S43)) p5).f2, (rd_T43 (q3.set p5.toNat (⟨p4, (rd_T43 q3 p5).f1, (rd_T43 q3 p5).f2, (rd_T43 q3 p5).f3⟩ : S43)) p5).f3⟩ : S43)) p5).f0, (rd_T43 ((q3.set p5.toNat (⟨p4, (rd_T43 q3 p5).f1, (rd_T43 q3 p5).f2, (rd_T43 q3 p5).f3⟩ : S43)).set p5.toNat (⟨(rd_T43 (q3.set p5.toNat (⟨p4, (rd_T43 q3 p5).f1, (rd_T43 q3 p5).f2, (rd_T43 q3 p5).f3⟩ : S43)) p5).f0, wrap64 (p4 + 1), (rd_T43 (q3.set p5.toNat (⟨p4, (rd_T43 q3 p5).f1, (rd_T43 q3 p5).f2, (rd_T43 q3 p5).f3⟩ : S43)) p5).f2, (rd_T43 (q3.set p5.toNat (⟨p4, (rd_T43 q3 p5).f1, (rd_T43 q3 p5).f2, (rd_T43 q3 p5).f3⟩ : S43)) p5).f3⟩ : S43)) p5).f1, wrap64 ((wrap64 (p4 + 1)) + 1), (rd_T43 ((q3.set p5.toNat (⟨p4, (rd_T43 q3 p5).f1, (rd_T43 q3 p5).f2, (rd_T43 q3 p5).f3⟩ : S43)).set p5.toNat (⟨(rd_T43 (q3.set p5.toNat (⟨p4, (rd_T43 q3 p5).f1, (rd_T43 q3 p5).f2, (rd_T43 q3 p5).f3⟩ : S43)) p5).f0, wrap64 (p4 + 1), (rd_T43 (q3.set p5.toNat (⟨p4, (rd_T43 q3 p5).f1, (rd_T43 q3 p5).f2, (rd_T43 q3 p5).f3⟩ : S43)) p5).f2, (rd_T43 (q3.set p5.toNat (⟨p4, (rd_T43 q3 p5).f1, (rd_T43 q3 p5).f2, (rd_T43 q3 p5).f3⟩ : S43)) p5).f3⟩ : S43)) p5).f3⟩ : S43)) p5).f1, (rd_T43 (((q3.set p5.toNat (⟨p4, (rd_T43 q3 p5).f1, (rd_T43 q3 p5).f2, (rd_T43 q3 p5).f3⟩ : S43)).set p5.toNat (⟨(rd_T43 (q3.set p5.toNat (⟨p4, (rd_T43 q3 p5).f1, (rd_T43 q3 p5).f2, (rd_T43 q3 p5).f3⟩ : S43)) p5).f0, wrap64 (p4 + 1), (rd_T43 (q3.set p5.toNat (⟨p4, (rd_T43 q3 p5).f1, (rd_T43 q3 p5).f2, (rd_T43 q3 p5).f3⟩ : S43)) p5).f2, (rd_T43 (q3.set p5.toNat (⟨p4, (rd_T43 q3 p5).f1, (rd_T43 q3 p5).f2, (rd_T43 q3 p5).f3⟩ : S43)) p5).f3⟩ : S43)).set p5.toNat (⟨(rd_T43 ((q3.set p5.toNat (⟨p4, (rd_T43 q3 p5).f1, (rd_T43 q3 p5).f2, (rd_T43 q3 p5).f3⟩ : S43)).set p5.toNat (⟨(rd_T43 (q3.set p5.toNat (⟨p4, (rd_T43 q3 p5).f1, (rd_T43 q3 p5).f2, (rd_T43 q3 p5).f3⟩ : S43)) p5).f0, wrap64 (p4 + 1), (rd_T43 (q3.set p5.toNat (⟨p4, (rd_T43 q3 p5).f1, (rd_T43 q3 p5).f2, (rd_T43 q3 p5).f3⟩ : S43)) p5).f2, (rd_T43 (q3.set p5.toNat (⟨p4, (rd_T43 q3 p5).f1, (rd_T43 q3 p5).f2, (rd_T43 q3 p5).f3⟩ : S43)) p5).f3⟩ : S43)) p5).f0, (rd_T43 ((q3.set p5.toNat (⟨p4, (rd_T43 q3 p5).f1, (rd_T43 q3 p5).f2, (rd_T43 q3 p5).f3⟩ : S43)).set p5.toNat (⟨(rd_T43 (q3.set p5.toNat (⟨p4, (rd_T43 q3 p5).f1, (rd_T43 q3 p5).f2, (rd_T43 q3 p5).f3⟩ : S43)) p5).f0, wrap64 (p4 + 1), (rd_T43 (q3.set p5.toNat (⟨p4, (rd_T43 q3 p5).f1, (rd_T43 q3 p5).f2, (rd_T43 q3 p5).f3⟩ : S43)) p5).f2, (rd_T43 (q3.set p5.toNat (⟨p4, (rd_T43 q3 p5).f1, (rd_T43 q3 p5).f2, (rd_T43 q3 p5).f3⟩ : S43)) p5).f3⟩ : S43)) p5).f1, wrap64 ((wrap64 (p4 + 1)) + 1), (rd_T43 ((q3.set p5.toNat (⟨p4, (rd_T43 q3 p5).f1, (rd_T43 q3 p5).f2, (rd_T43 q3 p5).f3⟩ : S43)).set p5.toNat (⟨(rd_T43 (q3.set p5.toNat (⟨p4, (rd_T43 q3 p5).f1, (rd_T43 q3 p5).f2, (rd_T43 q3 p5).f3⟩ : S43)) p5).f0, wrap64 (p4 + 1), (rd_T43 (q3.set p5.toNat (⟨p4, (rd_T43 q3 p5).f1, (rd_T43 q3 p5).f2, (rd_T43 q3 p5).f3⟩ : S43)) p5).f2, (rd_T43 (q3.set p5.toNat (⟨p4, (rd_T43 q3 p5).f1, (rd_T43 q3 p5).f2, (rd_T43 q3 p5).f3⟩ : S43)) p5).f3⟩ : S43)) p5).f3⟩ : S43)) p5).f2, wrap64 ((wrap64 ((wrap64 (p4 + 1)) + 1)) + 1)⟩ : S43)) (wrap64 ((wrap64 ((wrap64 ((wrap64 (p4 + 1)) + 1)) + 1)) + 1)) (wrap64 (p5 + 1)) (Nat.le_refl _) ⟨by omega, H⟩)
 rw [if_neg c7] at H
 refine aw_ifF ?_ (decide_eq_false c7)
 refine aw_exit ?_
 refine ac_then ?_
 refine ac_then ?_
 refine ac_hit rfl ?_
 refine ac_next ?_
 refine aw_grp1 ?_
 refine wk_start ?_
 refine kv g0 (mv) ?_
 refine kv g0 (asg) ?_
 refine wk_end ?_
 refine ac_next ?_
 refine aw_ret ?_
 obtain rfl := Option.some.inj H
 exact acr hE [.tmp 4] (.tmp .nil) (.one _) [(0, 0)] 9999
/-! laws_markSender -/
def laws_markSender.f (k : Nat) (a0_0 : Int) (a0_1 : Int) (l0_2 : List S43) (a0_3 : Int) (a0_4 : Int) (a1 : Int) : Option (Int × (List S43)) := (laws_markItemS.f k l0_2 a1).bind fun t1 => some (t1.1, t1.2)
theorem laws_markSender.ok {k : Nat} {a0_0 : Int} {a0_1 : Int} {l0_2 : List S43} {a0_3 : Int} {a0_4 : Int} {a1 : Int} {r : Int × (List S43)} (H : laws_markSender.f k a0_0 a0_1 l0_2 a0_3 a0_4 a1 = some r) : ACalls Try.prog 74 [(0, .row 43 4 (l0_2.map e43))] [.agg [.lit (.int .i64 a0_0), .lit (.int .i64 a0_1), .row 0, .lit (.int .i64 a0_3), .lit (.int .i64 a0_4)], .lit (.int .i64 a1)] [(0, .row 43 4 (r.2.map e43))] (.lit (.int .i64 r.1)) := by
 refine acalls (fn := Try.f74) (nt := 10) Try.func74 rfl rfl (Nat.le_of_ble_eq_true rfl) fun E hE => ?_
 rw [laws_markSender.f] at H
 refine aw_grp1 ?_
 refine wk_start ?_
 refine kb g0 (bxA 1) ?_
 refine kv g0 (asg) ?_
 refine wk_end ?_
 refine ac_next ?_
 refine aw_grp1 ?_
 refine wk_start ?_
 refine kv g0 (faB 2 2) ?_
 refine kv g0 (ldB) ?_
 refine kv g0 (mv) ?_
 obtain ⟨t1, A2, H⟩ := of_bind H
 refine kcS1 8 (.lit (.int .i64 t1.1)) [(0, .row 43 4 (t1.2.map e43))] g0 (cal (laws_markItemS.ok A2) [0] 9999 .n (hf := Try.func156)) rfl rfl ?_
 refine kv g0 (asg) ?_
 refine wk_end ?_
 refine ac_next ?_
 refine aw_grp1 ?_
 refine wk_start ?_
 refine kv g0 (mv) ?_
 refine kv g0 (asg) ?_
 refine wk_end ?_
 refine ac_next ?_
 refine aw_ret ?_
 obtain rfl := Option.some.inj H
 exact acr hE [.tmp 4] (.tmp .nil) (.one _) [(0, 0)] 9999
/-! laws_markRing -/
def laws_markRing.f (k : Nat) (l0_0 : List S43) (a0_1 : Int) (a0_2 : Int) (a0_3 : Int) (a1 : Int) : Option (Int × (List S43)) := (laws_markItemS.f k l0_0 a1).bind fun t1 => some (t1.1, t1.2)
theorem laws_markRing.ok {k : Nat} {l0_0 : List S43} {a0_1 : Int} {a0_2 : Int} {a0_3 : Int} {a1 : Int} {r : Int × (List S43)} (H : laws_markRing.f k l0_0 a0_1 a0_2 a0_3 a1 = some r) : ACalls Try.prog 75 [(0, .row 43 4 (l0_0.map e43))] [.agg [.row 0, .lit (.int .i64 a0_1), .lit (.int .i64 a0_2), .lit (.int .i64 a0_3)], .lit (.int .i64 a1)] [(0, .row 43 4 (r.2.map e43))] (.lit (.int .i64 r.1)) := by
 refine acalls (fn := Try.f75) (nt := 10) Try.func75 rfl rfl (Nat.le_of_ble_eq_true rfl) fun E hE => ?_
 rw [laws_markRing.f] at H
 refine aw_grp1 ?_
 refine wk_start ?_
 refine kb g0 (bxA 1) ?_
 refine kv g0 (asg) ?_
 refine wk_end ?_
 refine ac_next ?_
 refine aw_grp1 ?_
 refine wk_start ?_
 refine kv g0 (faB 0 0) ?_
 refine kv g0 (ldB) ?_
 refine kv g0 (mv) ?_
 obtain ⟨t1, A2, H⟩ := of_bind H
 refine kcS1 8 (.lit (.int .i64 t1.1)) [(0, .row 43 4 (t1.2.map e43))] g0 (cal (laws_markItemS.ok A2) [0] 9999 .n (hf := Try.func156)) rfl rfl ?_
 refine kv g0 (asg) ?_
 refine wk_end ?_
 refine ac_next ?_
 refine aw_grp1 ?_
 refine wk_start ?_
 refine kv g0 (mv) ?_
 refine kv g0 (asg) ?_
 refine wk_end ?_
 refine ac_next ?_
 refine aw_ret ?_
 obtain rfl := Option.some.inj H
 exact acr hE [.tmp 4] (.tmp .nil) (.one _) [(0, 0)] 9999
/-! laws_heldItemS -/
def laws_heldItemS.l0 : Nat → (List S43) → Int → Int → Option (Int)
 | 0, _, _, _ => none
 | k9 + 1, l0, p7, p8 => if p8 < (l0.length : Int) then if 0 ≤ p8 then if ((rd_T43 l0 p8).f0) = p7 then if ((rd_T43 l0 p8).f1) = (wrap64 (p7 + 1)) then if ((rd_T43 l0 p8).f2) = (wrap64 ((wrap64 (p7 + 1)) + 1)) then if ((rd_T43 l0 p8).f3) = (wrap64 ((wrap64 ((wrap64 (p7 + 1)) + 1)) + 1)) then laws_heldItemS.l0 k9 l0 (wrap64 ((wrap64 ((wrap64 ((wrap64 (p7 + 1)) + 1)) + 1)) + 1)) (wrap64 (p8 + 1)) else some (-1) else some (-1) else some (-1) else some (-1) else none else some p7
def laws_heldItemS.f (k : Nat) (l0 : List S43) (a1 : Int) : Option (Int) := laws_heldItemS.l0 k l0 a1 0
theorem laws_heldItemS.ok {k : Nat} {l0 : List S43} {a1 : Int} {r : Int} (H : laws_heldItemS.f k l0 a1 = some r) : ACalls Try.prog 157 [] [.sl .o 4 (l0.map e43), .lit (.int .i64 a1)] [] (.lit (.int .i64 r)) := by
 refine acalls (fn := Try.f157) (nt := 49) Try.func157 rfl rfl (Nat.le_of_ble_eq_true rfl) fun E hE => ?_
 rw [laws_heldItemS.f] at H
 refine aw_grp1 ?_
 refine wk_start ?_
 refine kv g0 (asg) ?_
 refine wk_end ?_
 refine ac_next ?_
 refine aw_grp1 ?_
 refine aw_grp1 ?_
 refine wk_start ?_
 refine kv g0 (asg) ?_
 refine wk_end ?_
 refine ac_next ?_
 refine aw_block ?_
 refine aw_loop2 (fun (k_ : Nat) (p7 : Int) (p8 : Int) => k_ ≤ k ∧ laws_heldItemS.l0 k_ l0 p7 p8 = some r) (fun (p7 : Int) (p8 : Int) => ⟨[(0, .sl .o 4 (l0.map e43)), (1, .lit (.int .i64 p7)), (5, .lit (.int .i64 p8))], []⟩) k a1 0 ⟨Nat.le_refl _, H⟩ (fun K_ h_ => acw hE [] 9999 h_) (fun _ _ => by intro h_; have h_ := h_.2; rw [laws_heldItemS.l0.eq_1] at h_; cases h_) ?_
 intro k9 p7 p8 hq_ K16 hK17
 have hk9 := hq_.1
 have H := hq_.2
 clear hq_
 rw [laws_heldItemS.l0.eq_2] at H
 refine aw_grp1 ?_
 refine aw_grp1 ?_
 refine wk_start ?_
 refine kv g0 (mv) ?_
 refine kv g0 (mv) ?_
 refine kv g0 (lnS lenE) ?_
 refine kv g0 (lss) ?_
 refine wk_end ?_
 refine ac_next ?_
 by_cases c10 : p8 < (l0.length : Int)
 ·rw [if_pos c10] at H
  refine aw_ifT ?_ (decide_eq_true c10)
  refine aw_skip ?_
  refine ac_next ?_
  refine aw_grp1 ?_
  refine aw_block ?_
  refine aw_grp1 ?_
  refine aw_grp1 ?_
  refine wk_start ?_
  refine kv g0 (mv) ?_
  refine kv g0 (mv) ?_
  obtain ⟨c11, H⟩ := of_if H
  refine kv g0 (ixS 43 (e43 (rd_T43 l0 p8)) c11 (getE (z := z43) c11 c10)) ?_
  refine kv g0 (faR 0 0) ?_
  refine kv g0 (ldR (.lit (.int .i64 ((rd_T43 l0 p8).f0)))) ?_
  refine kv g0 (mv) ?_
  refine kv g0 (neq) ?_
  refine wk_end ?_
  refine ac_next ?_
  by_cases c12 : ((rd_T43 l0 p8).f0) = p7
  ·rw [if_pos c12] at H
   refine aw_ifF ?_ (eM c12)
   refine aw_skip ?_
   refine ac_next ?_
   refine aw_grp1 ?_
   refine wk_start ?_
   refine kv g0 (mv) ?_
   refine kv g0 (add6) ?_
   refine kv g0 (asg) ?_
   refine wk_end ?_
   refine ac_next ?_
   refine aw_grp1 ?_
   refine aw_grp1 ?_
   refine wk_start ?_
   refine kv g0 (mv) ?_
   refine kv g0 (mv) ?_
   refine kv g0 (ixS 43 (e43 (rd_T43 l0 p8)) c11 (getE (z := z43) c11 c10)) ?_
   refine kv g0 (faR 1 1) ?_
   refine kv g0 (ldR (.lit (.int .i64 ((rd_T43 l0 p8).f1)))) ?_
   refine kv g0 (mv) ?_
   refine kv g0 (neq) ?_
   refine wk_end ?_
   refine ac_next ?_
   by_cases c13 : ((rd_T43 l0 p8).f1) = (wrap64 (p7 + 1))
   ·rw [if_pos c13] at H
    refine aw_ifF ?_ (eM c13)
    refine aw_skip ?_
    refine ac_next ?_
    refine aw_grp1 ?_
    refine wk_start ?_
    refine kv g0 (mv) ?_
    refine kv g0 (add6) ?_
    refine kv g0 (asg) ?_
    refine wk_end ?_
    refine ac_next ?_
    refine aw_grp1 ?_
    refine aw_grp1 ?_
    refine wk_start ?_
    refine kv g0 (mv) ?_
    refine kv g0 (mv) ?_
    refine kv g0 (ixS 43 (e43 (rd_T43 l0 p8)) c11 (getE (z := z43) c11 c10)) ?_
    refine kv g0 (faR 2 2) ?_
    refine kv g0 (ldR (.lit (.int .i64 ((rd_T43 l0 p8).f2)))) ?_
    refine kv g0 (mv) ?_
    refine kv g0 (neq) ?_
    refine wk_end ?_
    refine ac_next ?_
    by_cases c14 : ((rd_T43 l0 p8).f2) = (wrap64 ((wrap64 (p7 + 1)) + 1))
    ·rw [if_pos c14] at H
     refine aw_ifF ?_ (eM c14)
     refine aw_skip ?_
     refine ac_next ?_
     refine aw_grp1 ?_
     refine wk_start ?_
     refine kv g0 (mv) ?_
     refine kv g0 (add6) ?_
     refine kv g0 (asg) ?_
     refine wk_end ?_
     refine ac_next ?_
     refine aw_grp1 ?_
     refine aw_grp1 ?_
     refine wk_start ?_
     refine kv g0 (mv) ?_
     refine kv g0 (mv) ?_
     refine kv g0 (ixS 43 (e43 (rd_T43 l0 p8)) c11 (getE (z := z43) c11 c10)) ?_
     refine kv g0 (faR 3 3) ?_
     refine kv g0 (ldR (.lit (.int .i64 ((rd_T43 l0 p8).f3)))) ?_
     refine kv g0 (mv) ?_
     refine kv g0 (neq) ?_
     refine wk_end ?_
     refine ac_next ?_
     by_cases c15 : ((rd_T43 l0 p8).f3) = (wrap64 ((wrap64 ((wrap64 (p7 + 1)) + 1)) + 1))
     ·rw [if_pos c15] at H
      refine aw_ifF ?_ (eM c15)
      refine aw_skip ?_
      refine ac_next ?_
      refine wk_start ?_
      refine kv g0 (mv) ?_
      refine kv g0 (add6) ?_
      refine kv g0 (asg) ?_
      refine wk_end ?_
      refine ac_blkN ?_
      refine ac_next ?_
      refine wk_start ?_
      refine kv g0 (mv) ?_
      refine kv g0 (add6) ?_
      refine kv g0 (asg) ?_
      refine wk_end ?_
      refine ac_k ?_
      exact acw hE [] 9999 (hK17 k9 (wrap64 ((wrap64 ((wrap64 ((wrap64 (p7 + 1)) + 1)) + 1)) + 1)) (wrap64 (p8 + 1)) (Nat.le_refl _) ⟨by omega, H⟩)
     rw [if_neg c15] at H
     refine aw_ifT ?_ (eN c15)
     refine aw_grp1 ?_
     refine wk_start ?_
     refine kv g0 (asg) ?_
     refine wk_end ?_
     refine ac_next ?_
     refine aw_ret ?_
     refine ac_thenR ?_
     refine ac_blkR ?_
     refine ac_thenR ?_
     refine ac_thenR ?_
     refine ac_blkR ?_
     refine ac_thenR ?_
     obtain rfl := Option.some.inj H
     exact acr hE [.tmp 4] (.tmp .nil) (.one _) [] 9999
    rw [if_neg c14] at H
    refine aw_ifT ?_ (eN c14)
    refine aw_grp1 ?_
    refine wk_start ?_
    refine kv g0 (asg) ?_
    refine wk_end ?_
    refine ac_next ?_
    refine aw_ret ?_
    refine ac_thenR ?_
    refine ac_blkR ?_
    refine ac_thenR ?_
    refine ac_thenR ?_
    refine ac_blkR ?_
    refine ac_thenR ?_
    obtain rfl := Option.some.inj H
    exact acr hE [.tmp 4] (.tmp .nil) (.one _) [] 9999
   rw [if_neg c13] at H
   refine aw_ifT ?_ (eN c13)
   refine aw_grp1 ?_
   refine wk_start ?_
   refine kv g0 (asg) ?_
   refine wk_end ?_
   refine ac_next ?_
   refine aw_ret ?_
   refine ac_thenR ?_
   refine ac_blkR ?_
   refine ac_thenR ?_
   refine ac_thenR ?_
   refine ac_blkR ?_
   refine ac_thenR ?_
   obtain rfl := Option.some.inj H
   exact acr hE [.tmp 4] (.tmp .nil) (.one _) [] 9999
  rw [if_neg c12] at H
  refine aw_ifT ?_ (eN c12)
  refine aw_grp1 ?_
  refine wk_start ?_
  refine kv g0 (asg) ?_
  refine wk_end ?_
  refine ac_next ?_
  refine aw_ret ?_
  refine ac_thenR ?_
  refine ac_blkR ?_
  refine ac_thenR ?_
  refine ac_thenR ?_
  refine ac_blkR ?_
  refine ac_thenR ?_
  obtain rfl := Option.some.inj H
  exact acr hE [.tmp 4] (.tmp .nil) (.one _) [] 9999
 rw [if_neg c10] at H
 refine aw_ifF ?_ (decide_eq_false c10)
 refine aw_exit ?_
 refine ac_then ?_
 refine ac_then ?_
 refine ac_hit rfl ?_
 refine ac_next ?_
 refine aw_grp1 ?_
 refine wk_start ?_
 refine kv g0 (mv) ?_
 refine kv g0 (asg) ?_
 refine wk_end ?_
 refine ac_next ?_
 refine aw_ret ?_
 obtain rfl := Option.some.inj H
 exact acr hE [.tmp 4] (.tmp .nil) (.one _) [] 9999
/-! laws_heldSender -/
def laws_heldSender.f (k : Nat) (a0_0 : Int) (a0_1 : Int) (l0_2 : List S43) (a0_3 : Int) (a0_4 : Int) (a1 : Int) : Option (Int) := (laws_heldItemS.f k l0_2 a1).bind fun t1 => if t1 < 0 then some (-1) else some t1
theorem laws_heldSender.ok {k : Nat} {a0_0 : Int} {a0_1 : Int} {l0_2 : List S43} {a0_3 : Int} {a0_4 : Int} {a1 : Int} {r : Int} (H : laws_heldSender.f k a0_0 a0_1 l0_2 a0_3 a0_4 a1 = some r) : ACalls Try.prog 76 [] [.agg [.lit (.int .i64 a0_0), .lit (.int .i64 a0_1), .sl .o 4 (l0_2.map e43), .lit (.int .i64 a0_3), .lit (.int .i64 a0_4)], .lit (.int .i64 a1)] [] (.lit (.int .i64 r)) := by
 refine acalls (fn := Try.f76) (nt := 12) Try.func76 rfl rfl (Nat.le_of_ble_eq_true rfl) fun E hE => ?_
 rw [laws_heldSender.f] at H
 refine aw_grp1 ?_
 refine wk_start ?_
 refine kb g0 (bxA 0) ?_
 refine kv g0 (asg) ?_
 refine wk_end ?_
 refine ac_next ?_
 refine aw_grp1 ?_
 refine wk_start ?_
 refine kv g0 (faB 2 2) ?_
 refine kv g0 (ldB) ?_
 refine kv g0 (mv) ?_
 obtain ⟨t1, A2, H⟩ := of_bind H
 refine kcS0 8 (.lit (.int .i64 t1)) [] g0 (cal (laws_heldItemS.ok A2) [] 9999 .n (hf := Try.func157)) rfl rfl ?_
 refine kv g0 (asg) ?_
 refine wk_end ?_
 refine ac_next ?_
 refine aw_grp1 ?_
 refine aw_grp1 ?_
 refine wk_start ?_
 refine kv g0 (mv) ?_
 refine kv g0 (lss) ?_
 refine wk_end ?_
 refine ac_next ?_
 by_cases c3 : t1 < 0
 ·rw [if_pos c3] at H
  refine aw_ifT ?_ (decide_eq_true c3)
  refine aw_grp1 ?_
  refine wk_start ?_
  refine kv g0 (asg) ?_
  refine wk_end ?_
  refine ac_next ?_
  refine aw_ret ?_
  refine ac_thenR ?_
  obtain rfl := Option.some.inj H
  exact acr hE [.tmp 4] (.tmp .nil) (.one _) [] 9999
 rw [if_neg c3] at H
 refine aw_ifF ?_ (decide_eq_false c3)
 refine aw_skip ?_
 refine ac_next ?_
 refine aw_grp1 ?_
 refine wk_start ?_
 refine kv g0 (mv) ?_
 refine kv g0 (asg) ?_
 refine wk_end ?_
 refine ac_next ?_
 refine aw_ret ?_
 obtain rfl := Option.some.inj H
 exact acr hE [.tmp 4] (.tmp .nil) (.one _) [] 9999
/-! laws_heldRing -/
def laws_heldRing.f (k : Nat) (l0_0 : List S43) (a0_1 : Int) (a0_2 : Int) (a0_3 : Int) (a1 : Int) : Option (Int) := (laws_heldItemS.f k l0_0 a1).bind fun t1 => if t1 < 0 then some (-1) else some t1
theorem laws_heldRing.ok {k : Nat} {l0_0 : List S43} {a0_1 : Int} {a0_2 : Int} {a0_3 : Int} {a1 : Int} {r : Int} (H : laws_heldRing.f k l0_0 a0_1 a0_2 a0_3 a1 = some r) : ACalls Try.prog 77 [] [.agg [.sl .o 4 (l0_0.map e43), .lit (.int .i64 a0_1), .lit (.int .i64 a0_2), .lit (.int .i64 a0_3)], .lit (.int .i64 a1)] [] (.lit (.int .i64 r)) := by
 refine acalls (fn := Try.f77) (nt := 12) Try.func77 rfl rfl (Nat.le_of_ble_eq_true rfl) fun E hE => ?_
 rw [laws_heldRing.f] at H
 refine aw_grp1 ?_
 refine wk_start ?_
 refine kb g0 (bxA 0) ?_
 refine kv g0 (asg) ?_
 refine wk_end ?_
 refine ac_next ?_
 refine aw_grp1 ?_
 refine wk_start ?_
 refine kv g0 (faB 0 0) ?_
 refine kv g0 (ldB) ?_
 refine kv g0 (mv) ?_
 obtain ⟨t1, A2, H⟩ := of_bind H
 refine kcS0 8 (.lit (.int .i64 t1)) [] g0 (cal (laws_heldItemS.ok A2) [] 9999 .n (hf := Try.func157)) rfl rfl ?_
 refine kv g0 (asg) ?_
 refine wk_end ?_
 refine ac_next ?_
 refine aw_grp1 ?_
 refine aw_grp1 ?_
 refine wk_start ?_
 refine kv g0 (mv) ?_
 refine kv g0 (lss) ?_
 refine wk_end ?_
 refine ac_next ?_
 by_cases c3 : t1 < 0
 ·rw [if_pos c3] at H
  refine aw_ifT ?_ (decide_eq_true c3)
  refine aw_grp1 ?_
  refine wk_start ?_
  refine kv g0 (asg) ?_
  refine wk_end ?_
  refine ac_next ?_
  refine aw_ret ?_
  refine ac_thenR ?_
  obtain rfl := Option.some.inj H
  exact acr hE [.tmp 4] (.tmp .nil) (.one _) [] 9999
 rw [if_neg c3] at H
 refine aw_ifF ?_ (decide_eq_false c3)
 refine aw_skip ?_
 refine ac_next ?_
 refine aw_grp1 ?_
 refine wk_start ?_
 refine kv g0 (mv) ?_
 refine kv g0 (asg) ?_
 refine wk_end ?_
 refine ac_next ?_
 refine aw_ret ?_
 obtain rfl := Option.some.inj H
 exact acr hE [.tmp 4] (.tmp .nil) (.one _) [] 9999
/-! laws_FnExactTaken -/
def laws_FnExactTaken.f (k : Nat) (a0_0 : Int) (a0_1 : Int) (l0_2 : List S178) (a0_3 : Int) (a0_4 : Int) (l1_0 : List S178) (a1_1 : Int) (a1_2 : Int) (a1_3 : Int) (a2 : Int) : Option (Bool) := (laws_szSender.f a0_0 a0_1 l0_2 a0_3 a0_4 1048576).bind fun t1 => if t1 < 0 then some true else (laws_szRing.f l1_0 a1_1 a1_2 a1_3 t1).bind fun t4 => if t4 < 0 then some true else (laws_toSender.f k a0_0 a0_1 l0_2 a0_3 a0_4).bind fun t7 => ((laws_toRing.f k l1_0 a1_1 a1_2 a1_3).bind fun t9 => ((spec_Taken.f k t7.1 t7.2.1 t7.2.2.1 t7.2.2.2.1 t7.2.2.2.2 t9.1 t9.2.1 t9.2.2.1 t9.2.2.2 a2).bind fun t11 => (laws_toSender.f k a0_0 a0_1 l0_2 a0_3 a0_4).bind fun t13 => (laws_toRing.f k l1_0 a1_1 a1_2 a1_3).bind fun t15 => (impl_Taken.f k t13.1 t13.2.1 t13.2.2.1 t13.2.2.2.1 t13.2.2.2.2 t15.1 t15.2.1 t15.2.2.1 t15.2.2.2 a2).bind fun t17 => (laws_eqSender.f k t17.1 t17.2.1 t17.2.2.1 t17.2.2.2.1 t17.2.2.2.2.1 t11.1 t11.2.1 t11.2.2.1 t11.2.2.2.1 t11.2.2.2.2.1).bind fun t19 => (if t19 = true then ((laws_eqRing.f k t17.2.2.2.2.2.1 t17.2.2.2.2.2.2.1 t17.2.2.2.2.2.2.2.1 t17.2.2.2.2.2.2.2.2.1 t11.2.2.2.2.2.1 t11.2.2.2.2.2.2.1 t11.2.2.2.2.2.2.2.1 t11.2.2.2.2.2.2.2.2.1).bind fun t22 => (if t22 = true then if t17.2.2.2.2.2.2.2.2.2 = t11.2.2.2.2.2.2.2.2.2 then (laws_toSender.f k a0_0 a0_1 l0_2 a0_3 a0_4).bind fun t26 => ((laws_eqSender.f k t13.1 t13.2.1 t13.2.2.1 t13.2.2.2.1 t13.2.2.2.2 t26.1 t26.2.1 t26.2.2.1 t26.2.2.2.1 t26.2.2.2.2).bind fun t28 => if t28 = true then (laws_toRing.f k l1_0 a1_1 a1_2 a1_3).bind fun t31 => ((laws_eqRing.f k t15.1 t15.2.1 t15.2.2.1 t15.2.2.2 t31.1 t31.2.1 t31.2.2.1 t31.2.2.2).bind fun t33 => if t33 = true then (laws_markSender.f k t13.1 t13.2.1 t13.2.2.1 t13.2.2.2.1 t13.2.2.2.2 1).bind fun t36 => (laws_markRing.f k t15.1 t15.2.1 t15.2.2.1 t15.2.2.2 t36.1).bind fun t38 => if t38.1 < 0 then some false else ((laws_eqSender.f k t17.1 t17.2.1 t17.2.2.1 t17.2.2.2.1 t17.2.2.2.2.1 t11.1 t11.2.1 t11.2.2.1 t11.2.2.2.1 t11.2.2.2.2.1).bind fun t41 => (if t41 = true then ((laws_eqRing.f k t17.2.2.2.2.2.1 t17.2.2.2.2.2.2.1 t17.2.2.2.2.2.2.2.1 t17.2.2.2.2.2.2.2.2.1 t11.2.2.2.2.2.1 t11.2.2.2.2.2.2.1 t11.2.2.2.2.2.2.2.1 t11.2.2.2.2.2.2.2.2.1).bind fun t44 => (if t44 = true then (laws_markSender.f k t17.1 t17.2.1 t17.2.2.1 t17.2.2.2.1 t17.2.2.2.2.1 1).bind fun t47 => (laws_markRing.f k t17.2.2.2.2.2.1 t17.2.2.2.2.2.2.1 t17.2.2.2.2.2.2.2.1 t17.2.2.2.2.2.2.2.2.1 t47.1).bind fun t49 => (laws_heldSender.f k t17.1 t17.2.1 t47.2 t17.2.2.2.1 t17.2.2.2.2.1 1).bind fun t51 => if t51 < 0 then some false else (laws_heldRing.f k t49.2 t17.2.2.2.2.2.2.1 t17.2.2.2.2.2.2.2.1 t17.2.2.2.2.2.2.2.2.1 t51).bind fun t54 => if t54 < 0 then some false else if t54 = t49.1 then (laws_toSender.f k a0_0 a0_1 l0_2 a0_3 a0_4).bind fun t58 => ((laws_toRing.f k l1_0 a1_1 a1_2 a1_3).bind fun t60 => ((impl_Taken.f k t58.1 t58.2.1 t58.2.2.1 t58.2.2.2.1 t58.2.2.2.2 t60.1 t60.2.1 t60.2.2.1 t60.2.2.2 a2).bind fun t62 => (laws_eqSender.f k t62.1 t62.2.1 t62.2.2.1 t62.2.2.2.1 t62.2.2.2.2.1 t11.1 t11.2.1 t11.2.2.1 t11.2.2.2.1 t11.2.2.2.2.1).bind fun t64 => (if t64 = true then ((laws_eqRing.f k t62.2.2.2.2.2.1 t62.2.2.2.2.2.2.1 t62.2.2.2.2.2.2.2.1 t62.2.2.2.2.2.2.2.2.1 t11.2.2.2.2.2.1 t11.2.2.2.2.2.2.1 t11.2.2.2.2.2.2.2.1 t11.2.2.2.2.2.2.2.2.1).bind fun t67 => (if t67 = true then if t62.2.2.2.2.2.2.2.2.2 = t11.2.2.2.2.2.2.2.2.2 then (laws_heldSender.f k t17.1 t17.2.1 t47.2 t17.2.2.2.1 t17.2.2.2.2.1 1).bind fun t71 => if t71 < 0 then some false else (laws_heldRing.f k t49.2 t17.2.2.2.2.2.2.1 t17.2.2.2.2.2.2.2.1 t17.2.2.2.2.2.2.2.2.1 t71).bind fun t74 => if t74 < 0 then some false else if t74 = t49.1 then some true else some false else some false else some false)) else some false))) else some false else some false)) else some false)) else some false) else some false) else some false else some false)) else some false)))
theorem laws_FnExactTaken.ok {k : Nat} {a0_0 : Int} {a0_1 : Int} {l0_2 : List S178} {a0_3 : Int} {a0_4 : Int} {l1_0 : List S178} {a1_1 : Int} {a1_2 : Int} {a1_3 : Int} {a2 : Int} {r : Bool} (H : laws_FnExactTaken.f k a0_0 a0_1 l0_2 a0_3 a0_4 l1_0 a1_1 a1_2 a1_3 a2 = some r) : ACalls Try.prog 10 [] [.agg [.lit (.int .i64 a0_0), .lit (.int .i64 a0_1), .sl .o 4 (l0_2.map e178), .lit (.int .i64 a0_3), .lit (.int .i64 a0_4)], .agg [.sl .o 4 (l1_0.map e178), .lit (.int .i64 a1_1), .lit (.int .i64 a1_2), .lit (.int .i64 a1_3)], .lit (.int .i64 a2)] [] (.lit (.bool r)) := by
 refine acalls (fn := Try.f10) (nt := 161) Try.func10 rfl rfl (Nat.le_of_ble_eq_true rfl) fun E hE => ?_
 rw [laws_FnExactTaken.f] at H
 refine aw_grp1 ?_
 refine wk_start ?_
 refine kb g0 (bxA 0) ?_
 refine kb g0 (bxA 1) ?_
 refine kv g0 (asg) ?_
 refine wk_end ?_
 refine ac_next ?_
 refine aw_grp1 ?_
 refine wk_start ?_
 refine kv g0 (asg) ?_
 refine wk_end ?_
 refine ac_next ?_
 refine aw_grp1 ?_
 refine wk_start ?_
 refine kv g0 (ldBA 5 [.lit (.int .i64 a0_0), .lit (.int .i64 a0_1), .sl .o 4 (l0_2.map e178), .lit (.int .i64 a0_3), .lit (.int .i64 a0_4)]) ?_
 refine kv g0 (mv) ?_
 obtain ⟨t1, A2, H⟩ := of_bind H
 refine kcS0 24 (.lit (.int .i64 t1)) [] g0 (cal (laws_szSender.ok A2) [] 9999 .n (hf := Try.func68)) rfl rfl ?_
 refine kv g0 (asg) ?_
 refine wk_end ?_
 refine ac_next ?_
 refine aw_grp1 ?_
 refine aw_grp1 ?_
 refine wk_start ?_
 refine kv g0 (mv) ?_
 refine kv g0 (lss) ?_
 refine wk_end ?_
 refine ac_next ?_
 by_cases c3 : t1 < 0
 ·rw [if_pos c3] at H
  refine aw_ifT ?_ (decide_eq_true c3)
  refine aw_grp1 ?_
  refine wk_start ?_
  refine kv g0 (asg) ?_
  refine wk_end ?_
  refine ac_next ?_
  refine aw_ret ?_
  refine ac_thenR ?_
  obtain rfl := Option.some.inj H
  exact acr hE [.tmp 6] (.tmp .nil) (.one _) [] 9999
 rw [if_neg c3] at H
 refine aw_ifF ?_ (decide_eq_false c3)
 refine aw_skip ?_
 refine ac_next ?_
 refine aw_grp1 ?_
 refine wk_start ?_
 refine kv g0 (ldBA 4 [.sl .o 4 (l1_0.map e178), .lit (.int .i64 a1_1), .lit (.int .i64 a1_2), .lit (.int .i64 a1_3)]) ?_
 refine kv g0 (mv) ?_
 obtain ⟨t4, A5, H⟩ := of_bind H
 refine kcS0 29 (.lit (.int .i64 t4)) [] g0 (cal (laws_szRing.ok A5) [] 9999 .n (hf := Try.func69)) rfl rfl ?_
 refine kv g0 (asg) ?_
 refine wk_end ?_
 refine ac_next ?_
 refine aw_grp1 ?_
 refine aw_grp1 ?_
 refine wk_start ?_
 refine kv g0 (mv) ?_
 refine kv g0 (lss) ?_
 refine wk_end ?_
 refine ac_next ?_
 by_cases c6 : t4 < 0
 ·rw [if_pos c6] at H
  refine aw_ifT ?_ (decide_eq_true c6)
  refine aw_grp1 ?_
  refine wk_start ?_
  refine kv g0 (asg) ?_
  refine wk_end ?_
  refine ac_next ?_
  refine aw_ret ?_
  refine ac_thenR ?_
  obtain rfl := Option.some.inj H
  exact acr hE [.tmp 6] (.tmp .nil) (.one _) [] 9999
 rw [if_neg c6] at H
 refine aw_ifF ?_ (decide_eq_false c6)
 refine aw_skip ?_
 refine ac_next ?_
 refine aw_grp1 ?_
 refine wk_start ?_
 refine kv g0 (ldBA 5 [.lit (.int .i64 a0_0), .lit (.int .i64 a0_1), .sl .o 4 (l0_2.map e178), .lit (.int .i64 a0_3), .lit (.int .i64 a0_4)]) ?_
 obtain ⟨t7, A8, H⟩ := of_bind H
 refine kcS1 34 (.agg [.lit (.int .i64 t7.1), .lit (.int .i64 t7.2.1), .row 2, .lit (.int .i64 t7.2.2.2.1), .lit (.int .i64 t7.2.2.2.2)]) [(2, .row 43 4 (t7.2.2.1.map e43))] g0 (cal (laws_toSender.ok A8) [2] 9999 .n (hf := Try.func70)) rfl rfl ?_
 refine kv g0 (ldBA 4 [.sl .o 4 (l1_0.map e178), .lit (.int .i64 a1_1), .lit (.int .i64 a1_2), .lit (.int .i64 a1_3)]) ?_
 obtain ⟨t9, A10, H⟩ := of_bind H
 refine kcS1 36 (.agg [.row 3, .lit (.int .i64 t9.2.1), .lit (.int .i64 t9.2.2.1), .lit (.int .i64 t9.2.2.2)]) [(3, .row 43 4 (t9.1.map e43))] g0 (cal (laws_toRing.ok A10) [3] 9999 .n (hf := Try.func71)) rfl rfl ?_
 refine kv g0 (mv) ?_
 obtain ⟨t11, A12, H⟩ := of_bind H
 refine kcS2 38 (.tup [.agg [.lit (.int .i64 t11.1), .lit (.int .i64 t11.2.1), .row 4, .lit (.int .i64 t11.2.2.2.1), .lit (.int .i64 t11.2.2.2.2.1)], .agg [.row 5, .lit (.int .i64 t11.2.2.2.2.2.2.1), .lit (.int .i64 t11.2.2.2.2.2.2.2.1), .lit (.int .i64 t11.2.2.2.2.2.2.2.2.1)], .lit (.bool t11.2.2.2.2.2.2.2.2.2)]) [(4, .row 43 4 (t11.2.2.1.map e43)), (5, .row 43 4 (t11.2.2.2.2.2.1.map e43))] g0 (cal (spec_Taken.ok A12) [4, 5] 9999 .n (hf := Try.func49)) rfl rfl ?_
 refine kv g0 (mv) ?_
 refine kv g0 (ext) ?_
 refine kv g0 (ext) ?_
 refine kv g0 (ext) ?_
 refine kb g0 (alc 6 [.int .i64 0, .int .i64 0, .slice none 0 0, .int .i64 0, .int .i64 0] [.lit (.int .i64 0), .lit (.int .i64 0), .lit (.slice none 0 0), .lit (.int .i64 0), .lit (.int .i64 0)]) ?_
 refine kb g0 (alc 7 [.slice none 0 0, .int .i64 0, .int .i64 0, .int .i64 0] [.lit (.slice none 0 0), .lit (.int .i64 0), .lit (.int .i64 0), .lit (.int .i64 0)]) ?_
 refine ks g0 (stB 5 [.lit (.int .i64 t11.1), .lit (.int .i64 t11.2.1), .row 4, .lit (.int .i64 t11.2.2.2.1), .lit (.int .i64 t11.2.2.2.2.1)]) ?_
 refine ks g0 (stB 4 [.row 5, .lit (.int .i64 t11.2.2.2.2.2.2.1), .lit (.int .i64 t11.2.2.2.2.2.2.2.1), .lit (.int .i64 t11.2.2.2.2.2.2.2.2.1)]) ?_
 refine kv g0 (asg) ?_
 refine wk_end_draw hM (by kernel_rfl) ?_
 refine ac_next ?_
 refine aw_grp1 ?_
 refine wk_start ?_
 refine kv g0 (ldBA 5 [.lit (.int .i64 a0_0), .lit (.int .i64 a0_1), .sl .o 4 (l0_2.map e178), .lit (.int .i64 a0_3), .lit (.int .i64 a0_4)]) ?_
 obtain ⟨t13, A14, H⟩ := of_bind H
 refine kcS1 43 (.agg [.lit (.int .i64 t13.1), .lit (.int .i64 t13.2.1), .row 8, .lit (.int .i64 t13.2.2.2.1), .lit (.int .i64 t13.2.2.2.2)]) [(8, .row 43 4 (t13.2.2.1.map e43))] g0 (cal (laws_toSender.ok A14) [8] 9999 .n (hf := Try.func70)) rfl rfl ?_
 refine kb g0 (alc 9 [.int .i64 0, .int .i64 0, .slice none 0 0, .int .i64 0, .int .i64 0] [.lit (.int .i64 0), .lit (.int .i64 0), .lit (.slice none 0 0), .lit (.int .i64 0), .lit (.int .i64 0)]) ?_
 refine ks g0 (stB 5 [.lit (.int .i64 t13.1), .lit (.int .i64 t13.2.1), .row 8, .lit (.int .i64 t13.2.2.2.1), .lit (.int .i64 t13.2.2.2.2)]) ?_
 refine wk_end ?_
 refine ac_next ?_
 refine aw_grp1 ?_
 refine wk_start ?_
 refine kv g0 (ldBA 4 [.sl .o 4 (l1_0.map e178), .lit (.int .i64 a1_1), .lit (.int .i64 a1_2), .lit (.int .i64 a1_3)]) ?_
 obtain ⟨t15, A16, H⟩ := of_bind H
 refine kcS1 45 (.agg [.row 10, .lit (.int .i64 t15.2.1), .lit (.int .i64 t15.2.2.1), .lit (.int .i64 t15.2.2.2)]) [(10, .row 43 4 (t15.1.map e43))] g0 (cal (laws_toRing.ok A16) [10] 9999 .n (hf := Try.func71)) rfl rfl ?_
 refine kb g0 (alc 11 [.slice none 0 0, .int .i64 0, .int .i64 0, .int .i64 0] [.lit (.slice none 0 0), .lit (.int .i64 0), .lit (.int .i64 0), .lit (.int .i64 0)]) ?_
 refine ks g0 (stB 4 [.row 10, .lit (.int .i64 t15.2.1), .lit (.int .i64 t15.2.2.1), .lit (.int .i64 t15.2.2.2)]) ?_
 refine wk_end ?_
 refine ac_next ?_
 refine aw_grp1 ?_
 refine wk_start ?_
 refine kv g0 (ldBA 5 [.lit (.int .i64 t13.1), .lit (.int .i64 t13.2.1), .row 8, .lit (.int .i64 t13.2.2.2.1), .lit (.int .i64 t13.2.2.2.2)]) ?_
 refine kv g0 (ldBA 4 [.row 10, .lit (.int .i64 t15.2.1), .lit (.int .i64 t15.2.2.1), .lit (.int .i64 t15.2.2.2)]) ?_
 refine kv g0 (mv) ?_
 obtain ⟨t17, A18, H⟩ := of_bind H
 refine kcS2 50 (.tup [.agg [.lit (.int .i64 t17.1), .lit (.int .i64 t17.2.1), .row 12, .lit (.int .i64 t17.2.2.2.1), .lit (.int .i64 t17.2.2.2.2.1)], .agg [.row 13, .lit (.int .i64 t17.2.2.2.2.2.2.1), .lit (.int .i64 t17.2.2.2.2.2.2.2.1), .lit (.int .i64 t17.2.2.2.2.2.2.2.2.1)], .lit (.bool t17.2.2.2.2.2.2.2.2.2)]) [(12, .row 43 4 (t17.2.2.1.map e43)), (13, .row 43 4 (t17.2.2.2.2.2.1.map e43))] g0 (cal (impl_Taken.ok A18) [12, 13] 9999 .n (hf := Try.func48)) rfl rfl ?_
 refine kv g0 (mv) ?_
 refine kv g0 (ext) ?_
 refine kv g0 (ext) ?_
 refine kv g0 (ext) ?_
 refine kb g0 (alc 14 [.int .i64 0, .int .i64 0, .slice none 0 0, .int .i64 0, .int .i64 0] [.lit (.int .i64 0), .lit (.int .i64 0), .lit (.slice none 0 0), .lit (.int .i64 0), .lit (.int .i64 0)]) ?_
 refine kb g0 (alc 15 [.slice none 0 0, .int .i64 0, .int .i64 0, .int .i64 0] [.lit (.slice none 0 0), .lit (.int .i64 0), .lit (.int .i64 0), .lit (.int .i64 0)]) ?_
 refine ks g0 (stB 5 [.lit (.int .i64 t17.1), .lit (.int .i64 t17.2.1), .row 12, .lit (.int .i64 t17.2.2.2.1), .lit (.int .i64 t17.2.2.2.2.1)]) ?_
 refine ks g0 (stB 4 [.row 13, .lit (.int .i64 t17.2.2.2.2.2.2.1), .lit (.int .i64 t17.2.2.2.2.2.2.2.1), .lit (.int .i64 t17.2.2.2.2.2.2.2.2.1)]) ?_
 refine kv g0 (asg) ?_
 refine wk_end ?_
 refine ac_next ?_
 refine aw_grp1 ?_
 refine aw_grp1 ?_
 refine wk_start ?_
 refine kv g0 (ldBA 5 [.lit (.int .i64 t17.1), .lit (.int .i64 t17.2.1), .row 12, .lit (.int .i64 t17.2.2.2.1), .lit (.int .i64 t17.2.2.2.2.1)]) ?_
 refine kv g0 (ldBA 5 [.lit (.int .i64 t11.1), .lit (.int .i64 t11.2.1), .row 4, .lit (.int .i64 t11.2.2.2.1), .lit (.int .i64 t11.2.2.2.2.1)]) ?_
 obtain ⟨t19, A20, H⟩ := of_bind H
 refine kcS0 56 (.lit (.bool t19)) [] g0 (cal (laws_eqSender.ok A20) [] 9999 .n (hf := Try.func72)) rfl rfl ?_
 refine kv g0 (not_) ?_
 refine kv g0 (mv) ?_
 by_cases c21 : t19 = true
 ·rw [if_pos c21] at H
  refine kv (g1 (nF c21)) (ldBA 4 [.row 13, .lit (.int .i64 t17.2.2.2.2.2.2.1), .lit (.int .i64 t17.2.2.2.2.2.2.2.1), .lit (.int .i64 t17.2.2.2.2.2.2.2.2.1)]) ?_
  refine kv (g1 (nF c21)) (ldBA 4 [.row 5, .lit (.int .i64 t11.2.2.2.2.2.2.1), .lit (.int .i64 t11.2.2.2.2.2.2.2.1), .lit (.int .i64 t11.2.2.2.2.2.2.2.2.1)]) ?_
  obtain ⟨t22, A23, H⟩ := of_bind H
  refine kcS0 61 (.lit (.bool t22)) [] (g1 (nF c21)) (cal (laws_eqRing.ok A23) [] 9999 .n (hf := Try.func73)) rfl rfl ?_
  refine kv (g1 (nF c21)) (not_) ?_
  refine kv g0 (pkF (nF c21)) ?_
  refine kv g0 (mv) ?_
  by_cases c24 : t22 = true
  ·rw [if_pos c24] at H
   refine kv (g1 (nF c24)) (mv) ?_
   refine kv (g1 (nF c24)) (mv) ?_
   refine kv (g1 (nF c24)) (bne) ?_
   refine kv g0 (pkF (nF c24)) ?_
   refine wk_end ?_
   refine ac_next ?_
   by_cases c25 : t17.2.2.2.2.2.2.2.2.2 = t11.2.2.2.2.2.2.2.2.2
   ·rw [if_pos c25] at H
    refine aw_ifF ?_ (nF (eTb c25))
    refine aw_skip ?_
    refine ac_next ?_
    refine aw_grp1 ?_
    refine aw_grp1 ?_
    refine wk_start ?_
    refine kv g0 (ldBA 5 [.lit (.int .i64 t13.1), .lit (.int .i64 t13.2.1), .row 8, .lit (.int .i64 t13.2.2.2.1), .lit (.int .i64 t13.2.2.2.2)]) ?_
    refine kv g0 (ldBA 5 [.lit (.int .i64 a0_0), .lit (.int .i64 a0_1), .sl .o 4 (l0_2.map e178), .lit (.int .i64 a0_3), .lit (.int .i64 a0_4)]) ?_
    obtain ⟨t26, A27, H⟩ := of_bind H
    refine kcS1 71 (.agg [.lit (.int .i64 t26.1), .lit (.int .i64 t26.2.1), .row 16, .lit (.int .i64 t26.2.2.2.1), .lit (.int .i64 t26.2.2.2.2)]) [(16, .row 43 4 (t26.2.2.1.map e43))] g0 (cal (laws_toSender.ok A27) [16] 9999 .n (hf := Try.func70)) rfl rfl ?_
    obtain ⟨t28, A29, H⟩ := of_bind H
    refine kcS0 72 (.lit (.bool t28)) [] g0 (cal (laws_eqSender.ok A29) [] 9999 .n (hf := Try.func72)) rfl rfl ?_
    refine kv g0 (not_) ?_
    refine wk_end_draw hM (by kernel_rfl) ?_
    refine ac_next ?_
    by_cases c30 : t28 = true
    ·rw [if_pos c30] at H
     refine aw_ifF ?_ (nF c30)
     refine aw_skip ?_
     refine ac_next ?_
     refine aw_grp1 ?_
     refine aw_grp1 ?_
     refine wk_start ?_
     refine kv g0 (ldBA 4 [.row 10, .lit (.int .i64 t15.2.1), .lit (.int .i64 t15.2.2.1), .lit (.int .i64 t15.2.2.2)]) ?_
     refine kv g0 (ldBA 4 [.sl .o 4 (l1_0.map e178), .lit (.int .i64 a1_1), .lit (.int .i64 a1_2), .lit (.int .i64 a1_3)]) ?_
     obtain ⟨t31, A32, H⟩ := of_bind H
     refine kcS1 76 (.agg [.row 17, .lit (.int .i64 t31.2.1), .lit (.int .i64 t31.2.2.1), .lit (.int .i64 t31.2.2.2)]) [(17, .row 43 4 (t31.1.map e43))] g0 (cal (laws_toRing.ok A32) [17] 9999 .n (hf := Try.func71)) rfl rfl ?_
     obtain ⟨t33, A34, H⟩ := of_bind H
     refine kcS0 77 (.lit (.bool t33)) [] g0 (cal (laws_eqRing.ok A34) [] 9999 .n (hf := Try.func73)) rfl rfl ?_
     refine kv g0 (not_) ?_
     refine wk_end_draw hM (by kernel_rfl) ?_
     refine ac_next ?_
     by_cases c35 : t33 = true
     ·rw [if_pos c35] at H
      refine aw_ifF ?_ (nF c35)
      refine aw_skip ?_
      refine ac_next ?_
      refine aw_grp1 ?_
      refine wk_start ?_
      refine kv g0 (asg) ?_
      refine wk_end ?_
      refine ac_next ?_
      refine aw_grp1 ?_
      refine wk_start ?_
      refine kv g0 (ldBA 5 [.lit (.int .i64 t13.1), .lit (.int .i64 t13.2.1), .row 8, .lit (.int .i64 t13.2.2.2.1), .lit (.int .i64 t13.2.2.2.2)]) ?_
      refine kv g0 (mv) ?_
      obtain ⟨t36, A37, H⟩ := of_bind H
      refine kcS1 81 (.lit (.int .i64 t36.1)) [(8, .row 43 4 (t36.2.map e43))] g0 (cal (laws_markSender.ok A37) [8] 9999 .n (hf := Try.func74)) rfl rfl ?_
      refine kv g0 (asg) ?_
      refine wk_end ?_
      refine ac_next ?_
      refine aw_grp1 ?_
      refine wk_start ?_
      refine kv g0 (ldBA 4 [.row 10, .lit (.int .i64 t15.2.1), .lit (.int .i64 t15.2.2.1), .lit (.int .i64 t15.2.2.2)]) ?_
      refine kv g0 (mv) ?_
      obtain ⟨t38, A39, H⟩ := of_bind H
      refine kcS1 84 (.lit (.int .i64 t38.1)) [(10, .row 43 4 (t38.2.map e43))] g0 (cal (laws_markRing.ok A39) [10] 9999 .n (hf := Try.func75)) rfl rfl ?_
      refine kv g0 (asg) ?_
      refine wk_end ?_
      refine ac_next ?_
      refine aw_grp1 ?_
      refine aw_grp1 ?_
      refine wk_start ?_
      refine kv g0 (mv) ?_
      refine kv g0 (lss) ?_
      refine kv g0 (mv) ?_
      by_cases c40 : t38.1 < 0
      ·rw [if_pos c40] at H
       refine kx (hF (decide_eq_true c40)) ?_
       refine kx (hF (decide_eq_true c40)) ?_
       refine kx (hF (decide_eq_true c40)) ?_
       refine kx (hF (decide_eq_true c40)) ?_
       refine kv g0 (pkT (decide_eq_true c40)) ?_
       refine kv g0 (mv) ?_
       refine kx (hF rfl) ?_
       refine kx (hF rfl) ?_
       refine kx (hF rfl) ?_
       refine kx (hF rfl) ?_
       refine kv g0 (pkT rfl) ?_
       refine kv g0 (mv) ?_
       refine kx (hF rfl) ?_
       refine kx (hF rfl) ?_
       refine kx (hF rfl) ?_
       refine kv g0 (pkT rfl) ?_
       refine wk_end ?_
       refine ac_next ?_
       refine aw_ifT ?_ rfl
       refine aw_grp1 ?_
       refine wk_start ?_
       refine kv g0 (asg) ?_
       refine wk_end ?_
       refine ac_next ?_
       refine aw_ret ?_
       refine ac_thenR ?_
       obtain rfl := Option.some.inj H
       exact acr hE [.tmp 6] (.tmp .nil) (.one _) [] 9999
      rw [if_neg c40] at H
      refine kv (g1 (decide_eq_false c40)) (ldBA 5 [.lit (.int .i64 t17.1), .lit (.int .i64 t17.2.1), .row 12, .lit (.int .i64 t17.2.2.2.1), .lit (.int .i64 t17.2.2.2.2.1)]) ?_
      refine kv (g1 (decide_eq_false c40)) (ldBA 5 [.lit (.int .i64 t11.1), .lit (.int .i64 t11.2.1), .row 4, .lit (.int .i64 t11.2.2.2.1), .lit (.int .i64 t11.2.2.2.2.1)]) ?_
      obtain ⟨t41, A42, H⟩ := of_bind H
      refine kcS0 90 (.lit (.bool t41)) [] (g1 (decide_eq_false c40)) (cal (laws_eqSender.ok A42) [] 9999 .n (hf := Try.func72)) rfl rfl ?_
      refine kv (g1 (decide_eq_false c40)) (not_) ?_
      refine kv g0 (pkF (decide_eq_false c40)) ?_
      refine kv g0 (mv) ?_
      by_cases c43 : t41 = true
      ·rw [if_pos c43] at H
       refine kv (g1 (nF c43)) (ldBA 4 [.row 13, .lit (.int .i64 t17.2.2.2.2.2.2.1), .lit (.int .i64 t17.2.2.2.2.2.2.2.1), .lit (.int .i64 t17.2.2.2.2.2.2.2.2.1)]) ?_
       refine kv (g1 (nF c43)) (ldBA 4 [.row 5, .lit (.int .i64 t11.2.2.2.2.2.2.1), .lit (.int .i64 t11.2.2.2.2.2.2.2.1), .lit (.int .i64 t11.2.2.2.2.2.2.2.2.1)]) ?_
       obtain ⟨t44, A45, H⟩ := of_bind H
       refine kcS0 96 (.lit (.bool t44)) [] (g1 (nF c43)) (cal (laws_eqRing.ok A45) [] 9999 .n (hf := Try.func73)) rfl rfl ?_
       refine kv (g1 (nF c43)) (not_) ?_
       refine kv g0 (pkF (nF c43)) ?_
       refine kv g0 (mv) ?_
       by_cases c46 : t44 = true
       ·rw [if_pos c46] at H
        refine kv (g1 (nF c46)) (mv) ?_
        refine kv (g1 (nF c46)) (mv) ?_
        refine kv (g1 (nF c46)) (bne) ?_
        refine kv g0 (pkF (nF c46)) ?_
        refine wk_end ?_
        refine ac_next ?_
        refine aw_ifF ?_ (nF (eTb c25))
        refine aw_skip ?_
        refine ac_next ?_
        refine aw_grp1 ?_
        refine wk_start ?_
        refine kv g0 (asg) ?_
        refine wk_end ?_
        refine ac_next ?_
        refine aw_grp1 ?_
        refine wk_start ?_
        refine kv g0 (ldBA 5 [.lit (.int .i64 t17.1), .lit (.int .i64 t17.2.1), .row 12, .lit (.int .i64 t17.2.2.2.1), .lit (.int .i64 t17.2.2.2.2.1)]) ?_
        refine kv g0 (mv) ?_
        obtain ⟨t47, A48, H⟩ := of_bind H
        refine kcS1 106 (.lit (.int .i64 t47.1)) [(12, .row 43 4 (t47.2.map e43))] g0 (cal (laws_markSender.ok A48) [12] 9999 .n (hf := Try.func74)) rfl rfl ?_
        refine kv g0 (asg) ?_
        refine wk_end ?_
        refine ac_next ?_
        refine aw_grp1 ?_
        refine wk_start ?_
        refine kv g0 (ldBA 4 [.row 13, .lit (.int .i64 t17.2.2.2.2.2.2.1), .lit (.int .i64 t17.2.2.2.2.2.2.2.1), .lit (.int .i64 t17.2.2.2.2.2.2.2.2.1)]) ?_
        refine kv g0 (mv) ?_
        obtain ⟨t49, A50, H⟩ := of_bind H
        refine kcS1 109 (.lit (.int .i64 t49.1)) [(13, .row 43 4 (t49.2.map e43))] g0 (cal (laws_markRing.ok A50) [13] 9999 .n (hf := Try.func75)) rfl rfl ?_
        refine kv g0 (asg) ?_
        refine wk_end ?_
        refine ac_next ?_
        refine aw_grp1 ?_
        refine wk_start ?_
        refine kv g0 (asg) ?_
        refine wk_end ?_
        refine ac_next ?_
        refine aw_grp1 ?_
        refine wk_start ?_
        refine kv g0 (ldBA 5 [.lit (.int .i64 t17.1), .lit (.int .i64 t17.2.1), .row 12, .lit (.int .i64 t17.2.2.2.1), .lit (.int .i64 t17.2.2.2.2.1)]) ?_
        refine kv g0 (mv) ?_
        obtain ⟨t51, A52, H⟩ := of_bind H
        refine kcS0 112 (.lit (.int .i64 t51)) [] g0 (cal (laws_heldSender.ok A52) [] 9999 .n (hf := Try.func76)) rfl rfl ?_
        refine kv g0 (asg) ?_
        refine wk_end ?_
        refine ac_next ?_
        refine aw_grp1 ?_
        refine aw_grp1 ?_
        refine wk_start ?_
        refine kv g0 (mv) ?_
        refine kv g0 (lss) ?_
        refine wk_end ?_
        refine ac_next ?_
        by_cases c53 : t51 < 0
        ·rw [if_pos c53] at H
         refine aw_ifT ?_ (decide_eq_true c53)
         refine aw_grp1 ?_
         refine wk_start ?_
         refine kv g0 (asg) ?_
         refine wk_end ?_
         refine ac_next ?_
         refine aw_ret ?_
         refine ac_thenR ?_
         obtain rfl := Option.some.inj H
         exact acr hE [.tmp 6] (.tmp .nil) (.one _) [] 9999
        rw [if_neg c53] at H
        refine aw_ifF ?_ (decide_eq_false c53)
        refine aw_skip ?_
        refine ac_next ?_
        refine aw_grp1 ?_
        refine wk_start ?_
        refine kv g0 (ldBA 4 [.row 13, .lit (.int .i64 t17.2.2.2.2.2.2.1), .lit (.int .i64 t17.2.2.2.2.2.2.2.1), .lit (.int .i64 t17.2.2.2.2.2.2.2.2.1)]) ?_
        refine kv g0 (mv) ?_
        obtain ⟨t54, A55, H⟩ := of_bind H
        refine kcS0 117 (.lit (.int .i64 t54)) [] g0 (cal (laws_heldRing.ok A55) [] 9999 .n (hf := Try.func77)) rfl rfl ?_
        refine kv g0 (asg) ?_
        refine wk_end ?_
        refine ac_next ?_
        refine aw_grp1 ?_
        refine aw_grp1 ?_
        refine wk_start ?_
        refine kv g0 (mv) ?_
        refine kv g0 (lss) ?_
        refine wk_end ?_
        refine ac_next ?_
        by_cases c56 : t54 < 0
        ·rw [if_pos c56] at H
         refine aw_ifT ?_ (decide_eq_true c56)
         refine aw_grp1 ?_
         refine wk_start ?_
         refine kv g0 (asg) ?_
         refine wk_end ?_
         refine ac_next ?_
         refine aw_ret ?_
         refine ac_thenR ?_
         obtain rfl := Option.some.inj H
         exact acr hE [.tmp 6] (.tmp .nil) (.one _) [] 9999
        rw [if_neg c56] at H
        refine aw_ifF ?_ (decide_eq_false c56)
        refine aw_skip ?_
        refine ac_next ?_
        refine aw_grp1 ?_
        refine aw_grp1 ?_
        refine wk_start ?_
        refine kv g0 (mv) ?_
        refine kv g0 (mv) ?_
        refine kv g0 (neq) ?_
        refine wk_end ?_
        refine ac_next ?_
        by_cases c57 : t54 = t49.1
        ·rw [if_pos c57] at H
         refine aw_ifF ?_ (eM c57)
         refine aw_skip ?_
         refine ac_next ?_
         refine aw_grp1 ?_
         refine wk_start ?_
         refine kv g0 (ldBA 5 [.lit (.int .i64 a0_0), .lit (.int .i64 a0_1), .sl .o 4 (l0_2.map e178), .lit (.int .i64 a0_3), .lit (.int .i64 a0_4)]) ?_
         obtain ⟨t58, A59, H⟩ := of_bind H
         refine kcS1 125 (.agg [.lit (.int .i64 t58.1), .lit (.int .i64 t58.2.1), .row 18, .lit (.int .i64 t58.2.2.2.1), .lit (.int .i64 t58.2.2.2.2)]) [(18, .row 43 4 (t58.2.2.1.map e43))] g0 (cal (laws_toSender.ok A59) [18] 9999 .n (hf := Try.func70)) rfl rfl ?_
         refine kv g0 (ldBA 4 [.sl .o 4 (l1_0.map e178), .lit (.int .i64 a1_1), .lit (.int .i64 a1_2), .lit (.int .i64 a1_3)]) ?_
         obtain ⟨t60, A61, H⟩ := of_bind H
         refine kcS1 127 (.agg [.row 19, .lit (.int .i64 t60.2.1), .lit (.int .i64 t60.2.2.1), .lit (.int .i64 t60.2.2.2)]) [(19, .row 43 4 (t60.1.map e43))] g0 (cal (laws_toRing.ok A61) [19] 9999 .n (hf := Try.func71)) rfl rfl ?_
         refine kv g0 (mv) ?_
         obtain ⟨t62, A63, H⟩ := of_bind H
         refine kcS2 129 (.tup [.agg [.lit (.int .i64 t62.1), .lit (.int .i64 t62.2.1), .row 20, .lit (.int .i64 t62.2.2.2.1), .lit (.int .i64 t62.2.2.2.2.1)], .agg [.row 21, .lit (.int .i64 t62.2.2.2.2.2.2.1), .lit (.int .i64 t62.2.2.2.2.2.2.2.1), .lit (.int .i64 t62.2.2.2.2.2.2.2.2.1)], .lit (.bool t62.2.2.2.2.2.2.2.2.2)]) [(20, .row 43 4 (t62.2.2.1.map e43)), (21, .row 43 4 (t62.2.2.2.2.2.1.map e43))] g0 (cal (impl_Taken.ok A63) [20, 21] 9999 .n (hf := Try.func48)) rfl rfl ?_
         refine kv g0 (mv) ?_
         refine kv g0 (ext) ?_
         refine kv g0 (ext) ?_
         refine kv g0 (ext) ?_
         refine kb g0 (alc 22 [.int .i64 0, .int .i64 0, .slice none 0 0, .int .i64 0, .int .i64 0] [.lit (.int .i64 0), .lit (.int .i64 0), .lit (.slice none 0 0), .lit (.int .i64 0), .lit (.int .i64 0)]) ?_
         refine kb g0 (alc 23 [.slice none 0 0, .int .i64 0, .int .i64 0, .int .i64 0] [.lit (.slice none 0 0), .lit (.int .i64 0), .lit (.int .i64 0), .lit (.int .i64 0)]) ?_
         refine ks g0 (stB 5 [.lit (.int .i64 t62.1), .lit (.int .i64 t62.2.1), .row 20, .lit (.int .i64 t62.2.2.2.1), .lit (.int .i64 t62.2.2.2.2.1)]) ?_
         refine ks g0 (stB 4 [.row 21, .lit (.int .i64 t62.2.2.2.2.2.2.1), .lit (.int .i64 t62.2.2.2.2.2.2.2.1), .lit (.int .i64 t62.2.2.2.2.2.2.2.2.1)]) ?_
         refine kv g0 (asg) ?_
         refine wk_end_draw hM (by kernel_rfl) ?_
         refine ac_next ?_
         refine aw_grp1 ?_
         refine aw_grp1 ?_
         refine wk_start ?_
         refine kv g0 (ldBA 5 [.lit (.int .i64 t62.1), .lit (.int .i64 t62.2.1), .row 20, .lit (.int .i64 t62.2.2.2.1), .lit (.int .i64 t62.2.2.2.2.1)]) ?_
         refine kv g0 (ldBA 5 [.lit (.int .i64 t11.1), .lit (.int .i64 t11.2.1), .row 4, .lit (.int .i64 t11.2.2.2.1), .lit (.int .i64 t11.2.2.2.2.1)]) ?_
         obtain ⟨t64, A65, H⟩ := of_bind H
         refine kcS0 135 (.lit (.bool t64)) [] g0 (cal (laws_eqSender.ok A65) [] 9999 .n (hf := Try.func72)) rfl rfl ?_
         refine kv g0 (not_) ?_
         refine kv g0 (mv) ?_
         by_cases c66 : t64 = true
         ·rw [if_pos c66] at H
          refine kv (g1 (nF c66)) (ldBA 4 [.row 21, .lit (.int .i64 t62.2.2.2.2.2.2.1), .lit (.int .i64 t62.2.2.2.2.2.2.2.1), .lit (.int .i64 t62.2.2.2.2.2.2.2.2.1)]) ?_
          refine kv (g1 (nF c66)) (ldBA 4 [.row 5, .lit (.int .i64 t11.2.2.2.2.2.2.1), .lit (.int .i64 t11.2.2.2.2.2.2.2.1), .lit (.int .i64 t11.2.2.2.2.2.2.2.2.1)]) ?_
          obtain ⟨t67, A68, H⟩ := of_bind H
          refine kcS0 140 (.lit (.bool t67)) [] (g1 (nF c66)) (cal (laws_eqRing.ok A68) [] 9999 .n (hf := Try.func73)) rfl rfl ?_
          refine kv (g1 (nF c66)) (not_) ?_
          refine kv g0 (pkF (nF c66)) ?_
          refine kv g0 (mv) ?_
          by_cases c69 : t67 = true
          ·rw [if_pos c69] at H
           refine kv (g1 (nF c69)) (mv) ?_
           refine kv (g1 (nF c69)) (mv) ?_
           refine kv (g1 (nF c69)) (bne) ?_
           refine kv g0 (pkF (nF c69)) ?_
           refine wk_end ?_
           refine ac_next ?_
           by_cases c70 : t62.2.2.2.2.2.2.2.2.2 = t11.2.2.2.2.2.2.2.2.2
           ·rw [if_pos c70] at H
            refine aw_ifF ?_ (nF (eTb c70))
            refine aw_skip ?_
            refine ac_next ?_
            refine aw_grp1 ?_
            refine wk_start ?_
            refine kv g0 (asg) ?_
            refine wk_end ?_
            refine ac_next ?_
            refine aw_grp1 ?_
            refine wk_start ?_
            refine kv g0 (ldBA 5 [.lit (.int .i64 t17.1), .lit (.int .i64 t17.2.1), .row 12, .lit (.int .i64 t17.2.2.2.1), .lit (.int .i64 t17.2.2.2.2.1)]) ?_
            refine kv g0 (mv) ?_
            obtain ⟨t71, A72, H⟩ := of_bind H
            refine kcS0 150 (.lit (.int .i64 t71)) [] g0 (cal (laws_heldSender.ok A72) [] 9999 .n (hf := Try.func76)) rfl rfl ?_
            refine kv g0 (asg) ?_
            refine wk_end ?_
            refine ac_next ?_
            refine aw_grp1 ?_
            refine aw_grp1 ?_
            refine wk_start ?_
            refine kv g0 (mv) ?_
            refine kv g0 (lss) ?_
            refine wk_end ?_
            refine ac_next ?_
            by_cases c73 : t71 < 0
            ·rw [if_pos c73] at H
             refine aw_ifT ?_ (decide_eq_true c73)
             refine aw_grp1 ?_
             refine wk_start ?_
             refine kv g0 (asg) ?_
             refine wk_end ?_
             refine ac_next ?_
             refine aw_ret ?_
             refine ac_thenR ?_
             obtain rfl := Option.some.inj H
             exact acr hE [.tmp 6] (.tmp .nil) (.one _) [] 9999
            rw [if_neg c73] at H
            refine aw_ifF ?_ (decide_eq_false c73)
            refine aw_skip ?_
            refine ac_next ?_
            refine aw_grp1 ?_
            refine wk_start ?_
            refine kv g0 (ldBA 4 [.row 13, .lit (.int .i64 t17.2.2.2.2.2.2.1), .lit (.int .i64 t17.2.2.2.2.2.2.2.1), .lit (.int .i64 t17.2.2.2.2.2.2.2.2.1)]) ?_
            refine kv g0 (mv) ?_
            obtain ⟨t74, A75, H⟩ := of_bind H
            refine kcS0 155 (.lit (.int .i64 t74)) [] g0 (cal (laws_heldRing.ok A75) [] 9999 .n (hf := Try.func77)) rfl rfl ?_
            refine kv g0 (asg) ?_
            refine wk_end ?_
            refine ac_next ?_
            refine aw_grp1 ?_
            refine aw_grp1 ?_
            refine wk_start ?_
            refine kv g0 (mv) ?_
            refine kv g0 (lss) ?_
            refine wk_end ?_
            refine ac_next ?_
            by_cases c76 : t74 < 0
            ·rw [if_pos c76] at H
             refine aw_ifT ?_ (decide_eq_true c76)
             refine aw_grp1 ?_
             refine wk_start ?_
             refine kv g0 (asg) ?_
             refine wk_end ?_
             refine ac_next ?_
             refine aw_ret ?_
             refine ac_thenR ?_
             obtain rfl := Option.some.inj H
             exact acr hE [.tmp 6] (.tmp .nil) (.one _) [] 9999
            rw [if_neg c76] at H
            refine aw_ifF ?_ (decide_eq_false c76)
            refine aw_skip ?_
            refine ac_next ?_
            refine aw_grp1 ?_
            refine aw_grp1 ?_
            refine wk_start ?_
            refine kv g0 (mv) ?_
            refine kv g0 (mv) ?_
            refine kv g0 (neq) ?_
            refine wk_end ?_
            refine ac_next ?_
            by_cases c77 : t74 = t49.1
            ·rw [if_pos c77] at H
             refine aw_ifF ?_ (eM c77)
             refine aw_skip ?_
             refine ac_next ?_
             refine aw_grp1 ?_
             refine wk_start ?_
             refine kv g0 (asg) ?_
             refine wk_end ?_
             refine ac_next ?_
             refine aw_ret ?_
             obtain rfl := Option.some.inj H
             exact acr hE [.tmp 6] (.tmp .nil) (.one _) [] 9999
            rw [if_neg c77] at H
            refine aw_ifT ?_ (eN c77)
            refine aw_grp1 ?_
            refine wk_start ?_
            refine kv g0 (asg) ?_
            refine wk_end ?_
            refine ac_next ?_
            refine aw_ret ?_
            refine ac_thenR ?_
            obtain rfl := Option.some.inj H
            exact acr hE [.tmp 6] (.tmp .nil) (.one _) [] 9999
           rw [if_neg c70] at H
           refine aw_ifT ?_ (nT (eFb c70))
           refine aw_grp1 ?_
           refine wk_start ?_
           refine kv g0 (asg) ?_
           refine wk_end ?_
           refine ac_next ?_
           refine aw_ret ?_
           refine ac_thenR ?_
           obtain rfl := Option.some.inj H
           exact acr hE [.tmp 6] (.tmp .nil) (.one _) [] 9999
          rw [if_neg c69] at H
          refine kx (hF (nT (bF c69))) ?_
          refine kx (hF (nT (bF c69))) ?_
          refine kx (hF (nT (bF c69))) ?_
          refine kv g0 (pkT (nT (bF c69))) ?_
          refine wk_end ?_
          refine ac_next ?_
          refine aw_ifT ?_ rfl
          refine aw_grp1 ?_
          refine wk_start ?_
          refine kv g0 (asg) ?_
          refine wk_end ?_
          refine ac_next ?_
          refine aw_ret ?_
          refine ac_thenR ?_
          obtain rfl := Option.some.inj H
          exact acr hE [.tmp 6] (.tmp .nil) (.one _) [] 9999
         rw [if_neg c66] at H
         refine kx (hF (nT (bF c66))) ?_
         refine kx (hF (nT (bF c66))) ?_
         refine kx (hF (nT (bF c66))) ?_
         refine kx (hF (nT (bF c66))) ?_
         refine kv g0 (pkT (nT (bF c66))) ?_
         refine kv g0 (mv) ?_
         refine kx (hF rfl) ?_
         refine kx (hF rfl) ?_
         refine kx (hF rfl) ?_
         refine kv g0 (pkT rfl) ?_
         refine wk_end ?_
         refine ac_next ?_
         refine aw_ifT ?_ rfl
         refine aw_grp1 ?_
         refine wk_start ?_
         refine kv g0 (asg) ?_
         refine wk_end ?_
         refine ac_next ?_
         refine aw_ret ?_
         refine ac_thenR ?_
         obtain rfl := Option.some.inj H
         exact acr hE [.tmp 6] (.tmp .nil) (.one _) [] 9999
        rw [if_neg c57] at H
        refine aw_ifT ?_ (eN c57)
        refine aw_grp1 ?_
        refine wk_start ?_
        refine kv g0 (asg) ?_
        refine wk_end ?_
        refine ac_next ?_
        refine aw_ret ?_
        refine ac_thenR ?_
        obtain rfl := Option.some.inj H
        exact acr hE [.tmp 6] (.tmp .nil) (.one _) [] 9999
       rw [if_neg c46] at H
       refine kx (hF (nT (bF c46))) ?_
       refine kx (hF (nT (bF c46))) ?_
       refine kx (hF (nT (bF c46))) ?_
       refine kv g0 (pkT (nT (bF c46))) ?_
       refine wk_end ?_
       refine ac_next ?_
       refine aw_ifT ?_ rfl
       refine aw_grp1 ?_
       refine wk_start ?_
       refine kv g0 (asg) ?_
       refine wk_end ?_
       refine ac_next ?_
       refine aw_ret ?_
       refine ac_thenR ?_
       obtain rfl := Option.some.inj H
       exact acr hE [.tmp 6] (.tmp .nil) (.one _) [] 9999
      rw [if_neg c43] at H
      refine kx (hF (nT (bF c43))) ?_
      refine kx (hF (nT (bF c43))) ?_
      refine kx (hF (nT (bF c43))) ?_
      refine kx (hF (nT (bF c43))) ?_
      refine kv g0 (pkT (nT (bF c43))) ?_
      refine kv g0 (mv) ?_
      refine kx (hF rfl) ?_
      refine kx (hF rfl) ?_
      refine kx (hF rfl) ?_
      refine kv g0 (pkT rfl) ?_
      refine wk_end ?_
      refine ac_next ?_
      refine aw_ifT ?_ rfl
      refine aw_grp1 ?_
      refine wk_start ?_
      refine kv g0 (asg) ?_
      refine wk_end ?_
      refine ac_next ?_
      refine aw_ret ?_
      refine ac_thenR ?_
      obtain rfl := Option.some.inj H
      exact acr hE [.tmp 6] (.tmp .nil) (.one _) [] 9999
     rw [if_neg c35] at H
     refine aw_ifT ?_ (nT (bF c35))
     refine aw_grp1 ?_
     refine wk_start ?_
     refine kv g0 (asg) ?_
     refine wk_end ?_
     refine ac_next ?_
     refine aw_ret ?_
     refine ac_thenR ?_
     obtain rfl := Option.some.inj H
     exact acr hE [.tmp 6] (.tmp .nil) (.one _) [] 9999
    rw [if_neg c30] at H
    refine aw_ifT ?_ (nT (bF c30))
    refine aw_grp1 ?_
    refine wk_start ?_
    refine kv g0 (asg) ?_
    refine wk_end ?_
    refine ac_next ?_
    refine aw_ret ?_
    refine ac_thenR ?_
    obtain rfl := Option.some.inj H
    exact acr hE [.tmp 6] (.tmp .nil) (.one _) [] 9999
   rw [if_neg c25] at H
   refine aw_ifT ?_ (nT (eFb c25))
   refine aw_grp1 ?_
   refine wk_start ?_
   refine kv g0 (asg) ?_
   refine wk_end ?_
   refine ac_next ?_
   refine aw_ret ?_
   refine ac_thenR ?_
   obtain rfl := Option.some.inj H
   exact acr hE [.tmp 6] (.tmp .nil) (.one _) [] 9999
  rw [if_neg c24] at H
  refine kx (hF (nT (bF c24))) ?_
  refine kx (hF (nT (bF c24))) ?_
  refine kx (hF (nT (bF c24))) ?_
  refine kv g0 (pkT (nT (bF c24))) ?_
  refine wk_end ?_
  refine ac_next ?_
  refine aw_ifT ?_ rfl
  refine aw_grp1 ?_
  refine wk_start ?_
  refine kv g0 (asg) ?_
  refine wk_end ?_
  refine ac_next ?_
  refine aw_ret ?_
  refine ac_thenR ?_
  obtain rfl := Option.some.inj H
  exact acr hE [.tmp 6] (.tmp .nil) (.one _) [] 9999
 rw [if_neg c21] at H
 refine kx (hF (nT (bF c21))) ?_
 refine kx (hF (nT (bF c21))) ?_
 refine kx (hF (nT (bF c21))) ?_
 refine kx (hF (nT (bF c21))) ?_
 refine kv g0 (pkT (nT (bF c21))) ?_
 refine kv g0 (mv) ?_
 refine kx (hF rfl) ?_
 refine kx (hF rfl) ?_
 refine kx (hF rfl) ?_
 refine kv g0 (pkT rfl) ?_
 refine wk_end ?_
 refine ac_next ?_
 refine aw_ifT ?_ rfl
 refine aw_grp1 ?_
 refine wk_start ?_
 refine kv g0 (asg) ?_
 refine wk_end ?_
 refine ac_next ?_
 refine aw_ret ?_
 refine ac_thenR ?_
 obtain rfl := Option.some.inj H
 exact acr hE [.tmp 6] (.tmp .nil) (.one _) [] 9999
end Go.Proofs.Ytbapmfjdnnajiaa.PFnExactTaken
