import Derived.Test.YtbapmfjdnnajiaaPFnExactKeeperOkx1
set_option linter.unusedVariables false
set_option linter.unusedSimpArgs false
set_option maxRecDepth 100000
namespace Go.Proofs.Ytbapmfjdnnajiaa.PFnExactKeeperOk
open Go Go.RowKit Go.Proofs.YtbapmfjdnnajiaaA
/-! laws_eqItem -/
def laws_eqItem.f (a0_0 : Int) (a0_1 : Int) (a0_2 : Int) (a0_3 : Int) (a1_0 : Int) (a1_1 : Int) (a1_2 : Int) (a1_3 : Int) : Option (Bool) := if a0_0 = a1_0 then if a0_1 = a1_1 then if a0_2 = a1_2 then if a0_3 = a1_3 then some true else some false else some false else some false else some false
theorem laws_eqItem.ok {a0_0 : Int} {a0_1 : Int} {a0_2 : Int} {a0_3 : Int} {a1_0 : Int} {a1_1 : Int} {a1_2 : Int} {a1_3 : Int} {r : Bool} (H : laws_eqItem.f a0_0 a0_1 a0_2 a0_3 a1_0 a1_1 a1_2 a1_3 = some r) : ACalls Try.prog 185 [] [.agg [.lit (.int .i64 a0_0), .lit (.int .i64 a0_1), .lit (.int .i64 a0_2), .lit (.int .i64 a0_3)], .agg [.lit (.int .i64 a1_0), .lit (.int .i64 a1_1), .lit (.int .i64 a1_2), .lit (.int .i64 a1_3)]] [] (.lit (.bool r)) := by
 refine acalls (fn := Try.f185) (nt := 25) Try.func185 rfl rfl (Nat.le_of_ble_eq_true rfl) fun E hE => ?_
 rw [laws_eqItem.f] at H
 refine aw_grp1 ?_
 refine wk_start ?_
 refine kb g0 (bxA 0) ?_
 refine kb g0 (bxA 1) ?_
 refine kv g0 (asg) ?_
 refine wk_end ?_
 refine ac_next ?_
 refine aw_grp1 ?_
 refine aw_grp1 ?_
 refine wk_start ?_
 refine kv g0 (faB 0 0) ?_
 refine kv g0 (ldB) ?_
 refine kv g0 (faB 0 0) ?_
 refine kv g0 (ldB) ?_
 refine kv g0 (neq) ?_
 refine wk_end ?_
 refine ac_next ?_
 by_cases c1 : a0_0 = a1_0
 ·rw [if_pos c1] at H
  refine aw_ifF ?_ (eM c1)
  refine aw_skip ?_
  refine ac_next ?_
  refine aw_grp1 ?_
  refine aw_grp1 ?_
  refine wk_start ?_
  refine kv g0 (faB 1 1) ?_
  refine kv g0 (ldB) ?_
  refine kv g0 (faB 1 1) ?_
  refine kv g0 (ldB) ?_
  refine kv g0 (neq) ?_
  refine wk_end ?_
  refine ac_next ?_
  by_cases c2 : a0_1 = a1_1
  ·rw [if_pos c2] at H
   refine aw_ifF ?_ (eM c2)
   refine aw_skip ?_
   refine ac_next ?_
   refine aw_grp1 ?_
   refine aw_grp1 ?_
   refine wk_start ?_
   refine kv g0 (faB 2 2) ?_
   refine kv g0 (ldB) ?_
   refine kv g0 (faB 2 2) ?_
   refine kv g0 (ldB) ?_
   refine kv g0 (neq) ?_
   refine wk_end ?_
   refine ac_next ?_
   by_cases c3 : a0_2 = a1_2
   ·rw [if_pos c3] at H
    refine aw_ifF ?_ (eM c3)
    refine aw_skip ?_
    refine ac_next ?_
    refine aw_grp1 ?_
    refine aw_grp1 ?_
    refine wk_start ?_
    refine kv g0 (faB 3 3) ?_
    refine kv g0 (ldB) ?_
    refine kv g0 (faB 3 3) ?_
    refine kv g0 (ldB) ?_
    refine kv g0 (neq) ?_
    refine wk_end ?_
    refine ac_next ?_
    by_cases c4 : a0_3 = a1_3
    ·rw [if_pos c4] at H
     refine aw_ifF ?_ (eM c4)
     refine aw_skip ?_
     refine ac_next ?_
     refine aw_grp1 ?_
     refine wk_start ?_
     refine kv g0 (asg) ?_
     refine wk_end ?_
     refine ac_next ?_
     refine aw_ret ?_
     obtain rfl := Option.some.inj H
     exact acr hE [.tmp 4] (.tmp .nil) (.one _) [] 9999
    rw [if_neg c4] at H
    refine aw_ifT ?_ (eN c4)
    refine aw_grp1 ?_
    refine wk_start ?_
    refine kv g0 (asg) ?_
    refine wk_end ?_
    refine ac_next ?_
    refine aw_ret ?_
    refine ac_thenR ?_
    obtain rfl := Option.some.inj H
    exact acr hE [.tmp 4] (.tmp .nil) (.one _) [] 9999
   rw [if_neg c3] at H
   refine aw_ifT ?_ (eN c3)
   refine aw_grp1 ?_
   refine wk_start ?_
   refine kv g0 (asg) ?_
   refine wk_end ?_
   refine ac_next ?_
   refine aw_ret ?_
   refine ac_thenR ?_
   obtain rfl := Option.some.inj H
   exact acr hE [.tmp 4] (.tmp .nil) (.one _) [] 9999
  rw [if_neg c2] at H
  refine aw_ifT ?_ (eN c2)
  refine aw_grp1 ?_
  refine wk_start ?_
  refine kv g0 (asg) ?_
  refine wk_end ?_
  refine ac_next ?_
  refine aw_ret ?_
  refine ac_thenR ?_
  obtain rfl := Option.some.inj H
  exact acr hE [.tmp 4] (.tmp .nil) (.one _) [] 9999
 rw [if_neg c1] at H
 refine aw_ifT ?_ (eN c1)
 refine aw_grp1 ?_
 refine wk_start ?_
 refine kv g0 (asg) ?_
 refine wk_end ?_
 refine ac_next ?_
 refine aw_ret ?_
 refine ac_thenR ?_
 obtain rfl := Option.some.inj H
 exact acr hE [.tmp 4] (.tmp .nil) (.one _) [] 9999
/-! laws_eqEntry -/
def laws_eqEntry.f (a0_0 : Int) (a0_1 : Int) (a0_2 : Int) (a0_3 : Int) (a0_4 : Int) (a0_5 : Int) (a1_0 : Int) (a1_1 : Int) (a1_2 : Int) (a1_3 : Int) (a1_4 : Int) (a1_5 : Int) : Option (Bool) := if a0_0 = a1_0 then if a0_1 = a1_1 then (laws_eqItem.f a0_2 a0_3 a0_4 a0_5 a1_2 a1_3 a1_4 a1_5).bind fun t3 => if t3 = true then some true else some false else some false else some false
theorem laws_eqEntry.ok {a0_0 : Int} {a0_1 : Int} {a0_2 : Int} {a0_3 : Int} {a0_4 : Int} {a0_5 : Int} {a1_0 : Int} {a1_1 : Int} {a1_2 : Int} {a1_3 : Int} {a1_4 : Int} {a1_5 : Int} {r : Bool} (H : laws_eqEntry.f a0_0 a0_1 a0_2 a0_3 a0_4 a0_5 a1_0 a1_1 a1_2 a1_3 a1_4 a1_5 = some r) : ACalls Try.prog 162 [] [.agg [.lit (.int .i64 a0_0), .lit (.int .i64 a0_1), .lit (.int .i64 a0_2), .lit (.int .i64 a0_3), .lit (.int .i64 a0_4), .lit (.int .i64 a0_5)], .agg [.lit (.int .i64 a1_0), .lit (.int .i64 a1_1), .lit (.int .i64 a1_2), .lit (.int .i64 a1_3), .lit (.int .i64 a1_4), .lit (.int .i64 a1_5)]] [] (.lit (.bool r)) := by
 refine acalls (fn := Try.f162) (nt := 21) Try.func162 rfl rfl (Nat.le_of_ble_eq_true rfl) fun E hE => ?_
 rw [laws_eqEntry.f] at H
 refine aw_grp1 ?_
 refine wk_start ?_
 refine kb g0 (bxA 0) ?_
 refine kb g0 (bxA 1) ?_
 refine kv g0 (asg) ?_
 refine wk_end ?_
 refine ac_next ?_
 refine aw_grp1 ?_
 refine aw_grp1 ?_
 refine wk_start ?_
 refine kv g0 (faB 0 0) ?_
 refine kv g0 (ldB) ?_
 refine kv g0 (faB 0 0) ?_
 refine kv g0 (ldB) ?_
 refine kv g0 (neq) ?_
 refine wk_end ?_
 refine ac_next ?_
 by_cases c1 : a0_0 = a1_0
 ·rw [if_pos c1] at H
  refine aw_ifF ?_ (eM c1)
  refine aw_skip ?_
  refine ac_next ?_
  refine aw_grp1 ?_
  refine aw_grp1 ?_
  refine wk_start ?_
  refine kv g0 (faB 1 1) ?_
  refine kv g0 (ldB) ?_
  refine kv g0 (faB 1 1) ?_
  refine kv g0 (ldB) ?_
  refine kv g0 (neq) ?_
  refine wk_end ?_
  refine ac_next ?_
  by_cases c2 : a0_1 = a1_1
  ·rw [if_pos c2] at H
   refine aw_ifF ?_ (eM c2)
   refine aw_skip ?_
   refine ac_next ?_
   refine aw_grp1 ?_
   refine aw_grp1 ?_
   refine wk_start ?_
   refine kv g0 (faB 2 2) ?_
   refine kv g0 (ldBA 4 [.lit (.int .i64 a0_2), .lit (.int .i64 a0_3), .lit (.int .i64 a0_4), .lit (.int .i64 a0_5)]) ?_
   refine kv g0 (faB 2 2) ?_
   refine kv g0 (ldBA 4 [.lit (.int .i64 a1_2), .lit (.int .i64 a1_3), .lit (.int .i64 a1_4), .lit (.int .i64 a1_5)]) ?_
   obtain ⟨t3, A4, H⟩ := of_bind H
   refine kcS0 19 (.lit (.bool t3)) [] g0 (cal (laws_eqItem.ok A4) [] 9999 .n (hf := Try.func185)) rfl rfl ?_
   refine kv g0 (not_) ?_
   refine wk_end ?_
   refine ac_next ?_
   by_cases c5 : t3 = true
   ·rw [if_pos c5] at H
    refine aw_ifF ?_ (nF c5)
    refine aw_skip ?_
    refine ac_next ?_
    refine aw_grp1 ?_
    refine wk_start ?_
    refine kv g0 (asg) ?_
    refine wk_end ?_
    refine ac_next ?_
    refine aw_ret ?_
    obtain rfl := Option.some.inj H
    exact acr hE [.tmp 4] (.tmp .nil) (.one _) [] 9999
   rw [if_neg c5] at H
   refine aw_ifT ?_ (nT (bF c5))
   refine aw_grp1 ?_
   refine wk_start ?_
   refine kv g0 (asg) ?_
   refine wk_end ?_
   refine ac_next ?_
   refine aw_ret ?_
   refine ac_thenR ?_
   obtain rfl := Option.some.inj H
   exact acr hE [.tmp 4] (.tmp .nil) (.one _) [] 9999
  rw [if_neg c2] at H
  refine aw_ifT ?_ (eN c2)
  refine aw_grp1 ?_
  refine wk_start ?_
  refine kv g0 (asg) ?_
  refine wk_end ?_
  refine ac_next ?_
  refine aw_ret ?_
  refine ac_thenR ?_
  obtain rfl := Option.some.inj H
  exact acr hE [.tmp 4] (.tmp .nil) (.one _) [] 9999
 rw [if_neg c1] at H
 refine aw_ifT ?_ (eN c1)
 refine aw_grp1 ?_
 refine wk_start ?_
 refine kv g0 (asg) ?_
 refine wk_end ?_
 refine ac_next ?_
 refine aw_ret ?_
 refine ac_thenR ?_
 obtain rfl := Option.some.inj H
 exact acr hE [.tmp 4] (.tmp .nil) (.one _) [] 9999
/-! laws_eqEntryS -/
def laws_eqEntryS.l0 : Nat → (List S130) → (List S130) → Int → Option (Bool)
 | 0, _, _, _ => none
 | k9 + 1, l0, l1, p8 => if p8 < (l0.length : Int) then if 0 ≤ p8 then (if p8 < (l1.length : Int) then ((laws_eqEntry.f ((rd_T130 l0 p8).f0) ((rd_T130 l0 p8).f1) ((rd_T130 l0 p8).f2.f0) ((rd_T130 l0 p8).f2.f1) ((rd_T130 l0 p8).f2.f2) ((rd_T130 l0 p8).f2.f3) ((rd_T130 l1 p8).f0) ((rd_T130 l1 p8).f1) ((rd_T130 l1 p8).f2.f0) ((rd_T130 l1 p8).f2.f1) ((rd_T130 l1 p8).f2.f2) ((rd_T130 l1 p8).f2.f3)).bind fun t13 => if t13 = true then laws_eqEntryS.l0 k9 l0 l1 (wrap64 (p8 + 1)) else some false) else none) else none else some true
def laws_eqEntryS.f (k : Nat) (l0 : List S130) (l1 : List S130) : Option (Bool) := if (l0.length : Int) = (l1.length : Int) then laws_eqEntryS.l0 k l0 l1 0 else some false
theorem laws_eqEntryS.ok {k : Nat} {l0 : List S130} {l1 : List S130} {r : Bool} (H : laws_eqEntryS.f k l0 l1 = some r) : ACalls Try.prog 92 [] [.sl .o 6 (l0.map e130), .sl .o 6 (l1.map e130)] [] (.lit (.bool r)) := by
 refine acalls (fn := Try.f92) (nt := 27) Try.func92 rfl rfl (Nat.le_of_ble_eq_true rfl) fun E hE => ?_
 rw [laws_eqEntryS.f] at H
 refine aw_grp1 ?_
 refine wk_start ?_
 refine kv g0 (asg) ?_
 refine wk_end ?_
 refine ac_next ?_
 refine aw_grp1 ?_
 refine aw_grp1 ?_
 refine wk_start ?_
 refine kv g0 (mv) ?_
 refine kv g0 (lnS lenE) ?_
 refine kv g0 (mv) ?_
 refine kv g0 (lnS lenE) ?_
 refine kv g0 (neq) ?_
 refine wk_end ?_
 refine ac_next ?_
 by_cases c1 : (l0.length : Int) = (l1.length : Int)
 ·rw [if_pos c1] at H
  refine aw_ifF ?_ (eM c1)
  refine aw_skip ?_
  refine ac_next ?_
  refine aw_grp1 ?_
  refine aw_grp1 ?_
  refine wk_start ?_
  refine kv g0 (asg) ?_
  refine wk_end ?_
  refine ac_next ?_
  refine aw_block ?_
  refine aw_loop1 (fun (k_ : Nat) (p8 : Int) => laws_eqEntryS.l0 k_ l0 l1 p8 = some r) (fun (p8 : Int) => ⟨[(0, .sl .o 6 (l0.map e130)), (1, .sl .o 6 (l1.map e130)), (5, .lit (.int .i64 p8))], []⟩) k 0 H (fun K_ h_ => acw hE [] 9999 h_) (fun _ => by intro h_; rw [laws_eqEntryS.l0.eq_1] at h_; cases h_) ?_
  intro k9 p8 H K16 hK17
  rw [laws_eqEntryS.l0.eq_2] at H
  refine aw_grp1 ?_
  refine aw_grp1 ?_
  refine wk_start ?_
  refine kv g0 (mv) ?_
  refine kv g0 (mv) ?_
  refine kv g0 (lnS lenE) ?_
  refine kv g0 (lss) ?_
  refine wk_end ?_
  refine ac_next ?_
  by_cases c10 : p8 < (l0.length : Int)
  ·rw [if_pos c10] at H
   refine aw_ifT ?_ (decide_eq_true c10)
   refine aw_skip ?_
   refine ac_next ?_
   refine aw_grp1 ?_
   refine aw_block ?_
   refine aw_grp1 ?_
   refine wk_start ?_
   refine kv g0 (mv) ?_
   refine kv g0 (mv) ?_
   obtain ⟨c11, H⟩ := of_if H
   refine kv g0 (ixS 130 (e130 (rd_T130 l0 p8)) c11 (getE (z := z130) c11 c10)) ?_
   refine kv g0 (ldRA 6 [.lit (.int .i64 ((rd_T130 l0 p8).f0)), .lit (.int .i64 ((rd_T130 l0 p8).f1)), .lit (.int .i64 ((rd_T130 l0 p8).f2.f0)), .lit (.int .i64 ((rd_T130 l0 p8).f2.f1)), .lit (.int .i64 ((rd_T130 l0 p8).f2.f2)), .lit (.int .i64 ((rd_T130 l0 p8).f2.f3))]) ?_
   refine kv g0 (mv) ?_
   refine kv g0 (mv) ?_
   obtain ⟨c12, H⟩ := of_if H
   refine kv g0 (ixS 130 (e130 (rd_T130 l1 p8)) c11 (getE (z := z130) c11 c12)) ?_
   refine kv g0 (ldRA 6 [.lit (.int .i64 ((rd_T130 l1 p8).f0)), .lit (.int .i64 ((rd_T130 l1 p8).f1)), .lit (.int .i64 ((rd_T130 l1 p8).f2.f0)), .lit (.int .i64 ((rd_T130 l1 p8).f2.f1)), .lit (.int .i64 ((rd_T130 l1 p8).f2.f2)), .lit (.int .i64 ((rd_T130 l1 p8).f2.f3))]) ?_
   obtain ⟨t13, A14, H⟩ := of_bind H
   refine kcS0 25 (.lit (.bool t13)) [] g0 (cal (laws_eqEntry.ok A14) [] 9999 .n (hf := Try.func162)) rfl rfl ?_
   refine kv g0 (not_) ?_
   refine wk_end_draw hM (by kernel_rfl) ?_
   refine ac_next ?_
   by_cases c15 : t13 = true
   ·rw [if_pos c15] at H
    refine aw_ifF ?_ (nF c15)
    refine aw_skip ?_
    refine ac_blkN ?_
    refine ac_next ?_
    refine wk_start ?_
    refine kv g0 (mv) ?_
    refine kv g0 (add6) ?_
    refine kv g0 (asg) ?_
    refine wk_end ?_
    refine ac_k ?_
    exact acw hE [] 9999 (hK17 k9 (wrap64 (p8 + 1)) (Nat.le_refl _) H)
   rw [if_neg c15] at H
   refine aw_ifT ?_ (nT (bF c15))
   refine aw_grp1 ?_
   refine wk_start ?_
   refine kv g0 (asg) ?_
   refine wk_end ?_
   refine ac_next ?_
   refine aw_ret ?_
   refine ac_blkR ?_
   refine ac_thenR ?_
   refine ac_thenR ?_
   refine ac_blkR ?_
   refine ac_thenR ?_
   obtain rfl := Option.some.inj H
   exact acr hE [.tmp 4] (.tmp .nil) (.one _) [] 9999
  rw [if_neg c10] at H
  refine aw_ifF ?_ (decide_eq_false c10)
  refine aw_exit ?_
  refine ac_then ?_
  refine ac_then ?_
  refine ac_hit rfl ?_
  refine ac_next ?_
  refine aw_grp1 ?_
  refine wk_start ?_
  refine kv g0 (asg) ?_
  refine wk_end ?_
  refine ac_next ?_
  refine aw_ret ?_
  obtain rfl := Option.some.inj H
  exact acr hE [.tmp 4] (.tmp .nil) (.one _) [] 9999
 rw [if_neg c1] at H
 refine aw_ifT ?_ (eN c1)
 refine aw_grp1 ?_
 refine wk_start ?_
 refine kv g0 (asg) ?_
 refine wk_end ?_
 refine ac_next ?_
 refine aw_ret ?_
 refine ac_thenR ?_
 obtain rfl := Option.some.inj H
 exact acr hE [.tmp 4] (.tmp .nil) (.one _) [] 9999
/-! laws_eqIntS -/
def laws_eqIntS.l0 : Nat → (List Int) → (List Int) → Int → Option (Bool)
 | 0, _, _, _ => none
 | k7 + 1, l0, l1, p6 => if p6 < (l0.length : Int) then if 0 ≤ p6 then (if p6 < (l1.length : Int) then if (rd l0 p6) = (rd l1 p6) then laws_eqIntS.l0 k7 l0 l1 (wrap64 (p6 + 1)) else some false else none) else none else some true
def laws_eqIntS.f (k : Nat) (l0 : List Int) (l1 : List Int) : Option (Bool) := if (l0.length : Int) = (l1.length : Int) then laws_eqIntS.l0 k l0 l1 0 else some false
theorem laws_eqIntS.ok {k : Nat} {l0 : List Int} {l1 : List Int} {r : Bool} (H : laws_eqIntS.f k l0 l1 = some r) : ACalls Try.prog 93 [] [.sl .o 1 (l0.map (eI .i64)), .sl .o 1 (l1.map (eI .i64))] [] (.lit (.bool r)) := by
 refine acalls (fn := Try.f93) (nt := 26) Try.func93 rfl rfl (Nat.le_of_ble_eq_true rfl) fun E hE => ?_
 rw [laws_eqIntS.f] at H
 refine aw_grp1 ?_
 refine wk_start ?_
 refine kv g0 (asg) ?_
 refine wk_end ?_
 refine ac_next ?_
 refine aw_grp1 ?_
 refine aw_grp1 ?_
 refine wk_start ?_
 refine kv g0 (mv) ?_
 refine kv g0 (lnS lenE) ?_
 refine kv g0 (mv) ?_
 refine kv g0 (lnS lenE) ?_
 refine kv g0 (neq) ?_
 refine wk_end ?_
 refine ac_next ?_
 by_cases c1 : (l0.length : Int) = (l1.length : Int)
 ·rw [if_pos c1] at H
  refine aw_ifF ?_ (eM c1)
  refine aw_skip ?_
  refine ac_next ?_
  refine aw_grp1 ?_
  refine aw_grp1 ?_
  refine wk_start ?_
  refine kv g0 (asg) ?_
  refine wk_end ?_
  refine ac_next ?_
  refine aw_block ?_
  refine aw_loop1 (fun (k_ : Nat) (p6 : Int) => laws_eqIntS.l0 k_ l0 l1 p6 = some r) (fun (p6 : Int) => ⟨[(0, .sl .o 1 (l0.map (eI .i64))), (1, .sl .o 1 (l1.map (eI .i64))), (5, .lit (.int .i64 p6))], []⟩) k 0 H (fun K_ h_ => acw hE [] 9999 h_) (fun _ => by intro h_; rw [laws_eqIntS.l0.eq_1] at h_; cases h_) ?_
  intro k7 p6 H K12 hK13
  rw [laws_eqIntS.l0.eq_2] at H
  refine aw_grp1 ?_
  refine aw_grp1 ?_
  refine wk_start ?_
  refine kv g0 (mv) ?_
  refine kv g0 (mv) ?_
  refine kv g0 (lnS lenE) ?_
  refine kv g0 (lss) ?_
  refine wk_end ?_
  refine ac_next ?_
  by_cases c8 : p6 < (l0.length : Int)
  ·rw [if_pos c8] at H
   refine aw_ifT ?_ (decide_eq_true c8)
   refine aw_skip ?_
   refine ac_next ?_
   refine aw_grp1 ?_
   refine aw_block ?_
   refine aw_grp1 ?_
   refine wk_start ?_
   refine kv g0 (mv) ?_
   refine kv g0 (mv) ?_
   obtain ⟨c9, H⟩ := of_if H
   refine kv g0 (ixS 3 (eI .i64 (rd l0 p6)) c9 (getE (z := (0 : Int)) c9 c8)) ?_
   refine kv g0 (ldR (.lit (.int .i64 (rd l0 p6)))) ?_
   refine kv g0 (mv) ?_
   refine kv g0 (mv) ?_
   obtain ⟨c10, H⟩ := of_if H
   refine kv g0 (ixS 3 (eI .i64 (rd l1 p6)) c9 (getE (z := (0 : Int)) c9 c10)) ?_
   refine kv g0 (ldR (.lit (.int .i64 (rd l1 p6)))) ?_
   refine kv g0 (neq) ?_
   refine wk_end_draw hM (by kernel_rfl) ?_
   refine ac_next ?_
   by_cases c11 : (rd l0 p6) = (rd l1 p6)
   ·rw [if_pos c11] at H
    refine aw_ifF ?_ (eM c11)
    refine aw_skip ?_
    refine ac_blkN ?_
    refine ac_next ?_
    refine wk_start ?_
    refine kv g0 (mv) ?_
    refine kv g0 (add6) ?_
    refine kv g0 (asg) ?_
    refine wk_end ?_
    refine ac_k ?_
    exact acw hE [] 9999 (hK13 k7 (wrap64 (p6 + 1)) (Nat.le_refl _) H)
   rw [if_neg c11] at H
   refine aw_ifT ?_ (eN c11)
   refine aw_grp1 ?_
   refine wk_start ?_
   refine kv g0 (asg) ?_
   refine wk_end ?_
   refine ac_next ?_
   refine aw_ret ?_
   refine ac_blkR ?_
   refine ac_thenR ?_
   refine ac_thenR ?_
   refine ac_blkR ?_
   refine ac_thenR ?_
   obtain rfl := Option.some.inj H
   exact acr hE [.tmp 4] (.tmp .nil) (.one _) [] 9999
  rw [if_neg c8] at H
  refine aw_ifF ?_ (decide_eq_false c8)
  refine aw_exit ?_
  refine ac_then ?_
  refine ac_then ?_
  refine ac_hit rfl ?_
  refine ac_next ?_
  refine aw_grp1 ?_
  refine wk_start ?_
  refine kv g0 (asg) ?_
  refine wk_end ?_
  refine ac_next ?_
  refine aw_ret ?_
  obtain rfl := Option.some.inj H
  exact acr hE [.tmp 4] (.tmp .nil) (.one _) [] 9999
 rw [if_neg c1] at H
 refine aw_ifT ?_ (eN c1)
 refine aw_grp1 ?_
 refine wk_start ?_
 refine kv g0 (asg) ?_
 refine wk_end ?_
 refine ac_next ?_
 refine aw_ret ?_
 refine ac_thenR ?_
 obtain rfl := Option.some.inj H
 exact acr hE [.tmp 4] (.tmp .nil) (.one _) [] 9999
/-! laws_eqEarly -/
def laws_eqEarly.f (a0_0 : Int) (a0_1 : Int) (a0_2 : Int) (a0_3 : Int) (a0_4 : Int) (a0_5 : Int) (a1_0 : Int) (a1_1 : Int) (a1_2 : Int) (a1_3 : Int) (a1_4 : Int) (a1_5 : Int) : Option (Bool) := if a0_0 = a1_0 then if a0_1 = a1_1 then (laws_eqItem.f a0_2 a0_3 a0_4 a0_5 a1_2 a1_3 a1_4 a1_5).bind fun t3 => if t3 = true then some true else some false else some false else some false
theorem laws_eqEarly.ok {a0_0 : Int} {a0_1 : Int} {a0_2 : Int} {a0_3 : Int} {a0_4 : Int} {a0_5 : Int} {a1_0 : Int} {a1_1 : Int} {a1_2 : Int} {a1_3 : Int} {a1_4 : Int} {a1_5 : Int} {r : Bool} (H : laws_eqEarly.f a0_0 a0_1 a0_2 a0_3 a0_4 a0_5 a1_0 a1_1 a1_2 a1_3 a1_4 a1_5 = some r) : ACalls Try.prog 163 [] [.agg [.lit (.int .i64 a0_0), .lit (.int .i64 a0_1), .lit (.int .i64 a0_2), .lit (.int .i64 a0_3), .lit (.int .i64 a0_4), .lit (.int .i64 a0_5)], .agg [.lit (.int .i64 a1_0), .lit (.int .i64 a1_1), .lit (.int .i64 a1_2), .lit (.int .i64 a1_3), .lit (.int .i64 a1_4), .lit (.int .i64 a1_5)]] [] (.lit (.bool r)) := by
 refine acalls (fn := Try.f163) (nt := 21) Try.func163 rfl rfl (Nat.le_of_ble_eq_true rfl) fun E hE => ?_
 rw [laws_eqEarly.f] at H
 refine aw_grp1 ?_
 refine wk_start ?_
 refine kb g0 (bxA 0) ?_
 refine kb g0 (bxA 1) ?_
 refine kv g0 (asg) ?_
 refine wk_end ?_
 refine ac_next ?_
 refine aw_grp1 ?_
 refine aw_grp1 ?_
 refine wk_start ?_
 refine kv g0 (faB 0 0) ?_
 refine kv g0 (ldB) ?_
 refine kv g0 (faB 0 0) ?_
 refine kv g0 (ldB) ?_
 refine kv g0 (neq) ?_
 refine wk_end ?_
 refine ac_next ?_
 by_cases c1 : a0_0 = a1_0
 ·rw [if_pos c1] at H
  refine aw_ifF ?_ (eM c1)
  refine aw_skip ?_
  refine ac_next ?_
  refine aw_grp1 ?_
  refine aw_grp1 ?_
  refine wk_start ?_
  refine kv g0 (faB 1 1) ?_
  refine kv g0 (ldB) ?_
  refine kv g0 (faB 1 1) ?_
  refine kv g0 (ldB) ?_
  refine kv g0 (neq) ?_
  refine wk_end ?_
  refine ac_next ?_
  by_cases c2 : a0_1 = a1_1
  ·rw [if_pos c2] at H
   refine aw_ifF ?_ (eM c2)
   refine aw_skip ?_
   refine ac_next ?_
   refine aw_grp1 ?_
   refine aw_grp1 ?_
   refine wk_start ?_
   refine kv g0 (faB 2 2) ?_
   refine kv g0 (ldBA 4 [.lit (.int .i64 a0_2), .lit (.int .i64 a0_3), .lit (.int .i64 a0_4), .lit (.int .i64 a0_5)]) ?_
   refine kv g0 (faB 2 2) ?_
   refine kv g0 (ldBA 4 [.lit (.int .i64 a1_2), .lit (.int .i64 a1_3), .lit (.int .i64 a1_4), .lit (.int .i64 a1_5)]) ?_
   obtain ⟨t3, A4, H⟩ := of_bind H
   refine kcS0 19 (.lit (.bool t3)) [] g0 (cal (laws_eqItem.ok A4) [] 9999 .n (hf := Try.func185)) rfl rfl ?_
   refine kv g0 (not_) ?_
   refine wk_end ?_
   refine ac_next ?_
   by_cases c5 : t3 = true
   ·rw [if_pos c5] at H
    refine aw_ifF ?_ (nF c5)
    refine aw_skip ?_
    refine ac_next ?_
    refine aw_grp1 ?_
    refine wk_start ?_
    refine kv g0 (asg) ?_
    refine wk_end ?_
    refine ac_next ?_
    refine aw_ret ?_
    obtain rfl := Option.some.inj H
    exact acr hE [.tmp 4] (.tmp .nil) (.one _) [] 9999
   rw [if_neg c5] at H
   refine aw_ifT ?_ (nT (bF c5))
   refine aw_grp1 ?_
   refine wk_start ?_
   refine kv g0 (asg) ?_
   refine wk_end ?_
   refine ac_next ?_
   refine aw_ret ?_
   refine ac_thenR ?_
   obtain rfl := Option.some.inj H
   exact acr hE [.tmp 4] (.tmp .nil) (.one _) [] 9999
  rw [if_neg c2] at H
  refine aw_ifT ?_ (eN c2)
  refine aw_grp1 ?_
  refine wk_start ?_
  refine kv g0 (asg) ?_
  refine wk_end ?_
  refine ac_next ?_
  refine aw_ret ?_
  refine ac_thenR ?_
  obtain rfl := Option.some.inj H
  exact acr hE [.tmp 4] (.tmp .nil) (.one _) [] 9999
 rw [if_neg c1] at H
 refine aw_ifT ?_ (eN c1)
 refine aw_grp1 ?_
 refine wk_start ?_
 refine kv g0 (asg) ?_
 refine wk_end ?_
 refine ac_next ?_
 refine aw_ret ?_
 refine ac_thenR ?_
 obtain rfl := Option.some.inj H
 exact acr hE [.tmp 4] (.tmp .nil) (.one _) [] 9999
/-! laws_eqEarlyS -/
def laws_eqEarlyS.l0 : Nat → (List S123) → (List S123) → Int → Option (Bool)
 | 0, _, _, _ => none
 | k9 + 1, l0, l1, p8 => if p8 < (l0.length : Int) then if 0 ≤ p8 then (if p8 < (l1.length : Int) then ((laws_eqEarly.f ((rd_T123 l0 p8).f0) ((rd_T123 l0 p8).f1) ((rd_T123 l0 p8).f2.f0) ((rd_T123 l0 p8).f2.f1) ((rd_T123 l0 p8).f2.f2) ((rd_T123 l0 p8).f2.f3) ((rd_T123 l1 p8).f0) ((rd_T123 l1 p8).f1) ((rd_T123 l1 p8).f2.f0) ((rd_T123 l1 p8).f2.f1) ((rd_T123 l1 p8).f2.f2) ((rd_T123 l1 p8).f2.f3)).bind fun t13 => if t13 = true then laws_eqEarlyS.l0 k9 l0 l1 (wrap64 (p8 + 1)) else some false) else none) else none else some true
def laws_eqEarlyS.f (k : Nat) (l0 : List S123) (l1 : List S123) : Option (Bool) := if (l0.length : Int) = (l1.length : Int) then laws_eqEarlyS.l0 k l0 l1 0 else some false
theorem laws_eqEarlyS.ok {k : Nat} {l0 : List S123} {l1 : List S123} {r : Bool} (H : laws_eqEarlyS.f k l0 l1 = some r) : ACalls Try.prog 94 [] [.sl .o 6 (l0.map e123), .sl .o 6 (l1.map e123)] [] (.lit (.bool r)) := by
 refine acalls (fn := Try.f94) (nt := 27) Try.func94 rfl rfl (Nat.le_of_ble_eq_true rfl) fun E hE => ?_
 rw [laws_eqEarlyS.f] at H
 refine aw_grp1 ?_
 refine wk_start ?_
 refine kv g0 (asg) ?_
 refine wk_end ?_
 refine ac_next ?_
 refine aw_grp1 ?_
 refine aw_grp1 ?_
 refine wk_start ?_
 refine kv g0 (mv) ?_
 refine kv g0 (lnS lenE) ?_
 refine kv g0 (mv) ?_
 refine kv g0 (lnS lenE) ?_
 refine kv g0 (neq) ?_
 refine wk_end ?_
 refine ac_next ?_
 by_cases c1 : (l0.length : Int) = (l1.length : Int)
 ·rw [if_pos c1] at H
  refine aw_ifF ?_ (eM c1)
  refine aw_skip ?_
  refine ac_next ?_
  refine aw_grp1 ?_
  refine aw_grp1 ?_
  refine wk_start ?_
  refine kv g0 (asg) ?_
  refine wk_end ?_
  refine ac_next ?_
  refine aw_block ?_
  refine aw_loop1 (fun (k_ : Nat) (p8 : Int) => laws_eqEarlyS.l0 k_ l0 l1 p8 = some r) (fun (p8 : Int) => ⟨[(0, .sl .o 6 (l0.map e123)), (1, .sl .o 6 (l1.map e123)), (5, .lit (.int .i64 p8))], []⟩) k 0 H (fun K_ h_ => acw hE [] 9999 h_) (fun _ => by intro h_; rw [laws_eqEarlyS.l0.eq_1] at h_; cases h_) ?_
  intro k9 p8 H K16 hK17
  rw [laws_eqEarlyS.l0.eq_2] at H
  refine aw_grp1 ?_
  refine aw_grp1 ?_
  refine wk_start ?_
  refine kv g0 (mv) ?_
  refine kv g0 (mv) ?_
  refine kv g0 (lnS lenE) ?_
  refine kv g0 (lss) ?_
  refine wk_end ?_
  refine ac_next ?_
  by_cases c10 : p8 < (l0.length : Int)
  ·rw [if_pos c10] at H
   refine aw_ifT ?_ (decide_eq_true c10)
   refine aw_skip ?_
   refine ac_next ?_
   refine aw_grp1 ?_
   refine aw_block ?_
   refine aw_grp1 ?_
   refine wk_start ?_
   refine kv g0 (mv) ?_
   refine kv g0 (mv) ?_
   obtain ⟨c11, H⟩ := of_if H
   refine kv g0 (ixS 123 (e123 (rd_T123 l0 p8)) c11 (getE (z := z123) c11 c10)) ?_
   refine kv g0 (ldRA 6 [.lit (.int .i64 ((rd_T123 l0 p8).f0)), .lit (.int .i64 ((rd_T123 l0 p8).f1)), .lit (.int .i64 ((rd_T123 l0 p8).f2.f0)), .lit (.int .i64 ((rd_T123 l0 p8).f2.f1)), .lit (.int .i64 ((rd_T123 l0 p8).f2.f2)), .lit (.int .i64 ((rd_T123 l0 p8).f2.f3))]) ?_
   refine kv g0 (mv) ?_
   refine kv g0 (mv) ?_
   obtain ⟨c12, H⟩ := of_if H
   refine kv g0 (ixS 123 (e123 (rd_T123 l1 p8)) c11 (getE (z := z123) c11 c12)) ?_
   refine kv g0 (ldRA 6 [.lit (.int .i64 ((rd_T123 l1 p8).f0)), .lit (.int .i64 ((rd_T123 l1 p8).f1)), .lit (.int .i64 ((rd_T123 l1 p8).f2.f0)), .lit (.int .i64 ((rd_T123 l1 p8).f2.f1)), .lit (.int .i64 ((rd_T123 l1 p8).f2.f2)), .lit (.int .i64 ((rd_T123 l1 p8).f2.f3))]) ?_
   obtain ⟨t13, A14, H⟩ := of_bind H
   refine kcS0 25 (.lit (.bool t13)) [] g0 (cal (laws_eqEarly.ok A14) [] 9999 .n (hf := Try.func163)) rfl rfl ?_
   refine kv g0 (not_) ?_
   refine wk_end_draw hM (by kernel_rfl) ?_
   refine ac_next ?_
   by_cases c15 : t13 = true
   ·rw [if_pos c15] at H
    refine aw_ifF ?_ (nF c15)
    refine aw_skip ?_
    refine ac_blkN ?_
    refine ac_next ?_
    refine wk_start ?_
    refine kv g0 (mv) ?_
    refine kv g0 (add6) ?_
    refine kv g0 (asg) ?_
    refine wk_end ?_
    refine ac_k ?_
    exact acw hE [] 9999 (hK17 k9 (wrap64 (p8 + 1)) (Nat.le_refl _) H)
   rw [if_neg c15] at H
   refine aw_ifT ?_ (nT (bF c15))
   refine aw_grp1 ?_
   refine wk_start ?_
   refine kv g0 (asg) ?_
   refine wk_end ?_
   refine ac_next ?_
   refine aw_ret ?_
   refine ac_blkR ?_
   refine ac_thenR ?_
   refine ac_thenR ?_
   refine ac_blkR ?_
   refine ac_thenR ?_
   obtain rfl := Option.some.inj H
   exact acr hE [.tmp 4] (.tmp .nil) (.one _) [] 9999
  rw [if_neg c10] at H
  refine aw_ifF ?_ (decide_eq_false c10)
  refine aw_exit ?_
  refine ac_then ?_
  refine ac_then ?_
  refine ac_hit rfl ?_
  refine ac_next ?_
  refine aw_grp1 ?_
  refine wk_start ?_
  refine kv g0 (asg) ?_
  refine wk_end ?_
  refine ac_next ?_
  refine aw_ret ?_
  obtain rfl := Option.some.inj H
  exact acr hE [.tmp 4] (.tmp .nil) (.one _) [] 9999
 rw [if_neg c1] at H
 refine aw_ifT ?_ (eN c1)
 refine aw_grp1 ?_
 refine wk_start ?_
 refine kv g0 (asg) ?_
 refine wk_end ?_
 refine ac_next ?_
 refine aw_ret ?_
 refine ac_thenR ?_
 obtain rfl := Option.some.inj H
 exact acr hE [.tmp 4] (.tmp .nil) (.one _) [] 9999
/-! laws_eqKeeper -/
def laws_eqKeeper.f (k : Nat) (l0_0 : List S130) (l0_1 : List Int) (l0_2 : List S123) (a0_3 : Int) (l0_4 : List Int) (l1_0 : List S130) (l1_1 : List Int) (l1_2 : List S123) (a1_3 : Int) (l1_4 : List Int) : Option (Bool) := (laws_eqEntryS.f k l0_0 l1_0).bind fun t1 => if t1 = true then (laws_eqIntS.f k l0_1 l1_1).bind fun t4 => if t4 = true then (laws_eqEarlyS.f k l0_2 l1_2).bind fun t7 => if t7 = true then if a0_3 = a1_3 then (laws_eqIntS.f k l0_4 l1_4).bind fun t11 => if t11 = true then some true else some false else some false else some false else some false else some false
theorem laws_eqKeeper.ok {k : Nat} {l0_0 : List S130} {l0_1 : List Int} {l0_2 : List S123} {a0_3 : Int} {l0_4 : List Int} {l1_0 : List S130} {l1_1 : List Int} {l1_2 : List S123} {a1_3 : Int} {l1_4 : List Int} {r : Bool} (H : laws_eqKeeper.f k l0_0 l0_1 l0_2 a0_3 l0_4 l1_0 l1_1 l1_2 a1_3 l1_4 = some r) : ACalls Try.prog 15 [] [.agg [.sl .o 6 (l0_0.map e130), .sl .o 1 (l0_1.map (eI .i64)), .sl .o 6 (l0_2.map e123), .lit (.int .i64 a0_3), .sl .o 1 (l0_4.map (eI .i64))], .agg [.sl .o 6 (l1_0.map e130), .sl .o 1 (l1_1.map (eI .i64)), .sl .o 6 (l1_2.map e123), .lit (.int .i64 a1_3), .sl .o 1 (l1_4.map (eI .i64))]] [] (.lit (.bool r)) := by
 refine acalls (fn := Try.f15) (nt := 34) Try.func15 rfl rfl (Nat.le_of_ble_eq_true rfl) fun E hE => ?_
 rw [laws_eqKeeper.f] at H
 refine aw_grp1 ?_
 refine wk_start ?_
 refine kb g0 (bxA 0) ?_
 refine kb g0 (bxA 1) ?_
 refine kv g0 (asg) ?_
 refine wk_end ?_
 refine ac_next ?_
 refine aw_grp1 ?_
 refine aw_grp1 ?_
 refine wk_start ?_
 refine kv g0 (faB 0 0) ?_
 refine kv g0 (ldB) ?_
 refine kv g0 (faB 0 0) ?_
 refine kv g0 (ldB) ?_
 obtain ⟨t1, A2, H⟩ := of_bind H
 refine kcS0 9 (.lit (.bool t1)) [] g0 (cal (laws_eqEntryS.ok A2) [] 9999 .n (hf := Try.func92)) rfl rfl ?_
 refine kv g0 (not_) ?_
 refine wk_end ?_
 refine ac_next ?_
 by_cases c3 : t1 = true
 ·rw [if_pos c3] at H
  refine aw_ifF ?_ (nF c3)
  refine aw_skip ?_
  refine ac_next ?_
  refine aw_grp1 ?_
  refine aw_grp1 ?_
  refine wk_start ?_
  refine kv g0 (faB 1 1) ?_
  refine kv g0 (ldB) ?_
  refine kv g0 (faB 1 1) ?_
  refine kv g0 (ldB) ?_
  obtain ⟨t4, A5, H⟩ := of_bind H
  refine kcS0 15 (.lit (.bool t4)) [] g0 (cal (laws_eqIntS.ok A5) [] 9999 .n (hf := Try.func93)) rfl rfl ?_
  refine kv g0 (not_) ?_
  refine wk_end ?_
  refine ac_next ?_
  by_cases c6 : t4 = true
  ·rw [if_pos c6] at H
   refine aw_ifF ?_ (nF c6)
   refine aw_skip ?_
   refine ac_next ?_
   refine aw_grp1 ?_
   refine aw_grp1 ?_
   refine wk_start ?_
   refine kv g0 (faB 2 2) ?_
   refine kv g0 (ldB) ?_
   refine kv g0 (faB 2 2) ?_
   refine kv g0 (ldB) ?_
   obtain ⟨t7, A8, H⟩ := of_bind H
   refine kcS0 21 (.lit (.bool t7)) [] g0 (cal (laws_eqEarlyS.ok A8) [] 9999 .n (hf := Try.func94)) rfl rfl ?_
   refine kv g0 (not_) ?_
   refine wk_end ?_
   refine ac_next ?_
   by_cases c9 : t7 = true
   ·rw [if_pos c9] at H
    refine aw_ifF ?_ (nF c9)
    refine aw_skip ?_
    refine ac_next ?_
    refine aw_grp1 ?_
    refine aw_grp1 ?_
    refine wk_start ?_
    refine kv g0 (faB 3 3) ?_
    refine kv g0 (ldB) ?_
    refine kv g0 (faB 3 3) ?_
    refine kv g0 (ldB) ?_
    refine kv g0 (neq) ?_
    refine wk_end ?_
    refine ac_next ?_
    by_cases c10 : a0_3 = a1_3
    ·rw [if_pos c10] at H
     refine aw_ifF ?_ (eM c10)
     refine aw_skip ?_
     refine ac_next ?_
     refine aw_grp1 ?_
     refine aw_grp1 ?_
     refine wk_start ?_
     refine kv g0 (faB 4 4) ?_
     refine kv g0 (ldB) ?_
     refine kv g0 (faB 4 4) ?_
     refine kv g0 (ldB) ?_
     obtain ⟨t11, A12, H⟩ := of_bind H
     refine kcS0 32 (.lit (.bool t11)) [] g0 (cal (laws_eqIntS.ok A12) [] 9999 .n (hf := Try.func93)) rfl rfl ?_
     refine kv g0 (not_) ?_
     refine wk_end ?_
     refine ac_next ?_
     by_cases c13 : t11 = true
     ·rw [if_pos c13] at H
      refine aw_ifF ?_ (nF c13)
      refine aw_skip ?_
      refine ac_next ?_
      refine aw_grp1 ?_
      refine wk_start ?_
      refine kv g0 (asg) ?_
      refine wk_end ?_
      refine ac_next ?_
      refine aw_ret ?_
      obtain rfl := Option.some.inj H
      exact acr hE [.tmp 4] (.tmp .nil) (.one _) [] 9999
     rw [if_neg c13] at H
     refine aw_ifT ?_ (nT (bF c13))
     refine aw_grp1 ?_
     refine wk_start ?_
     refine kv g0 (asg) ?_
     refine wk_end ?_
     refine ac_next ?_
     refine aw_ret ?_
     refine ac_thenR ?_
     obtain rfl := Option.some.inj H
     exact acr hE [.tmp 4] (.tmp .nil) (.one _) [] 9999
    rw [if_neg c10] at H
    refine aw_ifT ?_ (eN c10)
    refine aw_grp1 ?_
    refine wk_start ?_
    refine kv g0 (asg) ?_
    refine wk_end ?_
    refine ac_next ?_
    refine aw_ret ?_
    refine ac_thenR ?_
    obtain rfl := Option.some.inj H
    exact acr hE [.tmp 4] (.tmp .nil) (.one _) [] 9999
   rw [if_neg c9] at H
   refine aw_ifT ?_ (nT (bF c9))
   refine aw_grp1 ?_
   refine wk_start ?_
   refine kv g0 (asg) ?_
   refine wk_end ?_
   refine ac_next ?_
   refine aw_ret ?_
   refine ac_thenR ?_
   obtain rfl := Option.some.inj H
   exact acr hE [.tmp 4] (.tmp .nil) (.one _) [] 9999
  rw [if_neg c6] at H
  refine aw_ifT ?_ (nT (bF c6))
  refine aw_grp1 ?_
  refine wk_start ?_
  refine kv g0 (asg) ?_
  refine wk_end ?_
  refine ac_next ?_
  refine aw_ret ?_
  refine ac_thenR ?_
  obtain rfl := Option.some.inj H
  exact acr hE [.tmp 4] (.tmp .nil) (.one _) [] 9999
 rw [if_neg c3] at H
 refine aw_ifT ?_ (nT (bF c3))
 refine aw_grp1 ?_
 refine wk_start ?_
 refine kv g0 (asg) ?_
 refine wk_end ?_
 refine ac_next ?_
 refine aw_ret ?_
 refine ac_thenR ?_
 obtain rfl := Option.some.inj H
 exact acr hE [.tmp 4] (.tmp .nil) (.one _) [] 9999
/-! laws_FnExactKeeperOk -/
def laws_FnExactKeeperOk.f (k : Nat) (l0_0 : List S180) (l0_1 : List Int) (l0_2 : List S182) (a0_3 : Int) (l0_4 : List Int) : Option (Bool) := (laws_szKeeper.f l0_0 l0_1 l0_2 a0_3 l0_4 1048576).bind fun t1 => if t1 < 0 then some true else (laws_toKeeper.f k l0_0 l0_1 l0_2 a0_3 l0_4).bind fun t4 => ((spec_KeeperOk.f k t4.1 t4.2.1 t4.2.2.1 t4.2.2.2.1 t4.2.2.2.2).bind fun t6 => (laws_toKeeper.f k l0_0 l0_1 l0_2 a0_3 l0_4).bind fun t8 => (impl_KeeperOk.f k t8.1 t8.2.1 t8.2.2.1 t8.2.2.2.1 t8.2.2.2.2).bind fun t10 => if t10 = t6 then (laws_toKeeper.f k l0_0 l0_1 l0_2 a0_3 l0_4).bind fun t13 => ((laws_eqKeeper.f k t8.1 t8.2.1 t8.2.2.1 t8.2.2.2.1 t8.2.2.2.2 t13.1 t13.2.1 t13.2.2.1 t13.2.2.2.1 t13.2.2.2.2).bind fun t15 => if t15 = true then some true else some false) else some false)
theorem laws_FnExactKeeperOk.ok {k : Nat} {l0_0 : List S180} {l0_1 : List Int} {l0_2 : List S182} {a0_3 : Int} {l0_4 : List Int} {r : Bool} (H : laws_FnExactKeeperOk.f k l0_0 l0_1 l0_2 a0_3 l0_4 = some r) : ACalls Try.prog 3 [] [.agg [.sl .o 6 (l0_0.map e180), .sl .o 1 (l0_1.map (eI .i64)), .sl .o 6 (l0_2.map e182), .lit (.int .i64 a0_3), .sl .o 1 (l0_4.map (eI .i64))]] [] (.lit (.bool r)) := by
 refine acalls (fn := Try.f3) (nt := 27) Try.func3 rfl rfl (Nat.le_of_ble_eq_true rfl) fun E hE => ?_
 rw [laws_FnExactKeeperOk.f] at H
 refine aw_grp1 ?_
 refine wk_start ?_
 refine kb g0 (bxA 0) ?_
 refine kv g0 (asg) ?_
 refine wk_end ?_
 refine ac_next ?_
 refine aw_grp1 ?_
 refine wk_start ?_
 refine kv g0 (asg) ?_
 refine wk_end ?_
 refine ac_next ?_
 refine aw_grp1 ?_
 refine wk_start ?_
 refine kv g0 (ldBA 5 [.sl .o 6 (l0_0.map e180), .sl .o 1 (l0_1.map (eI .i64)), .sl .o 6 (l0_2.map e182), .lit (.int .i64 a0_3), .sl .o 1 (l0_4.map (eI .i64))]) ?_
 refine kv g0 (mv) ?_
 obtain ⟨t1, A2, H⟩ := of_bind H
 refine kcS0 9 (.lit (.int .i64 t1)) [] g0 (cal (laws_szKeeper.ok A2) [] 9999 .n (hf := Try.func11)) rfl rfl ?_
 refine kv g0 (asg) ?_
 refine wk_end ?_
 refine ac_next ?_
 refine aw_grp1 ?_
 refine aw_grp1 ?_
 refine wk_start ?_
 refine kv g0 (mv) ?_
 refine kv g0 (lss) ?_
 refine wk_end ?_
 refine ac_next ?_
 by_cases c3 : t1 < 0
 ·rw [if_pos c3] at H
  refine aw_ifT ?_ (decide_eq_true c3)
  refine aw_grp1 ?_
  refine wk_start ?_
  refine kv g0 (asg) ?_
  refine wk_end ?_
  refine ac_next ?_
  refine aw_ret ?_
  refine ac_thenR ?_
  obtain rfl := Option.some.inj H
  exact acr hE [.tmp 2] (.tmp .nil) (.one _) [] 9999
 rw [if_neg c3] at H
 refine aw_ifF ?_ (decide_eq_false c3)
 refine aw_skip ?_
 refine ac_next ?_
 refine aw_grp1 ?_
 refine wk_start ?_
 refine kv g0 (ldBA 5 [.sl .o 6 (l0_0.map e180), .sl .o 1 (l0_1.map (eI .i64)), .sl .o 6 (l0_2.map e182), .lit (.int .i64 a0_3), .sl .o 1 (l0_4.map (eI .i64))]) ?_
 obtain ⟨t4, A5, H⟩ := of_bind H
 refine kcS4 13 (.agg [.row 1, .row 2, .row 3, .lit (.int .i64 t4.2.2.2.1), .row 4]) [(1, .row 130 6 (t4.1.map e130)), (2, .row 3 1 (t4.2.1.map (eI .i64))), (3, .row 123 6 (t4.2.2.1.map e123)), (4, .row 3 1 (t4.2.2.2.2.map (eI .i64)))] g0 (cal (laws_toKeeper.ok A5) [1, 2, 3, 4] 9999 .n (hf := Try.func13)) rfl rfl ?_
 obtain ⟨t6, A7, H⟩ := of_bind H
 refine kcS0 14 (.lit (.bool t6)) [] g0 (cal (spec_KeeperOk.ok A7) [] 9999 .n (hf := Try.func12)) rfl rfl ?_
 refine kv g0 (asg) ?_
 refine wk_end ?_
 refine ac_next ?_
 refine aw_grp1 ?_
 refine wk_start ?_
 refine kv g0 (ldBA 5 [.sl .o 6 (l0_0.map e180), .sl .o 1 (l0_1.map (eI .i64)), .sl .o 6 (l0_2.map e182), .lit (.int .i64 a0_3), .sl .o 1 (l0_4.map (eI .i64))]) ?_
 obtain ⟨t8, A9, H⟩ := of_bind H
 refine kcS4 16 (.agg [.row 5, .row 6, .row 7, .lit (.int .i64 t8.2.2.2.1), .row 8]) [(5, .row 130 6 (t8.1.map e130)), (6, .row 3 1 (t8.2.1.map (eI .i64))), (7, .row 123 6 (t8.2.2.1.map e123)), (8, .row 3 1 (t8.2.2.2.2.map (eI .i64)))] g0 (cal (laws_toKeeper.ok A9) [5, 6, 7, 8] 9999 .n (hf := Try.func13)) rfl rfl ?_
 refine kb g0 (alc 9 [.slice none 0 0, .slice none 0 0, .slice none 0 0, .int .i64 0, .slice none 0 0] [.lit (.slice none 0 0), .lit (.slice none 0 0), .lit (.slice none 0 0), .lit (.int .i64 0), .lit (.slice none 0 0)]) ?_
 refine ks g0 (stB 5 [.row 5, .row 6, .row 7, .lit (.int .i64 t8.2.2.2.1), .row 8]) ?_
 refine wk_end ?_
 refine ac_next ?_
 refine aw_grp1 ?_
 refine wk_start ?_
 refine kv g0 (ldBA 5 [.row 5, .row 6, .row 7, .lit (.int .i64 t8.2.2.2.1), .row 8]) ?_
 obtain ⟨t10, A11, H⟩ := of_bind H
 refine kcS0 18 (.lit (.bool t10)) [] g0 (cal (impl_KeeperOk.ok A11) [] 9999 .n (hf := Try.func14)) rfl rfl ?_
 refine kv g0 (asg) ?_
 refine wk_end ?_
 refine ac_next ?_
 refine aw_grp1 ?_
 refine aw_grp1 ?_
 refine wk_start ?_
 refine kv g0 (mv) ?_
 refine kv g0 (mv) ?_
 refine kv g0 (bne) ?_
 refine wk_end ?_
 refine ac_next ?_
 by_cases c12 : t10 = t6
 ·rw [if_pos c12] at H
  refine aw_ifF ?_ (nF (eTb c12))
  refine aw_skip ?_
  refine ac_next ?_
  refine aw_grp1 ?_
  refine aw_grp1 ?_
  refine wk_start ?_
  refine kv g0 (ldBA 5 [.row 5, .row 6, .row 7, .lit (.int .i64 t8.2.2.2.1), .row 8]) ?_
  refine kv g0 (ldBA 5 [.sl .o 6 (l0_0.map e180), .sl .o 1 (l0_1.map (eI .i64)), .sl .o 6 (l0_2.map e182), .lit (.int .i64 a0_3), .sl .o 1 (l0_4.map (eI .i64))]) ?_
  obtain ⟨t13, A14, H⟩ := of_bind H
  refine kcS4 24 (.agg [.row 10, .row 11, .row 12, .lit (.int .i64 t13.2.2.2.1), .row 13]) [(10, .row 130 6 (t13.1.map e130)), (11, .row 3 1 (t13.2.1.map (eI .i64))), (12, .row 123 6 (t13.2.2.1.map e123)), (13, .row 3 1 (t13.2.2.2.2.map (eI .i64)))] g0 (cal (laws_toKeeper.ok A14) [10, 11, 12, 13] 9999 .n (hf := Try.func13)) rfl rfl ?_
  obtain ⟨t15, A16, H⟩ := of_bind H
  refine kcS0 25 (.lit (.bool t15)) [] g0 (cal (laws_eqKeeper.ok A16) [] 9999 .n (hf := Try.func15)) rfl rfl ?_
  refine kv g0 (not_) ?_
  refine wk_end_draw hM (by kernel_rfl) ?_
  refine ac_next ?_
  by_cases c17 : t15 = true
  ·rw [if_pos c17] at H
   refine aw_ifF ?_ (nF c17)
   refine aw_skip ?_
   refine ac_next ?_
   refine aw_grp1 ?_
   refine wk_start ?_
   refine kv g0 (asg) ?_
   refine wk_end ?_
   refine ac_next ?_
   refine aw_ret ?_
   obtain rfl := Option.some.inj H
   exact acr hE [.tmp 2] (.tmp .nil) (.one _) [] 9999
  rw [if_neg c17] at H
  refine aw_ifT ?_ (nT (bF c17))
  refine aw_grp1 ?_
  refine wk_start ?_
  refine kv g0 (asg) ?_
  refine wk_end ?_
  refine ac_next ?_
  refine aw_ret ?_
  refine ac_thenR ?_
  obtain rfl := Option.some.inj H
  exact acr hE [.tmp 2] (.tmp .nil) (.one _) [] 9999
 rw [if_neg c12] at H
 refine aw_ifT ?_ (nT (eFb c12))
 refine aw_grp1 ?_
 refine wk_start ?_
 refine kv g0 (asg) ?_
 refine wk_end ?_
 refine ac_next ?_
 refine aw_ret ?_
 refine ac_thenR ?_
 obtain rfl := Option.some.inj H
 exact acr hE [.tmp 2] (.tmp .nil) (.one _) [] 9999
end Go.Proofs.Ytbapmfjdnnajiaa.PFnExactKeeperOk
