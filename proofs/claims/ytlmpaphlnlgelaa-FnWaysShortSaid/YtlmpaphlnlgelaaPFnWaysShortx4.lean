import Derived.Test.YtlmpaphlnlgelaaPFnWaysShortx3
set_option linter.unusedVariables false
set_option linter.unusedSimpArgs false
set_option maxRecDepth 100000
namespace Go.Proofs.Ytlmpaphlnlgelaa.PFnWaysShort
open Go Go.RowKit Go.Proofs.YtlmpaphlnlgelaaA
/-! impl_farthest -/
def impl_farthest.f (a0_0 : Int) (a0_1 : Int) (a0_2 : Int) (a0_3 : Int) (a1 : Int) : Option (Int) := (impl_Ins_asks.f a0_0 a0_1 a0_2 a0_3).bind fun t1 => if t1 = true then some (wrap64 ((wrap64 (a1 + 1)) + (max a0_2 a0_3))) else if a0_0 = 7 then some (wrap64 ((wrap64 (a1 + 1)) + a0_1)) else some a1
theorem impl_farthest.ok {a0_0 : Int} {a0_1 : Int} {a0_2 : Int} {a0_3 : Int} {a1 : Int} {r : Int} (H : impl_farthest.f a0_0 a0_1 a0_2 a0_3 a1 = some r) : ACalls Try.prog 71 [] [.agg [.lit (.int .i64 a0_0), .lit (.int .i64 a0_1), .lit (.int .i64 a0_2), .lit (.int .i64 a0_3)], .lit (.int .i64 a1)] [] (.lit (.int .i64 r)) := by
 refine acalls (fn := Try.f71) (nt := 26) Try.func71 rfl rfl (Nat.le_of_ble_eq_true rfl) fun E hE => ?_
 rw [impl_farthest.f] at H
 refine aw_grp1 ?_
 refine wk_start ?_
 refine kb g0 (bxA 0) ?_
 refine kv g0 (asg) ?_
 refine wk_end ?_
 refine ac_next ?_
 refine aw_grp1 ?_
 refine aw_block ?_
 refine aw_grp1 ?_
 refine wk_start ?_
 refine kv g0 (ldBA 4 [.lit (.int .i64 a0_0), .lit (.int .i64 a0_1), .lit (.int .i64 a0_2), .lit (.int .i64 a0_3)]) ?_
 obtain ⟨t1, A2, H⟩ := of_bind H
 refine kcS0 7 (.lit (.bool t1)) [] g0 (cal (impl_Ins_asks.ok A2) [] 9999 .n (hf := Try.func72)) rfl rfl ?_
 refine kv g0 (asg) ?_
 refine wk_end ?_
 refine ac_next ?_
 by_cases c3 : t1 = true
 ·rw [if_pos c3] at H
  refine aw_ifT ?_ c3
  refine aw_grp1 ?_
  refine wk_start ?_
  refine kv g0 (mv) ?_
  refine kv g0 (add6) ?_
  refine kv g0 (faB 2 2) ?_
  refine kv g0 (ldB) ?_
  refine kv g0 (faB 3 3) ?_
  refine kv g0 (ldB) ?_
  refine kv g0 (max_) ?_
  refine kv g0 (add6) ?_
  refine kv g0 (asg) ?_
  refine wk_end ?_
  refine ac_next ?_
  refine aw_ret ?_
  refine ac_blkR ?_
  refine ac_thenR ?_
  obtain rfl := Option.some.inj H
  exact acr hE [.tmp 4] (.tmp .nil) (.one _) [] 9999
 rw [if_neg c3] at H
 refine aw_ifF ?_ (bF c3)
 refine aw_grp1 ?_
 refine wk_start ?_
 refine kv g0 (faB 0 0) ?_
 refine kv g0 (ldB) ?_
 refine kv g0 (eql) ?_
 refine kv g0 (asg) ?_
 refine wk_end ?_
 refine ac_next ?_
 by_cases c4 : a0_0 = 7
 ·rw [if_pos c4] at H
  refine aw_ifT ?_ (eT c4)
  refine aw_grp1 ?_
  refine wk_start ?_
  refine kv g0 (mv) ?_
  refine kv g0 (add6) ?_
  refine kv g0 (faB 1 1) ?_
  refine kv g0 (ldB) ?_
  refine kv g0 (add6) ?_
  refine kv g0 (asg) ?_
  refine wk_end ?_
  refine ac_next ?_
  refine aw_ret ?_
  refine ac_blkR ?_
  refine ac_thenR ?_
  obtain rfl := Option.some.inj H
  exact acr hE [.tmp 4] (.tmp .nil) (.one _) [] 9999
 rw [if_neg c4] at H
 refine aw_ifF ?_ (eF c4)
 refine aw_skip ?_
 refine ac_blkN ?_
 refine ac_next ?_
 refine aw_grp1 ?_
 refine wk_start ?_
 refine kv g0 (mv) ?_
 refine kv g0 (asg) ?_
 refine wk_end ?_
 refine ac_next ?_
 refine aw_ret ?_
 obtain rfl := Option.some.inj H
 exact acr hE [.tmp 4] (.tmp .nil) (.one _) [] 9999
/-! impl_CheckProgram -/
def impl_CheckProgram.l0 : Nat → (List S55) → Int → Option (Bool)
 | 0, _, _ => none
 | k16 + 1, l0, p15 => if p15 < (l0.length : Int) then if 0 ≤ p15 then (impl_InsOk.f ((rd_T55 l0 p15).f0) ((rd_T55 l0 p15).f1) ((rd_T55 l0 p15).f2) ((rd_T55 l0 p15).f3)).bind fun t19 => (if t19 = true then ((impl_farthest.f ((rd_T55 l0 p15).f0) ((rd_T55 l0 p15).f1) ((rd_T55 l0 p15).f2) ((rd_T55 l0 p15).f3) p15).bind fun t22 => if t22 ≥ (l0.length : Int) then some false else impl_CheckProgram.l0 k16 l0 (wrap64 (p15 + 1))) else some false) else none else some true
def impl_CheckProgram.f (k : Nat) (l0 : List S55) : Option (Bool) := (impl_within.f (l0.length : Int) 1 400).bind fun t1 => (if t1 = true then (if 0 ≤ (wrap64 ((l0.length : Int) - 1)) then (if (wrap64 ((l0.length : Int) - 1)) < (l0.length : Int) then if ((rd_T55 l0 (wrap64 ((l0.length : Int) - 1))).f0) = 8 then impl_CheckProgram.l0 k l0 0 else some false else none) else none) else some false)
theorem impl_CheckProgram.ok {k : Nat} {l0 : List S55} {r : Bool} (H : impl_CheckProgram.f k l0 = some r) : ACalls Try.prog 53 [] [.sl .o 4 (l0.map e55)] [] (.lit (.bool r)) := by
 refine acalls (fn := Try.f53) (nt := 38) Try.func53 rfl rfl (Nat.le_of_ble_eq_true rfl) fun E hE => ?_
 rw [impl_CheckProgram.f] at H
 refine aw_grp1 ?_
 refine wk_start ?_
 refine kv g0 (asg) ?_
 refine wk_end ?_
 refine ac_next ?_
 refine aw_grp1 ?_
 refine wk_start ?_
 refine kv g0 (mv) ?_
 refine kv g0 (lnS lenE) ?_
 refine kv g0 (asg) ?_
 refine wk_end ?_
 refine ac_next ?_
 refine aw_grp1 ?_
 refine aw_grp1 ?_
 refine wk_start ?_
 refine kv g0 (mv) ?_
 obtain ⟨t1, A2, H⟩ := of_bind H
 refine kcS0 9 (.lit (.bool t1)) [] g0 (cal (impl_within.ok A2) [] 9999 .n (hf := Try.func69)) rfl rfl ?_
 refine kv g0 (not_) ?_
 refine kv g0 (mv) ?_
 by_cases c3 : t1 = true
 ·rw [if_pos c3] at H
  refine kv (g1 (nF c3)) (mv) ?_
  refine kv (g1 (nF c3)) (mv) ?_
  refine kv (g1 (nF c3)) (sub6) ?_
  obtain ⟨c4, H⟩ := of_if H
  obtain ⟨c5, H⟩ := of_if H
  refine kv (g1 (nF c3)) (ixS 55 (e55 (rd_T55 l0 (wrap64 ((l0.length : Int) - 1)))) c4 (getE (z := z55) c4 c5)) ?_
  refine kv (g1 (nF c3)) (faR 0 0) ?_
  refine kv (g1 (nF c3)) (ldR (.lit (.int .i64 ((rd_T55 l0 (wrap64 ((l0.length : Int) - 1))).f0)))) ?_
  refine kv (g1 (nF c3)) (neq) ?_
  refine kv g0 (pkF (nF c3)) ?_
  refine wk_end ?_
  refine ac_next ?_
  by_cases c6 : ((rd_T55 l0 (wrap64 ((l0.length : Int) - 1))).f0) = 8
  ·rw [if_pos c6] at H
   refine aw_ifF ?_ (eM c6)
   refine aw_skip ?_
   refine ac_next ?_
   refine aw_grp1 ?_
   refine aw_grp1 ?_
   refine wk_start ?_
   refine kv g0 (mv) ?_
   refine kv g0 (lnS lenE) ?_
   refine kv g0 (mv) ?_
   refine wk_end ?_
   refine ac_next ?_
   refine aw_block ?_
   refine aw_loop1 (fun (k_ : Nat) (p15 : Int) => k_ ≤ k ∧ impl_CheckProgram.l0 k_ l0 p15 = some r) (fun (p15 : Int) => ⟨[(3, .lit (.int .i64 (l0.length : Int))), (20, .sl .o 4 (l0.map e55)), (21, .lit (.int .i64 (l0.length : Int))), (22, .lit (.int .i64 p15))], []⟩) k 0 ⟨Nat.le_refl _, H⟩ (fun K_ h_ => acw hE [] 9999 h_) (fun _ => by intro h_; have h_ := h_.2; rw [impl_CheckProgram.l0.eq_1] at h_; cases h_) ?_
   intro k16 p15 hq_ K25 hK26
   have hk16 := hq_.1
   have H := hq_.2
   clear hq_
   rw [impl_CheckProgram.l0.eq_2] at H
   refine aw_grp1 ?_
   refine wk_start ?_
   refine kv g0 (lss) ?_
   refine wk_end ?_
   refine ac_next ?_
   refine aw_grp1 ?_
   by_cases c17 : p15 < (l0.length : Int)
   ·rw [if_pos c17] at H
    refine aw_ifT ?_ (decide_eq_true c17)
    refine aw_skip ?_
    refine ac_next ?_
    refine aw_grp1 ?_
    refine aw_block ?_
    refine aw_grp1 ?_
    refine wk_start ?_
    refine kv g0 (mv) ?_
    obtain ⟨c18, H⟩ := of_if H
    refine kv g0 (ixS 55 (e55 (rd_T55 l0 p15)) c18 (getE (z := z55) c18 c17)) ?_
    refine kv g0 (ldRA 4 [.lit (.int .i64 ((rd_T55 l0 p15).f0)), .lit (.int .i64 ((rd_T55 l0 p15).f1)), .lit (.int .i64 ((rd_T55 l0 p15).f2)), .lit (.int .i64 ((rd_T55 l0 p15).f3))]) ?_
    refine kb g0 (alc 0 [.int .i64 0, .int .i64 0, .int .i64 0, .int .i64 0] [.lit (.int .i64 0), .lit (.int .i64 0), .lit (.int .i64 0), .lit (.int .i64 0)]) ?_
    refine kv g0 (asg) ?_
    refine ks g0 (stB 4 [.lit (.int .i64 ((rd_T55 l0 p15).f0)), .lit (.int .i64 ((rd_T55 l0 p15).f1)), .lit (.int .i64 ((rd_T55 l0 p15).f2)), .lit (.int .i64 ((rd_T55 l0 p15).f3))]) ?_
    refine wk_end ?_
    refine ac_next ?_
    refine aw_grp1 ?_
    refine wk_start ?_
    refine kv g0 (ldBA 4 [.lit (.int .i64 ((rd_T55 l0 p15).f0)), .lit (.int .i64 ((rd_T55 l0 p15).f1)), .lit (.int .i64 ((rd_T55 l0 p15).f2)), .lit (.int .i64 ((rd_T55 l0 p15).f3))]) ?_
    obtain ⟨t19, A20, H⟩ := of_bind H
    refine kcS0 28 (.lit (.bool t19)) [] g0 (cal (impl_InsOk.ok A20) [] 9999 .n (hf := Try.func70)) rfl rfl ?_
    refine kv g0 (not_) ?_
    refine kv g0 (mv) ?_
    by_cases c21 : t19 = true
    ·rw [if_pos c21] at H
     refine kv (g1 (nF c21)) (ldBA 4 [.lit (.int .i64 ((rd_T55 l0 p15).f0)), .lit (.int .i64 ((rd_T55 l0 p15).f1)), .lit (.int .i64 ((rd_T55 l0 p15).f2)), .lit (.int .i64 ((rd_T55 l0 p15).f3))]) ?_
     refine kv (g1 (nF c21)) (mv) ?_
     obtain ⟨t22, A23, H⟩ := of_bind H
     refine kcS0 33 (.lit (.int .i64 t22)) [] (g1 (nF c21)) (cal (impl_farthest.ok A23) [] 9999 .n (hf := Try.func71)) rfl rfl ?_
     refine kv (g1 (nF c21)) (mv) ?_
     refine kv (g1 (nF c21)) (geq) ?_
     refine kv g0 (pkF (nF c21)) ?_
     refine wk_end ?_
     refine ac_next ?_
     by_cases c24 : t22 ≥ (l0.length : Int)
     ·rw [if_pos c24] at H
      refine aw_ifT ?_ (decide_eq_true c24)
      refine aw_grp1 ?_
      refine wk_start ?_
      refine kv g0 (asg) ?_
      refine wk_end ?_
      refine ac_next ?_
      refine aw_ret ?_
      refine ac_blkR ?_
      refine ac_thenR ?_
      refine ac_thenR ?_
      refine ac_blkR ?_
      refine ac_thenR ?_
      obtain rfl := Option.some.inj H
      exact acr hE [.tmp 2] (.tmp .nil) (.one _) [] 9999
     rw [if_neg c24] at H
     refine aw_ifF ?_ (decide_eq_false c24)
     refine aw_skip ?_
     refine ac_blkN ?_
     refine ac_next ?_
     refine wk_start ?_
     refine kv g0 (add6) ?_
     refine kv g0 (mv) ?_
     refine wk_end ?_
     refine ac_k ?_
     exact acw hE [] 9999 (hK26 k16 (wrap64 (p15 + 1)) (Nat.le_refl _) ⟨by omega, H⟩)
    rw [if_neg c21] at H
    refine kx (hF (nT (bF c21))) ?_
    refine kx (hF (nT (bF c21))) ?_
    refine kx (hF (nT (bF c21))) ?_
    refine kx (hF (nT (bF c21))) ?_
    refine kx (hF (nT (bF c21))) ?_
    refine kv g0 (pkT (nT (bF c21))) ?_
    refine wk_end ?_
    refine ac_next ?_
    refine aw_ifT ?_ rfl
    refine aw_grp1 ?_
    refine wk_start ?_
    refine kv g0 (asg) ?_
    refine wk_end ?_
    refine ac_next ?_
    refine aw_ret ?_
    refine ac_blkR ?_
    refine ac_thenR ?_
    refine ac_thenR ?_
    refine ac_blkR ?_
    refine ac_thenR ?_
    obtain rfl := Option.some.inj H
    exact acr hE [.tmp 2] (.tmp .nil) (.one _) [] 9999
   rw [if_neg c17] at H
   refine aw_ifF ?_ (decide_eq_false c17)
   refine aw_exit ?_
   refine ac_then ?_
   refine ac_then ?_
   refine ac_hit rfl ?_
   refine ac_next ?_
   refine aw_grp1 ?_
   refine wk_start ?_
   refine kv g0 (asg) ?_
   refine wk_end ?_
   refine ac_next ?_
   refine aw_ret ?_
   obtain rfl := Option.some.inj H
   exact acr hE [.tmp 2] (.tmp .nil) (.one _) [] 9999
  rw [if_neg c6] at H
  refine aw_ifT ?_ (eN c6)
  refine aw_grp1 ?_
  refine wk_start ?_
  refine kv g0 (asg) ?_
  refine wk_end ?_
  refine ac_next ?_
  refine aw_ret ?_
  refine ac_thenR ?_
  obtain rfl := Option.some.inj H
  exact acr hE [.tmp 2] (.tmp .nil) (.one _) [] 9999
 rw [if_neg c3] at H
 refine kx (hF (nT (bF c3))) ?_
 refine kx (hF (nT (bF c3))) ?_
 refine kx (hF (nT (bF c3))) ?_
 refine kx (hF (nT (bF c3))) ?_
 refine kx (hF (nT (bF c3))) ?_
 refine kx (hF (nT (bF c3))) ?_
 refine kx (hF (nT (bF c3))) ?_
 refine kv g0 (pkT (nT (bF c3))) ?_
 refine wk_end ?_
 refine ac_next ?_
 refine aw_ifT ?_ rfl
 refine aw_grp1 ?_
 refine wk_start ?_
 refine kv g0 (asg) ?_
 refine wk_end ?_
 refine ac_next ?_
 refine aw_ret ?_
 refine ac_thenR ?_
 obtain rfl := Option.some.inj H
 exact acr hE [.tmp 2] (.tmp .nil) (.one _) [] 9999
/-! impl_ways -/
def impl_ways.j0 : Nat → Int → Int → Int → Int → Int → Bool → Option ((List Int))
 | 0, _, _, _, _, _, _ => none
 | k7 + 1, a0_0, a0_1, a0_2, a0_3, a1, p6 => if p6 = true then some ([wrap64 ((wrap64 (a1 + 1)) + (min a0_2 a0_3)), wrap64 ((wrap64 (a1 + 1)) + (max a0_2 a0_3))] : List Int) else ((impl_Ins_asks.f a0_0 a0_1 a0_2 a0_3).bind fun t9 => if t9 = true then some ([wrap64 ((wrap64 (a1 + 1)) + a0_2)] : List Int) else some ([wrap64 (a1 + 1)] : List Int))
def impl_ways.f (k : Nat) (a0_0 : Int) (a0_1 : Int) (a0_2 : Int) (a0_3 : Int) (a1 : Int) : Option ((List Int)) := if a0_0 = 8 then some ([] : List Int) else if a0_0 = 7 then some ([wrap64 ((wrap64 (a1 + 1)) + a0_1)] : List Int) else ((impl_Ins_asks.f a0_0 a0_1 a0_2 a0_3).bind fun t3 => (if t3 = true then impl_ways.j0 k a0_0 a0_1 a0_2 a0_3 a1 (a0_2 != a0_3) else impl_ways.j0 k a0_0 a0_1 a0_2 a0_3 a1 false))
theorem impl_ways.ok {k : Nat} {a0_0 : Int} {a0_1 : Int} {a0_2 : Int} {a0_3 : Int} {a1 : Int} {r : (List Int)} (H : impl_ways.f k a0_0 a0_1 a0_2 a0_3 a1 = some r) : ACalls Try.prog 54 [] [.agg [.lit (.int .i64 a0_0), .lit (.int .i64 a0_1), .lit (.int .i64 a0_2), .lit (.int .i64 a0_3)], .lit (.int .i64 a1)] [(0, .row 3 1 (r.map (eI .i64)))] (.row 0) := by
 refine acalls (fn := Try.f54) (nt := 59) Try.func54 rfl rfl (Nat.le_of_ble_eq_true rfl) fun E hE => ?_
 rw [impl_ways.f] at H
 refine aw_grp1 ?_
 refine wk_start ?_
 refine kb g0 (bxA 0) ?_
 refine kv g0 (asg) ?_
 refine wk_end ?_
 refine ac_next ?_
 refine aw_grp1 ?_
 refine aw_block ?_
 refine aw_grp1 ?_
 refine wk_start ?_
 refine kv g0 (faB 0 0) ?_
 refine kv g0 (ldB) ?_
 refine kv g0 (eql) ?_
 refine kv g0 (asg) ?_
 refine wk_end ?_
 refine ac_next ?_
 by_cases c1 : a0_0 = 8
 ·rw [if_pos c1] at H
  refine aw_ifT ?_ (eT c1)
  refine aw_grp1 ?_
  refine wk_start ?_
  refine kb g0 (bsl 1 3 1 [.int .i64 0] (([] : List Int).map (eI .i64))) ?_
  refine kv g0 (asg) ?_
  refine wk_end ?_
  refine ac_next ?_
  refine aw_ret ?_
  refine ac_blkR ?_
  refine ac_thenR ?_
  obtain rfl := Option.some.inj H
  exact acr hE [.tmp 4] (.tmp .nil) (.one _) [(0, 1)] 9999
 rw [if_neg c1] at H
 refine aw_ifF ?_ (eF c1)
 refine aw_grp1 ?_
 refine wk_start ?_
 refine kv g0 (faB 0 0) ?_
 refine kv g0 (ldB) ?_
 refine kv g0 (eql) ?_
 refine kv g0 (asg) ?_
 refine wk_end ?_
 refine ac_next ?_
 by_cases c2 : a0_0 = 7
 ·rw [if_pos c2] at H
  refine aw_ifT ?_ (eT c2)
  refine aw_grp1 ?_
  refine wk_start ?_
  refine kv g0 (mv) ?_
  refine kv g0 (add6) ?_
  refine kv g0 (faB 1 1) ?_
  refine kv g0 (ldB) ?_
  refine kv g0 (add6) ?_
  refine kb g0 (bsl 2 3 1 [.int .i64 0] (([wrap64 ((wrap64 (a1 + 1)) + a0_1)] : List Int).map (eI .i64))) ?_
  refine kv g0 (asg) ?_
  refine wk_end ?_
  refine ac_next ?_
  refine aw_ret ?_
  refine ac_blkR ?_
  refine ac_thenR ?_
  obtain rfl := Option.some.inj H
  exact acr hE [.tmp 4] (.tmp .nil) (.one _) [(0, 2)] 9999
 rw [if_neg c2] at H
 refine aw_ifF ?_ (eF c2)
 refine aw_cut1 (J := fun K_ => ∀ (k_ : Nat) (p6 : Bool), k_ ≤ k → impl_ways.j0 k_ a0_0 a0_1 a0_2 a0_3 a1 p6 = some r → ACont E 59 ⟨[(1, .lit (.int .i64 a1)), (2, .box 0 0), (20, .lit (.bool p6))], [(0, .box 55 [.lit (.int .i64 a0_0), .lit (.int .i64 a0_1), .lit (.int .i64 a0_2), .lit (.int .i64 a0_3)])]⟩ K_) ?_ ?_
 ·intro K_ hJ12
  refine wk_start ?_
  refine kv g0 (ldBA 4 [.lit (.int .i64 a0_0), .lit (.int .i64 a0_1), .lit (.int .i64 a0_2), .lit (.int .i64 a0_3)]) ?_
  obtain ⟨t3, A4, H⟩ := of_bind H
  refine kcS0 22 (.lit (.bool t3)) [] g0 (cal (impl_Ins_asks.ok A4) [] 9999 .n (hf := Try.func72)) rfl rfl ?_
  refine kv g0 (mv) ?_
  by_cases c5 : t3 = true
  ·rw [if_pos c5] at H
   refine kv (g1 c5) (faB 2 2) ?_
   refine kv (g1 c5) (ldB) ?_
   refine kv (g1 c5) (faB 3 3) ?_
   refine kv (g1 c5) (ldB) ?_
   refine kv (g1 c5) (neq) ?_
   refine kv g0 (pkT c5) ?_
   refine kv g0 (asg) ?_
   refine wk_end ?_
   refine ac_k ?_
   exact acw hE [(0, 0)] 9999 (hJ12 k (a0_2 != a0_3) (Nat.le_refl _) H)
  rw [if_neg c5] at H
  refine kx (hT (bF c5)) ?_
  refine kx (hT (bF c5)) ?_
  refine kx (hT (bF c5)) ?_
  refine kx (hT (bF c5)) ?_
  refine kx (hT (bF c5)) ?_
  refine kv g0 (pkF (bF c5)) ?_
  refine kv g0 (asg) ?_
  refine wk_end ?_
  refine ac_k ?_
  exact acw hE [(0, 0)] 9999 (hJ12 k false (Nat.le_refl _) H)
 intro k_ p6 hk_ H
 rcases k_ with _ | k7
 ·rw [impl_ways.j0.eq_1] at H; cases H
 have hk7 : k7 ≤ k := by omega
 clear hk_
 rw [impl_ways.j0.eq_2] at H
 by_cases c8 : p6 = true
 ·rw [if_pos c8] at H
  refine aw_ifT ?_ c8
  refine aw_grp1 ?_
  refine wk_start ?_
  refine kv g0 (mv) ?_
  refine kv g0 (add6) ?_
  refine kv g0 (faB 2 2) ?_
  refine kv g0 (ldB) ?_
  refine kv g0 (faB 3 3) ?_
  refine kv g0 (ldB) ?_
  refine kv g0 (min_) ?_
  refine kv g0 (add6) ?_
  refine kv g0 (mv) ?_
  refine kv g0 (add6) ?_
  refine kv g0 (faB 2 2) ?_
  refine kv g0 (ldB) ?_
  refine kv g0 (faB 3 3) ?_
  refine kv g0 (ldB) ?_
  refine kv g0 (max_) ?_
  refine kv g0 (add6) ?_
  refine kb g0 (bsl 3 3 1 [.int .i64 0] (([wrap64 ((wrap64 (a1 + 1)) + (min a0_2 a0_3)), wrap64 ((wrap64 (a1 + 1)) + (max a0_2 a0_3))] : List Int).map (eI .i64))) ?_
  refine kv g0 (asg) ?_
  refine wk_end ?_
  refine ac_next ?_
  refine aw_ret ?_
  refine ac_blkR ?_
  refine ac_thenR ?_
  obtain rfl := Option.some.inj H
  exact acr hE [.tmp 4] (.tmp .nil) (.one _) [(0, 3)] 9999
 rw [if_neg c8] at H
 refine aw_ifF ?_ (bF c8)
 refine aw_grp1 ?_
 refine wk_start ?_
 refine kv g0 (ldBA 4 [.lit (.int .i64 a0_0), .lit (.int .i64 a0_1), .lit (.int .i64 a0_2), .lit (.int .i64 a0_3)]) ?_
 obtain ⟨t9, A10, H⟩ := of_bind H
 refine kcS0 49 (.lit (.bool t9)) [] g0 (cal (impl_Ins_asks.ok A10) [] 9999 .n (hf := Try.func72)) rfl rfl ?_
 refine kv g0 (asg) ?_
 refine wk_end ?_
 refine ac_next ?_
 by_cases c11 : t9 = true
 ·rw [if_pos c11] at H
  refine aw_ifT ?_ c11
  refine aw_grp1 ?_
  refine wk_start ?_
  refine kv g0 (mv) ?_
  refine kv g0 (add6) ?_
  refine kv g0 (faB 2 2) ?_
  refine kv g0 (ldB) ?_
  refine kv g0 (add6) ?_
  refine kb g0 (bsl 4 3 1 [.int .i64 0] (([wrap64 ((wrap64 (a1 + 1)) + a0_2)] : List Int).map (eI .i64))) ?_
  refine kv g0 (asg) ?_
  refine wk_end ?_
  refine ac_next ?_
  refine aw_ret ?_
  refine ac_blkR ?_
  refine ac_thenR ?_
  obtain rfl := Option.some.inj H
  exact acr hE [.tmp 4] (.tmp .nil) (.one _) [(0, 4)] 9999
 rw [if_neg c11] at H
 refine aw_ifF ?_ (bF c11)
 refine aw_skip ?_
 refine ac_blkN ?_
 refine ac_next ?_
 refine aw_grp1 ?_
 refine wk_start ?_
 refine kv g0 (mv) ?_
 refine kv g0 (add6) ?_
 refine kb g0 (bsl 5 3 1 [.int .i64 0] (([wrap64 (a1 + 1)] : List Int).map (eI .i64))) ?_
 refine kv g0 (asg) ?_
 refine wk_end ?_
 refine ac_next ?_
 refine aw_ret ?_
 obtain rfl := Option.some.inj H
 exact acr hE [.tmp 4] (.tmp .nil) (.one _) [(0, 5)] 9999
/-! impl_Reached -/
mutual
def impl_Reached.l0 : Nat → (List S55) → Int → ((List Int)) → (List Bool) → Int → Option ((List Bool))
 | 0, _, _, _, _, _ => none
 | k41 + 1, l0, p27, t33, q39, p40 => if p40 < (t33.length : Int) then if 0 ≤ p40 then if 0 ≤ (rd t33 p40) then (if (rd t33 p40) < (q39.length : Int) then impl_Reached.l0 k41 l0 p27 t33 (q39.set (rd t33 p40).toNat true) (wrap64 (p40 + 1)) else none) else none else none else impl_Reached.l1 k41 l0 q39 (wrap64 (p27 + 1))
def impl_Reached.l1 : Nat → (List S55) → (List Bool) → Int → Option ((List Bool))
 | 0, _, _, _ => none
 | k28 + 1, l0, q26, p27 => if p27 < (l0.length : Int) then if 0 ≤ p27 then if p27 < (q26.length : Int) then if (rdOf false q26 p27) = true then (impl_ways.f k28 ((rd_T55 l0 p27).f0) ((rd_T55 l0 p27).f1) ((rd_T55 l0 p27).f2) ((rd_T55 l0 p27).f3) p27).bind fun t33 => impl_Reached.l0 k28 l0 p27 t33 q26 0 else impl_Reached.l1 k28 l0 q26 (wrap64 (p27 + 1)) else none else none else some q26
end
def impl_Reached.f (k : Nat) (l0 : List S55) : Option ((List Bool)) := (impl_CheckProgram.f k l0).bind fun t1 => if t1 = true then if 0 ≤ (l0.length : Int) then (if (l0.length : Int).toNat ≤ 281474976710656 then if 0 < ((List.replicate (l0.length : Int).toNat false).length : Int) then impl_Reached.l1 k l0 ((List.replicate (l0.length : Int).toNat false).set 0 true) 0 else none else none) else none else some ([] : List Bool)
theorem impl_Reached.ok {k : Nat} {l0 : List S55} {r : (List Bool)} (H : impl_Reached.f k l0 = some r) : ACalls Try.prog 50 [] [.sl .o 4 (l0.map e55)] [(0, .row 4 1 (r.map eB))] (.row 0) := by
 refine acalls (fn := Try.f50) (nt := 43) Try.func50 rfl rfl (Nat.le_of_ble_eq_true rfl) fun E hE => ?_
 rw [impl_Reached.f] at H
 refine aw_grp1 ?_
 refine wk_start ?_
 refine kv g0 (asg) ?_
 refine wk_end ?_
 refine ac_next ?_
 refine aw_grp1 ?_
 refine aw_grp1 ?_
 refine wk_start ?_
 refine kv g0 (mv) ?_
 obtain ⟨t1, A2, H⟩ := of_bind H
 refine kcS0 9 (.lit (.bool t1)) [] g0 (cal (impl_CheckProgram.ok A2) [] 9999 .n (hf := Try.func53)) rfl rfl ?_
 refine kv g0 (not_) ?_
 refine wk_end ?_
 refine ac_next ?_
 by_cases c3 : t1 = true
 ·rw [if_pos c3] at H
  refine aw_ifF ?_ (nF c3)
  refine aw_skip ?_
  refine ac_next ?_
  refine aw_grp1 ?_
  refine wk_start ?_
  refine kv g0 (mv) ?_
  refine kv g0 (lnS lenE) ?_
  obtain ⟨c4, H⟩ := of_if H
  obtain ⟨c5, H⟩ := of_if H
  refine kb g0 (mks 1 4 1 1 [.bool false] (eB false) ((List.replicate (l0.length : Int).toNat false).map eB) c4 (mkb c5 rfl) repE) ?_
  refine kv g0 (asg) ?_
  refine wk_end ?_
  refine ac_next ?_
  refine aw_grp1 ?_
  refine wk_start ?_
  refine kv g0 (mv) ?_
  obtain ⟨c6, H⟩ := of_if H
  refine kv g0 (ixR 4 (by decide : (0 : Int) ≤ 0) (ltE c6)) ?_
  refine ks g0 (stE 1 (eB true) (((List.replicate (l0.length : Int).toNat false).set 0 true).map eB) (getE (z := false) (by decide : (0 : Int) ≤ 0) c6) setE) ?_
  refine wk_end ?_
  refine ac_next ?_
  refine aw_grp1 ?_
  refine aw_grp1 ?_
  refine wk_start ?_
  refine kv g0 (mv) ?_
  refine kv g0 (lnS lenE) ?_
  refine kv g0 (mv) ?_
  refine wk_end ?_
  refine ac_next ?_
  refine aw_block ?_
  refine aw_loop2 (fun (k_ : Nat) (q26 : List Bool) (p27 : Int) => k_ ≤ k ∧ impl_Reached.l1 k_ l0 q26 p27 = some r) (fun (q26 : List Bool) (p27 : Int) => ⟨[(3, .row 1), (17, .sl .o 4 (l0.map e55)), (18, .lit (.int .i64 (l0.length : Int))), (19, .lit (.int .i64 p27))], [(1, .row 4 1 (q26.map eB))]⟩) k ((List.replicate (l0.length : Int).toNat false).set 0 true) 0 ⟨Nat.le_refl _, H⟩ (fun K_ h_ => acw hE [(1, 1)] 9999 h_) (fun _ _ => by intro h_; have h_ := h_.2; rw [impl_Reached.l1.eq_1] at h_; cases h_) ?_
  intro k28 q26 p27 hq_ K48 hK49
  have hk28 := hq_.1
  have H := hq_.2
  clear hq_
  rw [impl_Reached.l1.eq_2] at H
  refine aw_grp1 ?_
  refine wk_start ?_
  refine kv g0 (lss) ?_
  refine wk_end ?_
  refine ac_next ?_
  refine aw_grp1 ?_
  by_cases c29 : p27 < (l0.length : Int)
  ·rw [if_pos c29] at H
   refine aw_ifT ?_ (decide_eq_true c29)
   refine aw_skip ?_
   refine ac_next ?_
   refine aw_grp1 ?_
   refine aw_block ?_
   refine aw_grp1 ?_
   refine wk_start ?_
   refine kv g0 (mv) ?_
   obtain ⟨c30, H⟩ := of_if H
   refine kv g0 (ixS 55 (e55 (rd_T55 l0 p27)) c30 (getE (z := z55) c30 c29)) ?_
   refine kv g0 (ldRA 4 [.lit (.int .i64 ((rd_T55 l0 p27).f0)), .lit (.int .i64 ((rd_T55 l0 p27).f1)), .lit (.int .i64 ((rd_T55 l0 p27).f2)), .lit (.int .i64 ((rd_T55 l0 p27).f3))]) ?_
   refine kb g0 (alc 2 [.int .i64 0, .int .i64 0, .int .i64 0, .int .i64 0] [.lit (.int .i64 0), .lit (.int .i64 0), .lit (.int .i64 0), .lit (.int .i64 0)]) ?_
   refine kv g0 (asg) ?_
   refine ks g0 (stB 4 [.lit (.int .i64 ((rd_T55 l0 p27).f0)), .lit (.int .i64 ((rd_T55 l0 p27).f1)), .lit (.int .i64 ((rd_T55 l0 p27).f2)), .lit (.int .i64 ((rd_T55 l0 p27).f3))]) ?_
   refine wk_end ?_
   refine ac_next ?_
   refine aw_grp1 ?_
   refine aw_grp1 ?_
   refine wk_start ?_
   refine kv g0 (mv) ?_
   refine kv g0 (mv) ?_
   obtain ⟨c31, H⟩ := of_if H
   refine kv g0 (ixR 4 c30 (ltE c31)) ?_
   refine kv g0 (ldE (eB (rdOf false q26 p27)) (.lit (.bool (rdOf false q26 p27))) (getE (z := false) c30 c31)) ?_
   refine kv g0 (not_) ?_
   refine wk_end ?_
   refine ac_next ?_
   by_cases c32 : (rdOf false q26 p27) = true
   ·rw [if_pos c32] at H
    refine aw_ifF ?_ (nF c32)
    refine aw_skip ?_
    refine ac_next ?_
    refine aw_grp1 ?_
    refine wk_start ?_
    refine kv g0 (ldBA 4 [.lit (.int .i64 ((rd_T55 l0 p27).f0)), .lit (.int .i64 ((rd_T55 l0 p27).f1)), .lit (.int .i64 ((rd_T55 l0 p27).f2)), .lit (.int .i64 ((rd_T55 l0 p27).f3))]) ?_
    refine kv g0 (mv) ?_
    obtain ⟨t33, A34, H⟩ := of_bind H
    refine kcS1 31 (.row 3) [(3, .row 3 1 (t33.map (eI .i64)))] g0 (cal (impl_ways.ok A34) [3] 9999 .n (hf := Try.func54)) rfl rfl ?_
    refine kv g0 (lnR lenE) ?_
    refine kv g0 (mv) ?_
    refine wk_end ?_
    refine ac_next ?_
    refine aw_block ?_
    refine aw_loop2 (fun (k_ : Nat) (q39 : List Bool) (p40 : Int) => k_ ≤ k28 ∧ impl_Reached.l0 k_ l0 p27 t33 q39 p40 = some r) (fun (q39 : List Bool) (p40 : Int) => ⟨[(3, .row 1), (17, .sl .o 4 (l0.map e55)), (18, .lit (.int .i64 (l0.length : Int))), (19, .lit (.int .i64 p27)), (31, .row 3), (32, .lit (.int .i64 (t33.length : Int))), (33, .lit (.int .i64 p40))], [(1, .row 4 1 (q39.map eB)), (3, .row 3 1 (t33.map (eI .i64)))]⟩) k28 q26 0 ⟨Nat.le_refl _, H⟩ (fun K_ h_ => acw hE [(1, 1), (3, 3)] 9999 h_) (fun _ _ => by intro h_; have h_ := h_.2; rw [impl_Reached.l0.eq_1] at h_; cases h_) ?_
    intro k41 q39 p40 hq_ K46 hK47
    have hk41 := hq_.1
    have H := hq_.2
    clear hq_
    rw [impl_Reached.l0.eq_2] at H
    refine aw_grp1 ?_
    refine wk_start ?_
    refine kv g0 (lss) ?_
    refine wk_end ?_
    refine ac_next ?_
    refine aw_grp1 ?_
    by_cases c42 : p40 < (t33.length : Int)
    ·rw [if_pos c42] at H
     refine aw_ifT ?_ (decide_eq_true c42)
     refine aw_skip ?_
     refine ac_next ?_
     refine aw_grp1 ?_
     refine aw_block ?_
     refine aw_grp1 ?_
     refine wk_start ?_
     obtain ⟨c43, H⟩ := of_if H
     refine kv g0 (ixR 3 c43 (ltE c42)) ?_
     refine kv g0 (ldE (eI .i64 (rd t33 p40)) (.lit (.int .i64 (rd t33 p40))) (getE (z := (0 : Int)) c43 c42)) ?_
     refine kv g0 (asg) ?_
     refine wk_end ?_
     refine ac_next ?_
     refine wk_start ?_
     refine kv g0 (mv) ?_
     refine kv g0 (mv) ?_
     obtain ⟨c44, H⟩ := of_if H
     obtain ⟨c45, H⟩ := of_if H
     refine kv g0 (ixR 4 c44 (ltE c45)) ?_
     refine ks g0 (stE 1 (eB true) ((q39.set (rd t33 p40).toNat true).map eB) (getE (z := false) c44 c45) setE) ?_
     refine wk_end ?_
     refine ac_blkN ?_
     refine ac_next ?_
     refine wk_start ?_
     refine kv g0 (add6) ?_
     refine kv g0 (mv) ?_
     refine wk_end ?_
     refine ac_k ?_
     exact acw hE [(1, 1), (3, 3)] 9999 (hK47 k41 (q39.set (rd t33 p40).toNat true) (wrap64 (p40 + 1)) (Nat.le_refl _) ⟨by omega, H⟩)
    rw [if_neg c42] at H
    refine aw_ifF ?_ (decide_eq_false c42)
    refine aw_exit ?_
    refine ac_then ?_
    refine ac_then ?_
    refine ac_hit rfl ?_
    refine ac_blkN ?_
    refine ac_next ?_
    refine wk_start ?_
    refine kv g0 (add6) ?_
    refine kv g0 (mv) ?_
    refine wk_end ?_
    refine ac_k ?_
    exact acw hE [(1, 1)] 9999 (hK49 k41 q39 (wrap64 (p27 + 1)) (by omega) ⟨by omega, H⟩)
   rw [if_neg c32] at H
   refine aw_ifT ?_ (nT (bF c32))
   refine aw_exit ?_
   refine ac_then ?_
   refine ac_hit rfl ?_
   refine ac_next ?_
   refine wk_start ?_
   refine kv g0 (add6) ?_
   refine kv g0 (mv) ?_
   refine wk_end ?_
   refine ac_k ?_
   exact acw hE [(1, 1)] 9999 (hK49 k28 q26 (wrap64 (p27 + 1)) (Nat.le_refl _) ⟨by omega, H⟩)
  rw [if_neg c29] at H
  refine aw_ifF ?_ (decide_eq_false c29)
  refine aw_exit ?_
  refine ac_then ?_
  refine ac_then ?_
  refine ac_hit rfl ?_
  refine ac_next ?_
  refine aw_grp1 ?_
  refine wk_start ?_
  refine kv g0 (mv) ?_
  refine kv g0 (asg) ?_
  refine wk_end ?_
  refine ac_next ?_
  refine aw_ret ?_
  obtain rfl := Option.some.inj H
  exact acr hE [.tmp 2] (.tmp .nil) (.one _) [(0, 1)] 9999
 rw [if_neg c3] at H
 refine aw_ifT ?_ (nT (bF c3))
 refine aw_grp1 ?_
 refine wk_start ?_
 refine kb g0 (bsl 0 4 1 [.bool false] (([] : List Bool).map eB)) ?_
 refine kv g0 (asg) ?_
 refine wk_end ?_
 refine ac_next ?_
 refine aw_ret ?_
 refine ac_thenR ?_
 obtain rfl := Option.some.inj H
 exact acr hE [.tmp 2] (.tmp .nil) (.one _) [(0, 0)] 9999
/-! slices_Sort_int_int -/
def slices_Sort_int_int.f (l0 : List Int) : Option (List Int) := if l0.length < 4611686018427387904 then some (l0.mergeSort fun x y => decide (x ≤ y)) else none
theorem slices_Sort_int_int.ok {l0 : List Int} {r : List Int} (H : slices_Sort_int_int.f l0 = some r) : ACalls Try.prog 51 [(0, .row 3 1 (l0.map (eI .i64)))] [.row 0] [(0, .row 3 1 (r.map (eI .i64)))] (.tup []) := by
 unfold slices_Sort_int_int.f at H
 obtain ⟨h, H⟩ := of_if H
 obtain rfl := Option.some.inj H
 exact sort_calls Try.lays189 3 l0 h
/-! slices_Compact_int_int -/
def slices_Compact_int_int.f (l0 : List Int) : Option (List Int) := if l0.length ≤ 9223372036854775807 then some (Go.Lib.compact l0) else none
theorem slices_Compact_int_int.ok {l0 : List Int} {r : List Int} (H : slices_Compact_int_int.f l0 = some r) : ACalls Try.prog 52 [(0, .row 3 1 (l0.map (eI .i64)))] [.row 0] [(0, .gone), (1, .row 3 1 (r.map (eI .i64)))] (.row 1) := by
 unfold slices_Compact_int_int.f at H
 obtain ⟨h, H⟩ := of_if H
 obtain rfl := Option.some.inj H
 exact compact_calls Try.laysNm220 3 l0 h
/-! impl_numbersIn -/
def impl_numbersIn.l0 : Nat → (List S55) → Int → ((List Bool)) → (List Int) → Int → Option ((List Int))
 | 0, _, _, _, _, _ => none
 | k11 + 1, l0, a1, t1, q9, p10 => if p10 < (t1.length : Int) then if 0 ≤ p10 then if (rdOf false t1 p10) = true then (if p10 < (l0.length : Int) then if ((rd_T55 l0 p10).f0) = a1 then (if q9.length + ([(rd_T55 l0 p10).f1] : List Int).length < 17592186044416 then impl_numbersIn.l0 k11 l0 a1 t1 (q9 ++ ([(rd_T55 l0 p10).f1] : List Int)) (wrap64 (p10 + 1)) else none) else impl_numbersIn.l0 k11 l0 a1 t1 q9 (wrap64 (p10 + 1)) else none) else impl_numbersIn.l0 k11 l0 a1 t1 q9 (wrap64 (p10 + 1)) else none else (slices_Sort_int_int.f q9).bind fun t20 => (slices_Compact_int_int.f t20).bind fun t22 => some t22
def impl_numbersIn.f (k : Nat) (l0 : List S55) (a1 : Int) : Option ((List Int)) := (impl_Reached.f k l0).bind fun t1 => impl_numbersIn.l0 k l0 a1 t1 ([] : List Int) 0
theorem impl_numbersIn.ok {k : Nat} {l0 : List S55} {a1 : Int} {r : (List Int)} (H : impl_numbersIn.f k l0 a1 = some r) : ACalls Try.prog 28 [] [.sl .o 4 (l0.map e55), .lit (.int .i64 a1)] [(0, .row 3 1 (r.map (eI .i64)))] (.row 0) := by
 refine acalls (fn := Try.f28) (nt := 40) Try.func28 rfl rfl (Nat.le_of_ble_eq_true rfl) fun E hE => ?_
 rw [impl_numbersIn.f] at H
 refine aw_grp1 ?_
 refine wk_start ?_
 refine kv g0 (asg) ?_
 refine wk_end ?_
 refine ac_next ?_
 refine aw_grp1 ?_
 refine wk_start ?_
 refine kb g0 (bsl 0 3 1 [.int .i64 0] (([] : List Int).map (eI .i64))) ?_
 refine kv g0 (asg) ?_
 refine wk_end ?_
 refine ac_next ?_
 refine aw_grp1 ?_
 refine aw_grp1 ?_
 refine wk_start ?_
 refine kv g0 (mv) ?_
 obtain ⟨t1, A2, H⟩ := of_bind H
 refine kcS1 10 (.row 1) [(1, .row 4 1 (t1.map eB))] g0 (cal (impl_Reached.ok A2) [1] 9999 .n (hf := Try.func50)) rfl rfl ?_
 refine kv g0 (lnR lenE) ?_
 refine kv g0 (mv) ?_
 refine wk_end ?_
 refine ac_next ?_
 refine aw_block ?_
 refine aw_loop2 (fun (k_ : Nat) (q9 : List Int) (p10 : Int) => k_ ≤ k ∧ impl_numbersIn.l0 k_ l0 a1 t1 q9 p10 = some r) (fun (q9 : List Int) (p10 : Int) => ⟨[(0, .sl .o 4 (l0.map e55)), (1, .lit (.int .i64 a1)), (5, .row 0), (10, .row 1), (11, .lit (.int .i64 (t1.length : Int))), (12, .lit (.int .i64 p10))], [(0, .row 3 1 (q9.map (eI .i64))), (1, .row 4 1 (t1.map eB))]⟩) k ([] : List Int) 0 ⟨Nat.le_refl _, H⟩ (fun K_ h_ => acw hE [(0, 0), (1, 1)] 9999 h_) (fun _ _ => by intro h_; have h_ := h_.2; rw [impl_numbersIn.l0.eq_1] at h_; cases h_) ?_
 intro k11 q9 p10 hq_ K18 hK19
 have hk11 := hq_.1
 have H := hq_.2
 clear hq_
 rw [impl_numbersIn.l0.eq_2] at H
 refine aw_grp1 ?_
 refine wk_start ?_
 refine kv g0 (lss) ?_
 refine wk_end ?_
 refine ac_next ?_
 refine aw_grp1 ?_
 by_cases c12 : p10 < (t1.length : Int)
 ·rw [if_pos c12] at H
  refine aw_ifT ?_ (decide_eq_true c12)
  refine aw_skip ?_
  refine ac_next ?_
  refine aw_grp1 ?_
  refine aw_block ?_
  refine aw_grp1 ?_
  refine wk_start ?_
  refine kv g0 (mv) ?_
  obtain ⟨c13, H⟩ := of_if H
  refine kv g0 (ixR 4 c13 (ltE c12)) ?_
  refine kv g0 (ldE (eB (rdOf false t1 p10)) (.lit (.bool (rdOf false t1 p10))) (getE (z := false) c13 c12)) ?_
  refine kv g0 (asg) ?_
  refine kv g0 (asg) ?_
  refine wk_end ?_
  refine ac_next ?_
  refine aw_grp1 ?_
  refine wk_start ?_
  refine kv g0 (mv) ?_
  refine kv g0 (mv) ?_
  by_cases c14 : (rdOf false t1 p10) = true
  ·rw [if_pos c14] at H
   refine kv (g1 c14) (mv) ?_
   refine kv (g1 c14) (mv) ?_
   obtain ⟨c15, H⟩ := of_if H
   refine kv (g1 c14) (ixS 55 (e55 (rd_T55 l0 p10)) c13 (getE (z := z55) c13 c15)) ?_
   refine kv (g1 c14) (faR 0 0) ?_
   refine kv (g1 c14) (ldR (.lit (.int .i64 ((rd_T55 l0 p10).f0)))) ?_
   refine kv (g1 c14) (mv) ?_
   refine kv (g1 c14) (eql) ?_
   refine kv g0 (pkT c14) ?_
   refine wk_end ?_
   refine ac_next ?_
   by_cases c16 : ((rd_T55 l0 p10).f0) = a1
   ·rw [if_pos c16] at H
    refine aw_ifT ?_ (eT c16)
    refine wk_start ?_
    refine kv g0 (mv) ?_
    refine kv g0 (mv) ?_
    refine kv g0 (mv) ?_
    refine kv g0 (ixS 55 (e55 (rd_T55 l0 p10)) c13 (getE (z := z55) c13 c15)) ?_
    refine kv g0 (faR 1 1) ?_
    refine kv g0 (ldR (.lit (.int .i64 ((rd_T55 l0 p10).f1)))) ?_
    refine kb g0 (bsl 2 3 1 [.int .i64 0] (([(rd_T55 l0 p10).f1] : List Int).map (eI .i64))) ?_
    obtain ⟨c17, H⟩ := of_if H
    refine kc g0 (apR 3 3 1 8 [.int .i64 0] ((q9 ++ ([(rd_T55 l0 p10).f1] : List Int)).map (eI .i64)) (.row rfl) (apb c17 rfl) appE) ?_
    refine kv g0 (asg) ?_
    refine wk_end ?_
    refine ac_blkN ?_
    refine ac_next ?_
    refine wk_start ?_
    refine kv g0 (add6) ?_
    refine kv g0 (mv) ?_
    refine wk_end ?_
    refine ac_k ?_
    exact acw hE [(0, 3), (1, 1)] 9999 (hK19 k11 (q9 ++ ([(rd_T55 l0 p10).f1] : List Int)) (wrap64 (p10 + 1)) (Nat.le_refl _) ⟨by omega, H⟩)
   rw [if_neg c16] at H
   refine aw_ifF ?_ (eF c16)
   refine aw_skip ?_
   refine ac_blkN ?_
   refine ac_next ?_
   refine wk_start ?_
   refine kv g0 (add6) ?_
   refine kv g0 (mv) ?_
   refine wk_end ?_
   refine ac_k ?_
   exact acw hE [(0, 0), (1, 1)] 9999 (hK19 k11 q9 (wrap64 (p10 + 1)) (Nat.le_refl _) ⟨by omega, H⟩)
  rw [if_neg c14] at H
  refine kx (hT (bF c14)) ?_
  refine kx (hT (bF c14)) ?_
  refine kx (hT (bF c14)) ?_
  refine kx (hT (bF c14)) ?_
  refine kx (hT (bF c14)) ?_
  refine kx (hT (bF c14)) ?_
  refine kx (hT (bF c14)) ?_
  refine kv g0 (pkF (bF c14)) ?_
  refine wk_end ?_
  refine ac_next ?_
  refine aw_ifF ?_ rfl
  refine aw_skip ?_
  refine ac_blkN ?_
  refine ac_next ?_
  refine wk_start ?_
  refine kv g0 (add6) ?_
  refine kv g0 (mv) ?_
  refine wk_end ?_
  refine ac_k ?_
  exact acw hE [(0, 0), (1, 1)] 9999 (hK19 k11 q9 (wrap64 (p10 + 1)) (Nat.le_refl _) ⟨by omega, H⟩)
 rw [if_neg c12] at H
 refine aw_ifF ?_ (decide_eq_false c12)
 refine aw_exit ?_
 refine ac_then ?_
 refine ac_then ?_
 refine ac_hit rfl ?_
 refine ac_next ?_
 refine aw_grp1 ?_
 refine wk_start ?_
 refine kv g0 (mv) ?_
 obtain ⟨t20, A21, H⟩ := of_bind H
 refine kcS1 37 (.tup []) [(0, .row 3 1 (t20.map (eI .i64)))] g0 (cal (slices_Sort_int_int.ok A21) [0] 9999 .n (hf := Try.func51)) rfl rfl ?_
 refine wk_end ?_
 refine ac_next ?_
 refine aw_grp1 ?_
 refine wk_start ?_
 refine kv g0 (mv) ?_
 obtain ⟨t22, A23, H⟩ := of_bind H
 refine kcS2 39 (.row 4) [(0, .gone), (4, .row 3 1 (t22.map (eI .i64)))] g0 (cal (slices_Compact_int_int.ok A23) [0, 4] 9999 .n (hf := Try.func52)) rfl rfl ?_
 refine kv g0 (asg) ?_
 refine wk_end ?_
 refine ac_next ?_
 refine aw_ret ?_
 obtain rfl := Option.some.inj H
 exact acr hE [.tmp 4] (.tmp .nil) (.one _) [(0, 4)] 9999
/-! impl_ResultsIn -/
def impl_ResultsIn.f (k : Nat) (l0 : List S55) : Option ((List Int)) := (impl_numbersIn.f k l0 8).bind fun t1 => some t1
theorem impl_ResultsIn.ok {k : Nat} {l0 : List S55} {r : (List Int)} (H : impl_ResultsIn.f k l0 = some r) : ACalls Try.prog 10 [] [.sl .o 4 (l0.map e55)] [(0, .row 3 1 (r.map (eI .i64)))] (.row 0) := by
 refine acalls (fn := Try.f10) (nt := 5) Try.func10 rfl rfl (Nat.le_of_ble_eq_true rfl) fun E hE => ?_
 rw [impl_ResultsIn.f] at H
 refine aw_grp1 ?_
 refine wk_start ?_
 refine kv g0 (asg) ?_
 refine wk_end ?_
 refine ac_next ?_
 refine aw_grp1 ?_
 refine wk_start ?_
 refine kv g0 (mv) ?_
 obtain ⟨t1, A2, H⟩ := of_bind H
 refine kcS1 4 (.row 0) [(0, .row 3 1 (t1.map (eI .i64)))] g0 (cal (impl_numbersIn.ok A2) [0] 9999 .n (hf := Try.func28)) rfl rfl ?_
 refine kv g0 (asg) ?_
 refine wk_end ?_
 refine ac_next ?_
 refine aw_ret ?_
 obtain rfl := Option.some.inj H
 exact acr hE [.tmp 2] (.tmp .nil) (.one _) [(0, 0)] 9999
/-! laws_hasNum -/
def laws_hasNum.l0 : Nat → (List Int) → Int → Int → Option (Bool)
 | 0, _, _, _ => none
 | k5 + 1, l0, a1, p4 => if p4 < (l0.length : Int) then if 0 ≤ p4 then if (rd l0 p4) = a1 then some true else laws_hasNum.l0 k5 l0 a1 (wrap64 (p4 + 1)) else none else some false
def laws_hasNum.f (k : Nat) (l0 : List Int) (a1 : Int) : Option (Bool) := laws_hasNum.l0 k l0 a1 0
theorem laws_hasNum.ok {k : Nat} {l0 : List Int} {a1 : Int} {r : Bool} (H : laws_hasNum.f k l0 a1 = some r) : ACalls Try.prog 11 [] [.sl .o 1 (l0.map (eI .i64)), .lit (.int .i64 a1)] [] (.lit (.bool r)) := by
 refine acalls (fn := Try.f11) (nt := 18) Try.func11 rfl rfl (Nat.le_of_ble_eq_true rfl) fun E hE => ?_
 rw [laws_hasNum.f] at H
 refine aw_grp1 ?_
 refine wk_start ?_
 refine kv g0 (asg) ?_
 refine wk_end ?_
 refine ac_next ?_
 refine aw_grp1 ?_
 refine aw_grp1 ?_
 refine wk_start ?_
 refine kv g0 (asg) ?_
 refine wk_end ?_
 refine ac_next ?_
 refine aw_block ?_
 refine aw_loop1 (fun (k_ : Nat) (p4 : Int) => k_ ≤ k ∧ laws_hasNum.l0 k_ l0 a1 p4 = some r) (fun (p4 : Int) => ⟨[(0, .sl .o 1 (l0.map (eI .i64))), (1, .lit (.int .i64 a1)), (5, .lit (.int .i64 p4))], []⟩) k 0 ⟨Nat.le_refl _, H⟩ (fun K_ h_ => acw hE [] 9999 h_) (fun _ => by intro h_; have h_ := h_.2; rw [laws_hasNum.l0.eq_1] at h_; cases h_) ?_
 intro k5 p4 hq_ K9 hK10
 have hk5 := hq_.1
 have H := hq_.2
 clear hq_
 rw [laws_hasNum.l0.eq_2] at H
 refine aw_grp1 ?_
 refine aw_grp1 ?_
 refine wk_start ?_
 refine kv g0 (mv) ?_
 refine kv g0 (mv) ?_
 refine kv g0 (lnS lenE) ?_
 refine kv g0 (lss) ?_
 refine wk_end ?_
 refine ac_next ?_
 by_cases c6 : p4 < (l0.length : Int)
 ·rw [if_pos c6] at H
  refine aw_ifT ?_ (decide_eq_true c6)
  refine aw_skip ?_
  refine ac_next ?_
  refine aw_grp1 ?_
  refine aw_block ?_
  refine aw_grp1 ?_
  refine wk_start ?_
  refine kv g0 (mv) ?_
  refine kv g0 (mv) ?_
  obtain ⟨c7, H⟩ := of_if H
  refine kv g0 (ixS 3 (eI .i64 (rd l0 p4)) c7 (getE (z := (0 : Int)) c7 c6)) ?_
  refine kv g0 (ldR (.lit (.int .i64 (rd l0 p4)))) ?_
  refine kv g0 (mv) ?_
  refine kv g0 (eql) ?_
  refine wk_end ?_
  refine ac_next ?_
  by_cases c8 : (rd l0 p4) = a1
  ·rw [if_pos c8] at H
   refine aw_ifT ?_ (eT c8)
   refine aw_grp1 ?_
   refine wk_start ?_
   refine kv g0 (asg) ?_
   refine wk_end ?_
   refine ac_next ?_
   refine aw_ret ?_
   refine ac_blkR ?_
   refine ac_thenR ?_
   refine ac_thenR ?_
   refine ac_blkR ?_
   refine ac_thenR ?_
   obtain rfl := Option.some.inj H
   exact acr hE [.tmp 4] (.tmp .nil) (.one _) [] 9999
  rw [if_neg c8] at H
  refine aw_ifF ?_ (eF c8)
  refine aw_skip ?_
  refine ac_blkN ?_
  refine ac_next ?_
  refine wk_start ?_
  refine kv g0 (mv) ?_
  refine kv g0 (add6) ?_
  refine kv g0 (asg) ?_
  refine wk_end ?_
  refine ac_k ?_
  exact acw hE [] 9999 (hK10 k5 (wrap64 (p4 + 1)) (Nat.le_refl _) ⟨by omega, H⟩)
 rw [if_neg c6] at H
 refine aw_ifF ?_ (decide_eq_false c6)
 refine aw_exit ?_
 refine ac_then ?_
 refine ac_then ?_
 refine ac_hit rfl ?_
 refine ac_next ?_
 refine aw_grp1 ?_
 refine wk_start ?_
 refine kv g0 (asg) ?_
 refine wk_end ?_
 refine ac_next ?_
 refine aw_ret ?_
 obtain rfl := Option.some.inj H
 exact acr hE [.tmp 4] (.tmp .nil) (.one _) [] 9999
/-! impl_FieldsRead -/
def impl_FieldsRead.f (k : Nat) (l0 : List S55) : Option ((List Int)) := (impl_numbersIn.f k l0 1).bind fun t1 => some t1
theorem impl_FieldsRead.ok {k : Nat} {l0 : List S55} {r : (List Int)} (H : impl_FieldsRead.f k l0 = some r) : ACalls Try.prog 12 [] [.sl .o 4 (l0.map e55)] [(0, .row 3 1 (r.map (eI .i64)))] (.row 0) := by
 refine acalls (fn := Try.f12) (nt := 5) Try.func12 rfl rfl (Nat.le_of_ble_eq_true rfl) fun E hE => ?_
 rw [impl_FieldsRead.f] at H
 refine aw_grp1 ?_
 refine wk_start ?_
 refine kv g0 (asg) ?_
 refine wk_end ?_
 refine ac_next ?_
 refine aw_grp1 ?_
 refine wk_start ?_
 refine kv g0 (mv) ?_
 obtain ⟨t1, A2, H⟩ := of_bind H
 refine kcS1 4 (.row 0) [(0, .row 3 1 (t1.map (eI .i64)))] g0 (cal (impl_numbersIn.ok A2) [0] 9999 .n (hf := Try.func28)) rfl rfl ?_
 refine kv g0 (asg) ?_
 refine wk_end ?_
 refine ac_next ?_
 refine aw_ret ?_
 obtain rfl := Option.some.inj H
 exact acr hE [.tmp 2] (.tmp .nil) (.one _) [(0, 0)] 9999
/-! impl_LongestRun_1 -/
def impl_LongestRun_1.l0 : Nat → (List Int) → Int → Int → Option (Int)
 | 0, _, _, _ => none
 | k5 + 1, l0, p3, p4 => if p4 < (l0.length : Int) then if 0 ≤ p4 then impl_LongestRun_1.l0 k5 l0 (max p3 (rd l0 p4)) (wrap64 (p4 + 1)) else none else some (wrap64 (p3 + 1))
def impl_LongestRun_1.f (k : Nat) (l0 : List Int) : Option (Int) := impl_LongestRun_1.l0 k l0 0 0
theorem impl_LongestRun_1.ok {k : Nat} {l0 : List Int} {r : Int} (H : impl_LongestRun_1.f k l0 = some r) : ACalls Try.prog 30 [] [.sl .o 1 (l0.map (eI .i64))] [] (.lit (.int .i64 r)) := by
 refine acalls (fn := Try.f30) (nt := 18) Try.func30 rfl rfl (Nat.le_of_ble_eq_true rfl) fun E hE => ?_
 rw [impl_LongestRun_1.f] at H
 refine aw_grp1 ?_
 refine wk_start ?_
 refine kv g0 (asg) ?_
 refine wk_end ?_
 refine ac_next ?_
 refine aw_grp1 ?_
 refine wk_start ?_
 refine kv g0 (asg) ?_
 refine wk_end ?_
 refine ac_next ?_
 refine aw_grp1 ?_
 refine aw_grp1 ?_
 refine wk_start ?_
 refine kv g0 (mv) ?_
 refine kv g0 (lnS lenE) ?_
 refine kv g0 (mv) ?_
 refine wk_end ?_
 refine ac_next ?_
 refine aw_block ?_
 refine aw_loop2 (fun (k_ : Nat) (p3 : Int) (p4 : Int) => k_ ≤ k ∧ impl_LongestRun_1.l0 k_ l0 p3 p4 = some r) (fun (p3 : Int) (p4 : Int) => ⟨[(3, .lit (.int .i64 p3)), (6, .sl .o 1 (l0.map (eI .i64))), (7, .lit (.int .i64 (l0.length : Int))), (8, .lit (.int .i64 p4))], []⟩) k 0 0 ⟨Nat.le_refl _, H⟩ (fun K_ h_ => acw hE [] 9999 h_) (fun _ _ => by intro h_; have h_ := h_.2; rw [impl_LongestRun_1.l0.eq_1] at h_; cases h_) ?_
 intro k5 p3 p4 hq_ K8 hK9
 have hk5 := hq_.1
 have H := hq_.2
 clear hq_
 rw [impl_LongestRun_1.l0.eq_2] at H
 refine aw_grp1 ?_
 refine wk_start ?_
 refine kv g0 (lss) ?_
 refine wk_end ?_
 refine ac_next ?_
 refine aw_grp1 ?_
 by_cases c6 : p4 < (l0.length : Int)
 ·rw [if_pos c6] at H
  refine aw_ifT ?_ (decide_eq_true c6)
  refine aw_skip ?_
  refine ac_next ?_
  refine aw_grp1 ?_
  refine aw_block ?_
  refine aw_grp1 ?_
  refine wk_start ?_
  obtain ⟨c7, H⟩ := of_if H
  refine kv g0 (ixS 3 (eI .i64 (rd l0 p4)) c7 (getE (z := (0 : Int)) c7 c6)) ?_
  refine kv g0 (ldR (.lit (.int .i64 (rd l0 p4)))) ?_
  refine kv g0 (asg) ?_
  refine wk_end ?_
  refine ac_next ?_
  refine wk_start ?_
  refine kv g0 (mv) ?_
  refine kv g0 (mv) ?_
  refine kv g0 (max_) ?_
  refine kv g0 (asg) ?_
  refine wk_end ?_
  refine ac_blkN ?_
  refine ac_next ?_
  refine wk_start ?_
  refine kv g0 (add6) ?_
  refine kv g0 (mv) ?_
  refine wk_end ?_
  refine ac_k ?_
  exact acw hE [] 9999 (hK9 k5 (max p3 (rd l0 p4)) (wrap64 (p4 + 1)) (Nat.le_refl _) ⟨by omega, H⟩)
 rw [if_neg c6] at H
 refine aw_ifF ?_ (decide_eq_false c6)
 refine aw_exit ?_
 refine ac_then ?_
 refine ac_then ?_
 refine ac_hit rfl ?_
 refine ac_next ?_
 refine aw_grp1 ?_
 refine wk_start ?_
 refine kv g0 (mv) ?_
 refine kv g0 (add6) ?_
 refine kv g0 (asg) ?_
 refine wk_end ?_
 refine ac_next ?_
 refine aw_ret ?_
 obtain rfl := Option.some.inj H
 exact acr hE [.tmp 2] (.tmp .nil) (.one _) [] 9999
/-! impl_runs, handed impl_LongestRun_1 -/
mutual
def impl_runs_w30.l0 : Nat → (List S55) → (List Int) → Int → ((List Int)) → (List Int) → Int → Option (Int)
 | 0, _, _, _, _, _, _ => none
 | k45 + 1, l0, q30, p31, t36, q43, p44 => if p44 < (t36.length : Int) then if 0 ≤ p44 then if 0 ≤ (rd t36 p44) then (if (rd t36 p44) < (q30.length : Int) then (if q43.length + ([(rd q30 (rd t36 p44))] : List Int).length < 17592186044416 then impl_runs_w30.l0 k45 l0 q30 p31 t36 (q43 ++ ([(rd q30 (rd t36 p44))] : List Int)) (wrap64 (p44 + 1)) else none) else none) else none else none else (impl_LongestRun_1.f k45 q43).bind fun t53 => (if p31 < (q30.length : Int) then impl_runs_w30.l1 k45 l0 (q30.set p31.toNat t53) (wrap64 (p31 - 1)) else none)
def impl_runs_w30.l1 : Nat → (List S55) → (List Int) → Int → Option (Int)
 | 0, _, _, _ => none
 | k32 + 1, l0, q30, p31 => if p31 ≥ 0 then if 0 ≤ p31 then (if p31 < (l0.length : Int) then ((impl_ways.f k32 ((rd_T55 l0 p31).f0) ((rd_T55 l0 p31).f1) ((rd_T55 l0 p31).f2) ((rd_T55 l0 p31).f3) p31).bind fun t36 => impl_runs_w30.l0 k32 l0 q30 p31 t36 ([] : List Int) 0) else none) else none else if 0 < (q30.length : Int) then some (rd q30 0) else none
end
def impl_runs_w30.f (k : Nat) (l0 : List S55) : Option (Int) := (impl_CheckProgram.f k l0).bind fun t1 => if t1 = true then if 0 ≤ (l0.length : Int) then (if (l0.length : Int).toNat ≤ 35184372088832 then impl_runs_w30.l1 k l0 (List.replicate (l0.length : Int).toNat (0 : Int)) (wrap64 ((l0.length : Int) - 1)) else none) else none else some 0
theorem impl_runs_w30.ok {k : Nat} {l0 : List S55} {r : Int} (H : impl_runs_w30.f k l0 = some r) : ACalls Try.prog 29 [] [.sl .o 4 (l0.map e55), .fn 30 []] [] (.lit (.int .i64 r)) := by
 refine acalls (fn := Try.f29) (nt := 52) Try.func29 rfl rfl (Nat.le_of_ble_eq_true rfl) fun E hE => ?_
 rw [impl_runs_w30.f] at H
 refine aw_grp1 ?_
 refine wk_start ?_
 refine kv g0 (asg) ?_
 refine wk_end ?_
 refine ac_next ?_
 refine aw_grp1 ?_
 refine aw_grp1 ?_
 refine wk_start ?_
 refine kv g0 (mv) ?_
 obtain ⟨t1, A2, H⟩ := of_bind H
 refine kcS0 11 (.lit (.bool t1)) [] g0 (cal (impl_CheckProgram.ok A2) [] 9999 .n (hf := Try.func53)) rfl rfl ?_
 refine kv g0 (not_) ?_
 refine wk_end ?_
 refine ac_next ?_
 by_cases c3 : t1 = true
 ·rw [if_pos c3] at H
  refine aw_ifF ?_ (nF c3)
  refine aw_skip ?_
  refine ac_next ?_
  refine aw_grp1 ?_
  refine wk_start ?_
  refine kv g0 (mv) ?_
  refine kv g0 (lnS lenE) ?_
  obtain ⟨c4, H⟩ := of_if H
  obtain ⟨c5, H⟩ := of_if H
  refine kb g0 (mks 0 3 1 8 [.int .i64 0] (eI .i64 (0 : Int)) ((List.replicate (l0.length : Int).toNat (0 : Int)).map (eI .i64)) c4 (mkb c5 rfl) repE) ?_
  refine kv g0 (asg) ?_
  refine wk_end ?_
  refine ac_next ?_
  refine aw_grp1 ?_
  refine aw_grp1 ?_
  refine wk_start ?_
  refine kv g0 (mv) ?_
  refine kv g0 (lnS lenE) ?_
  refine kv g0 (sub6) ?_
  refine kv g0 (asg) ?_
  refine wk_end ?_
  refine ac_next ?_
  refine aw_block ?_
  refine aw_loop2 (fun (k_ : Nat) (q30 : List Int) (p31 : Int) => k_ ≤ k ∧ impl_runs_w30.l1 k_ l0 q30 p31 = some r) (fun (q30 : List Int) (p31 : Int) => ⟨[(0, .sl .o 4 (l0.map e55)), (1, .fn 30 []), (5, .row 0), (6, .lit (.int .i64 p31))], [(0, .row 3 1 (q30.map (eI .i64)))]⟩) k (List.replicate (l0.length : Int).toNat (0 : Int)) (wrap64 ((l0.length : Int) - 1)) ⟨Nat.le_refl _, H⟩ (fun K_ h_ => acw hE [(0, 0)] 9999 h_) (fun _ _ => by intro h_; have h_ := h_.2; rw [impl_runs_w30.l1.eq_1] at h_; cases h_) ?_
  intro k32 q30 p31 hq_ K56 hK57
  have hk32 := hq_.1
  have H := hq_.2
  clear hq_
  rw [impl_runs_w30.l1.eq_2] at H
  refine aw_grp1 ?_
  refine aw_grp1 ?_
  refine wk_start ?_
  refine kv g0 (mv) ?_
  refine kv g0 (geq) ?_
  refine wk_end ?_
  refine ac_next ?_
  by_cases c33 : p31 ≥ 0
  ·rw [if_pos c33] at H
   refine aw_ifT ?_ (decide_eq_true c33)
   refine aw_skip ?_
   refine ac_next ?_
   refine aw_grp1 ?_
   refine aw_block ?_
   refine aw_grp1 ?_
   refine wk_start ?_
   refine kb g0 (bsl 1 3 1 [.int .i64 0] (([] : List Int).map (eI .i64))) ?_
   refine kv g0 (asg) ?_
   refine wk_end ?_
   refine ac_next ?_
   refine aw_grp1 ?_
   refine aw_grp1 ?_
   refine wk_start ?_
   refine kv g0 (mv) ?_
   refine kv g0 (mv) ?_
   obtain ⟨c34, H⟩ := of_if H
   obtain ⟨c35, H⟩ := of_if H
   refine kv g0 (ixS 55 (e55 (rd_T55 l0 p31)) c34 (getE (z := z55) c34 c35)) ?_
   refine kv g0 (ldRA 4 [.lit (.int .i64 ((rd_T55 l0 p31).f0)), .lit (.int .i64 ((rd_T55 l0 p31).f1)), .lit (.int .i64 ((rd_T55 l0 p31).f2)), .lit (.int .i64 ((rd_T55 l0 p31).f3))]) ?_
   refine kv g0 (mv) ?_
   obtain ⟨t36, A37, H⟩ := of_bind H
   refine kcS1 29 (.row 2) [(2, .row 3 1 (t36.map (eI .i64)))] g0 (cal (impl_ways.ok A37) [2] 9999 .n (hf := Try.func54)) rfl rfl ?_
   refine kv g0 (lnR lenE) ?_
   refine kv g0 (mv) ?_
   refine wk_end ?_
   refine ac_next ?_
   refine aw_block ?_
   refine aw_loop2 (fun (k_ : Nat) (q43 : List Int) (p44 : Int) => k_ ≤ k32 ∧ impl_runs_w30.l0 k_ l0 q30 p31 t36 q43 p44 = some r) (fun (q43 : List Int) (p44 : Int) => ⟨[(0, .sl .o 4 (l0.map e55)), (1, .fn 30 []), (5, .row 0), (6, .lit (.int .i64 p31)), (7, .row 1), (29, .row 2), (30, .lit (.int .i64 (t36.length : Int))), (31, .lit (.int .i64 p44))], [(0, .row 3 1 (q30.map (eI .i64))), (1, .row 3 1 (q43.map (eI .i64))), (2, .row 3 1 (t36.map (eI .i64)))]⟩) k32 ([] : List Int) 0 ⟨Nat.le_refl _, H⟩ (fun K_ h_ => acw hE [(0, 0), (1, 1), (2, 2)] 9999 h_) (fun _ _ => by intro h_; have h_ := h_.2; rw [impl_runs_w30.l0.eq_1] at h_; cases h_) ?_
   intro k45 q43 p44 hq_ K51 hK52
   have hk45 := hq_.1
   have H := hq_.2
   clear hq_
   rw [impl_runs_w30.l0.eq_2] at H
   refine aw_grp1 ?_
   refine wk_start ?_
   refine kv g0 (lss) ?_
   refine wk_end ?_
   refine ac_next ?_
   refine aw_grp1 ?_
   by_cases c46 : p44 < (t36.length : Int)
   ·rw [if_pos c46] at H
    refine aw_ifT ?_ (decide_eq_true c46)
    refine aw_skip ?_
    refine ac_next ?_
    refine aw_grp1 ?_
    refine aw_block ?_
    refine aw_grp1 ?_
    refine wk_start ?_
    obtain ⟨c47, H⟩ := of_if H
    refine kv g0 (ixR 3 c47 (ltE c46)) ?_
    refine kv g0 (ldE (eI .i64 (rd t36 p44)) (.lit (.int .i64 (rd t36 p44))) (getE (z := (0 : Int)) c47 c46)) ?_
    refine kv g0 (asg) ?_
    refine wk_end ?_
    refine ac_next ?_
    refine wk_start ?_
    refine kv g0 (mv) ?_
    refine kv g0 (mv) ?_
    refine kv g0 (mv) ?_
    obtain ⟨c48, H⟩ := of_if H
    obtain ⟨c49, H⟩ := of_if H
    refine kv g0 (ixR 3 c48 (ltE c49)) ?_
    refine kv g0 (ldE (eI .i64 (rd q30 (rd t36 p44))) (.lit (.int .i64 (rd q30 (rd t36 p44)))) (getE (z := (0 : Int)) c48 c49)) ?_
    refine kb g0 (bsl 3 3 1 [.int .i64 0] (([(rd q30 (rd t36 p44))] : List Int).map (eI .i64))) ?_
    obtain ⟨c50, H⟩ := of_if H
    refine kc g0 (apR 4 3 1 8 [.int .i64 0] ((q43 ++ ([(rd q30 (rd t36 p44))] : List Int)).map (eI .i64)) (.row rfl) (apb c50 rfl) appE) ?_
    refine kv g0 (asg) ?_
    refine wk_end ?_
    refine ac_blkN ?_
    refine ac_next ?_
    refine wk_start ?_
    refine kv g0 (add6) ?_
    refine kv g0 (mv) ?_
    refine wk_end ?_
    refine ac_k ?_
    exact acw hE [(0, 0), (1, 4), (2, 2)] 9999 (hK52 k45 (q43 ++ ([(rd q30 (rd t36 p44))] : List Int)) (wrap64 (p44 + 1)) (Nat.le_refl _) ⟨by omega, H⟩)
   rw [if_neg c46] at H
   refine aw_ifF ?_ (decide_eq_false c46)
   refine aw_exit ?_
   refine ac_then ?_
   refine ac_then ?_
   refine ac_hit rfl ?_
   refine ac_next ?_
   refine wk_start ?_
   refine kv g0 (mv) ?_
   refine kv g0 (mv) ?_
   refine kv g0 (mv) ?_
   refine kv g0 (mv) ?_
   obtain ⟨t53, A54, H⟩ := of_bind H
   refine kcS0 47 (.lit (.int .i64 t53)) [] g0 (cal (impl_LongestRun_1.ok A54) [] 9999 .n (hf := Try.func30)) rfl rfl ?_
   obtain ⟨c55, H⟩ := of_if H
   refine kv g0 (ixR 3 c34 (ltE c55)) ?_
   refine ks g0 (stE 1 (eI .i64 t53) ((q30.set p31.toNat t53).map (eI .i64)) (getE (z := (0 : Int)) c34 c55) setE) ?_
   refine wk_end ?_
   refine ac_blkN ?_
   refine ac_next ?_
   refine wk_start ?_
   refine kv g0 (mv) ?_
   refine kv g0 (sub6) ?_
   refine kv g0 (asg) ?_
   refine wk_end ?_
   refine ac_k ?_
   exact acw hE [(0, 0)] 9999 (hK57 k45 (q30.set p31.toNat t53) (wrap64 (p31 - 1)) (by omega) ⟨by omega, H⟩)
  rw [if_neg c33] at H
  refine aw_ifF ?_ (decide_eq_false c33)
  refine aw_exit ?_
  refine ac_then ?_
  refine ac_then ?_
  refine ac_hit rfl ?_
  refine ac_next ?_
  refine aw_grp1 ?_
  refine wk_start ?_
  refine kv g0 (mv) ?_
  obtain ⟨c58, H⟩ := of_if H
  refine kv g0 (ixR 3 (by decide : (0 : Int) ≤ 0) (ltE c58)) ?_
  refine kv g0 (ldE (eI .i64 (rd q30 0)) (.lit (.int .i64 (rd q30 0))) (getE (z := (0 : Int)) (by decide : (0 : Int) ≤ 0) c58)) ?_
  refine kv g0 (asg) ?_
  refine wk_end ?_
  refine ac_next ?_
  refine aw_ret ?_
  obtain rfl := Option.some.inj H
  exact acr hE [.tmp 4] (.tmp .nil) (.one _) [] 9999
 rw [if_neg c3] at H
 refine aw_ifT ?_ (nT (bF c3))
 refine aw_grp1 ?_
 refine wk_start ?_
 refine kv g0 (asg) ?_
 refine wk_end ?_
 refine ac_next ?_
 refine aw_ret ?_
 refine ac_thenR ?_
 obtain rfl := Option.some.inj H
 exact acr hE [.tmp 4] (.tmp .nil) (.one _) [] 9999
/-! impl_LongestRun -/
def impl_LongestRun.f (k : Nat) (l0 : List S55) : Option (Int) := (impl_runs_w30.f k l0).bind fun t1 => some t1
theorem impl_LongestRun.ok {k : Nat} {l0 : List S55} {r : Int} (H : impl_LongestRun.f k l0 = some r) : ACalls Try.prog 13 [] [.sl .o 4 (l0.map e55)] [] (.lit (.int .i64 r)) := by
 refine acalls (fn := Try.f13) (nt := 5) Try.func13 rfl rfl (Nat.le_of_ble_eq_true rfl) fun E hE => ?_
 rw [impl_LongestRun.f] at H
 refine aw_grp1 ?_
 refine wk_start ?_
 refine kv g0 (asg) ?_
 refine wk_end ?_
 refine ac_next ?_
 refine aw_grp1 ?_
 refine wk_start ?_
 refine kv g0 (mv) ?_
 obtain ⟨t1, A2, H⟩ := of_bind H
 refine kcS0 4 (.lit (.int .i64 t1)) [] g0 (cal (impl_runs_w30.ok A2) [] 9999 .n (hf := Try.func29)) rfl rfl ?_
 refine kv g0 (asg) ?_
 refine wk_end ?_
 refine ac_next ?_
 refine aw_ret ?_
 obtain rfl := Option.some.inj H
 exact acr hE [.tmp 2] (.tmp .nil) (.one _) [] 9999
/-! spec_l23Put -/
mutual
def spec_l23Put.j0 : Nat → (List Int) → Int → Int → (List Int) → Bool → Option ((List Int))
 | 0, _, _, _, _, _ => none
 | k21 + 1, l0, a1, p12, q19, p20 => if 0 ≤ p12 then (if q19.length + ([(rd l0 p12)] : List Int).length < 17592186044416 then spec_l23Put.l0 k21 l0 a1 (q19 ++ ([(rd l0 p12)] : List Int)) p20 (wrap64 (p12 + 1)) else none) else none
def spec_l23Put.l0 : Nat → (List Int) → Int → (List Int) → Bool → Int → Option ((List Int))
 | 0, _, _, _, _, _ => none
 | k13 + 1, l0, a1, q10, p11, p12 => if p12 < (l0.length : Int) then if p11 = true then spec_l23Put.j0 k13 l0 a1 p12 q10 p11 else (if 0 ≤ p12 then if a1 < (rd l0 p12) then (if q10.length + ([a1] : List Int).length < 17592186044416 then spec_l23Put.j0 k13 l0 a1 p12 (q10 ++ ([a1] : List Int)) true else none) else spec_l23Put.j0 k13 l0 a1 p12 q10 p11 else none) else if p11 = true then some q10 else (if q10.length + ([a1] : List Int).length < 17592186044416 then some (q10 ++ ([a1] : List Int)) else none)
end
def spec_l23Put.f (k : Nat) (l0 : List Int) (a1 : Int) : Option ((List Int)) := spec_l23Put.l0 k l0 a1 ([] : List Int) false 0
theorem spec_l23Put.ok {k : Nat} {l0 : List Int} {a1 : Int} {r : (List Int)} (H : spec_l23Put.f k l0 a1 = some r) : ACalls Try.prog 56 [] [.sl .o 1 (l0.map (eI .i64)), .lit (.int .i64 a1)] [(0, .row 3 1 (r.map (eI .i64)))] (.row 0) := by
 refine acalls (fn := Try.f56) (nt := 43) Try.func56 rfl rfl (Nat.le_of_ble_eq_true rfl) fun E hE => ?_
 rw [spec_l23Put.f] at H
 refine aw_grp1 ?_
 refine wk_start ?_
 refine kv g0 (asg) ?_
 refine wk_end ?_
 refine ac_next ?_
 refine aw_grp1 ?_
 refine wk_start ?_
 refine kb g0 (bsl 0 3 1 [.int .i64 0] (([] : List Int).map (eI .i64))) ?_
 refine kv g0 (asg) ?_
 refine wk_end ?_
 refine ac_next ?_
 refine aw_grp1 ?_
 refine wk_start ?_
 refine kv g0 (asg) ?_
 refine wk_end ?_
 refine ac_next ?_
 refine aw_grp1 ?_
 refine aw_grp1 ?_
 refine wk_start ?_
 refine kv g0 (asg) ?_
 refine wk_end ?_
 refine ac_next ?_
 refine aw_block ?_
 refine aw_loop3 (fun (k_ : Nat) (q10 : List Int) (p11 : Bool) (p12 : Int) => k_ ≤ k ∧ spec_l23Put.l0 k_ l0 a1 q10 p11 p12 = some r) (fun (q10 : List Int) (p11 : Bool) (p12 : Int) => ⟨[(0, .sl .o 1 (l0.map (eI .i64))), (1, .lit (.int .i64 a1)), (5, .row 0), (6, .lit (.bool p11)), (7, .lit (.int .i64 p12))], [(0, .row 3 1 (q10.map (eI .i64)))]⟩) k ([] : List Int) false 0 ⟨Nat.le_refl _, H⟩ (fun K_ h_ => acw hE [(0, 0)] 9999 h_) (fun _ _ _ => by intro h_; have h_ := h_.2; rw [spec_l23Put.l0.eq_1] at h_; cases h_) ?_
 intro k13 q10 p11 p12 hq_ K25 hK26
 have hk13 := hq_.1
 have H := hq_.2
 clear hq_
 rw [spec_l23Put.l0.eq_2] at H
 refine aw_grp1 ?_
 refine aw_grp1 ?_
 refine wk_start ?_
 refine kv g0 (mv) ?_
 refine kv g0 (mv) ?_
 refine kv g0 (lnS lenE) ?_
 refine kv g0 (lss) ?_
 refine wk_end ?_
 refine ac_next ?_
 by_cases c14 : p12 < (l0.length : Int)
 ·rw [if_pos c14] at H
  refine aw_ifT ?_ (decide_eq_true c14)
  refine aw_skip ?_
  refine ac_next ?_
  refine aw_grp1 ?_
  refine aw_block ?_
  refine aw_cut1 (J := fun K_ => ∀ (k_ : Nat) (q19 : List Int) (p20 : Bool), k_ ≤ k13 → spec_l23Put.j0 k_ l0 a1 p12 q19 p20 = some r → ACont E 43 ⟨[(0, .sl .o 1 (l0.map (eI .i64))), (1, .lit (.int .i64 a1)), (5, .row 0), (6, .lit (.bool p20)), (7, .lit (.int .i64 p12))], [(0, .row 3 1 (q19.map (eI .i64)))]⟩ K_) ?_ ?_
  ·intro K_ hJ24
   refine aw_grp1 ?_
   refine wk_start ?_
   refine kv g0 (mv) ?_
   refine kv g0 (not_) ?_
   refine kv g0 (mv) ?_
   by_cases c15 : p11 = true
   ·rw [if_pos c15] at H
    refine kx (hT (nF c15)) ?_
    refine kx (hT (nF c15)) ?_
    refine kx (hT (nF c15)) ?_
    refine kx (hT (nF c15)) ?_
    refine kx (hT (nF c15)) ?_
    refine kx (hT (nF c15)) ?_
    refine kv g0 (pkF (nF c15)) ?_
    refine wk_end ?_
    refine ac_next ?_
    refine aw_ifF ?_ rfl
    refine aw_skip ?_
    refine ac_k ?_
    exact acw hE [(0, 0)] 9999 (hJ24 k13 q10 p11 (Nat.le_refl _) H)
   rw [if_neg c15] at H
   refine kv (g1 (nT (bF c15))) (mv) ?_
   refine kv (g1 (nT (bF c15))) (mv) ?_
   refine kv (g1 (nT (bF c15))) (mv) ?_
   obtain ⟨c16, H⟩ := of_if H
   refine kv (g1 (nT (bF c15))) (ixS 3 (eI .i64 (rd l0 p12)) c16 (getE (z := (0 : Int)) c16 c14)) ?_
   refine kv (g1 (nT (bF c15))) (ldR (.lit (.int .i64 (rd l0 p12)))) ?_
   refine kv (g1 (nT (bF c15))) (lss) ?_
   refine kv g0 (pkT (nT (bF c15))) ?_
   refine wk_end ?_
   refine ac_next ?_
   by_cases c17 : a1 < (rd l0 p12)
   ·rw [if_pos c17] at H
    refine aw_ifT ?_ (decide_eq_true c17)
    refine aw_grp1 ?_
    refine wk_start ?_
    refine kv g0 (mv) ?_
    refine kv g0 (mv) ?_
    refine kb g0 (bsl 1 3 1 [.int .i64 0] (([a1] : List Int).map (eI .i64))) ?_
    obtain ⟨c18, H⟩ := of_if H
    refine kc g0 (apR 2 3 1 8 [.int .i64 0] ((q10 ++ ([a1] : List Int)).map (eI .i64)) (.row rfl) (apb c18 rfl) appE) ?_
    refine kv g0 (asg) ?_
    refine wk_end ?_
    refine ac_next ?_
    refine wk_start ?_
    refine kv g0 (asg) ?_
    refine wk_end ?_
    refine ac_k ?_
    exact acw hE [(0, 2)] 9999 (hJ24 k13 (q10 ++ ([a1] : List Int)) true (Nat.le_refl _) H)
   rw [if_neg c17] at H
   refine aw_ifF ?_ (decide_eq_false c17)
   refine aw_skip ?_
   refine ac_k ?_
   exact acw hE [(0, 0)] 9999 (hJ24 k13 q10 p11 (Nat.le_refl _) H)
  intro k_ q19 p20 hk_ H
  rcases k_ with _ | k21
  ·rw [spec_l23Put.j0.eq_1] at H; cases H
  have hk21 : k21 ≤ k13 := by omega
  clear hk_
  rw [spec_l23Put.j0.eq_2] at H
  refine wk_start ?_
  refine kv g0 (mv) ?_
  refine kv g0 (mv) ?_
  refine kv g0 (mv) ?_
  obtain ⟨c22, H⟩ := of_if H
  refine kv g0 (ixS 3 (eI .i64 (rd l0 p12)) c22 (getE (z := (0 : Int)) c22 c14)) ?_
  refine kv g0 (ldR (.lit (.int .i64 (rd l0 p12)))) ?_
  refine kb g0 (bsl 3 3 1 [.int .i64 0] (([(rd l0 p12)] : List Int).map (eI .i64))) ?_
  obtain ⟨c23, H⟩ := of_if H
  refine kc g0 (apR 4 3 1 8 [.int .i64 0] ((q19 ++ ([(rd l0 p12)] : List Int)).map (eI .i64)) (.row rfl) (apb c23 rfl) appE) ?_
  refine kv g0 (asg) ?_
  refine wk_end ?_
  refine ac_blkN ?_
  refine ac_next ?_
  refine wk_start ?_
  refine kv g0 (mv) ?_
  refine kv g0 (add6) ?_
  refine kv g0 (asg) ?_
  refine wk_end ?_
  refine ac_k ?_
  exact acw hE [(0, 4)] 9999 (hK26 k21 (q19 ++ ([(rd l0 p12)] : List Int)) p20 (wrap64 (p12 + 1)) (by omega) ⟨by omega, H⟩)
 rw [if_neg c14] at H
 refine aw_ifF ?_ (decide_eq_false c14)
 refine aw_exit ?_
 refine ac_then ?_
 refine ac_then ?_
 refine ac_hit rfl ?_
 refine ac_next ?_
 refine aw_grp1 ?_
 refine aw_grp1 ?_
 refine wk_start ?_
 refine kv g0 (mv) ?_
 refine kv g0 (not_) ?_
 refine wk_end ?_
 refine ac_next ?_
 by_cases c27 : p11 = true
 ·rw [if_pos c27] at H
  refine aw_ifF ?_ (nF c27)
  refine aw_skip ?_
  refine ac_next ?_
  refine aw_grp1 ?_
  refine wk_start ?_
  refine kv g0 (mv) ?_
  refine kv g0 (asg) ?_
  refine wk_end ?_
  refine ac_next ?_
  refine aw_ret ?_
  obtain rfl := Option.some.inj H
  exact acr hE [.tmp 4] (.tmp .nil) (.one _) [(0, 0)] 9999
 rw [if_neg c27] at H
 refine aw_ifT ?_ (nT (bF c27))
 refine wk_start ?_
 refine kv g0 (mv) ?_
 refine kv g0 (mv) ?_
 refine kb g0 (bsl 5 3 1 [.int .i64 0] (([a1] : List Int).map (eI .i64))) ?_
 obtain ⟨c28, H⟩ := of_if H
 refine kc g0 (apR 6 3 1 8 [.int .i64 0] ((q10 ++ ([a1] : List Int)).map (eI .i64)) (.row rfl) (apb c28 rfl) appE) ?_
 refine kv g0 (asg) ?_
 refine wk_end ?_
 refine ac_next ?_
 refine aw_grp1 ?_
 refine wk_start ?_
 refine kv g0 (mv) ?_
 refine kv g0 (asg) ?_
 refine wk_end ?_
 refine ac_next ?_
 refine aw_ret ?_
 obtain rfl := Option.some.inj H
 exact acr hE [.tmp 4] (.tmp .nil) (.one _) [(0, 6)] 9999
/-! spec_l23Said -/
def spec_l23Said.l0 : Nat → (List S55) → Int → ((List Bool)) → (List Int) → Int → Option ((List Int))
 | 0, _, _, _, _, _ => none
 | k15 + 1, l0, a1, t1, q13, p14 => if p14 < (t1.length : Int) then if 0 ≤ p14 then (if (rdOf false t1 p14) = true then (if p14 < (l0.length : Int) then (if ((rd_T55 l0 p14).f0) = a1 then ((spec_l09In.f k15 q13 ((rd_T55 l0 p14).f1)).bind fun t21 => if t21 = true then spec_l23Said.l0 k15 l0 a1 t1 q13 (wrap64 (p14 + 1)) else ((spec_l23Put.f k15 q13 ((rd_T55 l0 p14).f1)).bind fun t24 => spec_l23Said.l0 k15 l0 a1 t1 t24 (wrap64 (p14 + 1)))) else spec_l23Said.l0 k15 l0 a1 t1 q13 (wrap64 (p14 + 1))) else none) else spec_l23Said.l0 k15 l0 a1 t1 q13 (wrap64 (p14 + 1))) else none else some q13
def spec_l23Said.f (k : Nat) (l0 : List S55) (a1 : Int) : Option ((List Int)) := (spec_Reached.f k l0).bind fun t1 => spec_l23Said.l0 k l0 a1 t1 ([] : List Int) 0
theorem spec_l23Said.ok {k : Nat} {l0 : List S55} {a1 : Int} {r : (List Int)} (H : spec_l23Said.f k l0 a1 = some r) : ACalls Try.prog 31 [] [.sl .o 4 (l0.map e55), .lit (.int .i64 a1)] [(0, .row 3 1 (r.map (eI .i64)))] (.row 0) := by
 refine acalls (fn := Try.f31) (nt := 48) Try.func31 rfl rfl (Nat.le_of_ble_eq_true rfl) fun E hE => ?_
 rw [spec_l23Said.f] at H
 refine aw_grp1 ?_
 refine wk_start ?_
 refine kv g0 (asg) ?_
 refine wk_end ?_
 refine ac_next ?_
 refine aw_grp1 ?_
 refine wk_start ?_
 refine kb g0 (bsl 0 3 1 [.int .i64 0] (([] : List Int).map (eI .i64))) ?_
 refine kv g0 (asg) ?_
 refine wk_end ?_
 refine ac_next ?_
 refine aw_grp1 ?_
 refine wk_start ?_
 refine kv g0 (mv) ?_
 obtain ⟨t1, A2, H⟩ := of_bind H
 refine kcS1 10 (.row 1) [(1, .row 4 1 (t1.map eB))] g0 (cal (spec_Reached.ok A2) [1] 9999 .n (hf := Try.func49)) rfl rfl ?_
 refine kv g0 (asg) ?_
 refine wk_end ?_
 refine ac_next ?_
 refine aw_grp1 ?_
 refine aw_grp1 ?_
 refine wk_start ?_
 refine kv g0 (asg) ?_
 refine wk_end ?_
 refine ac_next ?_
 refine aw_block ?_
 refine aw_loop2 (fun (k_ : Nat) (q13 : List Int) (p14 : Int) => k_ ≤ k ∧ spec_l23Said.l0 k_ l0 a1 t1 q13 p14 = some r) (fun (q13 : List Int) (p14 : Int) => ⟨[(0, .sl .o 4 (l0.map e55)), (1, .lit (.int .i64 a1)), (5, .row 0), (6, .row 1), (7, .lit (.int .i64 p14))], [(0, .row 3 1 (q13.map (eI .i64))), (1, .row 4 1 (t1.map eB))]⟩) k ([] : List Int) 0 ⟨Nat.le_refl _, H⟩ (fun K_ h_ => acw hE [(0, 0), (1, 1)] 9999 h_) (fun _ _ => by intro h_; have h_ := h_.2; rw [spec_l23Said.l0.eq_1] at h_; cases h_) ?_
 intro k15 q13 p14 hq_ K26 hK27
 have hk15 := hq_.1
 have H := hq_.2
 clear hq_
 rw [spec_l23Said.l0.eq_2] at H
 refine aw_grp1 ?_
 refine aw_grp1 ?_
 refine wk_start ?_
 refine kv g0 (mv) ?_
 refine kv g0 (mv) ?_
 refine kv g0 (lnR lenE) ?_
 refine kv g0 (lss) ?_
 refine wk_end ?_
 refine ac_next ?_
 by_cases c16 : p14 < (t1.length : Int)
 ·rw [if_pos c16] at H
  refine aw_ifT ?_ (decide_eq_true c16)
  refine aw_skip ?_
  refine ac_next ?_
  refine aw_grp1 ?_
  refine aw_block ?_
  refine aw_grp1 ?_
  refine wk_start ?_
  refine kv g0 (mv) ?_
  refine kv g0 (mv) ?_
  obtain ⟨c17, H⟩ := of_if H
  refine kv g0 (ixR 4 c17 (ltE c16)) ?_
  refine kv g0 (ldE (eB (rdOf false t1 p14)) (.lit (.bool (rdOf false t1 p14))) (getE (z := false) c17 c16)) ?_
  refine kv g0 (mv) ?_
  by_cases c18 : (rdOf false t1 p14) = true
  ·rw [if_pos c18] at H
   refine kv (g1 c18) (mv) ?_
   refine kv (g1 c18) (mv) ?_
   obtain ⟨c19, H⟩ := of_if H
   refine kv (g1 c18) (ixS 55 (e55 (rd_T55 l0 p14)) c17 (getE (z := z55) c17 c19)) ?_
   refine kv (g1 c18) (faR 0 0) ?_
   refine kv (g1 c18) (ldR (.lit (.int .i64 ((rd_T55 l0 p14).f0)))) ?_
   refine kv (g1 c18) (mv) ?_
   refine kv (g1 c18) (eql) ?_
   refine kv g0 (pkT c18) ?_
   refine kv g0 (mv) ?_
   by_cases c20 : ((rd_T55 l0 p14).f0) = a1
   ·rw [if_pos c20] at H
    refine kv (g1 (eT c20)) (mv) ?_
    refine kv (g1 (eT c20)) (mv) ?_
    refine kv (g1 (eT c20)) (mv) ?_
    refine kv (g1 (eT c20)) (ixS 55 (e55 (rd_T55 l0 p14)) c17 (getE (z := z55) c17 c19)) ?_
    refine kv (g1 (eT c20)) (faR 1 1) ?_
    refine kv (g1 (eT c20)) (ldR (.lit (.int .i64 ((rd_T55 l0 p14).f1)))) ?_
    obtain ⟨t21, A22, H⟩ := of_bind H
    refine kcS0 37 (.lit (.bool t21)) [] (g1 (eT c20)) (cal (spec_l09In.ok A22) [] 9999 .n (hf := Try.func55)) rfl rfl ?_
    refine kv (g1 (eT c20)) (not_) ?_
    refine kv g0 (pkT (eT c20)) ?_
    refine wk_end ?_
    refine ac_next ?_
    by_cases c23 : t21 = true
    ·rw [if_pos c23] at H
     refine aw_ifF ?_ (nF c23)
     refine aw_skip ?_
     refine ac_blkN ?_
     refine ac_next ?_
     refine wk_start ?_
     refine kv g0 (mv) ?_
     refine kv g0 (add6) ?_
     refine kv g0 (asg) ?_
     refine wk_end ?_
     refine ac_k ?_
     exact acw hE [(0, 0), (1, 1)] 9999 (hK27 k15 q13 (wrap64 (p14 + 1)) (Nat.le_refl _) ⟨by omega, H⟩)
    rw [if_neg c23] at H
    refine aw_ifT ?_ (nT (bF c23))
    refine wk_start ?_
    refine kv g0 (mv) ?_
    refine kv g0 (mv) ?_
    refine kv g0 (mv) ?_
    refine kv g0 (ixS 55 (e55 (rd_T55 l0 p14)) c17 (getE (z := z55) c17 c19)) ?_
    refine kv g0 (faR 1 1) ?_
    refine kv g0 (ldR (.lit (.int .i64 ((rd_T55 l0 p14).f1)))) ?_
    obtain ⟨t24, A25, H⟩ := of_bind H
    refine kcS1 46 (.row 2) [(2, .row 3 1 (t24.map (eI .i64)))] g0 (cal (spec_l23Put.ok A25) [2] 9999 .n (hf := Try.func56)) rfl rfl ?_
    refine kv g0 (asg) ?_
    refine wk_end ?_
    refine ac_blkN ?_
    refine ac_next ?_
    refine wk_start ?_
    refine kv g0 (mv) ?_
    refine kv g0 (add6) ?_
    refine kv g0 (asg) ?_
    refine wk_end ?_
    refine ac_k ?_
    exact acw hE [(0, 2), (1, 1)] 9999 (hK27 k15 t24 (wrap64 (p14 + 1)) (Nat.le_refl _) ⟨by omega, H⟩)
   rw [if_neg c20] at H
   refine kx (hT (eF c20)) ?_
   refine kx (hT (eF c20)) ?_
   refine kx (hT (eF c20)) ?_
   refine kx (hT (eF c20)) ?_
   refine kx (hT (eF c20)) ?_
   refine kx (hT (eF c20)) ?_
   refine kx (hT (eF c20)) ?_
   refine kx (hT (eF c20)) ?_
   refine kv g0 (pkF (eF c20)) ?_
   refine wk_end ?_
   refine ac_next ?_
   refine aw_ifF ?_ rfl
   refine aw_skip ?_
   refine ac_blkN ?_
   refine ac_next ?_
   refine wk_start ?_
   refine kv g0 (mv) ?_
   refine kv g0 (add6) ?_
   refine kv g0 (asg) ?_
   refine wk_end ?_
   refine ac_k ?_
   exact acw hE [(0, 0), (1, 1)] 9999 (hK27 k15 q13 (wrap64 (p14 + 1)) (Nat.le_refl _) ⟨by omega, H⟩)
  rw [if_neg c18] at H
  refine kx (hT (bF c18)) ?_
  refine kx (hT (bF c18)) ?_
  refine kx (hT (bF c18)) ?_
  refine kx (hT (bF c18)) ?_
  refine kx (hT (bF c18)) ?_
  refine kx (hT (bF c18)) ?_
  refine kx (hT (bF c18)) ?_
  refine kv g0 (pkF (bF c18)) ?_
  refine kv g0 (mv) ?_
  refine kx (hT rfl) ?_
  refine kx (hT rfl) ?_
  refine kx (hT rfl) ?_
  refine kx (hT rfl) ?_
  refine kx (hT rfl) ?_
  refine kx (hT rfl) ?_
  refine kx (hT rfl) ?_
  refine kx (hT rfl) ?_
  refine kv g0 (pkF rfl) ?_
  refine wk_end ?_
  refine ac_next ?_
  refine aw_ifF ?_ rfl
  refine aw_skip ?_
  refine ac_blkN ?_
  refine ac_next ?_
  refine wk_start ?_
  refine kv g0 (mv) ?_
  refine kv g0 (add6) ?_
  refine kv g0 (asg) ?_
  refine wk_end ?_
  refine ac_k ?_
  exact acw hE [(0, 0), (1, 1)] 9999 (hK27 k15 q13 (wrap64 (p14 + 1)) (Nat.le_refl _) ⟨by omega, H⟩)
 rw [if_neg c16] at H
 refine aw_ifF ?_ (decide_eq_false c16)
 refine aw_exit ?_
 refine ac_then ?_
 refine ac_then ?_
 refine ac_hit rfl ?_
 refine ac_next ?_
 refine aw_grp1 ?_
 refine wk_start ?_
 refine kv g0 (mv) ?_
 refine kv g0 (asg) ?_
 refine wk_end ?_
 refine ac_next ?_
 refine aw_ret ?_
 obtain rfl := Option.some.inj H
 exact acr hE [.tmp 4] (.tmp .nil) (.one _) [(0, 0)] 9999
/-! spec_ResultsIn -/
def spec_ResultsIn.f (k : Nat) (l0 : List S55) : Option ((List Int)) := (spec_l23Said.f k l0 8).bind fun t1 => some t1
theorem spec_ResultsIn.ok {k : Nat} {l0 : List S55} {r : (List Int)} (H : spec_ResultsIn.f k l0 = some r) : ACalls Try.prog 15 [] [.sl .o 4 (l0.map e55)] [(0, .row 3 1 (r.map (eI .i64)))] (.row 0) := by
 refine acalls (fn := Try.f15) (nt := 5) Try.func15 rfl rfl (Nat.le_of_ble_eq_true rfl) fun E hE => ?_
 rw [spec_ResultsIn.f] at H
 refine aw_grp1 ?_
 refine wk_start ?_
 refine kv g0 (asg) ?_
 refine wk_end ?_
 refine ac_next ?_
 refine aw_grp1 ?_
 refine wk_start ?_
 refine kv g0 (mv) ?_
 obtain ⟨t1, A2, H⟩ := of_bind H
 refine kcS1 4 (.row 0) [(0, .row 3 1 (t1.map (eI .i64)))] g0 (cal (spec_l23Said.ok A2) [0] 9999 .n (hf := Try.func31)) rfl rfl ?_
 refine kv g0 (asg) ?_
 refine wk_end ?_
 refine ac_next ?_
 refine aw_ret ?_
 obtain rfl := Option.some.inj H
 exact acr hE [.tmp 2] (.tmp .nil) (.one _) [(0, 0)] 9999
/-! laws_sameInts -/
def laws_sameInts.l0 : Nat → (List Int) → (List Int) → Int → Option (Bool)
 | 0, _, _, _ => none
 | k7 + 1, l0, l1, p6 => if p6 < (l0.length : Int) then if 0 ≤ p6 then (if p6 < (l1.length : Int) then if (rd l0 p6) = (rd l1 p6) then laws_sameInts.l0 k7 l0 l1 (wrap64 (p6 + 1)) else some false else none) else none else some true
def laws_sameInts.f (k : Nat) (l0 : List Int) (l1 : List Int) : Option (Bool) := if (l0.length : Int) = (l1.length : Int) then laws_sameInts.l0 k l0 l1 0 else some false
theorem laws_sameInts.ok {k : Nat} {l0 : List Int} {l1 : List Int} {r : Bool} (H : laws_sameInts.f k l0 l1 = some r) : ACalls Try.prog 14 [] [.sl .o 1 (l0.map (eI .i64)), .sl .o 1 (l1.map (eI .i64))] [] (.lit (.bool r)) := by
 refine acalls (fn := Try.f14) (nt := 26) Try.func14 rfl rfl (Nat.le_of_ble_eq_true rfl) fun E hE => ?_
 rw [laws_sameInts.f] at H
 refine aw_grp1 ?_
 refine wk_start ?_
 refine kv g0 (asg) ?_
 refine wk_end ?_
 refine ac_next ?_
 refine aw_grp1 ?_
 refine aw_grp1 ?_
 refine wk_start ?_
 refine kv g0 (mv) ?_
 refine kv g0 (lnS lenE) ?_
 refine kv g0 (mv) ?_
 refine kv g0 (lnS lenE) ?_
 refine kv g0 (neq) ?_
 refine wk_end ?_
 refine ac_next ?_
 by_cases c1 : (l0.length : Int) = (l1.length : Int)
 ·rw [if_pos c1] at H
  refine aw_ifF ?_ (eM c1)
  refine aw_skip ?_
  refine ac_next ?_
  refine aw_grp1 ?_
  refine aw_grp1 ?_
  refine wk_start ?_
  refine kv g0 (asg) ?_
  refine wk_end ?_
  refine ac_next ?_
  refine aw_block ?_
  refine aw_loop1 (fun (k_ : Nat) (p6 : Int) => k_ ≤ k ∧ laws_sameInts.l0 k_ l0 l1 p6 = some r) (fun (p6 : Int) => ⟨[(0, .sl .o 1 (l0.map (eI .i64))), (1, .sl .o 1 (l1.map (eI .i64))), (5, .lit (.int .i64 p6))], []⟩) k 0 ⟨Nat.le_refl _, H⟩ (fun K_ h_ => acw hE [] 9999 h_) (fun _ => by intro h_; have h_ := h_.2; rw [laws_sameInts.l0.eq_1] at h_; cases h_) ?_
  intro k7 p6 hq_ K12 hK13
  have hk7 := hq_.1
  have H := hq_.2
  clear hq_
  rw [laws_sameInts.l0.eq_2] at H
  refine aw_grp1 ?_
  refine aw_grp1 ?_
  refine wk_start ?_
  refine kv g0 (mv) ?_
  refine kv g0 (mv) ?_
  refine kv g0 (lnS lenE) ?_
  refine kv g0 (lss) ?_
  refine wk_end ?_
  refine ac_next ?_
  by_cases c8 : p6 < (l0.length : Int)
  ·rw [if_pos c8] at H
   refine aw_ifT ?_ (decide_eq_true c8)
   refine aw_skip ?_
   refine ac_next ?_
   refine aw_grp1 ?_
   refine aw_block ?_
   refine aw_grp1 ?_
   refine wk_start ?_
   refine kv g0 (mv) ?_
   refine kv g0 (mv) ?_
   obtain ⟨c9, H⟩ := of_if H
   refine kv g0 (ixS 3 (eI .i64 (rd l0 p6)) c9 (getE (z := (0 : Int)) c9 c8)) ?_
   refine kv g0 (ldR (.lit (.int .i64 (rd l0 p6)))) ?_
   refine kv g0 (mv) ?_
   refine kv g0 (mv) ?_
   obtain ⟨c10, H⟩ := of_if H
   refine kv g0 (ixS 3 (eI .i64 (rd l1 p6)) c9 (getE (z := (0 : Int)) c9 c10)) ?_
   refine kv g0 (ldR (.lit (.int .i64 (rd l1 p6)))) ?_
   refine kv g0 (neq) ?_
   refine wk_end_draw hM (by kernel_rfl) ?_
   refine ac_next ?_
   by_cases c11 : (rd l0 p6) = (rd l1 p6)
   ·rw [if_pos c11] at H
    refine aw_ifF ?_ (eM c11)
    refine aw_skip ?_
    refine ac_blkN ?_
    refine ac_next ?_
    refine wk_start ?_
    refine kv g0 (mv) ?_
    refine kv g0 (add6) ?_
    refine kv g0 (asg) ?_
    refine wk_end ?_
    refine ac_k ?_
    exact acw hE [] 9999 (hK13 k7 (wrap64 (p6 + 1)) (Nat.le_refl _) ⟨by omega, H⟩)
   rw [if_neg c11] at H
   refine aw_ifT ?_ (eN c11)
   refine aw_grp1 ?_
   refine wk_start ?_
   refine kv g0 (asg) ?_
   refine wk_end ?_
   refine ac_next ?_
   refine aw_ret ?_
   refine ac_blkR ?_
   refine ac_thenR ?_
   refine ac_thenR ?_
   refine ac_blkR ?_
   refine ac_thenR ?_
   obtain rfl := Option.some.inj H
   exact acr hE [.tmp 4] (.tmp .nil) (.one _) [] 9999
  rw [if_neg c8] at H
  refine aw_ifF ?_ (decide_eq_false c8)
  refine aw_exit ?_
  refine ac_then ?_
  refine ac_then ?_
  refine ac_hit rfl ?_
  refine ac_next ?_
  refine aw_grp1 ?_
  refine wk_start ?_
  refine kv g0 (asg) ?_
  refine wk_end ?_
  refine ac_next ?_
  refine aw_ret ?_
  obtain rfl := Option.some.inj H
  exact acr hE [.tmp 4] (.tmp .nil) (.one _) [] 9999
 rw [if_neg c1] at H
 refine aw_ifT ?_ (eN c1)
 refine aw_grp1 ?_
 refine wk_start ?_
 refine kv g0 (asg) ?_
 refine wk_end ?_
 refine ac_next ?_
 refine aw_ret ?_
 refine ac_thenR ?_
 obtain rfl := Option.some.inj H
 exact acr hE [.tmp 4] (.tmp .nil) (.one _) [] 9999
/-! laws_FnWaysShort -/
mutual
def laws_FnWaysShort.l0 : Nat → (List S55) → ((List S55)) → ((List Int)) → ((List Int)) → Int → Option (Bool)
 | 0, _, _, _, _, _ => none
 | k27 + 1, q13, t15, t17, t19, p26 => if p26 < (t17.length : Int) then if 0 ≤ p26 then ((laws_hasNum.f k27 t19 (rd t17 p26)).bind fun t30 => (if t30 = true then (if p26 > 0 then (if 0 ≤ (wrap64 (p26 - 1)) then (if (wrap64 (p26 - 1)) < (t17.length : Int) then if (rd t17 (wrap64 (p26 - 1))) ≥ (rd t17 p26) then some false else laws_FnWaysShort.l0 k27 q13 t15 t17 t19 (wrap64 (p26 + 1)) else none) else none) else laws_FnWaysShort.l0 k27 q13 t15 t17 t19 (wrap64 (p26 + 1))) else some false)) else none else (impl_FieldsRead.f k27 t15).bind fun t39 => (impl_FieldsRead.f k27 q13).bind fun t41 => laws_FnWaysShort.l1 k27 q13 t15 t17 t19 t39 t41 0
def laws_FnWaysShort.l1 : Nat → (List S55) → ((List S55)) → ((List Int)) → ((List Int)) → ((List Int)) → ((List Int)) → Int → Option (Bool)
 | 0, _, _, _, _, _, _, _ => none
 | k49 + 1, q13, t15, t17, t19, t39, t41, p48 => if p48 < (t39.length : Int) then if 0 ≤ p48 then ((laws_hasNum.f k49 t41 (rd t39 p48)).bind fun t52 => if t52 = true then laws_FnWaysShort.l1 k49 q13 t15 t17 t19 t39 t41 (wrap64 (p48 + 1)) else some false) else none else (spec_CheckProgram.f k49 q13).bind fun t57 => (if t57 = true then (if (t17.length : Int) > 0 then ((impl_LongestRun.f k49 t15).bind fun t61 => ((impl_LongestRun.f k49 q13).bind fun t63 => (if t61 ≤ t63 then ((spec_ResultsIn.f k49 q13).bind fun t66 => ((laws_sameInts.f k49 t19 t66).bind fun t68 => some t68)) else some false))) else some false) else ((impl_LongestRun.f k49 t15).bind fun t70 => ((impl_LongestRun.f k49 q13).bind fun t72 => (if t70 ≤ t72 then ((spec_ResultsIn.f k49 q13).bind fun t75 => ((laws_sameInts.f k49 t19 t75).bind fun t77 => some t77)) else some false))))
def laws_FnWaysShort.j0 : Nat → (List S55) → Option (Bool)
 | 0, _ => none
 | k14 + 1, q13 => (spec_Short.f k14 q13).bind fun t15 => (impl_ResultsIn.f k14 t15).bind fun t17 => (impl_ResultsIn.f k14 q13).bind fun t19 => laws_FnWaysShort.l0 k14 q13 t15 t17 t19 0
end
def laws_FnWaysShort.f (k : Nat) (l0 : List Int) : Option (Bool) := (laws_big.f l0).bind fun t1 => if t1 = true then some true else (spec_DrawPolicy.f k l0).bind fun t4 => (spec_Compile.f k t4.1 t4.2.1 t4.2.2.1 t4.2.2.2.1).bind fun t6 => (spec_CheckProgram.f k t6.1).bind fun t8 => if t8 = true then laws_FnWaysShort.j0 k t6.1 else ((spec_DrawProgram.f k l0).bind fun t11 => laws_FnWaysShort.j0 k t11)
theorem laws_FnWaysShort.ok {k : Nat} {l0 : List Int} {r : Bool} (H : laws_FnWaysShort.f k l0 = some r) : ACalls Try.prog 3 [] [.sl .o 1 (l0.map (eI .u8))] [] (.lit (.bool r)) := by
 refine acalls (fn := Try.f3) (nt := 104) Try.func3 rfl rfl (Nat.le_of_ble_eq_true rfl) fun E hE => ?_
 rw [laws_FnWaysShort.f] at H
 refine aw_grp1 ?_
 refine wk_start ?_
 refine kv g0 (asg) ?_
 refine wk_end ?_
 refine ac_next ?_
 refine aw_grp1 ?_
 refine aw_grp1 ?_
 refine wk_start ?_
 refine kv g0 (mv) ?_
 obtain ⟨t1, A2, H⟩ := of_bind H
 refine kcS0 15 (.lit (.bool t1)) [] g0 (cal (laws_big.ok A2) [] 9999 .n (hf := Try.func4)) rfl rfl ?_
 refine wk_end ?_
 refine ac_next ?_
 by_cases c3 : t1 = true
 ·rw [if_pos c3] at H
  refine aw_ifT ?_ c3
  refine aw_grp1 ?_
  refine wk_start ?_
  refine kv g0 (asg) ?_
  refine wk_end ?_
  refine ac_next ?_
  refine aw_ret ?_
  refine ac_thenR ?_
  obtain rfl := Option.some.inj H
  exact acr hE [.tmp 2] (.tmp .nil) (.one _) [] 9999
 rw [if_neg c3] at H
 refine aw_ifF ?_ (bF c3)
 refine aw_skip ?_
 refine ac_next ?_
 refine aw_grp1 ?_
 refine wk_start ?_
 refine kv g0 (mv) ?_
 obtain ⟨t4, A5, H⟩ := of_bind H
 refine kcS2 18 (.tup [.agg [.lit (.int .i64 t4.1), .lit (.int .i64 t4.2.1), .lit (.int .i64 t4.2.2.1), .row 0], .agg [.lit (.int .i64 t4.2.2.2.2.1), .lit (.int .i64 t4.2.2.2.2.2.1), .row 1]]) [(0, .row 67 4 (t4.2.2.2.1.map e67)), (1, .row 70 2 (t4.2.2.2.2.2.2.map e70))] g0 (cal (spec_DrawPolicy.ok A5) [0, 1] 9999 .n (hf := Try.func5)) rfl rfl ?_
 refine kv g0 (mv) ?_
 refine kv g0 (ext) ?_
 refine kv g0 (ext) ?_
 refine kb g0 (alc 2 [.int .i64 0, .int .i64 0, .int .i64 0, .slice none 0 0] [.lit (.int .i64 0), .lit (.int .i64 0), .lit (.int .i64 0), .lit (.slice none 0 0)]) ?_
 refine kb g0 (alc 3 [.int .i64 0, .int .i64 0, .slice none 0 0] [.lit (.int .i64 0), .lit (.int .i64 0), .lit (.slice none 0 0)]) ?_
 refine ks g0 (stB 4 [.lit (.int .i64 t4.1), .lit (.int .i64 t4.2.1), .lit (.int .i64 t4.2.2.1), .row 0]) ?_
 refine ks g0 (stB 3 [.lit (.int .i64 t4.2.2.2.2.1), .lit (.int .i64 t4.2.2.2.2.2.1), .row 1]) ?_
 refine wk_end ?_
 refine ac_next ?_
 refine aw_grp1 ?_
 refine wk_start ?_
 refine kv g0 (ldBA 4 [.lit (.int .i64 t4.1), .lit (.int .i64 t4.2.1), .lit (.int .i64 t4.2.2.1), .row 0]) ?_
 obtain ⟨t6, A7, H⟩ := of_bind H
 refine kcS1 23 (.tup [.row 4, .lit (.int .i64 t6.2)]) [(4, .row 55 4 (t6.1.map e55))] g0 (cal (spec_Compile.ok A7) [4] 9999 .n (hf := Try.func6)) rfl rfl ?_
 refine kv g0 (mv) ?_
 refine kv g0 (ext) ?_
 refine kv g0 (ext) ?_
 refine kv g0 (asg) ?_
 refine kv g0 (asg) ?_
 refine wk_end ?_
 refine ac_next ?_
 refine aw_cut1 (J := fun K_ => ∀ (k_ : Nat) (q13 : List S55), k_ ≤ k → laws_FnWaysShort.j0 k_ q13 = some r → ACont E 104 ⟨[(5, .row 4)], [(4, .row 55 4 (q13.map e55))]⟩ K_) ?_ ?_
 ·intro K_ hJ79
  refine aw_grp1 ?_
  refine wk_start ?_
  refine kv g0 (mv) ?_
  obtain ⟨t8, A9, H⟩ := of_bind H
  refine kcS0 27 (.lit (.bool t8)) [] g0 (cal (spec_CheckProgram.ok A9) [] 9999 .n (hf := Try.func7)) rfl rfl ?_
  refine kv g0 (not_) ?_
  refine wk_end ?_
  refine ac_next ?_
  by_cases c10 : t8 = true
  ·rw [if_pos c10] at H
   refine aw_ifF ?_ (nF c10)
   refine aw_skip ?_
   refine ac_k ?_
   exact acw hE [(4, 4)] 9999 (hJ79 k t6.1 (Nat.le_refl _) H)
  rw [if_neg c10] at H
  refine aw_ifT ?_ (nT (bF c10))
  refine wk_start ?_
  refine kv g0 (mv) ?_
  obtain ⟨t11, A12, H⟩ := of_bind H
  refine kcS1 30 (.row 5) [(5, .row 55 4 (t11.map e55))] g0 (cal (spec_DrawProgram.ok A12) [5] 9999 .n (hf := Try.func8)) rfl rfl ?_
  refine kv g0 (asg) ?_
  refine wk_end ?_
  refine ac_k ?_
  exact acw hE [(4, 5)] 9999 (hJ79 k t11 (Nat.le_refl _) H)
 intro k_ q13 hk_ H
 rcases k_ with _ | k14
 ·rw [laws_FnWaysShort.j0.eq_1] at H; cases H
 have hk14 : k14 ≤ k := by omega
 clear hk_
 rw [laws_FnWaysShort.j0.eq_2] at H
 refine aw_grp1 ?_
 refine wk_start ?_
 refine kv g0 (mv) ?_
 obtain ⟨t15, A16, H⟩ := of_bind H
 refine kcS1 32 (.row 6) [(6, .row 55 4 (t15.map e55))] g0 (cal (spec_Short.ok A16) [6] 9999 .n (hf := Try.func9)) rfl rfl ?_
 refine kv g0 (asg) ?_
 refine wk_end ?_
 refine ac_next ?_
 refine aw_grp1 ?_
 refine wk_start ?_
 refine kv g0 (mv) ?_
 obtain ⟨t17, A18, H⟩ := of_bind H
 refine kcS1 34 (.row 7) [(7, .row 3 1 (t17.map (eI .i64)))] g0 (cal (impl_ResultsIn.ok A18) [7] 9999 .n (hf := Try.func10)) rfl rfl ?_
 refine kv g0 (asg) ?_
 refine wk_end ?_
 refine ac_next ?_
 refine aw_grp1 ?_
 refine wk_start ?_
 refine kv g0 (mv) ?_
 obtain ⟨t19, A20, H⟩ := of_bind H
 refine kcS1 36 (.row 8) [(8, .row 3 1 (t19.map (eI .i64)))] g0 (cal (impl_ResultsIn.ok A20) [8] 9999 .n (hf := Try.func10)) rfl rfl ?_
 refine kv g0 (asg) ?_
 refine wk_end ?_
 refine ac_next ?_
 refine aw_grp1 ?_
 refine aw_grp1 ?_
 refine wk_start ?_
 refine kv g0 (asg) ?_
 refine wk_end ?_
 refine ac_next ?_
 refine aw_block ?_
 refine aw_loop1 (fun (k_ : Nat) (p26 : Int) => k_ ≤ k14 ∧ laws_FnWaysShort.l0 k_ q13 t15 t17 t19 p26 = some r) (fun (p26 : Int) => ⟨[(5, .row 4), (7, .row 6), (8, .row 7), (9, .row 8), (10, .lit (.int .i64 p26))], [(4, .row 55 4 (q13.map e55)), (6, .row 55 4 (t15.map e55)), (7, .row 3 1 (t17.map (eI .i64))), (8, .row 3 1 (t19.map (eI .i64)))]⟩) k14 0 ⟨Nat.le_refl _, H⟩ (fun K_ h_ => acw hE [(4, 4), (6, 6), (7, 7), (8, 8)] 9999 h_) (fun _ => by intro h_; have h_ := h_.2; rw [laws_FnWaysShort.l0.eq_1] at h_; cases h_) ?_
 intro k27 p26 hq_ K37 hK38
 have hk27 := hq_.1
 have H := hq_.2
 clear hq_
 rw [laws_FnWaysShort.l0.eq_2] at H
 refine aw_grp1 ?_
 refine aw_grp1 ?_
 refine wk_start ?_
 refine kv g0 (mv) ?_
 refine kv g0 (mv) ?_
 refine kv g0 (lnR lenE) ?_
 refine kv g0 (lss) ?_
 refine wk_end ?_
 refine ac_next ?_
 by_cases c28 : p26 < (t17.length : Int)
 ·rw [if_pos c28] at H
  refine aw_ifT ?_ (decide_eq_true c28)
  refine aw_skip ?_
  refine ac_next ?_
  refine aw_grp1 ?_
  refine aw_block ?_
  refine aw_grp1 ?_
  refine wk_start ?_
  refine kv g0 (mv) ?_
  refine kv g0 (mv) ?_
  refine kv g0 (mv) ?_
  obtain ⟨c29, H⟩ := of_if H
  refine kv g0 (ixR 3 c29 (ltE c28)) ?_
  refine kv g0 (ldE (eI .i64 (rd t17 p26)) (.lit (.int .i64 (rd t17 p26))) (getE (z := (0 : Int)) c29 c28)) ?_
  obtain ⟨t30, A31, H⟩ := of_bind H
  refine kcS0 48 (.lit (.bool t30)) [] g0 (cal (laws_hasNum.ok A31) [] 9999 .n (hf := Try.func11)) rfl rfl ?_
  refine kv g0 (not_) ?_
  refine kv g0 (mv) ?_
  by_cases c32 : t30 = true
  ·rw [if_pos c32] at H
   refine kv (g1 (nF c32)) (mv) ?_
   refine kv (g1 (nF c32)) (gtr) ?_
   refine kv (g1 (nF c32)) (mv) ?_
   by_cases c33 : p26 > 0
   ·rw [if_pos c33] at H
    refine kv (g1 (decide_eq_true c33)) (mv) ?_
    refine kv (g1 (decide_eq_true c33)) (mv) ?_
    refine kv (g1 (decide_eq_true c33)) (sub6) ?_
    obtain ⟨c34, H⟩ := of_if H
    obtain ⟨c35, H⟩ := of_if H
    refine kv (g1 (decide_eq_true c33)) (ixR 3 c34 (ltE c35)) ?_
    refine kv (g1 (decide_eq_true c33)) (ldE (eI .i64 (rd t17 (wrap64 (p26 - 1)))) (.lit (.int .i64 (rd t17 (wrap64 (p26 - 1))))) (getE (z := (0 : Int)) c34 c35)) ?_
    refine kv (g1 (decide_eq_true c33)) (mv) ?_
    refine kv (g1 (decide_eq_true c33)) (mv) ?_
    refine kv (g1 (decide_eq_true c33)) (ixR 3 c29 (ltE c28)) ?_
    refine kv (g1 (decide_eq_true c33)) (ldE (eI .i64 (rd t17 p26)) (.lit (.int .i64 (rd t17 p26))) (getE (z := (0 : Int)) c29 c28)) ?_
    refine kv (g1 (decide_eq_true c33)) (geq) ?_
    refine kv (g1 (nF c32)) (pkT (decide_eq_true c33)) ?_
    refine kv g0 (pkF (nF c32)) ?_
    refine wk_end_draw hM (by kernel_rfl) ?_
    refine ac_next ?_
    by_cases c36 : (rd t17 (wrap64 (p26 - 1))) ≥ (rd t17 p26)
    ·rw [if_pos c36] at H
     refine aw_ifT ?_ (decide_eq_true c36)
     refine aw_grp1 ?_
     refine wk_start ?_
     refine kv g0 (asg) ?_
     refine wk_end ?_
     refine ac_next ?_
     refine aw_ret ?_
     refine ac_blkR ?_
     refine ac_thenR ?_
     refine ac_thenR ?_
     refine ac_blkR ?_
     refine ac_thenR ?_
     obtain rfl := Option.some.inj H
     exact acr hE [.tmp 2] (.tmp .nil) (.one _) [] 9999
    rw [if_neg c36] at H
    refine aw_ifF ?_ (decide_eq_false c36)
    refine aw_skip ?_
    refine ac_blkN ?_
    refine ac_next ?_
    refine wk_start ?_
    refine kv g0 (mv) ?_
    refine kv g0 (add6) ?_
    refine kv g0 (asg) ?_
    refine wk_end ?_
    refine ac_k ?_
    exact acw hE [(4, 4), (6, 6), (7, 7), (8, 8)] 9999 (hK38 k27 (wrap64 (p26 + 1)) (Nat.le_refl _) ⟨by omega, H⟩)
   rw [if_neg c33] at H
   refine kx (hT (decide_eq_false c33)) ?_
   refine kx (hT (decide_eq_false c33)) ?_
   refine kx (hT (decide_eq_false c33)) ?_
   refine kx (hT (decide_eq_false c33)) ?_
   refine kx (hT (decide_eq_false c33)) ?_
   refine kx (hT (decide_eq_false c33)) ?_
   refine kx (hT (decide_eq_false c33)) ?_
   refine kx (hT (decide_eq_false c33)) ?_
   refine kx (hT (decide_eq_false c33)) ?_
   refine kx (hT (decide_eq_false c33)) ?_
   refine kv (g1 (nF c32)) (pkF (decide_eq_false c33)) ?_
   refine kv g0 (pkF (nF c32)) ?_
   refine wk_end_draw hM (by kernel_rfl) ?_
   refine ac_next ?_
   refine aw_ifF ?_ rfl
   refine aw_skip ?_
   refine ac_blkN ?_
   refine ac_next ?_
   refine wk_start ?_
   refine kv g0 (mv) ?_
   refine kv g0 (add6) ?_
   refine kv g0 (asg) ?_
   refine wk_end ?_
   refine ac_k ?_
   exact acw hE [(4, 4), (6, 6), (7, 7), (8, 8)] 9999 (hK38 k27 (wrap64 (p26 + 1)) (Nat.le_refl _) ⟨by omega, H⟩)
  rw [if_neg c32] at H
  refine kx (hF (nT (bF c32))) ?_
  refine kx (hF (nT (bF c32))) ?_
  refine ku (neT (hF (nT (bF c32)))) ?_
  refine ku neU ?_
  refine ku neU ?_
  refine ku neU ?_
  refine ku neU ?_
  refine ku neU ?_
  refine ku neU ?_
  refine ku neU ?_
  refine ku neU ?_
  refine ku neU ?_
  refine ku neU ?_
  refine kx (hF (nT (bF c32))) ?_
  refine kv g0 (pkT (nT (bF c32))) ?_
  refine wk_end_draw hM (by kernel_rfl) ?_
  refine ac_next ?_
  refine aw_ifT ?_ rfl
  refine aw_grp1 ?_
  refine wk_start ?_
  refine kv g0 (asg) ?_
  refine wk_end ?_
  refine ac_next ?_
  refine aw_ret ?_
  refine ac_blkR ?_
  refine ac_thenR ?_
  refine ac_thenR ?_
  refine ac_blkR ?_
  refine ac_thenR ?_
  obtain rfl := Option.some.inj H
  exact acr hE [.tmp 2] (.tmp .nil) (.one _) [] 9999
 rw [if_neg c28] at H
 refine aw_ifF ?_ (decide_eq_false c28)
 refine aw_exit ?_
 refine ac_then ?_
 refine ac_then ?_
 refine ac_hit rfl ?_
 refine ac_next ?_
 refine aw_grp1 ?_
 refine wk_start ?_
 refine kv g0 (mv) ?_
 obtain ⟨t39, A40, H⟩ := of_bind H
 refine kcS1 67 (.row 9) [(9, .row 3 1 (t39.map (eI .i64)))] g0 (cal (impl_FieldsRead.ok A40) [9] 9999 .n (hf := Try.func12)) rfl rfl ?_
 refine kv g0 (asg) ?_
 refine wk_end ?_
 refine ac_next ?_
 refine aw_grp1 ?_
 refine wk_start ?_
 refine kv g0 (mv) ?_
 obtain ⟨t41, A42, H⟩ := of_bind H
 refine kcS1 69 (.row 10) [(10, .row 3 1 (t41.map (eI .i64)))] g0 (cal (impl_FieldsRead.ok A42) [10] 9999 .n (hf := Try.func12)) rfl rfl ?_
 refine kv g0 (asg) ?_
 refine wk_end ?_
 refine ac_next ?_
 refine aw_grp1 ?_
 refine aw_grp1 ?_
 refine wk_start ?_
 refine kv g0 (asg) ?_
 refine wk_end ?_
 refine ac_next ?_
 refine aw_block ?_
 refine aw_loop1 (fun (k_ : Nat) (p48 : Int) => k_ ≤ k27 ∧ laws_FnWaysShort.l1 k_ q13 t15 t17 t19 t39 t41 p48 = some r) (fun (p48 : Int) => ⟨[(5, .row 4), (7, .row 6), (8, .row 7), (9, .row 8), (11, .row 9), (12, .row 10), (13, .lit (.int .i64 p48))], [(4, .row 55 4 (q13.map e55)), (6, .row 55 4 (t15.map e55)), (7, .row 3 1 (t17.map (eI .i64))), (8, .row 3 1 (t19.map (eI .i64))), (9, .row 3 1 (t39.map (eI .i64))), (10, .row 3 1 (t41.map (eI .i64)))]⟩) k27 0 ⟨Nat.le_refl _, H⟩ (fun K_ h_ => acw hE [(4, 4), (6, 6), (7, 7), (8, 8), (9, 9), (10, 10)] 9999 h_) (fun _ => by intro h_; have h_ := h_.2; rw [laws_FnWaysShort.l1.eq_1] at h_; cases h_) ?_
 intro k49 p48 hq_ K55 hK56
 have hk49 := hq_.1
 have H := hq_.2
 clear hq_
 rw [laws_FnWaysShort.l1.eq_2] at H
 refine aw_grp1 ?_
 refine aw_grp1 ?_
 refine wk_start ?_
 refine kv g0 (mv) ?_
 refine kv g0 (mv) ?_
 refine kv g0 (lnR lenE) ?_
 refine kv g0 (lss) ?_
 refine wk_end ?_
 refine ac_next ?_
 by_cases c50 : p48 < (t39.length : Int)
 ·rw [if_pos c50] at H
  refine aw_ifT ?_ (decide_eq_true c50)
  refine aw_skip ?_
  refine ac_next ?_
  refine aw_grp1 ?_
  refine aw_block ?_
  refine aw_grp1 ?_
  refine wk_start ?_
  refine kv g0 (mv) ?_
  refine kv g0 (mv) ?_
  refine kv g0 (mv) ?_
  obtain ⟨c51, H⟩ := of_if H
  refine kv g0 (ixR 3 c51 (ltE c50)) ?_
  refine kv g0 (ldE (eI .i64 (rd t39 p48)) (.lit (.int .i64 (rd t39 p48))) (getE (z := (0 : Int)) c51 c50)) ?_
  obtain ⟨t52, A53, H⟩ := of_bind H
  refine kcS0 81 (.lit (.bool t52)) [] g0 (cal (laws_hasNum.ok A53) [] 9999 .n (hf := Try.func11)) rfl rfl ?_
  refine kv g0 (not_) ?_
  refine wk_end ?_
  refine ac_next ?_
  by_cases c54 : t52 = true
  ·rw [if_pos c54] at H
   refine aw_ifF ?_ (nF c54)
   refine aw_skip ?_
   refine ac_blkN ?_
   refine ac_next ?_
   refine wk_start ?_
   refine kv g0 (mv) ?_
   refine kv g0 (add6) ?_
   refine kv g0 (asg) ?_
   refine wk_end ?_
   refine ac_k ?_
   exact acw hE [(4, 4), (6, 6), (7, 7), (8, 8), (9, 9), (10, 10)] 9999 (hK56 k49 (wrap64 (p48 + 1)) (Nat.le_refl _) ⟨by omega, H⟩)
  rw [if_neg c54] at H
  refine aw_ifT ?_ (nT (bF c54))
  refine aw_grp1 ?_
  refine wk_start ?_
  refine kv g0 (asg) ?_
  refine wk_end ?_
  refine ac_next ?_
  refine aw_ret ?_
  refine ac_blkR ?_
  refine ac_thenR ?_
  refine ac_thenR ?_
  refine ac_blkR ?_
  refine ac_thenR ?_
  obtain rfl := Option.some.inj H
  exact acr hE [.tmp 2] (.tmp .nil) (.one _) [] 9999
 rw [if_neg c50] at H
 refine aw_ifF ?_ (decide_eq_false c50)
 refine aw_exit ?_
 refine ac_then ?_
 refine ac_then ?_
 refine ac_hit rfl ?_
 refine ac_next ?_
 refine aw_grp1 ?_
 refine wk_start ?_
 refine kv g0 (mv) ?_
 obtain ⟨t57, A58, H⟩ := of_bind H
 refine kcS0 84 (.lit (.bool t57)) [] g0 (cal (spec_CheckProgram.ok A58) [] 9999 .n (hf := Try.func7)) rfl rfl ?_
 refine kv g0 (not_) ?_
 refine kv g0 (mv) ?_
 by_cases c59 : t57 = true
 ·rw [if_pos c59] at H
  refine kv (g1 (nF c59)) (mv) ?_
  refine kv (g1 (nF c59)) (lnR lenE) ?_
  refine kv (g1 (nF c59)) (gtr) ?_
  refine kv g0 (pkF (nF c59)) ?_
  refine kv g0 (mv) ?_
  by_cases c60 : (t17.length : Int) > 0
  ·rw [if_pos c60] at H
   refine kv (g1 (decide_eq_true c60)) (mv) ?_
   obtain ⟨t61, A62, H⟩ := of_bind H
   refine kcS0 93 (.lit (.int .i64 t61)) [] (g1 (decide_eq_true c60)) (cal (impl_LongestRun.ok A62) [] 9999 .n (hf := Try.func13)) rfl rfl ?_
   refine kv (g1 (decide_eq_true c60)) (mv) ?_
   obtain ⟨t63, A64, H⟩ := of_bind H
   refine kcS0 95 (.lit (.int .i64 t63)) [] (g1 (decide_eq_true c60)) (cal (impl_LongestRun.ok A64) [] 9999 .n (hf := Try.func13)) rfl rfl ?_
   refine kv (g1 (decide_eq_true c60)) (leq) ?_
   refine kv g0 (pkT (decide_eq_true c60)) ?_
   refine kv g0 (mv) ?_
   by_cases c65 : t61 ≤ t63
   ·rw [if_pos c65] at H
    refine kv (g1 (decide_eq_true c65)) (mv) ?_
    refine kv (g1 (decide_eq_true c65)) (mv) ?_
    obtain ⟨t66, A67, H⟩ := of_bind H
    refine kcS1 101 (.row 11) [(11, .row 3 1 (t66.map (eI .i64)))] (g1 (decide_eq_true c65)) (cal (spec_ResultsIn.ok A67) [11] 9999 .n (hf := Try.func15)) rfl rfl ?_
    obtain ⟨t68, A69, H⟩ := of_bind H
    refine kcS0 102 (.lit (.bool t68)) [] (g1 (decide_eq_true c65)) (cal (laws_sameInts.ok A69) [] 9999 .n (hf := Try.func14)) rfl rfl ?_
    refine kv g0 (pkT (decide_eq_true c65)) ?_
    refine kv g0 (asg) ?_
    refine wk_end ?_
    refine ac_next ?_
    refine aw_ret ?_
    obtain rfl := Option.some.inj H
    exact acr hE [.tmp 2] (.tmp .nil) (.one _) [] 9999
   rw [if_neg c65] at H
   refine kx (hT (decide_eq_false c65)) ?_
   refine kx (hT (decide_eq_false c65)) ?_
   refine kx (hT (decide_eq_false c65)) ?_
   refine kx (hT (decide_eq_false c65)) ?_
   refine kv g0 (pkF (decide_eq_false c65)) ?_
   refine kv g0 (asg) ?_
   refine wk_end ?_
   refine ac_next ?_
   refine aw_ret ?_
   obtain rfl := Option.some.inj H
   exact acr hE [.tmp 2] (.tmp .nil) (.one _) [] 9999
  rw [if_neg c60] at H
  refine kx (hT (decide_eq_false c60)) ?_
  refine kx (hT (decide_eq_false c60)) ?_
  refine kx (hT (decide_eq_false c60)) ?_
  refine kx (hT (decide_eq_false c60)) ?_
  refine kx (hT (decide_eq_false c60)) ?_
  refine kv g0 (pkF (decide_eq_false c60)) ?_
  refine kv g0 (mv) ?_
  refine kx (hT rfl) ?_
  refine kx (hT rfl) ?_
  refine kx (hT rfl) ?_
  refine kx (hT rfl) ?_
  refine kv g0 (pkF rfl) ?_
  refine kv g0 (asg) ?_
  refine wk_end ?_
  refine ac_next ?_
  refine aw_ret ?_
  obtain rfl := Option.some.inj H
  exact acr hE [.tmp 2] (.tmp .nil) (.one _) [] 9999
 rw [if_neg c59] at H
 refine kx (hF (nT (bF c59))) ?_
 refine kx (hF (nT (bF c59))) ?_
 refine kx (hF (nT (bF c59))) ?_
 refine kv g0 (pkT (nT (bF c59))) ?_
 refine kv g0 (mv) ?_
 refine kv (g1 rfl) (mv) ?_
 obtain ⟨t70, A71, H⟩ := of_bind H
 refine kcS0 93 (.lit (.int .i64 t70)) [] (g1 rfl) (cal (impl_LongestRun.ok A71) [] 9999 .n (hf := Try.func13)) rfl rfl ?_
 refine kv (g1 rfl) (mv) ?_
 obtain ⟨t72, A73, H⟩ := of_bind H
 refine kcS0 95 (.lit (.int .i64 t72)) [] (g1 rfl) (cal (impl_LongestRun.ok A73) [] 9999 .n (hf := Try.func13)) rfl rfl ?_
 refine kv (g1 rfl) (leq) ?_
 refine kv g0 (pkT rfl) ?_
 refine kv g0 (mv) ?_
 by_cases c74 : t70 ≤ t72
 ·rw [if_pos c74] at H
  refine kv (g1 (decide_eq_true c74)) (mv) ?_
  refine kv (g1 (decide_eq_true c74)) (mv) ?_
  obtain ⟨t75, A76, H⟩ := of_bind H
  refine kcS1 101 (.row 12) [(12, .row 3 1 (t75.map (eI .i64)))] (g1 (decide_eq_true c74)) (cal (spec_ResultsIn.ok A76) [12] 9999 .n (hf := Try.func15)) rfl rfl ?_
  obtain ⟨t77, A78, H⟩ := of_bind H
  refine kcS0 102 (.lit (.bool t77)) [] (g1 (decide_eq_true c74)) (cal (laws_sameInts.ok A78) [] 9999 .n (hf := Try.func14)) rfl rfl ?_
  refine kv g0 (pkT (decide_eq_true c74)) ?_
  refine kv g0 (asg) ?_
  refine wk_end ?_
  refine ac_next ?_
  refine aw_ret ?_
  obtain rfl := Option.some.inj H
  exact acr hE [.tmp 2] (.tmp .nil) (.one _) [] 9999
 rw [if_neg c74] at H
 refine kx (hT (decide_eq_false c74)) ?_
 refine kx (hT (decide_eq_false c74)) ?_
 refine kx (hT (decide_eq_false c74)) ?_
 refine kx (hT (decide_eq_false c74)) ?_
 refine kv g0 (pkF (decide_eq_false c74)) ?_
 refine kv g0 (asg) ?_
 refine wk_end ?_
 refine ac_next ?_
 refine aw_ret ?_
 obtain rfl := Option.some.inj H
 exact acr hE [.tmp 2] (.tmp .nil) (.one _) [] 9999
end Go.Proofs.Ytlmpaphlnlgelaa.PFnWaysShort
