import Derived.Test.YtlmpaphlnlgelaaGreatPFnWaysToldx3
set_option linter.unusedVariables false
set_option linter.unusedSimpArgs false
set_option maxRecDepth 100000
namespace Go.Proofs.YtlmpaphlnlgelaaGreat.PFnWaysTold
open Go Go.RowKit Go.Proofs.YtlmpaphlnlgelaaGreatA
/-! spec_l23Next -/
def spec_l23Next.f (l0 : List S41) (a1 : Int) : Option ((List Int)) := if 0 ≤ a1 then (if a1 < (l0.length : Int) then if ((rd_T41 l0 a1).f0) = 8 then some ([] : List Int) else if ((rd_T41 l0 a1).f0) = 7 then some ([wrap64 ((wrap64 (a1 + 1)) + ((rd_T41 l0 a1).f1))] : List Int) else ((spec_l06Ask.f ((rd_T41 l0 a1).f0)).bind fun t5 => if t5 = true then if (wrap64 ((wrap64 (a1 + 1)) + ((rd_T41 l0 a1).f2))) = (wrap64 ((wrap64 (a1 + 1)) + ((rd_T41 l0 a1).f3))) then some ([wrap64 ((wrap64 (a1 + 1)) + ((rd_T41 l0 a1).f2))] : List Int) else if (wrap64 ((wrap64 (a1 + 1)) + ((rd_T41 l0 a1).f2))) < (wrap64 ((wrap64 (a1 + 1)) + ((rd_T41 l0 a1).f3))) then some ([wrap64 ((wrap64 (a1 + 1)) + ((rd_T41 l0 a1).f2)), wrap64 ((wrap64 (a1 + 1)) + ((rd_T41 l0 a1).f3))] : List Int) else some ([wrap64 ((wrap64 (a1 + 1)) + ((rd_T41 l0 a1).f3)), wrap64 ((wrap64 (a1 + 1)) + ((rd_T41 l0 a1).f2))] : List Int) else some ([wrap64 (a1 + 1)] : List Int)) else none) else none
theorem spec_l23Next.ok {l0 : List S41} {a1 : Int} {r : (List Int)} (H : spec_l23Next.f l0 a1 = some r) : ACalls Tryz.prog 29 [] [.sl .o 4 (l0.map e41), .lit (.int .i64 a1)] [(0, .row 3 1 (r.map (eI .i64)))] (.row 0) := by
 refine acalls (fn := Tryz.f29) (nt := 58) Tryz.func29 rfl rfl (Nat.le_of_ble_eq_true rfl) fun E hE => ?_
 rw [spec_l23Next.f] at H
 refine aw_grp1 ?_
 refine wk_start ?_
 refine kv g0 (asg) ?_
 refine wk_end ?_
 refine ac_next ?_
 refine aw_grp1 ?_
 refine wk_start ?_
 refine kv g0 (mv) ?_
 refine kv g0 (mv) ?_
 obtain ⟨c1, H⟩ := of_if H
 obtain ⟨c2, H⟩ := of_if H
 refine kv g0 (ixS 41 (e41 (rd_T41 l0 a1)) c1 (getE (z := z41) c1 c2)) ?_
 refine kv g0 (ldRA 4 [.lit (.int .i64 ((rd_T41 l0 a1).f0)), .lit (.int .i64 ((rd_T41 l0 a1).f1)), .lit (.int .i64 ((rd_T41 l0 a1).f2)), .lit (.int .i64 ((rd_T41 l0 a1).f3))]) ?_
 refine kb g0 (alc 0 [.int .i64 0, .int .i64 0, .int .i64 0, .int .i64 0] [.lit (.int .i64 0), .lit (.int .i64 0), .lit (.int .i64 0), .lit (.int .i64 0)]) ?_
 refine ks g0 (stB 4 [.lit (.int .i64 ((rd_T41 l0 a1).f0)), .lit (.int .i64 ((rd_T41 l0 a1).f1)), .lit (.int .i64 ((rd_T41 l0 a1).f2)), .lit (.int .i64 ((rd_T41 l0 a1).f3))]) ?_
 refine wk_end ?_
 refine ac_next ?_
 refine aw_grp1 ?_
 refine aw_block ?_
 refine aw_grp1 ?_
 refine wk_start ?_
 refine kv g0 (faB 0 0) ?_
 refine kv g0 (ldB) ?_
 refine kv g0 (eql) ?_
 refine kv g0 (asg) ?_
 refine wk_end ?_
 refine ac_next ?_
 by_cases c3 : ((rd_T41 l0 a1).f0) = 8
 ·rw [if_pos c3] at H
  refine aw_ifT ?_ (eT c3)
  refine aw_grp1 ?_
  refine wk_start ?_
  refine kb g0 (bsl 1 3 1 [.int .i64 0] (([] : List Int).map (eI .i64))) ?_
  refine kv g0 (asg) ?_
  refine wk_end ?_
  refine ac_next ?_
  refine aw_ret ?_
  refine ac_blkR ?_
  refine ac_thenR ?_
  obtain rfl := Option.some.inj H
  exact acr hE [.tmp 4] (.tmp .nil) (.one _) [(0, 1)] 9999
 rw [if_neg c3] at H
 refine aw_ifF ?_ (eF c3)
 refine aw_grp1 ?_
 refine wk_start ?_
 refine kv g0 (faB 0 0) ?_
 refine kv g0 (ldB) ?_
 refine kv g0 (eql) ?_
 refine kv g0 (asg) ?_
 refine wk_end ?_
 refine ac_next ?_
 by_cases c4 : ((rd_T41 l0 a1).f0) = 7
 ·rw [if_pos c4] at H
  refine aw_ifT ?_ (eT c4)
  refine aw_grp1 ?_
  refine wk_start ?_
  refine kv g0 (mv) ?_
  refine kv g0 (add6) ?_
  refine kv g0 (faB 1 1) ?_
  refine kv g0 (ldB) ?_
  refine kv g0 (add6) ?_
  refine kb g0 (bsl 2 3 1 [.int .i64 0] (([wrap64 ((wrap64 (a1 + 1)) + ((rd_T41 l0 a1).f1))] : List Int).map (eI .i64))) ?_
  refine kv g0 (asg) ?_
  refine wk_end ?_
  refine ac_next ?_
  refine aw_ret ?_
  refine ac_blkR ?_
  refine ac_thenR ?_
  obtain rfl := Option.some.inj H
  exact acr hE [.tmp 4] (.tmp .nil) (.one _) [(0, 2)] 9999
 rw [if_neg c4] at H
 refine aw_ifF ?_ (eF c4)
 refine aw_grp1 ?_
 refine wk_start ?_
 refine kv g0 (faB 0 0) ?_
 refine kv g0 (ldB) ?_
 obtain ⟨t5, A6, H⟩ := of_bind H
 refine kcS0 30 (.lit (.bool t5)) [] g0 (cal (spec_l06Ask.ok A6) [] 9999 .n (hf := Tryz.func46)) rfl rfl ?_
 refine kv g0 (asg) ?_
 refine wk_end ?_
 refine ac_next ?_
 by_cases c7 : t5 = true
 ·rw [if_pos c7] at H
  refine aw_ifT ?_ c7
  refine aw_grp1 ?_
  refine wk_start ?_
  refine kv g0 (mv) ?_
  refine kv g0 (add6) ?_
  refine kv g0 (faB 2 2) ?_
  refine kv g0 (ldB) ?_
  refine kv g0 (add6) ?_
  refine kv g0 (asg) ?_
  refine wk_end ?_
  refine ac_next ?_
  refine aw_grp1 ?_
  refine wk_start ?_
  refine kv g0 (mv) ?_
  refine kv g0 (add6) ?_
  refine kv g0 (faB 3 3) ?_
  refine kv g0 (ldB) ?_
  refine kv g0 (add6) ?_
  refine kv g0 (asg) ?_
  refine wk_end ?_
  refine ac_next ?_
  refine aw_grp1 ?_
  refine aw_grp1 ?_
  refine wk_start ?_
  refine kv g0 (mv) ?_
  refine kv g0 (mv) ?_
  refine kv g0 (eql) ?_
  refine wk_end ?_
  refine ac_next ?_
  by_cases c8 : (wrap64 ((wrap64 (a1 + 1)) + ((rd_T41 l0 a1).f2))) = (wrap64 ((wrap64 (a1 + 1)) + ((rd_T41 l0 a1).f3)))
  ·rw [if_pos c8] at H
   refine aw_ifT ?_ (eT c8)
   refine aw_grp1 ?_
   refine wk_start ?_
   refine kv g0 (mv) ?_
   refine kb g0 (bsl 3 3 1 [.int .i64 0] (([wrap64 ((wrap64 (a1 + 1)) + ((rd_T41 l0 a1).f2))] : List Int).map (eI .i64))) ?_
   refine kv g0 (asg) ?_
   refine wk_end ?_
   refine ac_next ?_
   refine aw_ret ?_
   refine ac_thenR ?_
   refine ac_blkR ?_
   refine ac_thenR ?_
   obtain rfl := Option.some.inj H
   exact acr hE [.tmp 4] (.tmp .nil) (.one _) [(0, 3)] 9999
  rw [if_neg c8] at H
  refine aw_ifF ?_ (eF c8)
  refine aw_skip ?_
  refine ac_next ?_
  refine aw_grp1 ?_
  refine aw_grp1 ?_
  refine wk_start ?_
  refine kv g0 (mv) ?_
  refine kv g0 (mv) ?_
  refine kv g0 (lss) ?_
  refine wk_end ?_
  refine ac_next ?_
  by_cases c9 : (wrap64 ((wrap64 (a1 + 1)) + ((rd_T41 l0 a1).f2))) < (wrap64 ((wrap64 (a1 + 1)) + ((rd_T41 l0 a1).f3)))
  ·rw [if_pos c9] at H
   refine aw_ifT ?_ (decide_eq_true c9)
   refine aw_grp1 ?_
   refine wk_start ?_
   refine kv g0 (mv) ?_
   refine kv g0 (mv) ?_
   refine kb g0 (bsl 4 3 1 [.int .i64 0] (([wrap64 ((wrap64 (a1 + 1)) + ((rd_T41 l0 a1).f2)), wrap64 ((wrap64 (a1 + 1)) + ((rd_T41 l0 a1).f3))] : List Int).map (eI .i64))) ?_
   refine kv g0 (asg) ?_
   refine wk_end ?_
   refine ac_next ?_
   refine aw_ret ?_
   refine ac_thenR ?_
   refine ac_blkR ?_
   refine ac_thenR ?_
   obtain rfl := Option.some.inj H
   exact acr hE [.tmp 4] (.tmp .nil) (.one _) [(0, 4)] 9999
  rw [if_neg c9] at H
  refine aw_ifF ?_ (decide_eq_false c9)
  refine aw_skip ?_
  refine ac_next ?_
  refine aw_grp1 ?_
  refine wk_start ?_
  refine kv g0 (mv) ?_
  refine kv g0 (mv) ?_
  refine kb g0 (bsl 5 3 1 [.int .i64 0] (([wrap64 ((wrap64 (a1 + 1)) + ((rd_T41 l0 a1).f3)), wrap64 ((wrap64 (a1 + 1)) + ((rd_T41 l0 a1).f2))] : List Int).map (eI .i64))) ?_
  refine kv g0 (asg) ?_
  refine wk_end ?_
  refine ac_next ?_
  refine aw_ret ?_
  refine ac_blkR ?_
  refine ac_thenR ?_
  obtain rfl := Option.some.inj H
  exact acr hE [.tmp 4] (.tmp .nil) (.one _) [(0, 5)] 9999
 rw [if_neg c7] at H
 refine aw_ifF ?_ (bF c7)
 refine aw_skip ?_
 refine ac_blkN ?_
 refine ac_next ?_
 refine aw_grp1 ?_
 refine wk_start ?_
 refine kv g0 (mv) ?_
 refine kv g0 (add6) ?_
 refine kb g0 (bsl 6 3 1 [.int .i64 0] (([wrap64 (a1 + 1)] : List Int).map (eI .i64))) ?_
 refine kv g0 (asg) ?_
 refine wk_end ?_
 refine ac_next ?_
 refine aw_ret ?_
 obtain rfl := Option.some.inj H
 exact acr hE [.tmp 4] (.tmp .nil) (.one _) [(0, 6)] 9999
/-! spec_NextOf -/
def spec_NextOf.f (k : Nat) (l0 : List S41) (a1 : Int) : Option ((List Int)) := (spec_CheckProgram.f k l0).bind fun t1 => (if t1 = true then ((spec_l01In.f a1 0 (wrap64 ((l0.length : Int) - 1))).bind fun t4 => if t4 = true then (spec_l23Next.f l0 a1).bind fun t7 => some t7 else some ([] : List Int)) else some ([] : List Int))
theorem spec_NextOf.ok {k : Nat} {l0 : List S41} {a1 : Int} {r : (List Int)} (H : spec_NextOf.f k l0 a1 = some r) : ACalls Tryz.prog 9 [] [.sl .o 4 (l0.map e41), .lit (.int .i64 a1)] [(0, .row 3 1 (r.map (eI .i64)))] (.row 0) := by
 refine acalls (fn := Tryz.f9) (nt := 20) Tryz.func9 rfl rfl (Nat.le_of_ble_eq_true rfl) fun E hE => ?_
 rw [spec_NextOf.f] at H
 refine aw_grp1 ?_
 refine wk_start ?_
 refine kv g0 (asg) ?_
 refine wk_end ?_
 refine ac_next ?_
 refine aw_grp1 ?_
 refine aw_grp1 ?_
 refine wk_start ?_
 refine kv g0 (mv) ?_
 obtain ⟨t1, A2, H⟩ := of_bind H
 refine kcS0 6 (.lit (.bool t1)) [] g0 (cal (spec_CheckProgram.ok A2) [] 9999 .n (hf := Tryz.func27)) rfl rfl ?_
 refine kv g0 (not_) ?_
 refine kv g0 (mv) ?_
 by_cases c3 : t1 = true
 ·rw [if_pos c3] at H
  refine kv (g1 (nF c3)) (mv) ?_
  refine kv (g1 (nF c3)) (mv) ?_
  refine kv (g1 (nF c3)) (lnS lenE) ?_
  refine kv (g1 (nF c3)) (sub6) ?_
  obtain ⟨t4, A5, H⟩ := of_bind H
  refine kcS0 13 (.lit (.bool t4)) [] (g1 (nF c3)) (cal (spec_l01In.ok A5) [] 9999 .n (hf := Tryz.func28)) rfl rfl ?_
  refine kv (g1 (nF c3)) (not_) ?_
  refine kv g0 (pkF (nF c3)) ?_
  refine wk_end ?_
  refine ac_next ?_
  by_cases c6 : t4 = true
  ·rw [if_pos c6] at H
   refine aw_ifF ?_ (nF c6)
   refine aw_skip ?_
   refine ac_next ?_
   refine aw_grp1 ?_
   refine wk_start ?_
   refine kv g0 (mv) ?_
   refine kv g0 (mv) ?_
   obtain ⟨t7, A8, H⟩ := of_bind H
   refine kcS1 19 (.row 2) [(2, .row 3 1 (t7.map (eI .i64)))] g0 (cal (spec_l23Next.ok A8) [2] 9999 .n (hf := Tryz.func29)) rfl rfl ?_
   refine kv g0 (asg) ?_
   refine wk_end ?_
   refine ac_next ?_
   refine aw_ret ?_
   obtain rfl := Option.some.inj H
   exact acr hE [.tmp 4] (.tmp .nil) (.one _) [(0, 2)] 9999
  rw [if_neg c6] at H
  refine aw_ifT ?_ (nT (bF c6))
  refine aw_grp1 ?_
  refine wk_start ?_
  refine kb g0 (bsl 0 3 1 [.int .i64 0] (([] : List Int).map (eI .i64))) ?_
  refine kv g0 (asg) ?_
  refine wk_end ?_
  refine ac_next ?_
  refine aw_ret ?_
  refine ac_thenR ?_
  obtain rfl := Option.some.inj H
  exact acr hE [.tmp 4] (.tmp .nil) (.one _) [(0, 0)] 9999
 rw [if_neg c3] at H
 refine kx (hF (nT (bF c3))) ?_
 refine kx (hF (nT (bF c3))) ?_
 refine kx (hF (nT (bF c3))) ?_
 refine kx (hF (nT (bF c3))) ?_
 refine kx (hF (nT (bF c3))) ?_
 refine kx (hF (nT (bF c3))) ?_
 refine kv g0 (pkT (nT (bF c3))) ?_
 refine wk_end ?_
 refine ac_next ?_
 refine aw_ifT ?_ rfl
 refine aw_grp1 ?_
 refine wk_start ?_
 refine kb g0 (bsl 1 3 1 [.int .i64 0] (([] : List Int).map (eI .i64))) ?_
 refine kv g0 (asg) ?_
 refine wk_end ?_
 refine ac_next ?_
 refine aw_ret ?_
 refine ac_thenR ?_
 obtain rfl := Option.some.inj H
 exact acr hE [.tmp 4] (.tmp .nil) (.one _) [(0, 1)] 9999
/-! laws_sameInts -/
def laws_sameInts.l0 : Nat → (List Int) → (List Int) → Int → Option (Bool)
 | 0, _, _, _ => none
 | k7 + 1, l0, l1, p6 => if p6 < (l0.length : Int) then if 0 ≤ p6 then (if p6 < (l1.length : Int) then if (rd l0 p6) = (rd l1 p6) then laws_sameInts.l0 k7 l0 l1 (wrap64 (p6 + 1)) else some false else none) else none else some true
def laws_sameInts.f (k : Nat) (l0 : List Int) (l1 : List Int) : Option (Bool) := if (l0.length : Int) = (l1.length : Int) then laws_sameInts.l0 k l0 l1 0 else some false
theorem laws_sameInts.ok {k : Nat} {l0 : List Int} {l1 : List Int} {r : Bool} (H : laws_sameInts.f k l0 l1 = some r) : ACalls Tryz.prog 7 [] [.sl .o 1 (l0.map (eI .i64)), .sl .o 1 (l1.map (eI .i64))] [] (.lit (.bool r)) := by
 refine acalls (fn := Tryz.f7) (nt := 26) Tryz.func7 rfl rfl (Nat.le_of_ble_eq_true rfl) fun E hE => ?_
 rw [laws_sameInts.f] at H
 refine aw_grp1 ?_
 refine wk_start ?_
 refine kv g0 (asg) ?_
 refine wk_end ?_
 refine ac_next ?_
 refine aw_grp1 ?_
 refine aw_grp1 ?_
 refine wk_start ?_
 refine kv g0 (mv) ?_
 refine kv g0 (lnS lenE) ?_
 refine kv g0 (mv) ?_
 refine kv g0 (lnS lenE) ?_
 refine kv g0 (neq) ?_
 refine wk_end ?_
 refine ac_next ?_
 by_cases c1 : (l0.length : Int) = (l1.length : Int)
 ·rw [if_pos c1] at H
  refine aw_ifF ?_ (eM c1)
  refine aw_skip ?_
  refine ac_next ?_
  refine aw_grp1 ?_
  refine aw_grp1 ?_
  refine wk_start ?_
  refine kv g0 (asg) ?_
  refine wk_end ?_
  refine ac_next ?_
  refine aw_block ?_
  refine aw_loop1 (fun (k_ : Nat) (p6 : Int) => k_ ≤ k ∧ laws_sameInts.l0 k_ l0 l1 p6 = some r) (fun (p6 : Int) => ⟨[(0, .sl .o 1 (l0.map (eI .i64))), (1, .sl .o 1 (l1.map (eI .i64))), (5, .lit (.int .i64 p6))], []⟩) k 0 ⟨Nat.le_refl _, H⟩ (fun K_ h_ => acw hE [] 9999 h_) (fun _ => by intro h_; have h_ := h_.2; rw [laws_sameInts.l0.eq_1] at h_; cases h_) ?_
  intro k7 p6 hq_ K12 hK13
  have hk7 := hq_.1
  have H := hq_.2
  clear hq_
  rw [laws_sameInts.l0.eq_2] at H
  refine aw_grp1 ?_
  refine aw_grp1 ?_
  refine wk_start ?_
  refine kv g0 (mv) ?_
  refine kv g0 (mv) ?_
  refine kv g0 (lnS lenE) ?_
  refine kv g0 (lss) ?_
  refine wk_end ?_
  refine ac_next ?_
  by_cases c8 : p6 < (l0.length : Int)
  ·rw [if_pos c8] at H
   refine aw_ifT ?_ (decide_eq_true c8)
   refine aw_skip ?_
   refine ac_next ?_
   refine aw_grp1 ?_
   refine aw_block ?_
   refine aw_grp1 ?_
   refine wk_start ?_
   refine kv g0 (mv) ?_
   refine kv g0 (mv) ?_
   obtain ⟨c9, H⟩ := of_if H
   refine kv g0 (ixS 3 (eI .i64 (rd l0 p6)) c9 (getE (z := (0 : Int)) c9 c8)) ?_
   refine kv g0 (ldR (.lit (.int .i64 (rd l0 p6)))) ?_
   refine kv g0 (mv) ?_
   refine kv g0 (mv) ?_
   obtain ⟨c10, H⟩ := of_if H
   refine kv g0 (ixS 3 (eI .i64 (rd l1 p6)) c9 (getE (z := (0 : Int)) c9 c10)) ?_
   refine kv g0 (ldR (.lit (.int .i64 (rd l1 p6)))) ?_
   refine kv g0 (neq) ?_
   refine wk_end_draw hM (by kernel_rfl) ?_
   refine ac_next ?_
   by_cases c11 : (rd l0 p6) = (rd l1 p6)
   ·rw [if_pos c11] at H
    refine aw_ifF ?_ (eM c11)
    refine aw_skip ?_
    refine ac_blkN ?_
    refine ac_next ?_
    refine wk_start ?_
    refine kv g0 (mv) ?_
    refine kv g0 (add6) ?_
    refine kv g0 (asg) ?_
    refine wk_end ?_
    refine ac_k ?_
    exact acw hE [] 9999 (hK13 k7 (wrap64 (p6 + 1)) (Nat.le_refl _) ⟨by omega, H⟩)
   rw [if_neg c11] at H
   refine aw_ifT ?_ (eN c11)
   refine aw_grp1 ?_
   refine wk_start ?_
   refine kv g0 (asg) ?_
   refine wk_end ?_
   refine ac_next ?_
   refine aw_ret ?_
   refine ac_blkR ?_
   refine ac_thenR ?_
   refine ac_thenR ?_
   refine ac_blkR ?_
   refine ac_thenR ?_
   obtain rfl := Option.some.inj H
   exact acr hE [.tmp 4] (.tmp .nil) (.one _) [] 9999
  rw [if_neg c8] at H
  refine aw_ifF ?_ (decide_eq_false c8)
  refine aw_exit ?_
  refine ac_then ?_
  refine ac_then ?_
  refine ac_hit rfl ?_
  refine ac_next ?_
  refine aw_grp1 ?_
  refine wk_start ?_
  refine kv g0 (asg) ?_
  refine wk_end ?_
  refine ac_next ?_
  refine aw_ret ?_
  obtain rfl := Option.some.inj H
  exact acr hE [.tmp 4] (.tmp .nil) (.one _) [] 9999
 rw [if_neg c1] at H
 refine aw_ifT ?_ (eN c1)
 refine aw_grp1 ?_
 refine wk_start ?_
 refine kv g0 (asg) ?_
 refine wk_end ?_
 refine ac_next ?_
 refine aw_ret ?_
 refine ac_thenR ?_
 obtain rfl := Option.some.inj H
 exact acr hE [.tmp 4] (.tmp .nil) (.one _) [] 9999
/-! impl_LongestRun_1 -/
def impl_LongestRun_1.l0 : Nat → (List Int) → Int → Int → Option (Int)
 | 0, _, _, _ => none
 | k5 + 1, l0, p3, p4 => if p4 < (l0.length : Int) then if 0 ≤ p4 then impl_LongestRun_1.l0 k5 l0 (max p3 (rd l0 p4)) (wrap64 (p4 + 1)) else none else some (wrap64 (p3 + 1))
def impl_LongestRun_1.f (k : Nat) (l0 : List Int) : Option (Int) := impl_LongestRun_1.l0 k l0 0 0
theorem impl_LongestRun_1.ok {k : Nat} {l0 : List Int} {r : Int} (H : impl_LongestRun_1.f k l0 = some r) : ACalls Tryz.prog 31 [] [.sl .o 1 (l0.map (eI .i64))] [] (.lit (.int .i64 r)) := by
 refine acalls (fn := Tryz.f31) (nt := 18) Tryz.func31 rfl rfl (Nat.le_of_ble_eq_true rfl) fun E hE => ?_
 rw [impl_LongestRun_1.f] at H
 refine aw_grp1 ?_
 refine wk_start ?_
 refine kv g0 (asg) ?_
 refine wk_end ?_
 refine ac_next ?_
 refine aw_grp1 ?_
 refine wk_start ?_
 refine kv g0 (asg) ?_
 refine wk_end ?_
 refine ac_next ?_
 refine aw_grp1 ?_
 refine aw_grp1 ?_
 refine wk_start ?_
 refine kv g0 (mv) ?_
 refine kv g0 (lnS lenE) ?_
 refine kv g0 (mv) ?_
 refine wk_end ?_
 refine ac_next ?_
 refine aw_block ?_
 refine aw_loop2 (fun (k_ : Nat) (p3 : Int) (p4 : Int) => k_ ≤ k ∧ impl_LongestRun_1.l0 k_ l0 p3 p4 = some r) (fun (p3 : Int) (p4 : Int) => ⟨[(3, .lit (.int .i64 p3)), (6, .sl .o 1 (l0.map (eI .i64))), (7, .lit (.int .i64 (l0.length : Int))), (8, .lit (.int .i64 p4))], []⟩) k 0 0 ⟨Nat.le_refl _, H⟩ (fun K_ h_ => acw hE [] 9999 h_) (fun _ _ => by intro h_; have h_ := h_.2; rw [impl_LongestRun_1.l0.eq_1] at h_; cases h_) ?_
 intro k5 p3 p4 hq_ K8 hK9
 have hk5 := hq_.1
 have H := hq_.2
 clear hq_
 rw [impl_LongestRun_1.l0.eq_2] at H
 refine aw_grp1 ?_
 refine wk_start ?_
 refine kv g0 (lss) ?_
 refine wk_end ?_
 refine ac_next ?_
 refine aw_grp1 ?_
 by_cases c6 : p4 < (l0.length : Int)
 ·rw [if_pos c6] at H
  refine aw_ifT ?_ (decide_eq_true c6)
  refine aw_skip ?_
  refine ac_next ?_
  refine aw_grp1 ?_
  refine aw_block ?_
  refine aw_grp1 ?_
  refine wk_start ?_
  obtain ⟨c7, H⟩ := of_if H
  refine kv g0 (ixS 3 (eI .i64 (rd l0 p4)) c7 (getE (z := (0 : Int)) c7 c6)) ?_
  refine kv g0 (ldR (.lit (.int .i64 (rd l0 p4)))) ?_
  refine kv g0 (asg) ?_
  refine wk_end ?_
  refine ac_next ?_
  refine wk_start ?_
  refine kv g0 (mv) ?_
  refine kv g0 (mv) ?_
  refine kv g0 (max_) ?_
  refine kv g0 (asg) ?_
  refine wk_end ?_
  refine ac_blkN ?_
  refine ac_next ?_
  refine wk_start ?_
  refine kv g0 (add6) ?_
  refine kv g0 (mv) ?_
  refine wk_end ?_
  refine ac_k ?_
  exact acw hE [] 9999 (hK9 k5 (max p3 (rd l0 p4)) (wrap64 (p4 + 1)) (Nat.le_refl _) ⟨by omega, H⟩)
 rw [if_neg c6] at H
 refine aw_ifF ?_ (decide_eq_false c6)
 refine aw_exit ?_
 refine ac_then ?_
 refine ac_then ?_
 refine ac_hit rfl ?_
 refine ac_next ?_
 refine aw_grp1 ?_
 refine wk_start ?_
 refine kv g0 (mv) ?_
 refine kv g0 (add6) ?_
 refine kv g0 (asg) ?_
 refine wk_end ?_
 refine ac_next ?_
 refine aw_ret ?_
 obtain rfl := Option.some.inj H
 exact acr hE [.tmp 2] (.tmp .nil) (.one _) [] 9999
/-! impl_runs, handed impl_LongestRun_1 -/
mutual
def impl_runs_w31.l0 : Nat → (List S41) → (List Int) → Int → ((List Int)) → (List Int) → Int → Option (Int)
 | 0, _, _, _, _, _, _ => none
 | k45 + 1, l0, q30, p31, t36, q43, p44 => if p44 < (t36.length : Int) then if 0 ≤ p44 then if 0 ≤ (rd t36 p44) then (if (rd t36 p44) < (q30.length : Int) then (if q43.length + ([(rd q30 (rd t36 p44))] : List Int).length < 17592186044416 then impl_runs_w31.l0 k45 l0 q30 p31 t36 (q43 ++ ([(rd q30 (rd t36 p44))] : List Int)) (wrap64 (p44 + 1)) else none) else none) else none else none else (impl_LongestRun_1.f k45 q43).bind fun t53 => (if p31 < (q30.length : Int) then impl_runs_w31.l1 k45 l0 (q30.set p31.toNat t53) (wrap64 (p31 - 1)) else none)
def impl_runs_w31.l1 : Nat → (List S41) → (List Int) → Int → Option (Int)
 | 0, _, _, _ => none
 | k32 + 1, l0, q30, p31 => if p31 ≥ 0 then if 0 ≤ p31 then (if p31 < (l0.length : Int) then ((impl_ways.f k32 ((rd_T41 l0 p31).f0) ((rd_T41 l0 p31).f1) ((rd_T41 l0 p31).f2) ((rd_T41 l0 p31).f3) p31).bind fun t36 => impl_runs_w31.l0 k32 l0 q30 p31 t36 ([] : List Int) 0) else none) else none else if 0 < (q30.length : Int) then some (rd q30 0) else none
end
def impl_runs_w31.f (k : Nat) (l0 : List S41) : Option (Int) := (impl_CheckProgram.f k l0).bind fun t1 => if t1 = true then if 0 ≤ (l0.length : Int) then (if (l0.length : Int).toNat ≤ 35184372088832 then impl_runs_w31.l1 k l0 (List.replicate (l0.length : Int).toNat (0 : Int)) (wrap64 ((l0.length : Int) - 1)) else none) else none else some 0
theorem impl_runs_w31.ok {k : Nat} {l0 : List S41} {r : Int} (H : impl_runs_w31.f k l0 = some r) : ACalls Tryz.prog 30 [] [.sl .o 4 (l0.map e41), .fn 31 []] [] (.lit (.int .i64 r)) := by
 refine acalls (fn := Tryz.f30) (nt := 52) Tryz.func30 rfl rfl (Nat.le_of_ble_eq_true rfl) fun E hE => ?_
 rw [impl_runs_w31.f] at H
 refine aw_grp1 ?_
 refine wk_start ?_
 refine kv g0 (asg) ?_
 refine wk_end ?_
 refine ac_next ?_
 refine aw_grp1 ?_
 refine aw_grp1 ?_
 refine wk_start ?_
 refine kv g0 (mv) ?_
 obtain ⟨t1, A2, H⟩ := of_bind H
 refine kcS0 11 (.lit (.bool t1)) [] g0 (cal (impl_CheckProgram.ok A2) [] 9999 .n (hf := Tryz.func24)) rfl rfl ?_
 refine kv g0 (not_) ?_
 refine wk_end ?_
 refine ac_next ?_
 by_cases c3 : t1 = true
 ·rw [if_pos c3] at H
  refine aw_ifF ?_ (nF c3)
  refine aw_skip ?_
  refine ac_next ?_
  refine aw_grp1 ?_
  refine wk_start ?_
  refine kv g0 (mv) ?_
  refine kv g0 (lnS lenE) ?_
  obtain ⟨c4, H⟩ := of_if H
  obtain ⟨c5, H⟩ := of_if H
  refine kb g0 (mks 0 3 1 8 [.int .i64 0] (eI .i64 (0 : Int)) ((List.replicate (l0.length : Int).toNat (0 : Int)).map (eI .i64)) c4 (mkb c5 rfl) repE) ?_
  refine kv g0 (asg) ?_
  refine wk_end ?_
  refine ac_next ?_
  refine aw_grp1 ?_
  refine aw_grp1 ?_
  refine wk_start ?_
  refine kv g0 (mv) ?_
  refine kv g0 (lnS lenE) ?_
  refine kv g0 (sub6) ?_
  refine kv g0 (asg) ?_
  refine wk_end ?_
  refine ac_next ?_
  refine aw_block ?_
  refine aw_loop2 (fun (k_ : Nat) (q30 : List Int) (p31 : Int) => k_ ≤ k ∧ impl_runs_w31.l1 k_ l0 q30 p31 = some r) (fun (q30 : List Int) (p31 : Int) => ⟨[(0, .sl .o 4 (l0.map e41)), (1, .fn 31 []), (5, .row 0), (6, .lit (.int .i64 p31))], [(0, .row 3 1 (q30.map (eI .i64)))]⟩) k (List.replicate (l0.length : Int).toNat (0 : Int)) (wrap64 ((l0.length : Int) - 1)) ⟨Nat.le_refl _, H⟩ (fun K_ h_ => acw hE [(0, 0)] 9999 h_) (fun _ _ => by intro h_; have h_ := h_.2; rw [impl_runs_w31.l1.eq_1] at h_; cases h_) ?_
  intro k32 q30 p31 hq_ K56 hK57
  have hk32 := hq_.1
  have H := hq_.2
  clear hq_
  rw [impl_runs_w31.l1.eq_2] at H
  refine aw_grp1 ?_
  refine aw_grp1 ?_
  refine wk_start ?_
  refine kv g0 (mv) ?_
  refine kv g0 (geq) ?_
  refine wk_end ?_
  refine ac_next ?_
  by_cases c33 : p31 ≥ 0
  ·rw [if_pos c33] at H
   refine aw_ifT ?_ (decide_eq_true c33)
   refine aw_skip ?_
   refine ac_next ?_
   refine aw_grp1 ?_
   refine aw_block ?_
   refine aw_grp1 ?_
   refine wk_start ?_
   refine kb g0 (bsl 1 3 1 [.int .i64 0] (([] : List Int).map (eI .i64))) ?_
   refine kv g0 (asg) ?_
   refine wk_end ?_
   refine ac_next ?_
   refine aw_grp1 ?_
   refine aw_grp1 ?_
   refine wk_start ?_
   refine kv g0 (mv) ?_
   refine kv g0 (mv) ?_
   obtain ⟨c34, H⟩ := of_if H
   obtain ⟨c35, H⟩ := of_if H
   refine kv g0 (ixS 41 (e41 (rd_T41 l0 p31)) c34 (getE (z := z41) c34 c35)) ?_
   refine kv g0 (ldRA 4 [.lit (.int .i64 ((rd_T41 l0 p31).f0)), .lit (.int .i64 ((rd_T41 l0 p31).f1)), .lit (.int .i64 ((rd_T41 l0 p31).f2)), .lit (.int .i64 ((rd_T41 l0 p31).f3))]) ?_
   refine kv g0 (mv) ?_
   obtain ⟨t36, A37, H⟩ := of_bind H
   refine kcS1 29 (.row 2) [(2, .row 3 1 (t36.map (eI .i64)))] g0 (cal (impl_ways.ok A37) [2] 9999 .n (hf := Tryz.func26)) rfl rfl ?_
   refine kv g0 (lnR lenE) ?_
   refine kv g0 (mv) ?_
   refine wk_end ?_
   refine ac_next ?_
   refine aw_block ?_
   refine aw_loop2 (fun (k_ : Nat) (q43 : List Int) (p44 : Int) => k_ ≤ k32 ∧ impl_runs_w31.l0 k_ l0 q30 p31 t36 q43 p44 = some r) (fun (q43 : List Int) (p44 : Int) => ⟨[(0, .sl .o 4 (l0.map e41)), (1, .fn 31 []), (5, .row 0), (6, .lit (.int .i64 p31)), (7, .row 1), (29, .row 2), (30, .lit (.int .i64 (t36.length : Int))), (31, .lit (.int .i64 p44))], [(0, .row 3 1 (q30.map (eI .i64))), (1, .row 3 1 (q43.map (eI .i64))), (2, .row 3 1 (t36.map (eI .i64)))]⟩) k32 ([] : List Int) 0 ⟨Nat.le_refl _, H⟩ (fun K_ h_ => acw hE [(0, 0), (1, 1), (2, 2)] 9999 h_) (fun _ _ => by intro h_; have h_ := h_.2; rw [impl_runs_w31.l0.eq_1] at h_; cases h_) ?_
   intro k45 q43 p44 hq_ K51 hK52
   have hk45 := hq_.1
   have H := hq_.2
   clear hq_
   rw [impl_runs_w31.l0.eq_2] at H
   refine aw_grp1 ?_
   refine wk_start ?_
   refine kv g0 (lss) ?_
   refine wk_end ?_
   refine ac_next ?_
   refine aw_grp1 ?_
   by_cases c46 : p44 < (t36.length : Int)
   ·rw [if_pos c46] at H
    refine aw_ifT ?_ (decide_eq_true c46)
    refine aw_skip ?_
    refine ac_next ?_
    refine aw_grp1 ?_
    refine aw_block ?_
    refine aw_grp1 ?_
    refine wk_start ?_
    obtain ⟨c47, H⟩ := of_if H
    refine kv g0 (ixR 3 c47 (ltE c46)) ?_
    refine kv g0 (ldE (eI .i64 (rd t36 p44)) (.lit (.int .i64 (rd t36 p44))) (getE (z := (0 : Int)) c47 c46)) ?_
    refine kv g0 (asg) ?_
    refine wk_end ?_
    refine ac_next ?_
    refine wk_start ?_
    refine kv g0 (mv) ?_
    refine kv g0 (mv) ?_
    refine kv g0 (mv) ?_
    obtain ⟨c48, H⟩ := of_if H
    obtain ⟨c49, H⟩ := of_if H
    refine kv g0 (ixR 3 c48 (ltE c49)) ?_
    refine kv g0 (ldE (eI .i64 (rd q30 (rd t36 p44))) (.lit (.int .i64 (rd q30 (rd t36 p44)))) (getE (z := (0 : Int)) c48 c49)) ?_
    refine kb g0 (bsl 3 3 1 [.int .i64 0] (([(rd q30 (rd t36 p44))] : List Int).map (eI .i64))) ?_
    obtain ⟨c50, H⟩ := of_if H
    refine kc g0 (apR 4 3 1 8 [.int .i64 0] ((q43 ++ ([(rd q30 (rd t36 p44))] : List Int)).map (eI .i64)) (.row rfl) (apb c50 rfl) appE) ?_
    refine kv g0 (asg) ?_
    refine wk_end ?_
    refine ac_blkN ?_
    refine ac_next ?_
    refine wk_start ?_
    refine kv g0 (add6) ?_
    refine kv g0 (mv) ?_
    refine wk_end ?_
    refine ac_k ?_
    exact acw hE [(0, 0), (1, 4), (2, 2)] 9999 (hK52 k45 (q43 ++ ([(rd q30 (rd t36 p44))] : List Int)) (wrap64 (p44 + 1)) (Nat.le_refl _) ⟨by omega, H⟩)
   rw [if_neg c46] at H
   refine aw_ifF ?_ (decide_eq_false c46)
   refine aw_exit ?_
   refine ac_then ?_
   refine ac_then ?_
   refine ac_hit rfl ?_
   refine ac_next ?_
   refine wk_start ?_
   refine kv g0 (mv) ?_
   refine kv g0 (mv) ?_
   refine kv g0 (mv) ?_
   refine kv g0 (mv) ?_
   obtain ⟨t53, A54, H⟩ := of_bind H
   refine kcS0 47 (.lit (.int .i64 t53)) [] g0 (cal (impl_LongestRun_1.ok A54) [] 9999 .n (hf := Tryz.func31)) rfl rfl ?_
   obtain ⟨c55, H⟩ := of_if H
   refine kv g0 (ixR 3 c34 (ltE c55)) ?_
   refine ks g0 (stE 1 (eI .i64 t53) ((q30.set p31.toNat t53).map (eI .i64)) (getE (z := (0 : Int)) c34 c55) setE) ?_
   refine wk_end ?_
   refine ac_blkN ?_
   refine ac_next ?_
   refine wk_start ?_
   refine kv g0 (mv) ?_
   refine kv g0 (sub6) ?_
   refine kv g0 (asg) ?_
   refine wk_end ?_
   refine ac_k ?_
   exact acw hE [(0, 0)] 9999 (hK57 k45 (q30.set p31.toNat t53) (wrap64 (p31 - 1)) (by omega) ⟨by omega, H⟩)
  rw [if_neg c33] at H
  refine aw_ifF ?_ (decide_eq_false c33)
  refine aw_exit ?_
  refine ac_then ?_
  refine ac_then ?_
  refine ac_hit rfl ?_
  refine ac_next ?_
  refine aw_grp1 ?_
  refine wk_start ?_
  refine kv g0 (mv) ?_
  obtain ⟨c58, H⟩ := of_if H
  refine kv g0 (ixR 3 (by decide : (0 : Int) ≤ 0) (ltE c58)) ?_
  refine kv g0 (ldE (eI .i64 (rd q30 0)) (.lit (.int .i64 (rd q30 0))) (getE (z := (0 : Int)) (by decide : (0 : Int) ≤ 0) c58)) ?_
  refine kv g0 (asg) ?_
  refine wk_end ?_
  refine ac_next ?_
  refine aw_ret ?_
  obtain rfl := Option.some.inj H
  exact acr hE [.tmp 4] (.tmp .nil) (.one _) [] 9999
 rw [if_neg c3] at H
 refine aw_ifT ?_ (nT (bF c3))
 refine aw_grp1 ?_
 refine wk_start ?_
 refine kv g0 (asg) ?_
 refine wk_end ?_
 refine ac_next ?_
 refine aw_ret ?_
 refine ac_thenR ?_
 obtain rfl := Option.some.inj H
 exact acr hE [.tmp 4] (.tmp .nil) (.one _) [] 9999
/-! impl_LongestRun -/
def impl_LongestRun.f (k : Nat) (l0 : List S41) : Option (Int) := (impl_runs_w31.f k l0).bind fun t1 => some t1
theorem impl_LongestRun.ok {k : Nat} {l0 : List S41} {r : Int} (H : impl_LongestRun.f k l0 = some r) : ACalls Tryz.prog 10 [] [.sl .o 4 (l0.map e41)] [] (.lit (.int .i64 r)) := by
 refine acalls (fn := Tryz.f10) (nt := 5) Tryz.func10 rfl rfl (Nat.le_of_ble_eq_true rfl) fun E hE => ?_
 rw [impl_LongestRun.f] at H
 refine aw_grp1 ?_
 refine wk_start ?_
 refine kv g0 (asg) ?_
 refine wk_end ?_
 refine ac_next ?_
 refine aw_grp1 ?_
 refine wk_start ?_
 refine kv g0 (mv) ?_
 obtain ⟨t1, A2, H⟩ := of_bind H
 refine kcS0 4 (.lit (.int .i64 t1)) [] g0 (cal (impl_runs_w31.ok A2) [] 9999 .n (hf := Tryz.func30)) rfl rfl ?_
 refine kv g0 (asg) ?_
 refine wk_end ?_
 refine ac_next ?_
 refine aw_ret ?_
 obtain rfl := Option.some.inj H
 exact acr hE [.tmp 2] (.tmp .nil) (.one _) [] 9999
/-! spec_LongestRun -/
mutual
def spec_LongestRun.l0 : Nat → (List S41) → Int → ((List Int)) → (List Int) → Int → Option (Int)
 | 0, _, _, _, _, _ => none
 | k45 + 1, l0, p30, t33, q43, p44 => if p44 < (t33.length : Int) then if 0 ≤ p44 then (if 0 ≤ (rd t33 p44) then (if (rd t33 p44) < (q43.length : Int) then (if p30 < (q43.length : Int) then if (wrap64 ((rd q43 (rd t33 p44)) + 1)) > (rd q43 p30) then spec_LongestRun.l0 k45 l0 p30 t33 (q43.set p30.toNat (wrap64 ((rd q43 (rd t33 p44)) + 1))) (wrap64 (p44 + 1)) else spec_LongestRun.l0 k45 l0 p30 t33 q43 (wrap64 (p44 + 1)) else none) else none) else none) else none else spec_LongestRun.l1 k45 l0 q43 (wrap64 (p30 - 1))
def spec_LongestRun.l1 : Nat → (List S41) → (List Int) → Int → Option (Int)
 | 0, _, _, _ => none
 | k31 + 1, l0, q29, p30 => if p30 ≥ 0 then (spec_l23Next.f l0 p30).bind fun t33 => if 0 ≤ p30 then (if p30 < (q29.length : Int) then spec_LongestRun.l0 k31 l0 p30 t33 (q29.set p30.toNat 1) 0 else none) else none else if 0 < (q29.length : Int) then some (rd q29 0) else none
end
def spec_LongestRun.f (k : Nat) (l0 : List S41) : Option (Int) := (spec_CheckProgram.f k l0).bind fun t1 => if t1 = true then if 0 ≤ (l0.length : Int) then (if (l0.length : Int).toNat ≤ 35184372088832 then spec_LongestRun.l1 k l0 (List.replicate (l0.length : Int).toNat (0 : Int)) (wrap64 ((l0.length : Int) - 1)) else none) else none else some 0
theorem spec_LongestRun.ok {k : Nat} {l0 : List S41} {r : Int} (H : spec_LongestRun.f k l0 = some r) : ACalls Tryz.prog 11 [] [.sl .o 4 (l0.map e41)] [] (.lit (.int .i64 r)) := by
 refine acalls (fn := Tryz.f11) (nt := 59) Tryz.func11 rfl rfl (Nat.le_of_ble_eq_true rfl) fun E hE => ?_
 rw [spec_LongestRun.f] at H
 refine aw_grp1 ?_
 refine wk_start ?_
 refine kv g0 (asg) ?_
 refine wk_end ?_
 refine ac_next ?_
 refine aw_grp1 ?_
 refine aw_grp1 ?_
 refine wk_start ?_
 refine kv g0 (mv) ?_
 obtain ⟨t1, A2, H⟩ := of_bind H
 refine kcS0 8 (.lit (.bool t1)) [] g0 (cal (spec_CheckProgram.ok A2) [] 9999 .n (hf := Tryz.func27)) rfl rfl ?_
 refine kv g0 (not_) ?_
 refine wk_end ?_
 refine ac_next ?_
 by_cases c3 : t1 = true
 ·rw [if_pos c3] at H
  refine aw_ifF ?_ (nF c3)
  refine aw_skip ?_
  refine ac_next ?_
  refine aw_grp1 ?_
  refine wk_start ?_
  refine kv g0 (mv) ?_
  refine kv g0 (lnS lenE) ?_
  obtain ⟨c4, H⟩ := of_if H
  obtain ⟨c5, H⟩ := of_if H
  refine kb g0 (mks 0 3 1 8 [.int .i64 0] (eI .i64 (0 : Int)) ((List.replicate (l0.length : Int).toNat (0 : Int)).map (eI .i64)) c4 (mkb c5 rfl) repE) ?_
  refine kv g0 (asg) ?_
  refine wk_end ?_
  refine ac_next ?_
  refine aw_grp1 ?_
  refine aw_grp1 ?_
  refine wk_start ?_
  refine kv g0 (mv) ?_
  refine kv g0 (lnS lenE) ?_
  refine kv g0 (sub6) ?_
  refine kv g0 (asg) ?_
  refine wk_end ?_
  refine ac_next ?_
  refine aw_block ?_
  refine aw_loop2 (fun (k_ : Nat) (q29 : List Int) (p30 : Int) => k_ ≤ k ∧ spec_LongestRun.l1 k_ l0 q29 p30 = some r) (fun (q29 : List Int) (p30 : Int) => ⟨[(0, .sl .o 4 (l0.map e41)), (3, .row 0), (4, .lit (.int .i64 p30))], [(0, .row 3 1 (q29.map (eI .i64)))]⟩) k (List.replicate (l0.length : Int).toNat (0 : Int)) (wrap64 ((l0.length : Int) - 1)) ⟨Nat.le_refl _, H⟩ (fun K_ h_ => acw hE [(0, 0)] 9999 h_) (fun _ _ => by intro h_; have h_ := h_.2; rw [spec_LongestRun.l1.eq_1] at h_; cases h_) ?_
  intro k31 q29 p30 hq_ K54 hK55
  have hk31 := hq_.1
  have H := hq_.2
  clear hq_
  rw [spec_LongestRun.l1.eq_2] at H
  refine aw_grp1 ?_
  refine aw_grp1 ?_
  refine wk_start ?_
  refine kv g0 (mv) ?_
  refine kv g0 (geq) ?_
  refine wk_end ?_
  refine ac_next ?_
  by_cases c32 : p30 ≥ 0
  ·rw [if_pos c32] at H
   refine aw_ifT ?_ (decide_eq_true c32)
   refine aw_skip ?_
   refine ac_next ?_
   refine aw_grp1 ?_
   refine aw_block ?_
   refine aw_grp1 ?_
   refine wk_start ?_
   refine kv g0 (mv) ?_
   refine kv g0 (mv) ?_
   obtain ⟨t33, A34, H⟩ := of_bind H
   refine kcS1 22 (.row 1) [(1, .row 3 1 (t33.map (eI .i64)))] g0 (cal (spec_l23Next.ok A34) [1] 9999 .n (hf := Tryz.func29)) rfl rfl ?_
   refine kv g0 (asg) ?_
   refine wk_end ?_
   refine ac_next ?_
   refine aw_grp1 ?_
   refine wk_start ?_
   refine kv g0 (mv) ?_
   refine kv g0 (mv) ?_
   obtain ⟨c35, H⟩ := of_if H
   obtain ⟨c36, H⟩ := of_if H
   refine kv g0 (ixR 3 c35 (ltE c36)) ?_
   refine ks g0 (stE 1 (eI .i64 1) ((q29.set p30.toNat 1).map (eI .i64)) (getE (z := (0 : Int)) c35 c36) setE) ?_
   refine wk_end ?_
   refine ac_next ?_
   refine aw_grp1 ?_
   refine wk_start ?_
   refine kv g0 (asg) ?_
   refine wk_end ?_
   refine ac_next ?_
   refine aw_block ?_
   refine aw_loop2 (fun (k_ : Nat) (q43 : List Int) (p44 : Int) => k_ ≤ k31 ∧ spec_LongestRun.l0 k_ l0 p30 t33 q43 p44 = some r) (fun (q43 : List Int) (p44 : Int) => ⟨[(0, .sl .o 4 (l0.map e41)), (3, .row 0), (4, .lit (.int .i64 p30)), (5, .row 1), (6, .lit (.int .i64 p44))], [(0, .row 3 1 (q43.map (eI .i64))), (1, .row 3 1 (t33.map (eI .i64)))]⟩) k31 (q29.set p30.toNat 1) 0 ⟨Nat.le_refl _, H⟩ (fun K_ h_ => acw hE [(0, 0), (1, 1)] 9999 h_) (fun _ _ => by intro h_; have h_ := h_.2; rw [spec_LongestRun.l0.eq_1] at h_; cases h_) ?_
   intro k45 q43 p44 hq_ K52 hK53
   have hk45 := hq_.1
   have H := hq_.2
   clear hq_
   rw [spec_LongestRun.l0.eq_2] at H
   refine aw_grp1 ?_
   refine aw_grp1 ?_
   refine wk_start ?_
   refine kv g0 (mv) ?_
   refine kv g0 (mv) ?_
   refine kv g0 (lnR lenE) ?_
   refine kv g0 (lss) ?_
   refine wk_end ?_
   refine ac_next ?_
   by_cases c46 : p44 < (t33.length : Int)
   ·rw [if_pos c46] at H
    refine aw_ifT ?_ (decide_eq_true c46)
    refine aw_skip ?_
    refine ac_next ?_
    refine aw_grp1 ?_
    refine aw_block ?_
    refine aw_grp1 ?_
    refine wk_start ?_
    refine kv g0 (mv) ?_
    refine kv g0 (mv) ?_
    refine kv g0 (mv) ?_
    obtain ⟨c47, H⟩ := of_if H
    refine kv g0 (ixR 3 c47 (ltE c46)) ?_
    refine kv g0 (ldE (eI .i64 (rd t33 p44)) (.lit (.int .i64 (rd t33 p44))) (getE (z := (0 : Int)) c47 c46)) ?_
    obtain ⟨c48, H⟩ := of_if H
    obtain ⟨c49, H⟩ := of_if H
    refine kv g0 (ixR 3 c48 (ltE c49)) ?_
    refine kv g0 (ldE (eI .i64 (rd q43 (rd t33 p44))) (.lit (.int .i64 (rd q43 (rd t33 p44)))) (getE (z := (0 : Int)) c48 c49)) ?_
    refine kv g0 (add6) ?_
    refine kv g0 (mv) ?_
    refine kv g0 (mv) ?_
    obtain ⟨c50, H⟩ := of_if H
    refine kv g0 (ixR 3 c35 (ltE c50)) ?_
    refine kv g0 (ldE (eI .i64 (rd q43 p30)) (.lit (.int .i64 (rd q43 p30))) (getE (z := (0 : Int)) c35 c50)) ?_
    refine kv g0 (gtr) ?_
    refine wk_end_draw hM (by kernel_rfl) ?_
    refine ac_next ?_
    by_cases c51 : (wrap64 ((rd q43 (rd t33 p44)) + 1)) > (rd q43 p30)
    ·rw [if_pos c51] at H
     refine aw_ifT ?_ (decide_eq_true c51)
     refine wk_start ?_
     refine kv g0 (mv) ?_
     refine kv g0 (mv) ?_
     refine kv g0 (mv) ?_
     refine kv g0 (mv) ?_
     refine kv g0 (mv) ?_
     refine kv g0 (ixR 3 c47 (ltE c46)) ?_
     refine kv g0 (ldE (eI .i64 (rd t33 p44)) (.lit (.int .i64 (rd t33 p44))) (getE (z := (0 : Int)) c47 c46)) ?_
     refine kv g0 (ixR 3 c48 (ltE c49)) ?_
     refine kv g0 (ldE (eI .i64 (rd q43 (rd t33 p44))) (.lit (.int .i64 (rd q43 (rd t33 p44)))) (getE (z := (0 : Int)) c48 c49)) ?_
     refine kv g0 (add6) ?_
     refine kv g0 (ixR 3 c35 (ltE c50)) ?_
     refine ks g0 (stE 1 (eI .i64 (wrap64 ((rd q43 (rd t33 p44)) + 1))) ((q43.set p30.toNat (wrap64 ((rd q43 (rd t33 p44)) + 1))).map (eI .i64)) (getE (z := (0 : Int)) c35 c50) setE) ?_
     refine wk_end ?_
     refine ac_blkN ?_
     refine ac_next ?_
     refine wk_start ?_
     refine kv g0 (mv) ?_
     refine kv g0 (add6) ?_
     refine kv g0 (asg) ?_
     refine wk_end ?_
     refine ac_k ?_
     exact acw hE [(0, 0), (1, 1)] 9999 (hK53 k45 (q43.set p30.toNat (wrap64 ((rd q43 (rd t33 p44)) + 1))) (wrap64 (p44 + 1)) (Nat.le_refl _) ⟨by omega, H⟩)
    rw [if_neg c51] at H
    refine aw_ifF ?_ (decide_eq_false c51)
    refine aw_skip ?_
    refine ac_blkN ?_
    refine ac_next ?_
    refine wk_start ?_
    refine kv g0 (mv) ?_
    refine kv g0 (add6) ?_
    refine kv g0 (asg) ?_
    refine wk_end ?_
    refine ac_k ?_
    exact acw hE [(0, 0), (1, 1)] 9999 (hK53 k45 q43 (wrap64 (p44 + 1)) (Nat.le_refl _) ⟨by omega, H⟩)
   rw [if_neg c46] at H
   refine aw_ifF ?_ (decide_eq_false c46)
   refine aw_exit ?_
   refine ac_then ?_
   refine ac_then ?_
   refine ac_hit rfl ?_
   refine ac_blkN ?_
   refine ac_next ?_
   refine wk_start ?_
   refine kv g0 (mv) ?_
   refine kv g0 (sub6) ?_
   refine kv g0 (asg) ?_
   refine wk_end ?_
   refine ac_k ?_
   exact acw hE [(0, 0)] 9999 (hK55 k45 q43 (wrap64 (p30 - 1)) (by omega) ⟨by omega, H⟩)
  rw [if_neg c32] at H
  refine aw_ifF ?_ (decide_eq_false c32)
  refine aw_exit ?_
  refine ac_then ?_
  refine ac_then ?_
  refine ac_hit rfl ?_
  refine ac_next ?_
  refine aw_grp1 ?_
  refine wk_start ?_
  refine kv g0 (mv) ?_
  obtain ⟨c56, H⟩ := of_if H
  refine kv g0 (ixR 3 (by decide : (0 : Int) ≤ 0) (ltE c56)) ?_
  refine kv g0 (ldE (eI .i64 (rd q29 0)) (.lit (.int .i64 (rd q29 0))) (getE (z := (0 : Int)) (by decide : (0 : Int) ≤ 0) c56)) ?_
  refine kv g0 (asg) ?_
  refine wk_end ?_
  refine ac_next ?_
  refine aw_ret ?_
  obtain rfl := Option.some.inj H
  exact acr hE [.tmp 2] (.tmp .nil) (.one _) [] 9999
 rw [if_neg c3] at H
 refine aw_ifT ?_ (nT (bF c3))
 refine aw_grp1 ?_
 refine wk_start ?_
 refine kv g0 (asg) ?_
 refine wk_end ?_
 refine ac_next ?_
 refine aw_ret ?_
 refine ac_thenR ?_
 obtain rfl := Option.some.inj H
 exact acr hE [.tmp 2] (.tmp .nil) (.one _) [] 9999
/-! slices_Min_int_int -/
def slices_Min_int_int.l0 : Nat → (List Int) → Int → Int → Option (Int)
 | 0, _, _, _ => none
 | k7 + 1, l0, p5, p6 => if p6 < (l0.length : Int) then if 0 ≤ p6 then slices_Min_int_int.l0 k7 l0 (min p5 (rd l0 p6)) (wrap64 (p6 + 1)) else none else some p5
def slices_Min_int_int.f (k : Nat) (l0 : List Int) : Option (Int) := if (l0.length : Int) < 1 then (none) else if 0 < (l0.length : Int) then slices_Min_int_int.l0 k l0 (rd l0 0) 1 else none
theorem slices_Min_int_int.ok {k : Nat} {l0 : List Int} {r : Int} (H : slices_Min_int_int.f k l0 = some r) : ACalls Tryz.prog 33 [] [.sl .o 1 (l0.map (eI .i64))] [] (.lit (.int .i64 r)) := by
 refine acalls (fn := Tryz.f33) (nt := 25) Tryz.func33 rfl rfl (Nat.le_of_ble_eq_true rfl) fun E hE => ?_
 rw [slices_Min_int_int.f] at H
 refine aw_grp1 ?_
 refine wk_start ?_
 refine kv g0 (asg) ?_
 refine wk_end ?_
 refine ac_next ?_
 refine aw_grp1 ?_
 refine aw_grp1 ?_
 refine wk_start ?_
 refine kv g0 (mv) ?_
 refine kv g0 (lnS lenE) ?_
 refine kv g0 (lss) ?_
 refine wk_end ?_
 refine ac_next ?_
 by_cases c1 : (l0.length : Int) < 1
 ·rw [if_pos c1] at H
  refine aw_ifT ?_ (decide_eq_true c1)
  cases H
 rw [if_neg c1] at H
 refine aw_ifF ?_ (decide_eq_false c1)
 refine aw_skip ?_
 refine ac_next ?_
 refine aw_grp1 ?_
 refine wk_start ?_
 refine kv g0 (mv) ?_
 obtain ⟨c2, H⟩ := of_if H
 refine kv g0 (ixS 3 (eI .i64 (rd l0 0)) (by decide : (0 : Int) ≤ 0) (getE (z := (0 : Int)) (by decide : (0 : Int) ≤ 0) c2)) ?_
 refine kv g0 (ldR (.lit (.int .i64 (rd l0 0)))) ?_
 refine kv g0 (asg) ?_
 refine wk_end ?_
 refine ac_next ?_
 refine aw_grp1 ?_
 refine aw_grp1 ?_
 refine wk_start ?_
 refine kv g0 (asg) ?_
 refine wk_end ?_
 refine ac_next ?_
 refine aw_block ?_
 refine aw_loop2 (fun (k_ : Nat) (p5 : Int) (p6 : Int) => k_ ≤ k ∧ slices_Min_int_int.l0 k_ l0 p5 p6 = some r) (fun (p5 : Int) (p6 : Int) => ⟨[(0, .sl .o 1 (l0.map (eI .i64))), (3, .lit (.int .i64 p5)), (4, .lit (.int .i64 p6))], []⟩) k (rd l0 0) 1 ⟨Nat.le_refl _, H⟩ (fun K_ h_ => acw hE [] 9999 h_) (fun _ _ => by intro h_; have h_ := h_.2; rw [slices_Min_int_int.l0.eq_1] at h_; cases h_) ?_
 intro k7 p5 p6 hq_ K10 hK11
 have hk7 := hq_.1
 have H := hq_.2
 clear hq_
 rw [slices_Min_int_int.l0.eq_2] at H
 refine aw_grp1 ?_
 refine aw_grp1 ?_
 refine wk_start ?_
 refine kv g0 (mv) ?_
 refine kv g0 (mv) ?_
 refine kv g0 (lnS lenE) ?_
 refine kv g0 (lss) ?_
 refine wk_end ?_
 refine ac_next ?_
 by_cases c8 : p6 < (l0.length : Int)
 ·rw [if_pos c8] at H
  refine aw_ifT ?_ (decide_eq_true c8)
  refine aw_skip ?_
  refine ac_next ?_
  refine aw_grp1 ?_
  refine aw_block ?_
  refine wk_start ?_
  refine kv g0 (mv) ?_
  refine kv g0 (mv) ?_
  refine kv g0 (mv) ?_
  obtain ⟨c9, H⟩ := of_if H
  refine kv g0 (ixS 3 (eI .i64 (rd l0 p6)) c9 (getE (z := (0 : Int)) c9 c8)) ?_
  refine kv g0 (ldR (.lit (.int .i64 (rd l0 p6)))) ?_
  refine kv g0 (min_) ?_
  refine kv g0 (asg) ?_
  refine wk_end ?_
  refine ac_blkN ?_
  refine ac_next ?_
  refine wk_start ?_
  refine kv g0 (mv) ?_
  refine kv g0 (add6) ?_
  refine kv g0 (asg) ?_
  refine wk_end ?_
  refine ac_k ?_
  exact acw hE [] 9999 (hK11 k7 (min p5 (rd l0 p6)) (wrap64 (p6 + 1)) (Nat.le_refl _) ⟨by omega, H⟩)
 rw [if_neg c8] at H
 refine aw_ifF ?_ (decide_eq_false c8)
 refine aw_exit ?_
 refine ac_then ?_
 refine ac_then ?_
 refine ac_hit rfl ?_
 refine ac_next ?_
 refine aw_grp1 ?_
 refine wk_start ?_
 refine kv g0 (mv) ?_
 refine kv g0 (asg) ?_
 refine wk_end ?_
 refine ac_next ?_
 refine aw_ret ?_
 obtain rfl := Option.some.inj H
 exact acr hE [.tmp 2] (.tmp .nil) (.one _) [] 9999
/-! impl_ShortestRun_1 -/
def impl_ShortestRun_1.f (k : Nat) (l0 : List Int) : Option (Int) := if (l0.length : Int) = 0 then some 1 else (slices_Min_int_int.f k l0).bind fun t2 => some (wrap64 (t2 + 1))
theorem impl_ShortestRun_1.ok {k : Nat} {l0 : List Int} {r : Int} (H : impl_ShortestRun_1.f k l0 = some r) : ACalls Tryz.prog 32 [] [.sl .o 1 (l0.map (eI .i64))] [] (.lit (.int .i64 r)) := by
 refine acalls (fn := Tryz.f32) (nt := 9) Tryz.func32 rfl rfl (Nat.le_of_ble_eq_true rfl) fun E hE => ?_
 rw [impl_ShortestRun_1.f] at H
 refine aw_grp1 ?_
 refine wk_start ?_
 refine kv g0 (asg) ?_
 refine wk_end ?_
 refine ac_next ?_
 refine aw_grp1 ?_
 refine aw_grp1 ?_
 refine wk_start ?_
 refine kv g0 (mv) ?_
 refine kv g0 (lnS lenE) ?_
 refine kv g0 (eql) ?_
 refine wk_end ?_
 refine ac_next ?_
 by_cases c1 : (l0.length : Int) = 0
 ·rw [if_pos c1] at H
  refine aw_ifT ?_ (eT c1)
  refine aw_grp1 ?_
  refine wk_start ?_
  refine kv g0 (asg) ?_
  refine wk_end ?_
  refine ac_next ?_
  refine aw_ret ?_
  refine ac_thenR ?_
  obtain rfl := Option.some.inj H
  exact acr hE [.tmp 2] (.tmp .nil) (.one _) [] 9999
 rw [if_neg c1] at H
 refine aw_ifF ?_ (eF c1)
 refine aw_skip ?_
 refine ac_next ?_
 refine aw_grp1 ?_
 refine wk_start ?_
 refine kv g0 (mv) ?_
 obtain ⟨t2, A3, H⟩ := of_bind H
 refine kcS0 7 (.lit (.int .i64 t2)) [] g0 (cal (slices_Min_int_int.ok A3) [] 9999 .n (hf := Tryz.func33)) rfl rfl ?_
 refine kv g0 (add6) ?_
 refine kv g0 (asg) ?_
 refine wk_end ?_
 refine ac_next ?_
 refine aw_ret ?_
 obtain rfl := Option.some.inj H
 exact acr hE [.tmp 2] (.tmp .nil) (.one _) [] 9999
/-! impl_runs, handed impl_ShortestRun_1 -/
mutual
def impl_runs_w32.l0 : Nat → (List S41) → (List Int) → Int → ((List Int)) → (List Int) → Int → Option (Int)
 | 0, _, _, _, _, _, _ => none
 | k45 + 1, l0, q30, p31, t36, q43, p44 => if p44 < (t36.length : Int) then if 0 ≤ p44 then if 0 ≤ (rd t36 p44) then (if (rd t36 p44) < (q30.length : Int) then (if q43.length + ([(rd q30 (rd t36 p44))] : List Int).length < 17592186044416 then impl_runs_w32.l0 k45 l0 q30 p31 t36 (q43 ++ ([(rd q30 (rd t36 p44))] : List Int)) (wrap64 (p44 + 1)) else none) else none) else none else none else (impl_ShortestRun_1.f k45 q43).bind fun t53 => (if p31 < (q30.length : Int) then impl_runs_w32.l1 k45 l0 (q30.set p31.toNat t53) (wrap64 (p31 - 1)) else none)
def impl_runs_w32.l1 : Nat → (List S41) → (List Int) → Int → Option (Int)
 | 0, _, _, _ => none
 | k32 + 1, l0, q30, p31 => if p31 ≥ 0 then if 0 ≤ p31 then (if p31 < (l0.length : Int) then ((impl_ways.f k32 ((rd_T41 l0 p31).f0) ((rd_T41 l0 p31).f1) ((rd_T41 l0 p31).f2) ((rd_T41 l0 p31).f3) p31).bind fun t36 => impl_runs_w32.l0 k32 l0 q30 p31 t36 ([] : List Int) 0) else none) else none else if 0 < (q30.length : Int) then some (rd q30 0) else none
end
def impl_runs_w32.f (k : Nat) (l0 : List S41) : Option (Int) := (impl_CheckProgram.f k l0).bind fun t1 => if t1 = true then if 0 ≤ (l0.length : Int) then (if (l0.length : Int).toNat ≤ 35184372088832 then impl_runs_w32.l1 k l0 (List.replicate (l0.length : Int).toNat (0 : Int)) (wrap64 ((l0.length : Int) - 1)) else none) else none else some 0
theorem impl_runs_w32.ok {k : Nat} {l0 : List S41} {r : Int} (H : impl_runs_w32.f k l0 = some r) : ACalls Tryz.prog 30 [] [.sl .o 4 (l0.map e41), .fn 32 []] [] (.lit (.int .i64 r)) := by
 refine acalls (fn := Tryz.f30) (nt := 52) Tryz.func30 rfl rfl (Nat.le_of_ble_eq_true rfl) fun E hE => ?_
 rw [impl_runs_w32.f] at H
 refine aw_grp1 ?_
 refine wk_start ?_
 refine kv g0 (asg) ?_
 refine wk_end ?_
 refine ac_next ?_
 refine aw_grp1 ?_
 refine aw_grp1 ?_
 refine wk_start ?_
 refine kv g0 (mv) ?_
 obtain ⟨t1, A2, H⟩ := of_bind H
 refine kcS0 11 (.lit (.bool t1)) [] g0 (cal (impl_CheckProgram.ok A2) [] 9999 .n (hf := Tryz.func24)) rfl rfl ?_
 refine kv g0 (not_) ?_
 refine wk_end ?_
 refine ac_next ?_
 by_cases c3 : t1 = true
 ·rw [if_pos c3] at H
  refine aw_ifF ?_ (nF c3)
  refine aw_skip ?_
  refine ac_next ?_
  refine aw_grp1 ?_
  refine wk_start ?_
  refine kv g0 (mv) ?_
  refine kv g0 (lnS lenE) ?_
  obtain ⟨c4, H⟩ := of_if H
  obtain ⟨c5, H⟩ := of_if H
  refine kb g0 (mks 0 3 1 8 [.int .i64 0] (eI .i64 (0 : Int)) ((List.replicate (l0.length : Int).toNat (0 : Int)).map (eI .i64)) c4 (mkb c5 rfl) repE) ?_
  refine kv g0 (asg) ?_
  refine wk_end ?_
  refine ac_next ?_
  refine aw_grp1 ?_
  refine aw_grp1 ?_
  refine wk_start ?_
  refine kv g0 (mv) ?_
  refine kv g0 (lnS lenE) ?_
  refine kv g0 (sub6) ?_
  refine kv g0 (asg) ?_
  refine wk_end ?_
  refine ac_next ?_
  refine aw_block ?_
  refine aw_loop2 (fun (k_ : Nat) (q30 : List Int) (p31 : Int) => k_ ≤ k ∧ impl_runs_w32.l1 k_ l0 q30 p31 = some r) (fun (q30 : List Int) (p31 : Int) => ⟨[(0, .sl .o 4 (l0.map e41)), (1, .fn 32 []), (5, .row 0), (6, .lit (.int .i64 p31))], [(0, .row 3 1 (q30.map (eI .i64)))]⟩) k (List.replicate (l0.length : Int).toNat (0 : Int)) (wrap64 ((l0.length : Int) - 1)) ⟨Nat.le_refl _, H⟩ (fun K_ h_ => acw hE [(0, 0)] 9999 h_) (fun _ _ => by intro h_; have h_ := h_.2; rw [impl_runs_w32.l1.eq_1] at h_; cases h_) ?_
  intro k32 q30 p31 hq_ K56 hK57
  have hk32 := hq_.1
  have H := hq_.2
  clear hq_
  rw [impl_runs_w32.l1.eq_2] at H
  refine aw_grp1 ?_
  refine aw_grp1 ?_
  refine wk_start ?_
  refine kv g0 (mv) ?_
  refine kv g0 (geq) ?_
  refine wk_end ?_
  refine ac_next ?_
  by_cases c33 : p31 ≥ 0
  ·rw [if_pos c33] at H
   refine aw_ifT ?_ (decide_eq_true c33)
   refine aw_skip ?_
   refine ac_next ?_
   refine aw_grp1 ?_
   refine aw_block ?_
   refine aw_grp1 ?_
   refine wk_start ?_
   refine kb g0 (bsl 1 3 1 [.int .i64 0] (([] : List Int).map (eI .i64))) ?_
   refine kv g0 (asg) ?_
   refine wk_end ?_
   refine ac_next ?_
   refine aw_grp1 ?_
   refine aw_grp1 ?_
   refine wk_start ?_
   refine kv g0 (mv) ?_
   refine kv g0 (mv) ?_
   obtain ⟨c34, H⟩ := of_if H
   obtain ⟨c35, H⟩ := of_if H
   refine kv g0 (ixS 41 (e41 (rd_T41 l0 p31)) c34 (getE (z := z41) c34 c35)) ?_
   refine kv g0 (ldRA 4 [.lit (.int .i64 ((rd_T41 l0 p31).f0)), .lit (.int .i64 ((rd_T41 l0 p31).f1)), .lit (.int .i64 ((rd_T41 l0 p31).f2)), .lit (.int .i64 ((rd_T41 l0 p31).f3))]) ?_
   refine kv g0 (mv) ?_
   obtain ⟨t36, A37, H⟩ := of_bind H
   refine kcS1 29 (.row 2) [(2, .row 3 1 (t36.map (eI .i64)))] g0 (cal (impl_ways.ok A37) [2] 9999 .n (hf := Tryz.func26)) rfl rfl ?_
   refine kv g0 (lnR lenE) ?_
   refine kv g0 (mv) ?_
   refine wk_end ?_
   refine ac_next ?_
   refine aw_block ?_
   refine aw_loop2 (fun (k_ : Nat) (q43 : List Int) (p44 : Int) => k_ ≤ k32 ∧ impl_runs_w32.l0 k_ l0 q30 p31 t36 q43 p44 = some r) (fun (q43 : List Int) (p44 : Int) => ⟨[(0, .sl .o 4 (l0.map e41)), (1, .fn 32 []), (5, .row 0), (6, .lit (.int .i64 p31)), (7, .row 1), (29, .row 2), (30, .lit (.int .i64 (t36.length : Int))), (31, .lit (.int .i64 p44))], [(0, .row 3 1 (q30.map (eI .i64))), (1, .row 3 1 (q43.map (eI .i64))), (2, .row 3 1 (t36.map (eI .i64)))]⟩) k32 ([] : List Int) 0 ⟨Nat.le_refl _, H⟩ (fun K_ h_ => acw hE [(0, 0), (1, 1), (2, 2)] 9999 h_) (fun _ _ => by intro h_; have h_ := h_.2; rw [impl_runs_w32.l0.eq_1] at h_; cases h_) ?_
   intro k45 q43 p44 hq_ K51 hK52
   have hk45 := hq_.1
   have H := hq_.2
   clear hq_
   rw [impl_runs_w32.l0.eq_2] at H
   refine aw_grp1 ?_
   refine wk_start ?_
   refine kv g0 (lss) ?_
   refine wk_end ?_
   refine ac_next ?_
   refine aw_grp1 ?_
   by_cases c46 : p44 < (t36.length : Int)
   ·rw [if_pos c46] at H
    refine aw_ifT ?_ (decide_eq_true c46)
    refine aw_skip ?_
    refine ac_next ?_
    refine aw_grp1 ?_
    refine aw_block ?_
    refine aw_grp1 ?_
    refine wk_start ?_
    obtain ⟨c47, H⟩ := of_if H
    refine kv g0 (ixR 3 c47 (ltE c46)) ?_
    refine kv g0 (ldE (eI .i64 (rd t36 p44)) (.lit (.int .i64 (rd t36 p44))) (getE (z := (0 : Int)) c47 c46)) ?_
    refine kv g0 (asg) ?_
    refine wk_end ?_
    refine ac_next ?_
    refine wk_start ?_
    refine kv g0 (mv) ?_
    refine kv g0 (mv) ?_
    refine kv g0 (mv) ?_
    obtain ⟨c48, H⟩ := of_if H
    obtain ⟨c49, H⟩ := of_if H
    refine kv g0 (ixR 3 c48 (ltE c49)) ?_
    refine kv g0 (ldE (eI .i64 (rd q30 (rd t36 p44))) (.lit (.int .i64 (rd q30 (rd t36 p44)))) (getE (z := (0 : Int)) c48 c49)) ?_
    refine kb g0 (bsl 3 3 1 [.int .i64 0] (([(rd q30 (rd t36 p44))] : List Int).map (eI .i64))) ?_
    obtain ⟨c50, H⟩ := of_if H
    refine kc g0 (apR 4 3 1 8 [.int .i64 0] ((q43 ++ ([(rd q30 (rd t36 p44))] : List Int)).map (eI .i64)) (.row rfl) (apb c50 rfl) appE) ?_
    refine kv g0 (asg) ?_
    refine wk_end ?_
    refine ac_blkN ?_
    refine ac_next ?_
    refine wk_start ?_
    refine kv g0 (add6) ?_
    refine kv g0 (mv) ?_
    refine wk_end ?_
    refine ac_k ?_
    exact acw hE [(0, 0), (1, 4), (2, 2)] 9999 (hK52 k45 (q43 ++ ([(rd q30 (rd t36 p44))] : List Int)) (wrap64 (p44 + 1)) (Nat.le_refl _) ⟨by omega, H⟩)
   rw [if_neg c46] at H
   refine aw_ifF ?_ (decide_eq_false c46)
   refine aw_exit ?_
   refine ac_then ?_
   refine ac_then ?_
   refine ac_hit rfl ?_
   refine ac_next ?_
   refine wk_start ?_
   refine kv g0 (mv) ?_
   refine kv g0 (mv) ?_
   refine kv g0 (mv) ?_
   refine kv g0 (mv) ?_
   obtain ⟨t53, A54, H⟩ := of_bind H
   refine kcS0 47 (.lit (.int .i64 t53)) [] g0 (cal (impl_ShortestRun_1.ok A54) [] 9999 .n (hf := Tryz.func32)) rfl rfl ?_
   obtain ⟨c55, H⟩ := of_if H
   refine kv g0 (ixR 3 c34 (ltE c55)) ?_
   refine ks g0 (stE 1 (eI .i64 t53) ((q30.set p31.toNat t53).map (eI .i64)) (getE (z := (0 : Int)) c34 c55) setE) ?_
   refine wk_end ?_
   refine ac_blkN ?_
   refine ac_next ?_
   refine wk_start ?_
   refine kv g0 (mv) ?_
   refine kv g0 (sub6) ?_
   refine kv g0 (asg) ?_
   refine wk_end ?_
   refine ac_k ?_
   exact acw hE [(0, 0)] 9999 (hK57 k45 (q30.set p31.toNat t53) (wrap64 (p31 - 1)) (by omega) ⟨by omega, H⟩)
  rw [if_neg c33] at H
  refine aw_ifF ?_ (decide_eq_false c33)
  refine aw_exit ?_
  refine ac_then ?_
  refine ac_then ?_
  refine ac_hit rfl ?_
  refine ac_next ?_
  refine aw_grp1 ?_
  refine wk_start ?_
  refine kv g0 (mv) ?_
  obtain ⟨c58, H⟩ := of_if H
  refine kv g0 (ixR 3 (by decide : (0 : Int) ≤ 0) (ltE c58)) ?_
  refine kv g0 (ldE (eI .i64 (rd q30 0)) (.lit (.int .i64 (rd q30 0))) (getE (z := (0 : Int)) (by decide : (0 : Int) ≤ 0) c58)) ?_
  refine kv g0 (asg) ?_
  refine wk_end ?_
  refine ac_next ?_
  refine aw_ret ?_
  obtain rfl := Option.some.inj H
  exact acr hE [.tmp 4] (.tmp .nil) (.one _) [] 9999
 rw [if_neg c3] at H
 refine aw_ifT ?_ (nT (bF c3))
 refine aw_grp1 ?_
 refine wk_start ?_
 refine kv g0 (asg) ?_
 refine wk_end ?_
 refine ac_next ?_
 refine aw_ret ?_
 refine ac_thenR ?_
 obtain rfl := Option.some.inj H
 exact acr hE [.tmp 4] (.tmp .nil) (.one _) [] 9999
/-! impl_ShortestRun -/
def impl_ShortestRun.f (k : Nat) (l0 : List S41) : Option (Int) := (impl_runs_w32.f k l0).bind fun t1 => some t1
theorem impl_ShortestRun.ok {k : Nat} {l0 : List S41} {r : Int} (H : impl_ShortestRun.f k l0 = some r) : ACalls Tryz.prog 12 [] [.sl .o 4 (l0.map e41)] [] (.lit (.int .i64 r)) := by
 refine acalls (fn := Tryz.f12) (nt := 5) Tryz.func12 rfl rfl (Nat.le_of_ble_eq_true rfl) fun E hE => ?_
 rw [impl_ShortestRun.f] at H
 refine aw_grp1 ?_
 refine wk_start ?_
 refine kv g0 (asg) ?_
 refine wk_end ?_
 refine ac_next ?_
 refine aw_grp1 ?_
 refine wk_start ?_
 refine kv g0 (mv) ?_
 obtain ⟨t1, A2, H⟩ := of_bind H
 refine kcS0 4 (.lit (.int .i64 t1)) [] g0 (cal (impl_runs_w32.ok A2) [] 9999 .n (hf := Tryz.func30)) rfl rfl ?_
 refine kv g0 (asg) ?_
 refine wk_end ?_
 refine ac_next ?_
 refine aw_ret ?_
 obtain rfl := Option.some.inj H
 exact acr hE [.tmp 2] (.tmp .nil) (.one _) [] 9999
/-! spec_ShortestRun -/
mutual
def spec_ShortestRun.j0 : Nat → (List S41) → Int → ((List Int)) → (List Int) → Int → Bool → Option (Int)
 | 0, _, _, _, _, _, _ => none
 | k59 + 1, l0, p37, t40, q49, p50, p58 => if p58 = true then (if 0 ≤ p50 then (if 0 ≤ (rd t40 p50) then (if (rd t40 p50) < (q49.length : Int) then (if p37 < (q49.length : Int) then spec_ShortestRun.l0 k59 l0 p37 t40 (q49.set p37.toNat (wrap64 ((rd q49 (rd t40 p50)) + 1))) (wrap64 (p50 + 1)) else none) else none) else none) else none) else spec_ShortestRun.l0 k59 l0 p37 t40 q49 (wrap64 (p50 + 1))
def spec_ShortestRun.l0 : Nat → (List S41) → Int → ((List Int)) → (List Int) → Int → Option (Int)
 | 0, _, _, _, _, _ => none
 | k51 + 1, l0, p37, t40, q49, p50 => if p50 < (t40.length : Int) then if p50 = 0 then spec_ShortestRun.j0 k51 l0 p37 t40 q49 p50 true else (if 0 ≤ p50 then (if 0 ≤ (rd t40 p50) then (if (rd t40 p50) < (q49.length : Int) then (if p37 < (q49.length : Int) then spec_ShortestRun.j0 k51 l0 p37 t40 q49 p50 (decide ((wrap64 ((rd q49 (rd t40 p50)) + 1)) < (rd q49 p37))) else none) else none) else none) else none) else spec_ShortestRun.l1 k51 l0 q49 (wrap64 (p37 - 1))
def spec_ShortestRun.l1 : Nat → (List S41) → (List Int) → Int → Option (Int)
 | 0, _, _, _ => none
 | k38 + 1, l0, q36, p37 => if p37 ≥ 0 then (spec_l23Next.f l0 p37).bind fun t40 => if 0 ≤ p37 then (if p37 < (q36.length : Int) then spec_ShortestRun.l0 k38 l0 p37 t40 (q36.set p37.toNat 1) 0 else none) else none else if 0 < (q36.length : Int) then some (rd q36 0) else none
end
def spec_ShortestRun.f (k : Nat) (l0 : List S41) : Option (Int) := (spec_CheckProgram.f k l0).bind fun t1 => if t1 = true then if 0 ≤ (l0.length : Int) then (if (l0.length : Int).toNat ≤ 35184372088832 then spec_ShortestRun.l1 k l0 (List.replicate (l0.length : Int).toNat (0 : Int)) (wrap64 ((l0.length : Int) - 1)) else none) else none else some 0
theorem spec_ShortestRun.ok {k : Nat} {l0 : List S41} {r : Int} (H : spec_ShortestRun.f k l0 = some r) : ACalls Tryz.prog 13 [] [.sl .o 4 (l0.map e41)] [] (.lit (.int .i64 r)) := by
 refine acalls (fn := Tryz.f13) (nt := 63) Tryz.func13 rfl rfl (Nat.le_of_ble_eq_true rfl) fun E hE => ?_
 rw [spec_ShortestRun.f] at H
 refine aw_grp1 ?_
 refine wk_start ?_
 refine kv g0 (asg) ?_
 refine wk_end ?_
 refine ac_next ?_
 refine aw_grp1 ?_
 refine aw_grp1 ?_
 refine wk_start ?_
 refine kv g0 (mv) ?_
 obtain ⟨t1, A2, H⟩ := of_bind H
 refine kcS0 8 (.lit (.bool t1)) [] g0 (cal (spec_CheckProgram.ok A2) [] 9999 .n (hf := Tryz.func27)) rfl rfl ?_
 refine kv g0 (not_) ?_
 refine wk_end ?_
 refine ac_next ?_
 by_cases c3 : t1 = true
 ·rw [if_pos c3] at H
  refine aw_ifF ?_ (nF c3)
  refine aw_skip ?_
  refine ac_next ?_
  refine aw_grp1 ?_
  refine wk_start ?_
  refine kv g0 (mv) ?_
  refine kv g0 (lnS lenE) ?_
  obtain ⟨c4, H⟩ := of_if H
  obtain ⟨c5, H⟩ := of_if H
  refine kb g0 (mks 0 3 1 8 [.int .i64 0] (eI .i64 (0 : Int)) ((List.replicate (l0.length : Int).toNat (0 : Int)).map (eI .i64)) c4 (mkb c5 rfl) repE) ?_
  refine kv g0 (asg) ?_
  refine wk_end ?_
  refine ac_next ?_
  refine aw_grp1 ?_
  refine aw_grp1 ?_
  refine wk_start ?_
  refine kv g0 (mv) ?_
  refine kv g0 (lnS lenE) ?_
  refine kv g0 (sub6) ?_
  refine kv g0 (asg) ?_
  refine wk_end ?_
  refine ac_next ?_
  refine aw_block ?_
  refine aw_loop2 (fun (k_ : Nat) (q36 : List Int) (p37 : Int) => k_ ≤ k ∧ spec_ShortestRun.l1 k_ l0 q36 p37 = some r) (fun (q36 : List Int) (p37 : Int) => ⟨[(0, .sl .o 4 (l0.map e41)), (3, .row 0), (4, .lit (.int .i64 p37))], [(0, .row 3 1 (q36.map (eI .i64)))]⟩) k (List.replicate (l0.length : Int).toNat (0 : Int)) (wrap64 ((l0.length : Int) - 1)) ⟨Nat.le_refl _, H⟩ (fun K_ h_ => acw hE [(0, 0)] 9999 h_) (fun _ _ => by intro h_; have h_ := h_.2; rw [spec_ShortestRun.l1.eq_1] at h_; cases h_) ?_
  intro k38 q36 p37 hq_ K68 hK69
  have hk38 := hq_.1
  have H := hq_.2
  clear hq_
  rw [spec_ShortestRun.l1.eq_2] at H
  refine aw_grp1 ?_
  refine aw_grp1 ?_
  refine wk_start ?_
  refine kv g0 (mv) ?_
  refine kv g0 (geq) ?_
  refine wk_end ?_
  refine ac_next ?_
  by_cases c39 : p37 ≥ 0
  ·rw [if_pos c39] at H
   refine aw_ifT ?_ (decide_eq_true c39)
   refine aw_skip ?_
   refine ac_next ?_
   refine aw_grp1 ?_
   refine aw_block ?_
   refine aw_grp1 ?_
   refine wk_start ?_
   refine kv g0 (mv) ?_
   refine kv g0 (mv) ?_
   obtain ⟨t40, A41, H⟩ := of_bind H
   refine kcS1 22 (.row 1) [(1, .row 3 1 (t40.map (eI .i64)))] g0 (cal (spec_l23Next.ok A41) [1] 9999 .n (hf := Tryz.func29)) rfl rfl ?_
   refine kv g0 (asg) ?_
   refine wk_end ?_
   refine ac_next ?_
   refine aw_grp1 ?_
   refine wk_start ?_
   refine kv g0 (mv) ?_
   refine kv g0 (mv) ?_
   obtain ⟨c42, H⟩ := of_if H
   obtain ⟨c43, H⟩ := of_if H
   refine kv g0 (ixR 3 c42 (ltE c43)) ?_
   refine ks g0 (stE 1 (eI .i64 1) ((q36.set p37.toNat 1).map (eI .i64)) (getE (z := (0 : Int)) c42 c43) setE) ?_
   refine wk_end ?_
   refine ac_next ?_
   refine aw_grp1 ?_
   refine wk_start ?_
   refine kv g0 (asg) ?_
   refine wk_end ?_
   refine ac_next ?_
   refine aw_block ?_
   refine aw_loop2 (fun (k_ : Nat) (q49 : List Int) (p50 : Int) => k_ ≤ k38 ∧ spec_ShortestRun.l0 k_ l0 p37 t40 q49 p50 = some r) (fun (q49 : List Int) (p50 : Int) => ⟨[(0, .sl .o 4 (l0.map e41)), (3, .row 0), (4, .lit (.int .i64 p37)), (5, .row 1), (6, .lit (.int .i64 p50))], [(0, .row 3 1 (q49.map (eI .i64))), (1, .row 3 1 (t40.map (eI .i64)))]⟩) k38 (q36.set p37.toNat 1) 0 ⟨Nat.le_refl _, H⟩ (fun K_ h_ => acw hE [(0, 0), (1, 1)] 9999 h_) (fun _ _ => by intro h_; have h_ := h_.2; rw [spec_ShortestRun.l0.eq_1] at h_; cases h_) ?_
   intro k51 q49 p50 hq_ K66 hK67
   have hk51 := hq_.1
   have H := hq_.2
   clear hq_
   rw [spec_ShortestRun.l0.eq_2] at H
   refine aw_grp1 ?_
   refine aw_grp1 ?_
   refine wk_start ?_
   refine kv g0 (mv) ?_
   refine kv g0 (mv) ?_
   refine kv g0 (lnR lenE) ?_
   refine kv g0 (lss) ?_
   refine wk_end ?_
   refine ac_next ?_
   by_cases c52 : p50 < (t40.length : Int)
   ·rw [if_pos c52] at H
    refine aw_ifT ?_ (decide_eq_true c52)
    refine aw_skip ?_
    refine ac_next ?_
    refine aw_grp1 ?_
    refine aw_block ?_
    refine aw_cut1 (J := fun K_ => ∀ (k_ : Nat) (p58 : Bool), k_ ≤ k51 → spec_ShortestRun.j0 k_ l0 p37 t40 q49 p50 p58 = some r → ACont E 63 ⟨[(0, .sl .o 4 (l0.map e41)), (3, .row 0), (4, .lit (.int .i64 p37)), (5, .row 1), (6, .lit (.int .i64 p50)), (48, .lit (.bool p58))], [(0, .row 3 1 (q49.map (eI .i64))), (1, .row 3 1 (t40.map (eI .i64)))]⟩ K_) ?_ ?_
    ·intro K_ hJ65
     refine wk_start ?_
     refine kv g0 (mv) ?_
     refine kv g0 (eql) ?_
     refine kv g0 (mv) ?_
     by_cases c53 : p50 = 0
     ·rw [if_pos c53] at H
      refine kx (hF (eT c53)) ?_
      refine kx (hF (eT c53)) ?_
      refine kx (hF (eT c53)) ?_
      refine kx (hF (eT c53)) ?_
      refine kx (hF (eT c53)) ?_
      refine kx (hF (eT c53)) ?_
      refine kx (hF (eT c53)) ?_
      refine kx (hF (eT c53)) ?_
      refine kx (hF (eT c53)) ?_
      refine kx (hF (eT c53)) ?_
      refine kx (hF (eT c53)) ?_
      refine kx (hF (eT c53)) ?_
      refine kx (hF (eT c53)) ?_
      refine kv g0 (pkT (eT c53)) ?_
      refine wk_end_draw hM (by kernel_rfl) ?_
      refine ac_k ?_
      exact acw hE [(0, 0), (1, 1)] 9999 (hJ65 k51 true (Nat.le_refl _) H)
     rw [if_neg c53] at H
     refine kv (g1 (eF c53)) (mv) ?_
     refine kv (g1 (eF c53)) (mv) ?_
     refine kv (g1 (eF c53)) (mv) ?_
     obtain ⟨c54, H⟩ := of_if H
     refine kv (g1 (eF c53)) (ixR 3 c54 (ltE c52)) ?_
     refine kv (g1 (eF c53)) (ldE (eI .i64 (rd t40 p50)) (.lit (.int .i64 (rd t40 p50))) (getE (z := (0 : Int)) c54 c52)) ?_
     obtain ⟨c55, H⟩ := of_if H
     obtain ⟨c56, H⟩ := of_if H
     refine kv (g1 (eF c53)) (ixR 3 c55 (ltE c56)) ?_
     refine kv (g1 (eF c53)) (ldE (eI .i64 (rd q49 (rd t40 p50))) (.lit (.int .i64 (rd q49 (rd t40 p50)))) (getE (z := (0 : Int)) c55 c56)) ?_
     refine kv (g1 (eF c53)) (add6) ?_
     refine kv (g1 (eF c53)) (mv) ?_
     refine kv (g1 (eF c53)) (mv) ?_
     obtain ⟨c57, H⟩ := of_if H
     refine kv (g1 (eF c53)) (ixR 3 c42 (ltE c57)) ?_
     refine kv (g1 (eF c53)) (ldE (eI .i64 (rd q49 p37)) (.lit (.int .i64 (rd q49 p37))) (getE (z := (0 : Int)) c42 c57)) ?_
     refine kv (g1 (eF c53)) (lss) ?_
     refine kv g0 (pkF (eF c53)) ?_
     refine wk_end_draw hM (by kernel_rfl) ?_
     refine ac_k ?_
     exact acw hE [(0, 0), (1, 1)] 9999 (hJ65 k51 (decide ((wrap64 ((rd q49 (rd t40 p50)) + 1)) < (rd q49 p37))) (Nat.le_refl _) H)
    intro k_ p58 hk_ H
    rcases k_ with _ | k59
    ·rw [spec_ShortestRun.j0.eq_1] at H; cases H
    have hk59 : k59 ≤ k51 := by omega
    clear hk_
    rw [spec_ShortestRun.j0.eq_2] at H
    by_cases c60 : p58 = true
    ·rw [if_pos c60] at H
     refine aw_ifT ?_ c60
     refine wk_start ?_
     refine kv g0 (mv) ?_
     refine kv g0 (mv) ?_
     refine kv g0 (mv) ?_
     refine kv g0 (mv) ?_
     refine kv g0 (mv) ?_
     obtain ⟨c61, H⟩ := of_if H
     refine kv g0 (ixR 3 c61 (ltE c52)) ?_
     refine kv g0 (ldE (eI .i64 (rd t40 p50)) (.lit (.int .i64 (rd t40 p50))) (getE (z := (0 : Int)) c61 c52)) ?_
     obtain ⟨c62, H⟩ := of_if H
     obtain ⟨c63, H⟩ := of_if H
     refine kv g0 (ixR 3 c62 (ltE c63)) ?_
     refine kv g0 (ldE (eI .i64 (rd q49 (rd t40 p50))) (.lit (.int .i64 (rd q49 (rd t40 p50)))) (getE (z := (0 : Int)) c62 c63)) ?_
     refine kv g0 (add6) ?_
     obtain ⟨c64, H⟩ := of_if H
     refine kv g0 (ixR 3 c42 (ltE c64)) ?_
     refine ks g0 (stE 1 (eI .i64 (wrap64 ((rd q49 (rd t40 p50)) + 1))) ((q49.set p37.toNat (wrap64 ((rd q49 (rd t40 p50)) + 1))).map (eI .i64)) (getE (z := (0 : Int)) c42 c64) setE) ?_
     refine wk_end ?_
     refine ac_blkN ?_
     refine ac_next ?_
     refine wk_start ?_
     refine kv g0 (mv) ?_
     refine kv g0 (add6) ?_
     refine kv g0 (asg) ?_
     refine wk_end ?_
     refine ac_k ?_
     exact acw hE [(0, 0), (1, 1)] 9999 (hK67 k59 (q49.set p37.toNat (wrap64 ((rd q49 (rd t40 p50)) + 1))) (wrap64 (p50 + 1)) (by omega) ⟨by omega, H⟩)
    rw [if_neg c60] at H
    refine aw_ifF ?_ (bF c60)
    refine aw_skip ?_
    refine ac_blkN ?_
    refine ac_next ?_
    refine wk_start ?_
    refine kv g0 (mv) ?_
    refine kv g0 (add6) ?_
    refine kv g0 (asg) ?_
    refine wk_end ?_
    refine ac_k ?_
    exact acw hE [(0, 0), (1, 1)] 9999 (hK67 k59 q49 (wrap64 (p50 + 1)) (by omega) ⟨by omega, H⟩)
   rw [if_neg c52] at H
   refine aw_ifF ?_ (decide_eq_false c52)
   refine aw_exit ?_
   refine ac_then ?_
   refine ac_then ?_
   refine ac_hit rfl ?_
   refine ac_blkN ?_
   refine ac_next ?_
   refine wk_start ?_
   refine kv g0 (mv) ?_
   refine kv g0 (sub6) ?_
   refine kv g0 (asg) ?_
   refine wk_end ?_
   refine ac_k ?_
   exact acw hE [(0, 0)] 9999 (hK69 k51 q49 (wrap64 (p37 - 1)) (by omega) ⟨by omega, H⟩)
  rw [if_neg c39] at H
  refine aw_ifF ?_ (decide_eq_false c39)
  refine aw_exit ?_
  refine ac_then ?_
  refine ac_then ?_
  refine ac_hit rfl ?_
  refine ac_next ?_
  refine aw_grp1 ?_
  refine wk_start ?_
  refine kv g0 (mv) ?_
  obtain ⟨c70, H⟩ := of_if H
  refine kv g0 (ixR 3 (by decide : (0 : Int) ≤ 0) (ltE c70)) ?_
  refine kv g0 (ldE (eI .i64 (rd q36 0)) (.lit (.int .i64 (rd q36 0))) (getE (z := (0 : Int)) (by decide : (0 : Int) ≤ 0) c70)) ?_
  refine kv g0 (asg) ?_
  refine wk_end ?_
  refine ac_next ?_
  refine aw_ret ?_
  obtain rfl := Option.some.inj H
  exact acr hE [.tmp 2] (.tmp .nil) (.one _) [] 9999
 rw [if_neg c3] at H
 refine aw_ifT ?_ (nT (bF c3))
 refine aw_grp1 ?_
 refine wk_start ?_
 refine kv g0 (asg) ?_
 refine wk_end ?_
 refine ac_next ?_
 refine aw_ret ?_
 refine ac_thenR ?_
 obtain rfl := Option.some.inj H
 exact acr hE [.tmp 2] (.tmp .nil) (.one _) [] 9999
/-! impl_WaysIn_1 -/
def impl_WaysIn_1.l0 : Nat → (List Int) → Int → Int → Option (Int)
 | 0, _, _, _ => none
 | k6 + 1, l0, p4, p5 => if p5 < (l0.length : Int) then if 0 ≤ p5 then impl_WaysIn_1.l0 k6 l0 (wrap64 (p4 + (rd l0 p5))) (wrap64 (p5 + 1)) else none else some (min p4 1000000)
def impl_WaysIn_1.f (k : Nat) (l0 : List Int) : Option (Int) := if (l0.length : Int) = 0 then some 1 else impl_WaysIn_1.l0 k l0 0 0
theorem impl_WaysIn_1.ok {k : Nat} {l0 : List Int} {r : Int} (H : impl_WaysIn_1.f k l0 = some r) : ACalls Tryz.prog 34 [] [.sl .o 1 (l0.map (eI .i64))] [] (.lit (.int .i64 r)) := by
 refine acalls (fn := Tryz.f34) (nt := 21) Tryz.func34 rfl rfl (Nat.le_of_ble_eq_true rfl) fun E hE => ?_
 rw [impl_WaysIn_1.f] at H
 refine aw_grp1 ?_
 refine wk_start ?_
 refine kv g0 (asg) ?_
 refine wk_end ?_
 refine ac_next ?_
 refine aw_grp1 ?_
 refine aw_grp1 ?_
 refine wk_start ?_
 refine kv g0 (mv) ?_
 refine kv g0 (lnS lenE) ?_
 refine kv g0 (eql) ?_
 refine wk_end ?_
 refine ac_next ?_
 by_cases c1 : (l0.length : Int) = 0
 ·rw [if_pos c1] at H
  refine aw_ifT ?_ (eT c1)
  refine aw_grp1 ?_
  refine wk_start ?_
  refine kv g0 (asg) ?_
  refine wk_end ?_
  refine ac_next ?_
  refine aw_ret ?_
  refine ac_thenR ?_
  obtain rfl := Option.some.inj H
  exact acr hE [.tmp 2] (.tmp .nil) (.one _) [] 9999
 rw [if_neg c1] at H
 refine aw_ifF ?_ (eF c1)
 refine aw_skip ?_
 refine ac_next ?_
 refine aw_grp1 ?_
 refine wk_start ?_
 refine kv g0 (asg) ?_
 refine wk_end ?_
 refine ac_next ?_
 refine aw_grp1 ?_
 refine aw_grp1 ?_
 refine wk_start ?_
 refine kv g0 (mv) ?_
 refine kv g0 (lnS lenE) ?_
 refine kv g0 (mv) ?_
 refine wk_end ?_
 refine ac_next ?_
 refine aw_block ?_
 refine aw_loop2 (fun (k_ : Nat) (p4 : Int) (p5 : Int) => k_ ≤ k ∧ impl_WaysIn_1.l0 k_ l0 p4 p5 = some r) (fun (p4 : Int) (p5 : Int) => ⟨[(3, .lit (.int .i64 p4)), (9, .sl .o 1 (l0.map (eI .i64))), (10, .lit (.int .i64 (l0.length : Int))), (11, .lit (.int .i64 p5))], []⟩) k 0 0 ⟨Nat.le_refl _, H⟩ (fun K_ h_ => acw hE [] 9999 h_) (fun _ _ => by intro h_; have h_ := h_.2; rw [impl_WaysIn_1.l0.eq_1] at h_; cases h_) ?_
 intro k6 p4 p5 hq_ K9 hK10
 have hk6 := hq_.1
 have H := hq_.2
 clear hq_
 rw [impl_WaysIn_1.l0.eq_2] at H
 refine aw_grp1 ?_
 refine wk_start ?_
 refine kv g0 (lss) ?_
 refine wk_end ?_
 refine ac_next ?_
 refine aw_grp1 ?_
 by_cases c7 : p5 < (l0.length : Int)
 ·rw [if_pos c7] at H
  refine aw_ifT ?_ (decide_eq_true c7)
  refine aw_skip ?_
  refine ac_next ?_
  refine aw_grp1 ?_
  refine aw_block ?_
  refine aw_grp1 ?_
  refine wk_start ?_
  obtain ⟨c8, H⟩ := of_if H
  refine kv g0 (ixS 3 (eI .i64 (rd l0 p5)) c8 (getE (z := (0 : Int)) c8 c7)) ?_
  refine kv g0 (ldR (.lit (.int .i64 (rd l0 p5)))) ?_
  refine kv g0 (asg) ?_
  refine wk_end ?_
  refine ac_next ?_
  refine wk_start ?_
  refine kv g0 (mv) ?_
  refine kv g0 (mv) ?_
  refine kv g0 (add6) ?_
  refine kv g0 (asg) ?_
  refine wk_end ?_
  refine ac_blkN ?_
  refine ac_next ?_
  refine wk_start ?_
  refine kv g0 (add6) ?_
  refine kv g0 (mv) ?_
  refine wk_end ?_
  refine ac_k ?_
  exact acw hE [] 9999 (hK10 k6 (wrap64 (p4 + (rd l0 p5))) (wrap64 (p5 + 1)) (Nat.le_refl _) ⟨by omega, H⟩)
 rw [if_neg c7] at H
 refine aw_ifF ?_ (decide_eq_false c7)
 refine aw_exit ?_
 refine ac_then ?_
 refine ac_then ?_
 refine ac_hit rfl ?_
 refine ac_next ?_
 refine aw_grp1 ?_
 refine wk_start ?_
 refine kv g0 (mv) ?_
 refine kv g0 (min_) ?_
 refine kv g0 (asg) ?_
 refine wk_end ?_
 refine ac_next ?_
 refine aw_ret ?_
 obtain rfl := Option.some.inj H
 exact acr hE [.tmp 2] (.tmp .nil) (.one _) [] 9999
/-! impl_runs, handed impl_WaysIn_1 -/
mutual
def impl_runs_w34.l0 : Nat → (List S41) → (List Int) → Int → ((List Int)) → (List Int) → Int → Option (Int)
 | 0, _, _, _, _, _, _ => none
 | k45 + 1, l0, q30, p31, t36, q43, p44 => if p44 < (t36.length : Int) then if 0 ≤ p44 then if 0 ≤ (rd t36 p44) then (if (rd t36 p44) < (q30.length : Int) then (if q43.length + ([(rd q30 (rd t36 p44))] : List Int).length < 17592186044416 then impl_runs_w34.l0 k45 l0 q30 p31 t36 (q43 ++ ([(rd q30 (rd t36 p44))] : List Int)) (wrap64 (p44 + 1)) else none) else none) else none else none else (impl_WaysIn_1.f k45 q43).bind fun t53 => (if p31 < (q30.length : Int) then impl_runs_w34.l1 k45 l0 (q30.set p31.toNat t53) (wrap64 (p31 - 1)) else none)
def impl_runs_w34.l1 : Nat → (List S41) → (List Int) → Int → Option (Int)
 | 0, _, _, _ => none
 | k32 + 1, l0, q30, p31 => if p31 ≥ 0 then if 0 ≤ p31 then (if p31 < (l0.length : Int) then ((impl_ways.f k32 ((rd_T41 l0 p31).f0) ((rd_T41 l0 p31).f1) ((rd_T41 l0 p31).f2) ((rd_T41 l0 p31).f3) p31).bind fun t36 => impl_runs_w34.l0 k32 l0 q30 p31 t36 ([] : List Int) 0) else none) else none else if 0 < (q30.length : Int) then some (rd q30 0) else none
end
def impl_runs_w34.f (k : Nat) (l0 : List S41) : Option (Int) := (impl_CheckProgram.f k l0).bind fun t1 => if t1 = true then if 0 ≤ (l0.length : Int) then (if (l0.length : Int).toNat ≤ 35184372088832 then impl_runs_w34.l1 k l0 (List.replicate (l0.length : Int).toNat (0 : Int)) (wrap64 ((l0.length : Int) - 1)) else none) else none else some 0
theorem impl_runs_w34.ok {k : Nat} {l0 : List S41} {r : Int} (H : impl_runs_w34.f k l0 = some r) : ACalls Tryz.prog 30 [] [.sl .o 4 (l0.map e41), .fn 34 []] [] (.lit (.int .i64 r)) := by
 refine acalls (fn := Tryz.f30) (nt := 52) Tryz.func30 rfl rfl (Nat.le_of_ble_eq_true rfl) fun E hE => ?_
 rw [impl_runs_w34.f] at H
 refine aw_grp1 ?_
 refine wk_start ?_
 refine kv g0 (asg) ?_
 refine wk_end ?_
 refine ac_next ?_
 refine aw_grp1 ?_
 refine aw_grp1 ?_
 refine wk_start ?_
 refine kv g0 (mv) ?_
 obtain ⟨t1, A2, H⟩ := of_bind H
 refine kcS0 11 (.lit (.bool t1)) [] g0 (cal (impl_CheckProgram.ok A2) [] 9999 .n (hf := Tryz.func24)) rfl rfl ?_
 refine kv g0 (not_) ?_
 refine wk_end ?_
 refine ac_next ?_
 by_cases c3 : t1 = true
 ·rw [if_pos c3] at H
  refine aw_ifF ?_ (nF c3)
  refine aw_skip ?_
  refine ac_next ?_
  refine aw_grp1 ?_
  refine wk_start ?_
  refine kv g0 (mv) ?_
  refine kv g0 (lnS lenE) ?_
  obtain ⟨c4, H⟩ := of_if H
  obtain ⟨c5, H⟩ := of_if H
  refine kb g0 (mks 0 3 1 8 [.int .i64 0] (eI .i64 (0 : Int)) ((List.replicate (l0.length : Int).toNat (0 : Int)).map (eI .i64)) c4 (mkb c5 rfl) repE) ?_
  refine kv g0 (asg) ?_
  refine wk_end ?_
  refine ac_next ?_
  refine aw_grp1 ?_
  refine aw_grp1 ?_
  refine wk_start ?_
  refine kv g0 (mv) ?_
  refine kv g0 (lnS lenE) ?_
  refine kv g0 (sub6) ?_
  refine kv g0 (asg) ?_
  refine wk_end ?_
  refine ac_next ?_
  refine aw_block ?_
  refine aw_loop2 (fun (k_ : Nat) (q30 : List Int) (p31 : Int) => k_ ≤ k ∧ impl_runs_w34.l1 k_ l0 q30 p31 = some r) (fun (q30 : List Int) (p31 : Int) => ⟨[(0, .sl .o 4 (l0.map e41)), (1, .fn 34 []), (5, .row 0), (6, .lit (.int .i64 p31))], [(0, .row 3 1 (q30.map (eI .i64)))]⟩) k (List.replicate (l0.length : Int).toNat (0 : Int)) (wrap64 ((l0.length : Int) - 1)) ⟨Nat.le_refl _, H⟩ (fun K_ h_ => acw hE [(0, 0)] 9999 h_) (fun _ _ => by intro h_; have h_ := h_.2; rw [impl_runs_w34.l1.eq_1] at h_; cases h_) ?_
  intro k32 q30 p31 hq_ K56 hK57
  have hk32 := hq_.1
  have H := hq_.2
  clear hq_
  rw [impl_runs_w34.l1.eq_2] at H
  refine aw_grp1 ?_
  refine aw_grp1 ?_
  refine wk_start ?_
  refine kv g0 (mv) ?_
  refine kv g0 (geq) ?_
  refine wk_end ?_
  refine ac_next ?_
  by_cases c33 : p31 ≥ 0
  ·rw [if_pos c33] at H
   refine aw_ifT ?_ (decide_eq_true c33)
   refine aw_skip ?_
   refine ac_next ?_
   refine aw_grp1 ?_
   refine aw_block ?_
   refine aw_grp1 ?_
   refine wk_start ?_
   refine kb g0 (bsl 1 3 1 [.int .i64 0] (([] : List Int).map (eI .i64))) ?_
   refine kv g0 (asg) ?_
   refine wk_end ?_
   refine ac_next ?_
   refine aw_grp1 ?_
   refine aw_grp1 ?_
   refine wk_start ?_
   refine kv g0 (mv) ?_
   refine kv g0 (mv) ?_
   obtain ⟨c34, H⟩ := of_if H
   obtain ⟨c35, H⟩ := of_if H
   refine kv g0 (ixS 41 (e41 (rd_T41 l0 p31)) c34 (getE (z := z41) c34 c35)) ?_
   refine kv g0 (ldRA 4 [.lit (.int .i64 ((rd_T41 l0 p31).f0)), .lit (.int .i64 ((rd_T41 l0 p31).f1)), .lit (.int .i64 ((rd_T41 l0 p31).f2)), .lit (.int .i64 ((rd_T41 l0 p31).f3))]) ?_
   refine kv g0 (mv) ?_
   obtain ⟨t36, A37, H⟩ := of_bind H
   refine kcS1 29 (.row 2) [(2, .row 3 1 (t36.map (eI .i64)))] g0 (cal (impl_ways.ok A37) [2] 9999 .n (hf := Tryz.func26)) rfl rfl ?_
   refine kv g0 (lnR lenE) ?_
   refine kv g0 (mv) ?_
   refine wk_end ?_
   refine ac_next ?_
   refine aw_block ?_
   refine aw_loop2 (fun (k_ : Nat) (q43 : List Int) (p44 : Int) => k_ ≤ k32 ∧ impl_runs_w34.l0 k_ l0 q30 p31 t36 q43 p44 = some r) (fun (q43 : List Int) (p44 : Int) => ⟨[(0, .sl .o 4 (l0.map e41)), (1, .fn 34 []), (5, .row 0), (6, .lit (.int .i64 p31)), (7, .row 1), (29, .row 2), (30, .lit (.int .i64 (t36.length : Int))), (31, .lit (.int .i64 p44))], [(0, .row 3 1 (q30.map (eI .i64))), (1, .row 3 1 (q43.map (eI .i64))), (2, .row 3 1 (t36.map (eI .i64)))]⟩) k32 ([] : List Int) 0 ⟨Nat.le_refl _, H⟩ (fun K_ h_ => acw hE [(0, 0), (1, 1), (2, 2)] 9999 h_) (fun _ _ => by intro h_; have h_ := h_.2; rw [impl_runs_w34.l0.eq_1] at h_; cases h_) ?_
   intro k45 q43 p44 hq_ K51 hK52
   have hk45 := hq_.1
   have H := hq_.2
   clear hq_
   rw [impl_runs_w34.l0.eq_2] at H
   refine aw_grp1 ?_
   refine wk_start ?_
   refine kv g0 (lss) ?_
   refine wk_end ?_
   refine ac_next ?_
   refine aw_grp1 ?_
   by_cases c46 : p44 < (t36.length : Int)
   ·rw [if_pos c46] at H
    refine aw_ifT ?_ (decide_eq_true c46)
    refine aw_skip ?_
    refine ac_next ?_
    refine aw_grp1 ?_
    refine aw_block ?_
    refine aw_grp1 ?_
    refine wk_start ?_
    obtain ⟨c47, H⟩ := of_if H
    refine kv g0 (ixR 3 c47 (ltE c46)) ?_
    refine kv g0 (ldE (eI .i64 (rd t36 p44)) (.lit (.int .i64 (rd t36 p44))) (getE (z := (0 : Int)) c47 c46)) ?_
    refine kv g0 (asg) ?_
    refine wk_end ?_
    refine ac_next ?_
    refine wk_start ?_
    refine kv g0 (mv) ?_
    refine kv g0 (mv) ?_
    refine kv g0 (mv) ?_
    obtain ⟨c48, H⟩ := of_if H
    obtain ⟨c49, H⟩ := of_if H
    refine kv g0 (ixR 3 c48 (ltE c49)) ?_
    refine kv g0 (ldE (eI .i64 (rd q30 (rd t36 p44))) (.lit (.int .i64 (rd q30 (rd t36 p44)))) (getE (z := (0 : Int)) c48 c49)) ?_
    refine kb g0 (bsl 3 3 1 [.int .i64 0] (([(rd q30 (rd t36 p44))] : List Int).map (eI .i64))) ?_
    obtain ⟨c50, H⟩ := of_if H
    refine kc g0 (apR 4 3 1 8 [.int .i64 0] ((q43 ++ ([(rd q30 (rd t36 p44))] : List Int)).map (eI .i64)) (.row rfl) (apb c50 rfl) appE) ?_
    refine kv g0 (asg) ?_
    refine wk_end ?_
    refine ac_blkN ?_
    refine ac_next ?_
    refine wk_start ?_
    refine kv g0 (add6) ?_
    refine kv g0 (mv) ?_
    refine wk_end ?_
    refine ac_k ?_
    exact acw hE [(0, 0), (1, 4), (2, 2)] 9999 (hK52 k45 (q43 ++ ([(rd q30 (rd t36 p44))] : List Int)) (wrap64 (p44 + 1)) (Nat.le_refl _) ⟨by omega, H⟩)
   rw [if_neg c46] at H
   refine aw_ifF ?_ (decide_eq_false c46)
   refine aw_exit ?_
   refine ac_then ?_
   refine ac_then ?_
   refine ac_hit rfl ?_
   refine ac_next ?_
   refine wk_start ?_
   refine kv g0 (mv) ?_
   refine kv g0 (mv) ?_
   refine kv g0 (mv) ?_
   refine kv g0 (mv) ?_
   obtain ⟨t53, A54, H⟩ := of_bind H
   refine kcS0 47 (.lit (.int .i64 t53)) [] g0 (cal (impl_WaysIn_1.ok A54) [] 9999 .n (hf := Tryz.func34)) rfl rfl ?_
   obtain ⟨c55, H⟩ := of_if H
   refine kv g0 (ixR 3 c34 (ltE c55)) ?_
   refine ks g0 (stE 1 (eI .i64 t53) ((q30.set p31.toNat t53).map (eI .i64)) (getE (z := (0 : Int)) c34 c55) setE) ?_
   refine wk_end ?_
   refine ac_blkN ?_
   refine ac_next ?_
   refine wk_start ?_
   refine kv g0 (mv) ?_
   refine kv g0 (sub6) ?_
   refine kv g0 (asg) ?_
   refine wk_end ?_
   refine ac_k ?_
   exact acw hE [(0, 0)] 9999 (hK57 k45 (q30.set p31.toNat t53) (wrap64 (p31 - 1)) (by omega) ⟨by omega, H⟩)
  rw [if_neg c33] at H
  refine aw_ifF ?_ (decide_eq_false c33)
  refine aw_exit ?_
  refine ac_then ?_
  refine ac_then ?_
  refine ac_hit rfl ?_
  refine ac_next ?_
  refine aw_grp1 ?_
  refine wk_start ?_
  refine kv g0 (mv) ?_
  obtain ⟨c58, H⟩ := of_if H
  refine kv g0 (ixR 3 (by decide : (0 : Int) ≤ 0) (ltE c58)) ?_
  refine kv g0 (ldE (eI .i64 (rd q30 0)) (.lit (.int .i64 (rd q30 0))) (getE (z := (0 : Int)) (by decide : (0 : Int) ≤ 0) c58)) ?_
  refine kv g0 (asg) ?_
  refine wk_end ?_
  refine ac_next ?_
  refine aw_ret ?_
  obtain rfl := Option.some.inj H
  exact acr hE [.tmp 4] (.tmp .nil) (.one _) [] 9999
 rw [if_neg c3] at H
 refine aw_ifT ?_ (nT (bF c3))
 refine aw_grp1 ?_
 refine wk_start ?_
 refine kv g0 (asg) ?_
 refine wk_end ?_
 refine ac_next ?_
 refine aw_ret ?_
 refine ac_thenR ?_
 obtain rfl := Option.some.inj H
 exact acr hE [.tmp 4] (.tmp .nil) (.one _) [] 9999
/-! impl_WaysIn -/
def impl_WaysIn.f (k : Nat) (l0 : List S41) : Option (Int) := (impl_runs_w34.f k l0).bind fun t1 => some t1
theorem impl_WaysIn.ok {k : Nat} {l0 : List S41} {r : Int} (H : impl_WaysIn.f k l0 = some r) : ACalls Tryz.prog 14 [] [.sl .o 4 (l0.map e41)] [] (.lit (.int .i64 r)) := by
 refine acalls (fn := Tryz.f14) (nt := 5) Tryz.func14 rfl rfl (Nat.le_of_ble_eq_true rfl) fun E hE => ?_
 rw [impl_WaysIn.f] at H
 refine aw_grp1 ?_
 refine wk_start ?_
 refine kv g0 (asg) ?_
 refine wk_end ?_
 refine ac_next ?_
 refine aw_grp1 ?_
 refine wk_start ?_
 refine kv g0 (mv) ?_
 obtain ⟨t1, A2, H⟩ := of_bind H
 refine kcS0 4 (.lit (.int .i64 t1)) [] g0 (cal (impl_runs_w34.ok A2) [] 9999 .n (hf := Tryz.func30)) rfl rfl ?_
 refine kv g0 (asg) ?_
 refine wk_end ?_
 refine ac_next ?_
 refine aw_ret ?_
 obtain rfl := Option.some.inj H
 exact acr hE [.tmp 2] (.tmp .nil) (.one _) [] 9999
/-! spec_WaysIn -/
mutual
def spec_WaysIn.l0 : Nat → (List S41) → Int → ((List Int)) → (List Int) → Int → Option (Int)
 | 0, _, _, _, _, _ => none
 | k55 + 1, l0, p37, t40, q53, p54 => if p54 < (t40.length : Int) then if 0 ≤ p37 then (if p37 < (q53.length : Int) then (if 0 ≤ p54 then (if 0 ≤ (rd t40 p54) then (if (rd t40 p54) < (q53.length : Int) then spec_WaysIn.l0 k55 l0 p37 t40 (q53.set p37.toNat (wrap64 ((rd q53 p37) + (rd q53 (rd t40 p54))))) (wrap64 (p54 + 1)) else none) else none) else none) else none) else none else if 0 ≤ p37 then (if p37 < (q53.length : Int) then if (rd q53 p37) > 1000000 then spec_WaysIn.l1 k55 l0 (q53.set p37.toNat 1000000) (wrap64 (p37 - 1)) else spec_WaysIn.l1 k55 l0 q53 (wrap64 (p37 - 1)) else none) else none
def spec_WaysIn.j0 : Nat → (List S41) → Int → ((List Int)) → (List Int) → Option (Int)
 | 0, _, _, _, _ => none
 | k46 + 1, l0, p37, t40, q45 => spec_WaysIn.l0 k46 l0 p37 t40 q45 0
def spec_WaysIn.l1 : Nat → (List S41) → (List Int) → Int → Option (Int)
 | 0, _, _, _ => none
 | k38 + 1, l0, q36, p37 => if p37 ≥ 0 then (spec_l23Next.f l0 p37).bind fun t40 => if (t40.length : Int) = 0 then (if 0 ≤ p37 then (if p37 < (q36.length : Int) then spec_WaysIn.j0 k38 l0 p37 t40 (q36.set p37.toNat 1) else none) else none) else spec_WaysIn.j0 k38 l0 p37 t40 q36 else if 0 < (q36.length : Int) then some (rd q36 0) else none
end
def spec_WaysIn.f (k : Nat) (l0 : List S41) : Option (Int) := (spec_CheckProgram.f k l0).bind fun t1 => if t1 = true then if 0 ≤ (l0.length : Int) then (if (l0.length : Int).toNat ≤ 35184372088832 then spec_WaysIn.l1 k l0 (List.replicate (l0.length : Int).toNat (0 : Int)) (wrap64 ((l0.length : Int) - 1)) else none) else none else some 0
theorem spec_WaysIn.ok {k : Nat} {l0 : List S41} {r : Int} (H : spec_WaysIn.f k l0 = some r) : ACalls Tryz.prog 15 [] [.sl .o 4 (l0.map e41)] [] (.lit (.int .i64 r)) := by
 refine acalls (fn := Tryz.f15) (nt := 61) Tryz.func15 rfl rfl (Nat.le_of_ble_eq_true rfl) fun E hE => ?_
 rw [spec_WaysIn.f] at H
 refine aw_grp1 ?_
 refine wk_start ?_
 refine kv g0 (asg) ?_
 refine wk_end ?_
 refine ac_next ?_
 refine aw_grp1 ?_
 refine aw_grp1 ?_
 refine wk_start ?_
 refine kv g0 (mv) ?_
 obtain ⟨t1, A2, H⟩ := of_bind H
 refine kcS0 8 (.lit (.bool t1)) [] g0 (cal (spec_CheckProgram.ok A2) [] 9999 .n (hf := Tryz.func27)) rfl rfl ?_
 refine kv g0 (not_) ?_
 refine wk_end ?_
 refine ac_next ?_
 by_cases c3 : t1 = true
 ·rw [if_pos c3] at H
  refine aw_ifF ?_ (nF c3)
  refine aw_skip ?_
  refine ac_next ?_
  refine aw_grp1 ?_
  refine wk_start ?_
  refine kv g0 (mv) ?_
  refine kv g0 (lnS lenE) ?_
  obtain ⟨c4, H⟩ := of_if H
  obtain ⟨c5, H⟩ := of_if H
  refine kb g0 (mks 0 3 1 8 [.int .i64 0] (eI .i64 (0 : Int)) ((List.replicate (l0.length : Int).toNat (0 : Int)).map (eI .i64)) c4 (mkb c5 rfl) repE) ?_
  refine kv g0 (asg) ?_
  refine wk_end ?_
  refine ac_next ?_
  refine aw_grp1 ?_
  refine aw_grp1 ?_
  refine wk_start ?_
  refine kv g0 (mv) ?_
  refine kv g0 (lnS lenE) ?_
  refine kv g0 (sub6) ?_
  refine kv g0 (asg) ?_
  refine wk_end ?_
  refine ac_next ?_
  refine aw_block ?_
  refine aw_loop2 (fun (k_ : Nat) (q36 : List Int) (p37 : Int) => k_ ≤ k ∧ spec_WaysIn.l1 k_ l0 q36 p37 = some r) (fun (q36 : List Int) (p37 : Int) => ⟨[(0, .sl .o 4 (l0.map e41)), (3, .row 0), (4, .lit (.int .i64 p37))], [(0, .row 3 1 (q36.map (eI .i64)))]⟩) k (List.replicate (l0.length : Int).toNat (0 : Int)) (wrap64 ((l0.length : Int) - 1)) ⟨Nat.le_refl _, H⟩ (fun K_ h_ => acw hE [(0, 0)] 9999 h_) (fun _ _ => by intro h_; have h_ := h_.2; rw [spec_WaysIn.l1.eq_1] at h_; cases h_) ?_
  intro k38 q36 p37 hq_ K68 hK69
  have hk38 := hq_.1
  have H := hq_.2
  clear hq_
  rw [spec_WaysIn.l1.eq_2] at H
  refine aw_grp1 ?_
  refine aw_grp1 ?_
  refine wk_start ?_
  refine kv g0 (mv) ?_
  refine kv g0 (geq) ?_
  refine wk_end ?_
  refine ac_next ?_
  by_cases c39 : p37 ≥ 0
  ·rw [if_pos c39] at H
   refine aw_ifT ?_ (decide_eq_true c39)
   refine aw_skip ?_
   refine ac_next ?_
   refine aw_grp1 ?_
   refine aw_block ?_
   refine aw_grp1 ?_
   refine wk_start ?_
   refine kv g0 (mv) ?_
   refine kv g0 (mv) ?_
   obtain ⟨t40, A41, H⟩ := of_bind H
   refine kcS1 22 (.row 1) [(1, .row 3 1 (t40.map (eI .i64)))] g0 (cal (spec_l23Next.ok A41) [1] 9999 .n (hf := Tryz.func29)) rfl rfl ?_
   refine kv g0 (asg) ?_
   refine wk_end ?_
   refine ac_next ?_
   refine aw_cut1 (J := fun K_ => ∀ (k_ : Nat) (q45 : List Int), k_ ≤ k38 → spec_WaysIn.j0 k_ l0 p37 t40 q45 = some r → ACont E 61 ⟨[(0, .sl .o 4 (l0.map e41)), (3, .row 0), (4, .lit (.int .i64 p37)), (5, .row 1)], [(0, .row 3 1 (q45.map (eI .i64))), (1, .row 3 1 (t40.map (eI .i64)))]⟩ K_) ?_ ?_
   ·intro K_ hJ67
    refine aw_grp1 ?_
    refine wk_start ?_
    refine kv g0 (mv) ?_
    refine kv g0 (lnR lenE) ?_
    refine kv g0 (eql) ?_
    refine wk_end ?_
    refine ac_next ?_
    by_cases c42 : (t40.length : Int) = 0
    ·rw [if_pos c42] at H
     refine aw_ifT ?_ (eT c42)
     refine wk_start ?_
     refine kv g0 (mv) ?_
     refine kv g0 (mv) ?_
     obtain ⟨c43, H⟩ := of_if H
     obtain ⟨c44, H⟩ := of_if H
     refine kv g0 (ixR 3 c43 (ltE c44)) ?_
     refine ks g0 (stE 1 (eI .i64 1) ((q36.set p37.toNat 1).map (eI .i64)) (getE (z := (0 : Int)) c43 c44) setE) ?_
     refine wk_end ?_
     refine ac_k ?_
     exact acw hE [(0, 0), (1, 1)] 9999 (hJ67 k38 (q36.set p37.toNat 1) (Nat.le_refl _) H)
    rw [if_neg c42] at H
    refine aw_ifF ?_ (eF c42)
    refine aw_skip ?_
    refine ac_k ?_
    exact acw hE [(0, 0), (1, 1)] 9999 (hJ67 k38 q36 (Nat.le_refl _) H)
   intro k_ q45 hk_ H
   rcases k_ with _ | k46
   ·rw [spec_WaysIn.j0.eq_1] at H; cases H
   have hk46 : k46 ≤ k38 := by omega
   clear hk_
   rw [spec_WaysIn.j0.eq_2] at H
   refine aw_grp1 ?_
   refine aw_grp1 ?_
   refine wk_start ?_
   refine kv g0 (asg) ?_
   refine wk_end ?_
   refine ac_next ?_
   refine aw_block ?_
   refine aw_loop2 (fun (k_ : Nat) (q53 : List Int) (p54 : Int) => k_ ≤ k46 ∧ spec_WaysIn.l0 k_ l0 p37 t40 q53 p54 = some r) (fun (q53 : List Int) (p54 : Int) => ⟨[(0, .sl .o 4 (l0.map e41)), (3, .row 0), (4, .lit (.int .i64 p37)), (5, .row 1), (6, .lit (.int .i64 p54))], [(0, .row 3 1 (q53.map (eI .i64))), (1, .row 3 1 (t40.map (eI .i64)))]⟩) k46 q45 0 ⟨Nat.le_refl _, H⟩ (fun K_ h_ => acw hE [(0, 0), (1, 1)] 9999 h_) (fun _ _ => by intro h_; have h_ := h_.2; rw [spec_WaysIn.l0.eq_1] at h_; cases h_) ?_
   intro k55 q53 p54 hq_ K62 hK63
   have hk55 := hq_.1
   have H := hq_.2
   clear hq_
   rw [spec_WaysIn.l0.eq_2] at H
   refine aw_grp1 ?_
   refine aw_grp1 ?_
   refine wk_start ?_
   refine kv g0 (mv) ?_
   refine kv g0 (mv) ?_
   refine kv g0 (lnR lenE) ?_
   refine kv g0 (lss) ?_
   refine wk_end ?_
   refine ac_next ?_
   by_cases c56 : p54 < (t40.length : Int)
   ·rw [if_pos c56] at H
    refine aw_ifT ?_ (decide_eq_true c56)
    refine aw_skip ?_
    refine ac_next ?_
    refine aw_grp1 ?_
    refine aw_block ?_
    refine wk_start ?_
    refine kv g0 (mv) ?_
    refine kv g0 (mv) ?_
    refine kv g0 (mv) ?_
    refine kv g0 (mv) ?_
    obtain ⟨c57, H⟩ := of_if H
    obtain ⟨c58, H⟩ := of_if H
    refine kv g0 (ixR 3 c57 (ltE c58)) ?_
    refine kv g0 (ldE (eI .i64 (rd q53 p37)) (.lit (.int .i64 (rd q53 p37))) (getE (z := (0 : Int)) c57 c58)) ?_
    refine kv g0 (mv) ?_
    refine kv g0 (mv) ?_
    refine kv g0 (mv) ?_
    obtain ⟨c59, H⟩ := of_if H
    refine kv g0 (ixR 3 c59 (ltE c56)) ?_
    refine kv g0 (ldE (eI .i64 (rd t40 p54)) (.lit (.int .i64 (rd t40 p54))) (getE (z := (0 : Int)) c59 c56)) ?_
    obtain ⟨c60, H⟩ := of_if H
    obtain ⟨c61, H⟩ := of_if H
    refine kv g0 (ixR 3 c60 (ltE c61)) ?_
    refine kv g0 (ldE (eI .i64 (rd q53 (rd t40 p54))) (.lit (.int .i64 (rd q53 (rd t40 p54)))) (getE (z := (0 : Int)) c60 c61)) ?_
    refine kv g0 (add6) ?_
    refine kv g0 (ixR 3 c57 (ltE c58)) ?_
    refine ks g0 (stE 1 (eI .i64 (wrap64 ((rd q53 p37) + (rd q53 (rd t40 p54))))) ((q53.set p37.toNat (wrap64 ((rd q53 p37) + (rd q53 (rd t40 p54))))).map (eI .i64)) (getE (z := (0 : Int)) c57 c58) setE) ?_
    refine wk_end_draw hM (by kernel_rfl) ?_
    refine ac_blkN ?_
    refine ac_next ?_
    refine wk_start ?_
    refine kv g0 (mv) ?_
    refine kv g0 (add6) ?_
    refine kv g0 (asg) ?_
    refine wk_end ?_
    refine ac_k ?_
    exact acw hE [(0, 0), (1, 1)] 9999 (hK63 k55 (q53.set p37.toNat (wrap64 ((rd q53 p37) + (rd q53 (rd t40 p54))))) (wrap64 (p54 + 1)) (Nat.le_refl _) ⟨by omega, H⟩)
   rw [if_neg c56] at H
   refine aw_ifF ?_ (decide_eq_false c56)
   refine aw_exit ?_
   refine ac_then ?_
   refine ac_then ?_
   refine ac_hit rfl ?_
   refine ac_next ?_
   refine aw_grp1 ?_
   refine wk_start ?_
   refine kv g0 (mv) ?_
   refine kv g0 (mv) ?_
   obtain ⟨c64, H⟩ := of_if H
   obtain ⟨c65, H⟩ := of_if H
   refine kv g0 (ixR 3 c64 (ltE c65)) ?_
   refine kv g0 (ldE (eI .i64 (rd q53 p37)) (.lit (.int .i64 (rd q53 p37))) (getE (z := (0 : Int)) c64 c65)) ?_
   refine kv g0 (gtr) ?_
   refine wk_end ?_
   refine ac_next ?_
   by_cases c66 : (rd q53 p37) > 1000000
   ·rw [if_pos c66] at H
    refine aw_ifT ?_ (decide_eq_true c66)
    refine wk_start ?_
    refine kv g0 (mv) ?_
    refine kv g0 (mv) ?_
    refine kv g0 (ixR 3 c64 (ltE c65)) ?_
    refine ks g0 (stE 1 (eI .i64 1000000) ((q53.set p37.toNat 1000000).map (eI .i64)) (getE (z := (0 : Int)) c64 c65) setE) ?_
    refine wk_end ?_
    refine ac_blkN ?_
    refine ac_next ?_
    refine wk_start ?_
    refine kv g0 (mv) ?_
    refine kv g0 (sub6) ?_
    refine kv g0 (asg) ?_
    refine wk_end ?_
    refine ac_k ?_
    exact acw hE [(0, 0)] 9999 (hK69 k55 (q53.set p37.toNat 1000000) (wrap64 (p37 - 1)) (by omega) ⟨by omega, H⟩)
   rw [if_neg c66] at H
   refine aw_ifF ?_ (decide_eq_false c66)
   refine aw_skip ?_
   refine ac_blkN ?_
   refine ac_next ?_
   refine wk_start ?_
   refine kv g0 (mv) ?_
   refine kv g0 (sub6) ?_
   refine kv g0 (asg) ?_
   refine wk_end ?_
   refine ac_k ?_
   exact acw hE [(0, 0)] 9999 (hK69 k55 q53 (wrap64 (p37 - 1)) (by omega) ⟨by omega, H⟩)
  rw [if_neg c39] at H
  refine aw_ifF ?_ (decide_eq_false c39)
  refine aw_exit ?_
  refine ac_then ?_
  refine ac_then ?_
  refine ac_hit rfl ?_
  refine ac_next ?_
  refine aw_grp1 ?_
  refine wk_start ?_
  refine kv g0 (mv) ?_
  obtain ⟨c70, H⟩ := of_if H
  refine kv g0 (ixR 3 (by decide : (0 : Int) ≤ 0) (ltE c70)) ?_
  refine kv g0 (ldE (eI .i64 (rd q36 0)) (.lit (.int .i64 (rd q36 0))) (getE (z := (0 : Int)) (by decide : (0 : Int) ≤ 0) c70)) ?_
  refine kv g0 (asg) ?_
  refine wk_end ?_
  refine ac_next ?_
  refine aw_ret ?_
  obtain rfl := Option.some.inj H
  exact acr hE [.tmp 2] (.tmp .nil) (.one _) [] 9999
 rw [if_neg c3] at H
 refine aw_ifT ?_ (nT (bF c3))
 refine aw_grp1 ?_
 refine wk_start ?_
 refine kv g0 (asg) ?_
 refine wk_end ?_
 refine ac_next ?_
 refine aw_ret ?_
 refine ac_thenR ?_
 obtain rfl := Option.some.inj H
 exact acr hE [.tmp 2] (.tmp .nil) (.one _) [] 9999
/-! impl_Reached -/
mutual
def impl_Reached.l0 : Nat → (List S41) → Int → ((List Int)) → (List Bool) → Int → Option ((List Bool))
 | 0, _, _, _, _, _ => none
 | k41 + 1, l0, p27, t33, q39, p40 => if p40 < (t33.length : Int) then if 0 ≤ p40 then if 0 ≤ (rd t33 p40) then (if (rd t33 p40) < (q39.length : Int) then impl_Reached.l0 k41 l0 p27 t33 (q39.set (rd t33 p40).toNat true) (wrap64 (p40 + 1)) else none) else none else none else impl_Reached.l1 k41 l0 q39 (wrap64 (p27 + 1))
def impl_Reached.l1 : Nat → (List S41) → (List Bool) → Int → Option ((List Bool))
 | 0, _, _, _ => none
 | k28 + 1, l0, q26, p27 => if p27 < (l0.length : Int) then if 0 ≤ p27 then if p27 < (q26.length : Int) then if (rdOf false q26 p27) = true then (impl_ways.f k28 ((rd_T41 l0 p27).f0) ((rd_T41 l0 p27).f1) ((rd_T41 l0 p27).f2) ((rd_T41 l0 p27).f3) p27).bind fun t33 => impl_Reached.l0 k28 l0 p27 t33 q26 0 else impl_Reached.l1 k28 l0 q26 (wrap64 (p27 + 1)) else none else none else some q26
end
def impl_Reached.f (k : Nat) (l0 : List S41) : Option ((List Bool)) := (impl_CheckProgram.f k l0).bind fun t1 => if t1 = true then if 0 ≤ (l0.length : Int) then (if (l0.length : Int).toNat ≤ 281474976710656 then if 0 < ((List.replicate (l0.length : Int).toNat false).length : Int) then impl_Reached.l1 k l0 ((List.replicate (l0.length : Int).toNat false).set 0 true) 0 else none else none) else none else some ([] : List Bool)
theorem impl_Reached.ok {k : Nat} {l0 : List S41} {r : (List Bool)} (H : impl_Reached.f k l0 = some r) : ACalls Tryz.prog 47 [] [.sl .o 4 (l0.map e41)] [(0, .row 4 1 (r.map eB))] (.row 0) := by
 refine acalls (fn := Tryz.f47) (nt := 43) Tryz.func47 rfl rfl (Nat.le_of_ble_eq_true rfl) fun E hE => ?_
 rw [impl_Reached.f] at H
 refine aw_grp1 ?_
 refine wk_start ?_
 refine kv g0 (asg) ?_
 refine wk_end ?_
 refine ac_next ?_
 refine aw_grp1 ?_
 refine aw_grp1 ?_
 refine wk_start ?_
 refine kv g0 (mv) ?_
 obtain ⟨t1, A2, H⟩ := of_bind H
 refine kcS0 9 (.lit (.bool t1)) [] g0 (cal (impl_CheckProgram.ok A2) [] 9999 .n (hf := Tryz.func24)) rfl rfl ?_
 refine kv g0 (not_) ?_
 refine wk_end ?_
 refine ac_next ?_
 by_cases c3 : t1 = true
 ·rw [if_pos c3] at H
  refine aw_ifF ?_ (nF c3)
  refine aw_skip ?_
  refine ac_next ?_
  refine aw_grp1 ?_
  refine wk_start ?_
  refine kv g0 (mv) ?_
  refine kv g0 (lnS lenE) ?_
  obtain ⟨c4, H⟩ := of_if H
  obtain ⟨c5, H⟩ := of_if H
  refine kb g0 (mks 1 4 1 1 [.bool false] (eB false) ((List.replicate (l0.length : Int).toNat false).map eB) c4 (mkb c5 rfl) repE) ?_
  refine kv g0 (asg) ?_
  refine wk_end ?_
  refine ac_next ?_
  refine aw_grp1 ?_
  refine wk_start ?_
  refine kv g0 (mv) ?_
  obtain ⟨c6, H⟩ := of_if H
  refine kv g0 (ixR 4 (by decide : (0 : Int) ≤ 0) (ltE c6)) ?_
  refine ks g0 (stE 1 (eB true) (((List.replicate (l0.length : Int).toNat false).set 0 true).map eB) (getE (z := false) (by decide : (0 : Int) ≤ 0) c6) setE) ?_
  refine wk_end ?_
  refine ac_next ?_
  refine aw_grp1 ?_
  refine aw_grp1 ?_
  refine wk_start ?_
  refine kv g0 (mv) ?_
  refine kv g0 (lnS lenE) ?_
  refine kv g0 (mv) ?_
  refine wk_end ?_
  refine ac_next ?_
  refine aw_block ?_
  refine aw_loop2 (fun (k_ : Nat) (q26 : List Bool) (p27 : Int) => k_ ≤ k ∧ impl_Reached.l1 k_ l0 q26 p27 = some r) (fun (q26 : List Bool) (p27 : Int) => ⟨[(3, .row 1), (17, .sl .o 4 (l0.map e41)), (18, .lit (.int .i64 (l0.length : Int))), (19, .lit (.int .i64 p27))], [(1, .row 4 1 (q26.map eB))]⟩) k ((List.replicate (l0.length : Int).toNat false).set 0 true) 0 ⟨Nat.le_refl _, H⟩ (fun K_ h_ => acw hE [(1, 1)] 9999 h_) (fun _ _ => by intro h_; have h_ := h_.2; rw [impl_Reached.l1.eq_1] at h_; cases h_) ?_
  intro k28 q26 p27 hq_ K48 hK49
  have hk28 := hq_.1
  have H := hq_.2
  clear hq_
  rw [impl_Reached.l1.eq_2] at H
  refine aw_grp1 ?_
  refine wk_start ?_
  refine kv g0 (lss) ?_
  refine wk_end ?_
  refine ac_next ?_
  refine aw_grp1 ?_
  by_cases c29 : p27 < (l0.length : Int)
  ·rw [if_pos c29] at H
   refine aw_ifT ?_ (decide_eq_true c29)
   refine aw_skip ?_
   refine ac_next ?_
   refine aw_grp1 ?_
   refine aw_block ?_
   refine aw_grp1 ?_
   refine wk_start ?_
   refine kv g0 (mv) ?_
   obtain ⟨c30, H⟩ := of_if H
   refine kv g0 (ixS 41 (e41 (rd_T41 l0 p27)) c30 (getE (z := z41) c30 c29)) ?_
   refine kv g0 (ldRA 4 [.lit (.int .i64 ((rd_T41 l0 p27).f0)), .lit (.int .i64 ((rd_T41 l0 p27).f1)), .lit (.int .i64 ((rd_T41 l0 p27).f2)), .lit (.int .i64 ((rd_T41 l0 p27).f3))]) ?_
   refine kb g0 (alc 2 [.int .i64 0, .int .i64 0, .int .i64 0, .int .i64 0] [.lit (.int .i64 0), .lit (.int .i64 0), .lit (.int .i64 0), .lit (.int .i64 0)]) ?_
   refine kv g0 (asg) ?_
   refine ks g0 (stB 4 [.lit (.int .i64 ((rd_T41 l0 p27).f0)), .lit (.int .i64 ((rd_T41 l0 p27).f1)), .lit (.int .i64 ((rd_T41 l0 p27).f2)), .lit (.int .i64 ((rd_T41 l0 p27).f3))]) ?_
   refine wk_end ?_
   refine ac_next ?_
   refine aw_grp1 ?_
   refine aw_grp1 ?_
   refine wk_start ?_
   refine kv g0 (mv) ?_
   refine kv g0 (mv) ?_
   obtain ⟨c31, H⟩ := of_if H
   refine kv g0 (ixR 4 c30 (ltE c31)) ?_
   refine kv g0 (ldE (eB (rdOf false q26 p27)) (.lit (.bool (rdOf false q26 p27))) (getE (z := false) c30 c31)) ?_
   refine kv g0 (not_) ?_
   refine wk_end ?_
   refine ac_next ?_
   by_cases c32 : (rdOf false q26 p27) = true
   ·rw [if_pos c32] at H
    refine aw_ifF ?_ (nF c32)
    refine aw_skip ?_
    refine ac_next ?_
    refine aw_grp1 ?_
    refine wk_start ?_
    refine kv g0 (ldBA 4 [.lit (.int .i64 ((rd_T41 l0 p27).f0)), .lit (.int .i64 ((rd_T41 l0 p27).f1)), .lit (.int .i64 ((rd_T41 l0 p27).f2)), .lit (.int .i64 ((rd_T41 l0 p27).f3))]) ?_
    refine kv g0 (mv) ?_
    obtain ⟨t33, A34, H⟩ := of_bind H
    refine kcS1 31 (.row 3) [(3, .row 3 1 (t33.map (eI .i64)))] g0 (cal (impl_ways.ok A34) [3] 9999 .n (hf := Tryz.func26)) rfl rfl ?_
    refine kv g0 (lnR lenE) ?_
    refine kv g0 (mv) ?_
    refine wk_end ?_
    refine ac_next ?_
    refine aw_block ?_
    refine aw_loop2 (fun (k_ : Nat) (q39 : List Bool) (p40 : Int) => k_ ≤ k28 ∧ impl_Reached.l0 k_ l0 p27 t33 q39 p40 = some r) (fun (q39 : List Bool) (p40 : Int) => ⟨[(3, .row 1), (17, .sl .o 4 (l0.map e41)), (18, .lit (.int .i64 (l0.length : Int))), (19, .lit (.int .i64 p27)), (31, .row 3), (32, .lit (.int .i64 (t33.length : Int))), (33, .lit (.int .i64 p40))], [(1, .row 4 1 (q39.map eB)), (3, .row 3 1 (t33.map (eI .i64)))]⟩) k28 q26 0 ⟨Nat.le_refl _, H⟩ (fun K_ h_ => acw hE [(1, 1), (3, 3)] 9999 h_) (fun _ _ => by intro h_; have h_ := h_.2; rw [impl_Reached.l0.eq_1] at h_; cases h_) ?_
    intro k41 q39 p40 hq_ K46 hK47
    have hk41 := hq_.1
    have H := hq_.2
    clear hq_
    rw [impl_Reached.l0.eq_2] at H
    refine aw_grp1 ?_
    refine wk_start ?_
    refine kv g0 (lss) ?_
    refine wk_end ?_
    refine ac_next ?_
    refine aw_grp1 ?_
    by_cases c42 : p40 < (t33.length : Int)
    ·rw [if_pos c42] at H
     refine aw_ifT ?_ (decide_eq_true c42)
     refine aw_skip ?_
     refine ac_next ?_
     refine aw_grp1 ?_
     refine aw_block ?_
     refine aw_grp1 ?_
     refine wk_start ?_
     obtain ⟨c43, H⟩ := of_if H
     refine kv g0 (ixR 3 c43 (ltE c42)) ?_
     refine kv g0 (ldE (eI .i64 (rd t33 p40)) (.lit (.int .i64 (rd t33 p40))) (getE (z := (0 : Int)) c43 c42)) ?_
     refine kv g0 (asg) ?_
     refine wk_end ?_
     refine ac_next ?_
     refine wk_start ?_
     refine kv g0 (mv) ?_
     refine kv g0 (mv) ?_
     obtain ⟨c44, H⟩ := of_if H
     obtain ⟨c45, H⟩ := of_if H
     refine kv g0 (ixR 4 c44 (ltE c45)) ?_
     refine ks g0 (stE 1 (eB true) ((q39.set (rd t33 p40).toNat true).map eB) (getE (z := false) c44 c45) setE) ?_
     refine wk_end ?_
     refine ac_blkN ?_
     refine ac_next ?_
     refine wk_start ?_
     refine kv g0 (add6) ?_
     refine kv g0 (mv) ?_
     refine wk_end ?_
     refine ac_k ?_
     exact acw hE [(1, 1), (3, 3)] 9999 (hK47 k41 (q39.set (rd t33 p40).toNat true) (wrap64 (p40 + 1)) (Nat.le_refl _) ⟨by omega, H⟩)
    rw [if_neg c42] at H
    refine aw_ifF ?_ (decide_eq_false c42)
    refine aw_exit ?_
    refine ac_then ?_
    refine ac_then ?_
    refine ac_hit rfl ?_
    refine ac_blkN ?_
    refine ac_next ?_
    refine wk_start ?_
    refine kv g0 (add6) ?_
    refine kv g0 (mv) ?_
    refine wk_end ?_
    refine ac_k ?_
    exact acw hE [(1, 1)] 9999 (hK49 k41 q39 (wrap64 (p27 + 1)) (by omega) ⟨by omega, H⟩)
   rw [if_neg c32] at H
   refine aw_ifT ?_ (nT (bF c32))
   refine aw_exit ?_
   refine ac_then ?_
   refine ac_hit rfl ?_
   refine ac_next ?_
   refine wk_start ?_
   refine kv g0 (add6) ?_
   refine kv g0 (mv) ?_
   refine wk_end ?_
   refine ac_k ?_
   exact acw hE [(1, 1)] 9999 (hK49 k28 q26 (wrap64 (p27 + 1)) (Nat.le_refl _) ⟨by omega, H⟩)
  rw [if_neg c29] at H
  refine aw_ifF ?_ (decide_eq_false c29)
  refine aw_exit ?_
  refine ac_then ?_
  refine ac_then ?_
  refine ac_hit rfl ?_
  refine ac_next ?_
  refine aw_grp1 ?_
  refine wk_start ?_
  refine kv g0 (mv) ?_
  refine kv g0 (asg) ?_
  refine wk_end ?_
  refine ac_next ?_
  refine aw_ret ?_
  obtain rfl := Option.some.inj H
  exact acr hE [.tmp 2] (.tmp .nil) (.one _) [(0, 1)] 9999
 rw [if_neg c3] at H
 refine aw_ifT ?_ (nT (bF c3))
 refine aw_grp1 ?_
 refine wk_start ?_
 refine kb g0 (bsl 0 4 1 [.bool false] (([] : List Bool).map eB)) ?_
 refine kv g0 (asg) ?_
 refine wk_end ?_
 refine ac_next ?_
 refine aw_ret ?_
 refine ac_thenR ?_
 obtain rfl := Option.some.inj H
 exact acr hE [.tmp 2] (.tmp .nil) (.one _) [(0, 0)] 9999
/-! slices_Sort_int_int -/
def slices_Sort_int_int.f (l0 : List Int) : Option (List Int) := if l0.length < 4611686018427387904 then some (l0.mergeSort fun x y => decide (x ≤ y)) else none
theorem slices_Sort_int_int.ok {l0 : List Int} {r : List Int} (H : slices_Sort_int_int.f l0 = some r) : ACalls Tryz.prog 48 [(0, .row 3 1 (l0.map (eI .i64)))] [.row 0] [(0, .row 3 1 (r.map (eI .i64)))] (.tup []) := by
 unfold slices_Sort_int_int.f at H
 obtain ⟨h, H⟩ := of_if H
 obtain rfl := Option.some.inj H
 exact sort_calls Tryz.lays189 3 l0 h
/-! slices_Compact_int_int -/
def slices_Compact_int_int.f (l0 : List Int) : Option (List Int) := if l0.length ≤ 9223372036854775807 then some (Go.Lib.compact l0) else none
theorem slices_Compact_int_int.ok {l0 : List Int} {r : List Int} (H : slices_Compact_int_int.f l0 = some r) : ACalls Tryz.prog 49 [(0, .row 3 1 (l0.map (eI .i64)))] [.row 0] [(0, .gone), (1, .row 3 1 (r.map (eI .i64)))] (.row 1) := by
 unfold slices_Compact_int_int.f at H
 obtain ⟨h, H⟩ := of_if H
 obtain rfl := Option.some.inj H
 exact compact_calls Tryz.laysNm220 3 l0 h
/-! impl_numbersIn -/
def impl_numbersIn.l0 : Nat → (List S41) → Int → ((List Bool)) → (List Int) → Int → Option ((List Int))
 | 0, _, _, _, _, _ => none
 | k11 + 1, l0, a1, t1, q9, p10 => if p10 < (t1.length : Int) then if 0 ≤ p10 then if (rdOf false t1 p10) = true then (if p10 < (l0.length : Int) then if ((rd_T41 l0 p10).f0) = a1 then (if q9.length + ([(rd_T41 l0 p10).f1] : List Int).length < 17592186044416 then impl_numbersIn.l0 k11 l0 a1 t1 (q9 ++ ([(rd_T41 l0 p10).f1] : List Int)) (wrap64 (p10 + 1)) else none) else impl_numbersIn.l0 k11 l0 a1 t1 q9 (wrap64 (p10 + 1)) else none) else impl_numbersIn.l0 k11 l0 a1 t1 q9 (wrap64 (p10 + 1)) else none else (slices_Sort_int_int.f q9).bind fun t20 => (slices_Compact_int_int.f t20).bind fun t22 => some t22
def impl_numbersIn.f (k : Nat) (l0 : List S41) (a1 : Int) : Option ((List Int)) := (impl_Reached.f k l0).bind fun t1 => impl_numbersIn.l0 k l0 a1 t1 ([] : List Int) 0
theorem impl_numbersIn.ok {k : Nat} {l0 : List S41} {a1 : Int} {r : (List Int)} (H : impl_numbersIn.f k l0 a1 = some r) : ACalls Tryz.prog 35 [] [.sl .o 4 (l0.map e41), .lit (.int .i64 a1)] [(0, .row 3 1 (r.map (eI .i64)))] (.row 0) := by
 refine acalls (fn := Tryz.f35) (nt := 40) Tryz.func35 rfl rfl (Nat.le_of_ble_eq_true rfl) fun E hE => ?_
 rw [impl_numbersIn.f] at H
 refine aw_grp1 ?_
 refine wk_start ?_
 refine kv g0 (asg) ?_
 refine wk_end ?_
 refine ac_next ?_
 refine aw_grp1 ?_
 refine wk_start ?_
 refine kb g0 (bsl 0 3 1 [.int .i64 0] (([] : List Int).map (eI .i64))) ?_
 refine kv g0 (asg) ?_
 refine wk_end ?_
 refine ac_next ?_
 refine aw_grp1 ?_
 refine aw_grp1 ?_
 refine wk_start ?_
 refine kv g0 (mv) ?_
 obtain ⟨t1, A2, H⟩ := of_bind H
 refine kcS1 10 (.row 1) [(1, .row 4 1 (t1.map eB))] g0 (cal (impl_Reached.ok A2) [1] 9999 .n (hf := Tryz.func47)) rfl rfl ?_
 refine kv g0 (lnR lenE) ?_
 refine kv g0 (mv) ?_
 refine wk_end ?_
 refine ac_next ?_
 refine aw_block ?_
 refine aw_loop2 (fun (k_ : Nat) (q9 : List Int) (p10 : Int) => k_ ≤ k ∧ impl_numbersIn.l0 k_ l0 a1 t1 q9 p10 = some r) (fun (q9 : List Int) (p10 : Int) => ⟨[(0, .sl .o 4 (l0.map e41)), (1, .lit (.int .i64 a1)), (5, .row 0), (10, .row 1), (11, .lit (.int .i64 (t1.length : Int))), (12, .lit (.int .i64 p10))], [(0, .row 3 1 (q9.map (eI .i64))), (1, .row 4 1 (t1.map eB))]⟩) k ([] : List Int) 0 ⟨Nat.le_refl _, H⟩ (fun K_ h_ => acw hE [(0, 0), (1, 1)] 9999 h_) (fun _ _ => by intro h_; have h_ := h_.2; rw [impl_numbersIn.l0.eq_1] at h_; cases h_) ?_
 intro k11 q9 p10 hq_ K18 hK19
 have hk11 := hq_.1
 have H := hq_.2
 clear hq_
 rw [impl_numbersIn.l0.eq_2] at H
 refine aw_grp1 ?_
 refine wk_start ?_
 refine kv g0 (lss) ?_
 refine wk_end ?_
 refine ac_next ?_
 refine aw_grp1 ?_
 by_cases c12 : p10 < (t1.length : Int)
 ·rw [if_pos c12] at H
  refine aw_ifT ?_ (decide_eq_true c12)
  refine aw_skip ?_
  refine ac_next ?_
  refine aw_grp1 ?_
  refine aw_block ?_
  refine aw_grp1 ?_
  refine wk_start ?_
  refine kv g0 (mv) ?_
  obtain ⟨c13, H⟩ := of_if H
  refine kv g0 (ixR 4 c13 (ltE c12)) ?_
  refine kv g0 (ldE (eB (rdOf false t1 p10)) (.lit (.bool (rdOf false t1 p10))) (getE (z := false) c13 c12)) ?_
  refine kv g0 (asg) ?_
  refine kv g0 (asg) ?_
  refine wk_end ?_
  refine ac_next ?_
  refine aw_grp1 ?_
  refine wk_start ?_
  refine kv g0 (mv) ?_
  refine kv g0 (mv) ?_
  by_cases c14 : (rdOf false t1 p10) = true
  ·rw [if_pos c14] at H
   refine kv (g1 c14) (mv) ?_
   refine kv (g1 c14) (mv) ?_
   obtain ⟨c15, H⟩ := of_if H
   refine kv (g1 c14) (ixS 41 (e41 (rd_T41 l0 p10)) c13 (getE (z := z41) c13 c15)) ?_
   refine kv (g1 c14) (faR 0 0) ?_
   refine kv (g1 c14) (ldR (.lit (.int .i64 ((rd_T41 l0 p10).f0)))) ?_
   refine kv (g1 c14) (mv) ?_
   refine kv (g1 c14) (eql) ?_
   refine kv g0 (pkT c14) ?_
   refine wk_end ?_
   refine ac_next ?_
   by_cases c16 : ((rd_T41 l0 p10).f0) = a1
   ·rw [if_pos c16] at H
    refine aw_ifT ?_ (eT c16)
    refine wk_start ?_
    refine kv g0 (mv) ?_
    refine kv g0 (mv) ?_
    refine kv g0 (mv) ?_
    refine kv g0 (ixS 41 (e41 (rd_T41 l0 p10)) c13 (getE (z := z41) c13 c15)) ?_
    refine kv g0 (faR 1 1) ?_
    refine kv g0 (ldR (.lit (.int .i64 ((rd_T41 l0 p10).f1)))) ?_
    refine kb g0 (bsl 2 3 1 [.int .i64 0] (([(rd_T41 l0 p10).f1] : List Int).map (eI .i64))) ?_
    obtain ⟨c17, H⟩ := of_if H
    refine kc g0 (apR 3 3 1 8 [.int .i64 0] ((q9 ++ ([(rd_T41 l0 p10).f1] : List Int)).map (eI .i64)) (.row rfl) (apb c17 rfl) appE) ?_
    refine kv g0 (asg) ?_
    refine wk_end ?_
    refine ac_blkN ?_
    refine ac_next ?_
    refine wk_start ?_
    refine kv g0 (add6) ?_
    refine kv g0 (mv) ?_
    refine wk_end ?_
    refine ac_k ?_
    exact acw hE [(0, 3), (1, 1)] 9999 (hK19 k11 (q9 ++ ([(rd_T41 l0 p10).f1] : List Int)) (wrap64 (p10 + 1)) (Nat.le_refl _) ⟨by omega, H⟩)
   rw [if_neg c16] at H
   refine aw_ifF ?_ (eF c16)
   refine aw_skip ?_
   refine ac_blkN ?_
   refine ac_next ?_
   refine wk_start ?_
   refine kv g0 (add6) ?_
   refine kv g0 (mv) ?_
   refine wk_end ?_
   refine ac_k ?_
   exact acw hE [(0, 0), (1, 1)] 9999 (hK19 k11 q9 (wrap64 (p10 + 1)) (Nat.le_refl _) ⟨by omega, H⟩)
  rw [if_neg c14] at H
  refine kx (hT (bF c14)) ?_
  refine kx (hT (bF c14)) ?_
  refine kx (hT (bF c14)) ?_
  refine kx (hT (bF c14)) ?_
  refine kx (hT (bF c14)) ?_
  refine kx (hT (bF c14)) ?_
  refine kx (hT (bF c14)) ?_
  refine kv g0 (pkF (bF c14)) ?_
  refine wk_end ?_
  refine ac_next ?_
  refine aw_ifF ?_ rfl
  refine aw_skip ?_
  refine ac_blkN ?_
  refine ac_next ?_
  refine wk_start ?_
  refine kv g0 (add6) ?_
  refine kv g0 (mv) ?_
  refine wk_end ?_
  refine ac_k ?_
  exact acw hE [(0, 0), (1, 1)] 9999 (hK19 k11 q9 (wrap64 (p10 + 1)) (Nat.le_refl _) ⟨by omega, H⟩)
 rw [if_neg c12] at H
 refine aw_ifF ?_ (decide_eq_false c12)
 refine aw_exit ?_
 refine ac_then ?_
 refine ac_then ?_
 refine ac_hit rfl ?_
 refine ac_next ?_
 refine aw_grp1 ?_
 refine wk_start ?_
 refine kv g0 (mv) ?_
 obtain ⟨t20, A21, H⟩ := of_bind H
 refine kcS1 37 (.tup []) [(0, .row 3 1 (t20.map (eI .i64)))] g0 (cal (slices_Sort_int_int.ok A21) [0] 9999 .n (hf := Tryz.func48)) rfl rfl ?_
 refine wk_end ?_
 refine ac_next ?_
 refine aw_grp1 ?_
 refine wk_start ?_
 refine kv g0 (mv) ?_
 obtain ⟨t22, A23, H⟩ := of_bind H
 refine kcS2 39 (.row 4) [(0, .gone), (4, .row 3 1 (t22.map (eI .i64)))] g0 (cal (slices_Compact_int_int.ok A23) [0, 4] 9999 .n (hf := Tryz.func49)) rfl rfl ?_
 refine kv g0 (asg) ?_
 refine wk_end ?_
 refine ac_next ?_
 refine aw_ret ?_
 obtain rfl := Option.some.inj H
 exact acr hE [.tmp 4] (.tmp .nil) (.one _) [(0, 4)] 9999
/-! impl_ResultsIn -/
def impl_ResultsIn.f (k : Nat) (l0 : List S41) : Option ((List Int)) := (impl_numbersIn.f k l0 8).bind fun t1 => some t1
theorem impl_ResultsIn.ok {k : Nat} {l0 : List S41} {r : (List Int)} (H : impl_ResultsIn.f k l0 = some r) : ACalls Tryz.prog 16 [] [.sl .o 4 (l0.map e41)] [(0, .row 3 1 (r.map (eI .i64)))] (.row 0) := by
 refine acalls (fn := Tryz.f16) (nt := 5) Tryz.func16 rfl rfl (Nat.le_of_ble_eq_true rfl) fun E hE => ?_
 rw [impl_ResultsIn.f] at H
 refine aw_grp1 ?_
 refine wk_start ?_
 refine kv g0 (asg) ?_
 refine wk_end ?_
 refine ac_next ?_
 refine aw_grp1 ?_
 refine wk_start ?_
 refine kv g0 (mv) ?_
 obtain ⟨t1, A2, H⟩ := of_bind H
 refine kcS1 4 (.row 0) [(0, .row 3 1 (t1.map (eI .i64)))] g0 (cal (impl_numbersIn.ok A2) [0] 9999 .n (hf := Tryz.func35)) rfl rfl ?_
 refine kv g0 (asg) ?_
 refine wk_end ?_
 refine ac_next ?_
 refine aw_ret ?_
 obtain rfl := Option.some.inj H
 exact acr hE [.tmp 2] (.tmp .nil) (.one _) [(0, 0)] 9999
/-! spec_Reached -/
def spec_Reached.l0 : Nat → (List S41) → (List Bool) → Int → Option ((List Bool))
 | 0, _, _, _ => none
 | k21 + 1, l0, q19, p20 => if p20 < (l0.length : Int) then if 0 ≤ p20 then if p20 < (q19.length : Int) then (if (rdOf false q19 p20) = true then if ((rd_T41 l0 p20).f0) = 8 then spec_Reached.l0 k21 l0 q19 (wrap64 (p20 + 1)) else if ((rd_T41 l0 p20).f0) = 7 then (if 0 ≤ (wrap64 ((wrap64 (p20 + 1)) + ((rd_T41 l0 p20).f1))) then (if (wrap64 ((wrap64 (p20 + 1)) + ((rd_T41 l0 p20).f1))) < (q19.length : Int) then spec_Reached.l0 k21 l0 (q19.set (wrap64 ((wrap64 (p20 + 1)) + ((rd_T41 l0 p20).f1))).toNat true) (wrap64 (p20 + 1)) else none) else none) else if 0 ≤ (wrap64 ((wrap64 (p20 + 1)) + ((rd_T41 l0 p20).f2))) then (if (wrap64 ((wrap64 (p20 + 1)) + ((rd_T41 l0 p20).f2))) < (q19.length : Int) then if 0 ≤ (wrap64 ((wrap64 (p20 + 1)) + ((rd_T41 l0 p20).f3))) then (if (wrap64 ((wrap64 (p20 + 1)) + ((rd_T41 l0 p20).f3))) < (q19.length : Int) then spec_Reached.l0 k21 l0 ((q19.set (wrap64 ((wrap64 (p20 + 1)) + ((rd_T41 l0 p20).f2))).toNat true).set (wrap64 ((wrap64 (p20 + 1)) + ((rd_T41 l0 p20).f3))).toNat true) (wrap64 (p20 + 1)) else none) else none else none) else none else spec_Reached.l0 k21 l0 q19 (wrap64 (p20 + 1))) else none else none else some q19
def spec_Reached.f (k : Nat) (l0 : List S41) : Option ((List Bool)) := (spec_CheckProgram.f k l0).bind fun t1 => if t1 = true then if 0 ≤ (l0.length : Int) then (if (l0.length : Int).toNat ≤ 281474976710656 then if 0 < ((List.replicate (l0.length : Int).toNat false).length : Int) then spec_Reached.l0 k l0 ((List.replicate (l0.length : Int).toNat false).set 0 true) 0 else none else none) else none else some ([] : List Bool)
theorem spec_Reached.ok {k : Nat} {l0 : List S41} {r : (List Bool)} (H : spec_Reached.f k l0 = some r) : ACalls Tryz.prog 50 [] [.sl .o 4 (l0.map e41)] [(0, .row 4 1 (r.map eB))] (.row 0) := by
 refine acalls (fn := Tryz.f50) (nt := 60) Tryz.func50 rfl rfl (Nat.le_of_ble_eq_true rfl) fun E hE => ?_
 rw [spec_Reached.f] at H
 refine aw_grp1 ?_
 refine wk_start ?_
 refine kv g0 (asg) ?_
 refine wk_end ?_
 refine ac_next ?_
 refine aw_grp1 ?_
 refine aw_grp1 ?_
 refine wk_start ?_
 refine kv g0 (mv) ?_
 obtain ⟨t1, A2, H⟩ := of_bind H
 refine kcS0 7 (.lit (.bool t1)) [] g0 (cal (spec_CheckProgram.ok A2) [] 9999 .n (hf := Tryz.func27)) rfl rfl ?_
 refine kv g0 (not_) ?_
 refine wk_end ?_
 refine ac_next ?_
 by_cases c3 : t1 = true
 ·rw [if_pos c3] at H
  refine aw_ifF ?_ (nF c3)
  refine aw_skip ?_
  refine ac_next ?_
  refine aw_grp1 ?_
  refine wk_start ?_
  refine kv g0 (mv) ?_
  refine kv g0 (lnS lenE) ?_
  obtain ⟨c4, H⟩ := of_if H
  obtain ⟨c5, H⟩ := of_if H
  refine kb g0 (mks 1 4 1 1 [.bool false] (eB false) ((List.replicate (l0.length : Int).toNat false).map eB) c4 (mkb c5 rfl) repE) ?_
  refine kv g0 (asg) ?_
  refine wk_end ?_
  refine ac_next ?_
  refine aw_grp1 ?_
  refine wk_start ?_
  refine kv g0 (mv) ?_
  obtain ⟨c6, H⟩ := of_if H
  refine kv g0 (ixR 4 (by decide : (0 : Int) ≤ 0) (ltE c6)) ?_
  refine ks g0 (stE 1 (eB true) (((List.replicate (l0.length : Int).toNat false).set 0 true).map eB) (getE (z := false) (by decide : (0 : Int) ≤ 0) c6) setE) ?_
  refine wk_end ?_
  refine ac_next ?_
  refine aw_grp1 ?_
  refine aw_grp1 ?_
  refine wk_start ?_
  refine kv g0 (asg) ?_
  refine wk_end ?_
  refine ac_next ?_
  refine aw_block ?_
  refine aw_loop2 (fun (k_ : Nat) (q19 : List Bool) (p20 : Int) => k_ ≤ k ∧ spec_Reached.l0 k_ l0 q19 p20 = some r) (fun (q19 : List Bool) (p20 : Int) => ⟨[(0, .sl .o 4 (l0.map e41)), (3, .row 1), (4, .lit (.int .i64 p20))], [(1, .row 4 1 (q19.map eB))]⟩) k ((List.replicate (l0.length : Int).toNat false).set 0 true) 0 ⟨Nat.le_refl _, H⟩ (fun K_ h_ => acw hE [(1, 1)] 9999 h_) (fun _ _ => by intro h_; have h_ := h_.2; rw [spec_Reached.l0.eq_1] at h_; cases h_) ?_
  intro k21 q19 p20 hq_ K34 hK35
  have hk21 := hq_.1
  have H := hq_.2
  clear hq_
  rw [spec_Reached.l0.eq_2] at H
  refine aw_grp1 ?_
  refine aw_grp1 ?_
  refine wk_start ?_
  refine kv g0 (mv) ?_
  refine kv g0 (mv) ?_
  refine kv g0 (lnS lenE) ?_
  refine kv g0 (lss) ?_
  refine wk_end ?_
  refine ac_next ?_
  by_cases c22 : p20 < (l0.length : Int)
  ·rw [if_pos c22] at H
   refine aw_ifT ?_ (decide_eq_true c22)
   refine aw_skip ?_
   refine ac_next ?_
   refine aw_grp1 ?_
   refine aw_block ?_
   refine aw_grp1 ?_
   refine wk_start ?_
   refine kv g0 (mv) ?_
   refine kv g0 (mv) ?_
   obtain ⟨c23, H⟩ := of_if H
   refine kv g0 (ixS 41 (e41 (rd_T41 l0 p20)) c23 (getE (z := z41) c23 c22)) ?_
   refine kv g0 (ldRA 4 [.lit (.int .i64 ((rd_T41 l0 p20).f0)), .lit (.int .i64 ((rd_T41 l0 p20).f1)), .lit (.int .i64 ((rd_T41 l0 p20).f2)), .lit (.int .i64 ((rd_T41 l0 p20).f3))]) ?_
   refine kb g0 (alc 2 [.int .i64 0, .int .i64 0, .int .i64 0, .int .i64 0] [.lit (.int .i64 0), .lit (.int .i64 0), .lit (.int .i64 0), .lit (.int .i64 0)]) ?_
   refine ks g0 (stB 4 [.lit (.int .i64 ((rd_T41 l0 p20).f0)), .lit (.int .i64 ((rd_T41 l0 p20).f1)), .lit (.int .i64 ((rd_T41 l0 p20).f2)), .lit (.int .i64 ((rd_T41 l0 p20).f3))]) ?_
   refine wk_end ?_
   refine ac_next ?_
   refine aw_grp1 ?_
   refine aw_grp1 ?_
   refine wk_start ?_
   refine kv g0 (mv) ?_
   refine kv g0 (mv) ?_
   obtain ⟨c24, H⟩ := of_if H
   refine kv g0 (ixR 4 c23 (ltE c24)) ?_
   refine kv g0 (ldE (eB (rdOf false q19 p20)) (.lit (.bool (rdOf false q19 p20))) (getE (z := false) c23 c24)) ?_
   refine kv g0 (not_) ?_
   refine kv g0 (mv) ?_
   by_cases c25 : (rdOf false q19 p20) = true
   ·rw [if_pos c25] at H
    refine kv (g1 (nF c25)) (faB 0 0) ?_
    refine kv (g1 (nF c25)) (ldB) ?_
    refine kv (g1 (nF c25)) (eql) ?_
    refine kv g0 (pkF (nF c25)) ?_
    refine wk_end ?_
    refine ac_next ?_
    by_cases c26 : ((rd_T41 l0 p20).f0) = 8
    ·rw [if_pos c26] at H
     refine aw_ifT ?_ (eT c26)
     refine aw_exit ?_
     refine ac_then ?_
     refine ac_hit rfl ?_
     refine ac_next ?_
     refine wk_start ?_
     refine kv g0 (mv) ?_
     refine kv g0 (add6) ?_
     refine kv g0 (asg) ?_
     refine wk_end ?_
     refine ac_k ?_
     exact acw hE [(1, 1)] 9999 (hK35 k21 q19 (wrap64 (p20 + 1)) (Nat.le_refl _) ⟨by omega, H⟩)
    rw [if_neg c26] at H
    refine aw_ifF ?_ (eF c26)
    refine aw_skip ?_
    refine ac_next ?_
    refine aw_grp1 ?_
    refine aw_grp1 ?_
    refine wk_start ?_
    refine kv g0 (faB 0 0) ?_
    refine kv g0 (ldB) ?_
    refine kv g0 (eql) ?_
    refine wk_end ?_
    refine ac_next ?_
    by_cases c27 : ((rd_T41 l0 p20).f0) = 7
    ·rw [if_pos c27] at H
     refine aw_ifT ?_ (eT c27)
     refine aw_grp1 ?_
     refine wk_start ?_
     refine kv g0 (mv) ?_
     refine kv g0 (mv) ?_
     refine kv g0 (add6) ?_
     refine kv g0 (faB 1 1) ?_
     refine kv g0 (ldB) ?_
     refine kv g0 (add6) ?_
     obtain ⟨c28, H⟩ := of_if H
     obtain ⟨c29, H⟩ := of_if H
     refine kv g0 (ixR 4 c28 (ltE c29)) ?_
     refine ks g0 (stE 1 (eB true) ((q19.set (wrap64 ((wrap64 (p20 + 1)) + ((rd_T41 l0 p20).f1))).toNat true).map eB) (getE (z := false) c28 c29) setE) ?_
     refine wk_end ?_
     refine ac_next ?_
     refine aw_exit ?_
     refine ac_then ?_
     refine ac_hit rfl ?_
     refine ac_next ?_
     refine wk_start ?_
     refine kv g0 (mv) ?_
     refine kv g0 (add6) ?_
     refine kv g0 (asg) ?_
     refine wk_end ?_
     refine ac_k ?_
     exact acw hE [(1, 1)] 9999 (hK35 k21 (q19.set (wrap64 ((wrap64 (p20 + 1)) + ((rd_T41 l0 p20).f1))).toNat true) (wrap64 (p20 + 1)) (Nat.le_refl _) ⟨by omega, H⟩)
    rw [if_neg c27] at H
    refine aw_ifF ?_ (eF c27)
    refine aw_skip ?_
    refine ac_next ?_
    refine aw_grp1 ?_
    refine wk_start ?_
    refine kv g0 (mv) ?_
    refine kv g0 (mv) ?_
    refine kv g0 (add6) ?_
    refine kv g0 (faB 2 2) ?_
    refine kv g0 (ldB) ?_
    refine kv g0 (add6) ?_
    obtain ⟨c30, H⟩ := of_if H
    obtain ⟨c31, H⟩ := of_if H
    refine kv g0 (ixR 4 c30 (ltE c31)) ?_
    refine ks g0 (stE 1 (eB true) ((q19.set (wrap64 ((wrap64 (p20 + 1)) + ((rd_T41 l0 p20).f2))).toNat true).map eB) (getE (z := false) c30 c31) setE) ?_
    refine wk_end ?_
    refine ac_next ?_
    refine wk_start ?_
    refine kv g0 (mv) ?_
    refine kv g0 (mv) ?_
    refine kv g0 (add6) ?_
    refine kv g0 (faB 3 3) ?_
    refine kv g0 (ldB) ?_
    refine kv g0 (add6) ?_
    obtain ⟨c32, H⟩ := of_if H
    obtain ⟨c33, H⟩ := of_if H
    refine kv g0 (ixR 4 c32 (ltE (ls c33))) ?_
    refine ks g0 (stE 1 (eB true) (((q19.set (wrap64 ((wrap64 (p20 + 1)) + ((rd_T41 l0 p20).f2))).toNat true).set (wrap64 ((wrap64 (p20 + 1)) + ((rd_T41 l0 p20).f3))).toNat true).map eB) (getE (z := false) c32 (ls c33)) setE) ?_
    refine wk_end ?_
    refine ac_blkN ?_
    refine ac_next ?_
    refine wk_start ?_
    refine kv g0 (mv) ?_
    refine kv g0 (add6) ?_
    refine kv g0 (asg) ?_
    refine wk_end ?_
    refine ac_k ?_
    exact acw hE [(1, 1)] 9999 (hK35 k21 ((q19.set (wrap64 ((wrap64 (p20 + 1)) + ((rd_T41 l0 p20).f2))).toNat true).set (wrap64 ((wrap64 (p20 + 1)) + ((rd_T41 l0 p20).f3))).toNat true) (wrap64 (p20 + 1)) (Nat.le_refl _) ⟨by omega, H⟩)
   rw [if_neg c25] at H
   refine kx (hF (nT (bF c25))) ?_
   refine kx (hF (nT (bF c25))) ?_
   refine kx (hF (nT (bF c25))) ?_
   refine kv g0 (pkT (nT (bF c25))) ?_
   refine wk_end ?_
   refine ac_next ?_
   refine aw_ifT ?_ rfl
   refine aw_exit ?_
   refine ac_then ?_
   refine ac_hit rfl ?_
   refine ac_next ?_
   refine wk_start ?_
   refine kv g0 (mv) ?_
   refine kv g0 (add6) ?_
   refine kv g0 (asg) ?_
   refine wk_end ?_
   refine ac_k ?_
   exact acw hE [(1, 1)] 9999 (hK35 k21 q19 (wrap64 (p20 + 1)) (Nat.le_refl _) ⟨by omega, H⟩)
  rw [if_neg c22] at H
  refine aw_ifF ?_ (decide_eq_false c22)
  refine aw_exit ?_
  refine ac_then ?_
  refine ac_then ?_
  refine ac_hit rfl ?_
  refine ac_next ?_
  refine aw_grp1 ?_
  refine wk_start ?_
  refine kv g0 (mv) ?_
  refine kv g0 (asg) ?_
  refine wk_end ?_
  refine ac_next ?_
  refine aw_ret ?_
  obtain rfl := Option.some.inj H
  exact acr hE [.tmp 2] (.tmp .nil) (.one _) [(0, 1)] 9999
 rw [if_neg c3] at H
 refine aw_ifT ?_ (nT (bF c3))
 refine aw_grp1 ?_
 refine wk_start ?_
 refine kb g0 (bsl 0 4 1 [.bool false] (([] : List Bool).map eB)) ?_
 refine kv g0 (asg) ?_
 refine wk_end ?_
 refine ac_next ?_
 refine aw_ret ?_
 refine ac_thenR ?_
 obtain rfl := Option.some.inj H
 exact acr hE [.tmp 2] (.tmp .nil) (.one _) [(0, 0)] 9999
/-! spec_l23Put -/
mutual
def spec_l23Put.j0 : Nat → (List Int) → Int → Int → (List Int) → Bool → Option ((List Int))
 | 0, _, _, _, _, _ => none
 | k21 + 1, l0, a1, p12, q19, p20 => if 0 ≤ p12 then (if q19.length + ([(rd l0 p12)] : List Int).length < 17592186044416 then spec_l23Put.l0 k21 l0 a1 (q19 ++ ([(rd l0 p12)] : List Int)) p20 (wrap64 (p12 + 1)) else none) else none
def spec_l23Put.l0 : Nat → (List Int) → Int → (List Int) → Bool → Int → Option ((List Int))
 | 0, _, _, _, _, _ => none
 | k13 + 1, l0, a1, q10, p11, p12 => if p12 < (l0.length : Int) then if p11 = true then spec_l23Put.j0 k13 l0 a1 p12 q10 p11 else (if 0 ≤ p12 then if a1 < (rd l0 p12) then (if q10.length + ([a1] : List Int).length < 17592186044416 then spec_l23Put.j0 k13 l0 a1 p12 (q10 ++ ([a1] : List Int)) true else none) else spec_l23Put.j0 k13 l0 a1 p12 q10 p11 else none) else if p11 = true then some q10 else (if q10.length + ([a1] : List Int).length < 17592186044416 then some (q10 ++ ([a1] : List Int)) else none)
end
def spec_l23Put.f (k : Nat) (l0 : List Int) (a1 : Int) : Option ((List Int)) := spec_l23Put.l0 k l0 a1 ([] : List Int) false 0
theorem spec_l23Put.ok {k : Nat} {l0 : List Int} {a1 : Int} {r : (List Int)} (H : spec_l23Put.f k l0 a1 = some r) : ACalls Tryz.prog 52 [] [.sl .o 1 (l0.map (eI .i64)), .lit (.int .i64 a1)] [(0, .row 3 1 (r.map (eI .i64)))] (.row 0) := by
 refine acalls (fn := Tryz.f52) (nt := 43) Tryz.func52 rfl rfl (Nat.le_of_ble_eq_true rfl) fun E hE => ?_
 rw [spec_l23Put.f] at H
 refine aw_grp1 ?_
 refine wk_start ?_
 refine kv g0 (asg) ?_
 refine wk_end ?_
 refine ac_next ?_
 refine aw_grp1 ?_
 refine wk_start ?_
 refine kb g0 (bsl 0 3 1 [.int .i64 0] (([] : List Int).map (eI .i64))) ?_
 refine kv g0 (asg) ?_
 refine wk_end ?_
 refine ac_next ?_
 refine aw_grp1 ?_
 refine wk_start ?_
 refine kv g0 (asg) ?_
 refine wk_end ?_
 refine ac_next ?_
 refine aw_grp1 ?_
 refine aw_grp1 ?_
 refine wk_start ?_
 refine kv g0 (asg) ?_
 refine wk_end ?_
 refine ac_next ?_
 refine aw_block ?_
 refine aw_loop3 (fun (k_ : Nat) (q10 : List Int) (p11 : Bool) (p12 : Int) => k_ ≤ k ∧ spec_l23Put.l0 k_ l0 a1 q10 p11 p12 = some r) (fun (q10 : List Int) (p11 : Bool) (p12 : Int) => ⟨[(0, .sl .o 1 (l0.map (eI .i64))), (1, .lit (.int .i64 a1)), (5, .row 0), (6, .lit (.bool p11)), (7, .lit (.int .i64 p12))], [(0, .row 3 1 (q10.map (eI .i64)))]⟩) k ([] : List Int) false 0 ⟨Nat.le_refl _, H⟩ (fun K_ h_ => acw hE [(0, 0)] 9999 h_) (fun _ _ _ => by intro h_; have h_ := h_.2; rw [spec_l23Put.l0.eq_1] at h_; cases h_) ?_
 intro k13 q10 p11 p12 hq_ K25 hK26
 have hk13 := hq_.1
 have H := hq_.2
 clear hq_
 rw [spec_l23Put.l0.eq_2] at H
 refine aw_grp1 ?_
 refine aw_grp1 ?_
 refine wk_start ?_
 refine kv g0 (mv) ?_
 refine kv g0 (mv) ?_
 refine kv g0 (lnS lenE) ?_
 refine kv g0 (lss) ?_
 refine wk_end ?_
 refine ac_next ?_
 by_cases c14 : p12 < (l0.length : Int)
 ·rw [if_pos c14] at H
  refine aw_ifT ?_ (decide_eq_true c14)
  refine aw_skip ?_
  refine ac_next ?_
  refine aw_grp1 ?_
  refine aw_block ?_
  refine aw_cut1 (J := fun K_ => ∀ (k_ : Nat) (q19 : List Int) (p20 : Bool), k_ ≤ k13 → spec_l23Put.j0 k_ l0 a1 p12 q19 p20 = some r → ACont E 43 ⟨[(0, .sl .o 1 (l0.map (eI .i64))), (1, .lit (.int .i64 a1)), (5, .row 0), (6, .lit (.bool p20)), (7, .lit (.int .i64 p12))], [(0, .row 3 1 (q19.map (eI .i64)))]⟩ K_) ?_ ?_
  ·intro K_ hJ24
   refine aw_grp1 ?_
   refine wk_start ?_
   refine kv g0 (mv) ?_
   refine kv g0 (not_) ?_
   refine kv g0 (mv) ?_
   by_cases c15 : p11 = true
   ·rw [if_pos c15] at H
    refine kx (hT (nF c15)) ?_
    refine kx (hT (nF c15)) ?_
    refine kx (hT (nF c15)) ?_
    refine kx (hT (nF c15)) ?_
    refine kx (hT (nF c15)) ?_
    refine kx (hT (nF c15)) ?_
    refine kv g0 (pkF (nF c15)) ?_
    refine wk_end ?_
    refine ac_next ?_
    refine aw_ifF ?_ rfl
    refine aw_skip ?_
    refine ac_k ?_
    exact acw hE [(0, 0)] 9999 (hJ24 k13 q10 p11 (Nat.le_refl _) H)
   rw [if_neg c15] at H
   refine kv (g1 (nT (bF c15))) (mv) ?_
   refine kv (g1 (nT (bF c15))) (mv) ?_
   refine kv (g1 (nT (bF c15))) (mv) ?_
   obtain ⟨c16, H⟩ := of_if H
   refine kv (g1 (nT (bF c15))) (ixS 3 (eI .i64 (rd l0 p12)) c16 (getE (z := (0 : Int)) c16 c14)) ?_
   refine kv (g1 (nT (bF c15))) (ldR (.lit (.int .i64 (rd l0 p12)))) ?_
   refine kv (g1 (nT (bF c15))) (lss) ?_
   refine kv g0 (pkT (nT (bF c15))) ?_
   refine wk_end ?_
   refine ac_next ?_
   by_cases c17 : a1 < (rd l0 p12)
   ·rw [if_pos c17] at H
    refine aw_ifT ?_ (decide_eq_true c17)
    refine aw_grp1 ?_
    refine wk_start ?_
    refine kv g0 (mv) ?_
    refine kv g0 (mv) ?_
    refine kb g0 (bsl 1 3 1 [.int .i64 0] (([a1] : List Int).map (eI .i64))) ?_
    obtain ⟨c18, H⟩ := of_if H
    refine kc g0 (apR 2 3 1 8 [.int .i64 0] ((q10 ++ ([a1] : List Int)).map (eI .i64)) (.row rfl) (apb c18 rfl) appE) ?_
    refine kv g0 (asg) ?_
    refine wk_end ?_
    refine ac_next ?_
    refine wk_start ?_
    refine kv g0 (asg) ?_
    refine wk_end ?_
    refine ac_k ?_
    exact acw hE [(0, 2)] 9999 (hJ24 k13 (q10 ++ ([a1] : List Int)) true (Nat.le_refl _) H)
   rw [if_neg c17] at H
   refine aw_ifF ?_ (decide_eq_false c17)
   refine aw_skip ?_
   refine ac_k ?_
   exact acw hE [(0, 0)] 9999 (hJ24 k13 q10 p11 (Nat.le_refl _) H)
  intro k_ q19 p20 hk_ H
  rcases k_ with _ | k21
  ·rw [spec_l23Put.j0.eq_1] at H; cases H
  have hk21 : k21 ≤ k13 := by omega
  clear hk_
  rw [spec_l23Put.j0.eq_2] at H
  refine wk_start ?_
  refine kv g0 (mv) ?_
  refine kv g0 (mv) ?_
  refine kv g0 (mv) ?_
  obtain ⟨c22, H⟩ := of_if H
  refine kv g0 (ixS 3 (eI .i64 (rd l0 p12)) c22 (getE (z := (0 : Int)) c22 c14)) ?_
  refine kv g0 (ldR (.lit (.int .i64 (rd l0 p12)))) ?_
  refine kb g0 (bsl 3 3 1 [.int .i64 0] (([(rd l0 p12)] : List Int).map (eI .i64))) ?_
  obtain ⟨c23, H⟩ := of_if H
  refine kc g0 (apR 4 3 1 8 [.int .i64 0] ((q19 ++ ([(rd l0 p12)] : List Int)).map (eI .i64)) (.row rfl) (apb c23 rfl) appE) ?_
  refine kv g0 (asg) ?_
  refine wk_end ?_
  refine ac_blkN ?_
  refine ac_next ?_
  refine wk_start ?_
  refine kv g0 (mv) ?_
  refine kv g0 (add6) ?_
  refine kv g0 (asg) ?_
  refine wk_end ?_
  refine ac_k ?_
  exact acw hE [(0, 4)] 9999 (hK26 k21 (q19 ++ ([(rd l0 p12)] : List Int)) p20 (wrap64 (p12 + 1)) (by omega) ⟨by omega, H⟩)
 rw [if_neg c14] at H
 refine aw_ifF ?_ (decide_eq_false c14)
 refine aw_exit ?_
 refine ac_then ?_
 refine ac_then ?_
 refine ac_hit rfl ?_
 refine ac_next ?_
 refine aw_grp1 ?_
 refine aw_grp1 ?_
 refine wk_start ?_
 refine kv g0 (mv) ?_
 refine kv g0 (not_) ?_
 refine wk_end ?_
 refine ac_next ?_
 by_cases c27 : p11 = true
 ·rw [if_pos c27] at H
  refine aw_ifF ?_ (nF c27)
  refine aw_skip ?_
  refine ac_next ?_
  refine aw_grp1 ?_
  refine wk_start ?_
  refine kv g0 (mv) ?_
  refine kv g0 (asg) ?_
  refine wk_end ?_
  refine ac_next ?_
  refine aw_ret ?_
  obtain rfl := Option.some.inj H
  exact acr hE [.tmp 4] (.tmp .nil) (.one _) [(0, 0)] 9999
 rw [if_neg c27] at H
 refine aw_ifT ?_ (nT (bF c27))
 refine wk_start ?_
 refine kv g0 (mv) ?_
 refine kv g0 (mv) ?_
 refine kb g0 (bsl 5 3 1 [.int .i64 0] (([a1] : List Int).map (eI .i64))) ?_
 obtain ⟨c28, H⟩ := of_if H
 refine kc g0 (apR 6 3 1 8 [.int .i64 0] ((q10 ++ ([a1] : List Int)).map (eI .i64)) (.row rfl) (apb c28 rfl) appE) ?_
 refine kv g0 (asg) ?_
 refine wk_end ?_
 refine ac_next ?_
 refine aw_grp1 ?_
 refine wk_start ?_
 refine kv g0 (mv) ?_
 refine kv g0 (asg) ?_
 refine wk_end ?_
 refine ac_next ?_
 refine aw_ret ?_
 obtain rfl := Option.some.inj H
 exact acr hE [.tmp 4] (.tmp .nil) (.one _) [(0, 6)] 9999
/-! spec_l23Said -/
def spec_l23Said.l0 : Nat → (List S41) → Int → ((List Bool)) → (List Int) → Int → Option ((List Int))
 | 0, _, _, _, _, _ => none
 | k15 + 1, l0, a1, t1, q13, p14 => if p14 < (t1.length : Int) then if 0 ≤ p14 then (if (rdOf false t1 p14) = true then (if p14 < (l0.length : Int) then (if ((rd_T41 l0 p14).f0) = a1 then ((spec_l09In.f k15 q13 ((rd_T41 l0 p14).f1)).bind fun t21 => if t21 = true then spec_l23Said.l0 k15 l0 a1 t1 q13 (wrap64 (p14 + 1)) else ((spec_l23Put.f k15 q13 ((rd_T41 l0 p14).f1)).bind fun t24 => spec_l23Said.l0 k15 l0 a1 t1 t24 (wrap64 (p14 + 1)))) else spec_l23Said.l0 k15 l0 a1 t1 q13 (wrap64 (p14 + 1))) else none) else spec_l23Said.l0 k15 l0 a1 t1 q13 (wrap64 (p14 + 1))) else none else some q13
def spec_l23Said.f (k : Nat) (l0 : List S41) (a1 : Int) : Option ((List Int)) := (spec_Reached.f k l0).bind fun t1 => spec_l23Said.l0 k l0 a1 t1 ([] : List Int) 0
theorem spec_l23Said.ok {k : Nat} {l0 : List S41} {a1 : Int} {r : (List Int)} (H : spec_l23Said.f k l0 a1 = some r) : ACalls Tryz.prog 36 [] [.sl .o 4 (l0.map e41), .lit (.int .i64 a1)] [(0, .row 3 1 (r.map (eI .i64)))] (.row 0) := by
 refine acalls (fn := Tryz.f36) (nt := 48) Tryz.func36 rfl rfl (Nat.le_of_ble_eq_true rfl) fun E hE => ?_
 rw [spec_l23Said.f] at H
 refine aw_grp1 ?_
 refine wk_start ?_
 refine kv g0 (asg) ?_
 refine wk_end ?_
 refine ac_next ?_
 refine aw_grp1 ?_
 refine wk_start ?_
 refine kb g0 (bsl 0 3 1 [.int .i64 0] (([] : List Int).map (eI .i64))) ?_
 refine kv g0 (asg) ?_
 refine wk_end ?_
 refine ac_next ?_
 refine aw_grp1 ?_
 refine wk_start ?_
 refine kv g0 (mv) ?_
 obtain ⟨t1, A2, H⟩ := of_bind H
 refine kcS1 10 (.row 1) [(1, .row 4 1 (t1.map eB))] g0 (cal (spec_Reached.ok A2) [1] 9999 .n (hf := Tryz.func50)) rfl rfl ?_
 refine kv g0 (asg) ?_
 refine wk_end ?_
 refine ac_next ?_
 refine aw_grp1 ?_
 refine aw_grp1 ?_
 refine wk_start ?_
 refine kv g0 (asg) ?_
 refine wk_end ?_
 refine ac_next ?_
 refine aw_block ?_
 refine aw_loop2 (fun (k_ : Nat) (q13 : List Int) (p14 : Int) => k_ ≤ k ∧ spec_l23Said.l0 k_ l0 a1 t1 q13 p14 = some r) (fun (q13 : List Int) (p14 : Int) => ⟨[(0, .sl .o 4 (l0.map e41)), (1, .lit (.int .i64 a1)), (5, .row 0), (6, .row 1), (7, .lit (.int .i64 p14))], [(0, .row 3 1 (q13.map (eI .i64))), (1, .row 4 1 (t1.map eB))]⟩) k ([] : List Int) 0 ⟨Nat.le_refl _, H⟩ (fun K_ h_ => acw hE [(0, 0), (1, 1)] 9999 h_) (fun _ _ => by intro h_; have h_ := h_.2; rw [spec_l23Said.l0.eq_1] at h_; cases h_) ?_
 intro k15 q13 p14 hq_ K26 hK27
 have hk15 := hq_.1
 have H := hq_.2
 clear hq_
 rw [spec_l23Said.l0.eq_2] at H
 refine aw_grp1 ?_
 refine aw_grp1 ?_
 refine wk_start ?_
 refine kv g0 (mv) ?_
 refine kv g0 (mv) ?_
 refine kv g0 (lnR lenE) ?_
 refine kv g0 (lss) ?_
 refine wk_end ?_
 refine ac_next ?_
 by_cases c16 : p14 < (t1.length : Int)
 ·rw [if_pos c16] at H
  refine aw_ifT ?_ (decide_eq_true c16)
  refine aw_skip ?_
  refine ac_next ?_
  refine aw_grp1 ?_
  refine aw_block ?_
  refine aw_grp1 ?_
  refine wk_start ?_
  refine kv g0 (mv) ?_
  refine kv g0 (mv) ?_
  obtain ⟨c17, H⟩ := of_if H
  refine kv g0 (ixR 4 c17 (ltE c16)) ?_
  refine kv g0 (ldE (eB (rdOf false t1 p14)) (.lit (.bool (rdOf false t1 p14))) (getE (z := false) c17 c16)) ?_
  refine kv g0 (mv) ?_
  by_cases c18 : (rdOf false t1 p14) = true
  ·rw [if_pos c18] at H
   refine kv (g1 c18) (mv) ?_
   refine kv (g1 c18) (mv) ?_
   obtain ⟨c19, H⟩ := of_if H
   refine kv (g1 c18) (ixS 41 (e41 (rd_T41 l0 p14)) c17 (getE (z := z41) c17 c19)) ?_
   refine kv (g1 c18) (faR 0 0) ?_
   refine kv (g1 c18) (ldR (.lit (.int .i64 ((rd_T41 l0 p14).f0)))) ?_
   refine kv (g1 c18) (mv) ?_
   refine kv (g1 c18) (eql) ?_
   refine kv g0 (pkT c18) ?_
   refine kv g0 (mv) ?_
   by_cases c20 : ((rd_T41 l0 p14).f0) = a1
   ·rw [if_pos c20] at H
    refine kv (g1 (eT c20)) (mv) ?_
    refine kv (g1 (eT c20)) (mv) ?_
    refine kv (g1 (eT c20)) (mv) ?_
    refine kv (g1 (eT c20)) (ixS 41 (e41 (rd_T41 l0 p14)) c17 (getE (z := z41) c17 c19)) ?_
    refine kv (g1 (eT c20)) (faR 1 1) ?_
    refine kv (g1 (eT c20)) (ldR (.lit (.int .i64 ((rd_T41 l0 p14).f1)))) ?_
    obtain ⟨t21, A22, H⟩ := of_bind H
    refine kcS0 37 (.lit (.bool t21)) [] (g1 (eT c20)) (cal (spec_l09In.ok A22) [] 9999 .n (hf := Tryz.func51)) rfl rfl ?_
    refine kv (g1 (eT c20)) (not_) ?_
    refine kv g0 (pkT (eT c20)) ?_
    refine wk_end ?_
    refine ac_next ?_
    by_cases c23 : t21 = true
    ·rw [if_pos c23] at H
     refine aw_ifF ?_ (nF c23)
     refine aw_skip ?_
     refine ac_blkN ?_
     refine ac_next ?_
     refine wk_start ?_
     refine kv g0 (mv) ?_
     refine kv g0 (add6) ?_
     refine kv g0 (asg) ?_
     refine wk_end ?_
     refine ac_k ?_
     exact acw hE [(0, 0), (1, 1)] 9999 (hK27 k15 q13 (wrap64 (p14 + 1)) (Nat.le_refl _) ⟨by omega, H⟩)
    rw [if_neg c23] at H
    refine aw_ifT ?_ (nT (bF c23))
    refine wk_start ?_
    refine kv g0 (mv) ?_
    refine kv g0 (mv) ?_
    refine kv g0 (mv) ?_
    refine kv g0 (ixS 41 (e41 (rd_T41 l0 p14)) c17 (getE (z := z41) c17 c19)) ?_
    refine kv g0 (faR 1 1) ?_
    refine kv g0 (ldR (.lit (.int .i64 ((rd_T41 l0 p14).f1)))) ?_
    obtain ⟨t24, A25, H⟩ := of_bind H
    refine kcS1 46 (.row 2) [(2, .row 3 1 (t24.map (eI .i64)))] g0 (cal (spec_l23Put.ok A25) [2] 9999 .n (hf := Tryz.func52)) rfl rfl ?_
    refine kv g0 (asg) ?_
    refine wk_end ?_
    refine ac_blkN ?_
    refine ac_next ?_
    refine wk_start ?_
    refine kv g0 (mv) ?_
    refine kv g0 (add6) ?_
    refine kv g0 (asg) ?_
    refine wk_end ?_
    refine ac_k ?_
    exact acw hE [(0, 2), (1, 1)] 9999 (hK27 k15 t24 (wrap64 (p14 + 1)) (Nat.le_refl _) ⟨by omega, H⟩)
   rw [if_neg c20] at H
   refine kx (hT (eF c20)) ?_
   refine kx (hT (eF c20)) ?_
   refine kx (hT (eF c20)) ?_
   refine kx (hT (eF c20)) ?_
   refine kx (hT (eF c20)) ?_
   refine kx (hT (eF c20)) ?_
   refine kx (hT (eF c20)) ?_
   refine kx (hT (eF c20)) ?_
   refine kv g0 (pkF (eF c20)) ?_
   refine wk_end ?_
   refine ac_next ?_
   refine aw_ifF ?_ rfl
   refine aw_skip ?_
   refine ac_blkN ?_
   refine ac_next ?_
   refine wk_start ?_
   refine kv g0 (mv) ?_
   refine kv g0 (add6) ?_
   refine kv g0 (asg) ?_
   refine wk_end ?_
   refine ac_k ?_
   exact acw hE [(0, 0), (1, 1)] 9999 (hK27 k15 q13 (wrap64 (p14 + 1)) (Nat.le_refl _) ⟨by omega, H⟩)
  rw [if_neg c18] at H
  refine kx (hT (bF c18)) ?_
  refine kx (hT (bF c18)) ?_
  refine kx (hT (bF c18)) ?_
  refine kx (hT (bF c18)) ?_
  refine kx (hT (bF c18)) ?_
  refine kx (hT (bF c18)) ?_
  refine kx (hT (bF c18)) ?_
  refine kv g0 (pkF (bF c18)) ?_
  refine kv g0 (mv) ?_
  refine kx (hT rfl) ?_
  refine kx (hT rfl) ?_
  refine kx (hT rfl) ?_
  refine kx (hT rfl) ?_
  refine kx (hT rfl) ?_
  refine kx (hT rfl) ?_
  refine kx (hT rfl) ?_
  refine kx (hT rfl) ?_
  refine kv g0 (pkF rfl) ?_
  refine wk_end ?_
  refine ac_next ?_
  refine aw_ifF ?_ rfl
  refine aw_skip ?_
  refine ac_blkN ?_
  refine ac_next ?_
  refine wk_start ?_
  refine kv g0 (mv) ?_
  refine kv g0 (add6) ?_
  refine kv g0 (asg) ?_
  refine wk_end ?_
  refine ac_k ?_
  exact acw hE [(0, 0), (1, 1)] 9999 (hK27 k15 q13 (wrap64 (p14 + 1)) (Nat.le_refl _) ⟨by omega, H⟩)
 rw [if_neg c16] at H
 refine aw_ifF ?_ (decide_eq_false c16)
 refine aw_exit ?_
 refine ac_then ?_
 refine ac_then ?_
 refine ac_hit rfl ?_
 refine ac_next ?_
 refine aw_grp1 ?_
 refine wk_start ?_
 refine kv g0 (mv) ?_
 refine kv g0 (asg) ?_
 refine wk_end ?_
 refine ac_next ?_
 refine aw_ret ?_
 obtain rfl := Option.some.inj H
 exact acr hE [.tmp 4] (.tmp .nil) (.one _) [(0, 0)] 9999
/-! spec_ResultsIn -/
def spec_ResultsIn.f (k : Nat) (l0 : List S41) : Option ((List Int)) := (spec_l23Said.f k l0 8).bind fun t1 => some t1
theorem spec_ResultsIn.ok {k : Nat} {l0 : List S41} {r : (List Int)} (H : spec_ResultsIn.f k l0 = some r) : ACalls Tryz.prog 17 [] [.sl .o 4 (l0.map e41)] [(0, .row 3 1 (r.map (eI .i64)))] (.row 0) := by
 refine acalls (fn := Tryz.f17) (nt := 5) Tryz.func17 rfl rfl (Nat.le_of_ble_eq_true rfl) fun E hE => ?_
 rw [spec_ResultsIn.f] at H
 refine aw_grp1 ?_
 refine wk_start ?_
 refine kv g0 (asg) ?_
 refine wk_end ?_
 refine ac_next ?_
 refine aw_grp1 ?_
 refine wk_start ?_
 refine kv g0 (mv) ?_
 obtain ⟨t1, A2, H⟩ := of_bind H
 refine kcS1 4 (.row 0) [(0, .row 3 1 (t1.map (eI .i64)))] g0 (cal (spec_l23Said.ok A2) [0] 9999 .n (hf := Tryz.func36)) rfl rfl ?_
 refine kv g0 (asg) ?_
 refine wk_end ?_
 refine ac_next ?_
 refine aw_ret ?_
 obtain rfl := Option.some.inj H
 exact acr hE [.tmp 2] (.tmp .nil) (.one _) [(0, 0)] 9999
/-! impl_FieldsRead -/
def impl_FieldsRead.f (k : Nat) (l0 : List S41) : Option ((List Int)) := (impl_numbersIn.f k l0 1).bind fun t1 => some t1
theorem impl_FieldsRead.ok {k : Nat} {l0 : List S41} {r : (List Int)} (H : impl_FieldsRead.f k l0 = some r) : ACalls Tryz.prog 18 [] [.sl .o 4 (l0.map e41)] [(0, .row 3 1 (r.map (eI .i64)))] (.row 0) := by
 refine acalls (fn := Tryz.f18) (nt := 5) Tryz.func18 rfl rfl (Nat.le_of_ble_eq_true rfl) fun E hE => ?_
 rw [impl_FieldsRead.f] at H
 refine aw_grp1 ?_
 refine wk_start ?_
 refine kv g0 (asg) ?_
 refine wk_end ?_
 refine ac_next ?_
 refine aw_grp1 ?_
 refine wk_start ?_
 refine kv g0 (mv) ?_
 obtain ⟨t1, A2, H⟩ := of_bind H
 refine kcS1 4 (.row 0) [(0, .row 3 1 (t1.map (eI .i64)))] g0 (cal (impl_numbersIn.ok A2) [0] 9999 .n (hf := Tryz.func35)) rfl rfl ?_
 refine kv g0 (asg) ?_
 refine wk_end ?_
 refine ac_next ?_
 refine aw_ret ?_
 obtain rfl := Option.some.inj H
 exact acr hE [.tmp 2] (.tmp .nil) (.one _) [(0, 0)] 9999
/-! spec_FieldsRead -/
def spec_FieldsRead.f (k : Nat) (l0 : List S41) : Option ((List Int)) := (spec_l23Said.f k l0 1).bind fun t1 => some t1
theorem spec_FieldsRead.ok {k : Nat} {l0 : List S41} {r : (List Int)} (H : spec_FieldsRead.f k l0 = some r) : ACalls Tryz.prog 19 [] [.sl .o 4 (l0.map e41)] [(0, .row 3 1 (r.map (eI .i64)))] (.row 0) := by
 refine acalls (fn := Tryz.f19) (nt := 5) Tryz.func19 rfl rfl (Nat.le_of_ble_eq_true rfl) fun E hE => ?_
 rw [spec_FieldsRead.f] at H
 refine aw_grp1 ?_
 refine wk_start ?_
 refine kv g0 (asg) ?_
 refine wk_end ?_
 refine ac_next ?_
 refine aw_grp1 ?_
 refine wk_start ?_
 refine kv g0 (mv) ?_
 obtain ⟨t1, A2, H⟩ := of_bind H
 refine kcS1 4 (.row 0) [(0, .row 3 1 (t1.map (eI .i64)))] g0 (cal (spec_l23Said.ok A2) [0] 9999 .n (hf := Tryz.func36)) rfl rfl ?_
 refine kv g0 (asg) ?_
 refine wk_end ?_
 refine ac_next ?_
 refine aw_ret ?_
 obtain rfl := Option.some.inj H
 exact acr hE [.tmp 2] (.tmp .nil) (.one _) [(0, 0)] 9999
end Go.Proofs.YtlmpaphlnlgelaaGreat.PFnWaysTold
