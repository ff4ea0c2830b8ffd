import Derived.Test.YthfflkfpmebbbaaPFnWaysx1
set_option linter.unusedVariables false
set_option linter.unusedSimpArgs false
set_option maxRecDepth 100000
namespace Go.Proofs.Ythfflkfpmebbbaa.PFnWays
open Go Go.RowKit Go.Proofs.YthfflkfpmebbbaaA
/-! impl_runs, handed impl_WaysIn_1 -/
mutual
def impl_runs_w45.l0 : Nat → (List S46) → (List Int) → Int → ((List Int)) → (List Int) → Int → Option (Int)
 | 0, _, _, _, _, _, _ => none
 | k45 + 1, l0, q30, p31, t36, q43, p44 => if p44 < (t36.length : Int) then if 0 ≤ p44 then if 0 ≤ (rd t36 p44) then (if (rd t36 p44) < (q30.length : Int) then (if q43.length + ([(rd q30 (rd t36 p44))] : List Int).length < 17592186044416 then impl_runs_w45.l0 k45 l0 q30 p31 t36 (q43 ++ ([(rd q30 (rd t36 p44))] : List Int)) (wrap64 (p44 + 1)) else none) else none) else none else none else (impl_WaysIn_1.f k45 q43).bind fun t53 => (if p31 < (q30.length : Int) then impl_runs_w45.l1 k45 l0 (q30.set p31.toNat t53) (wrap64 (p31 - 1)) else none)
def impl_runs_w45.l1 : Nat → (List S46) → (List Int) → Int → Option (Int)
 | 0, _, _, _ => none
 | k32 + 1, l0, q30, p31 => if p31 ≥ 0 then if 0 ≤ p31 then (if p31 < (l0.length : Int) then ((impl_ways.f k32 ((rd_T46 l0 p31).f0) ((rd_T46 l0 p31).f1) ((rd_T46 l0 p31).f2) ((rd_T46 l0 p31).f3) p31).bind fun t36 => impl_runs_w45.l0 k32 l0 q30 p31 t36 ([] : List Int) 0) else none) else none else if 0 < (q30.length : Int) then some (rd q30 0) else none
end
def impl_runs_w45.f (k : Nat) (l0 : List S46) : Option (Int) := (impl_CheckProgram.f k l0).bind fun t1 => if t1 = true then if 0 ≤ (l0.length : Int) then (if (l0.length : Int).toNat ≤ 35184372088832 then impl_runs_w45.l1 k l0 (List.replicate (l0.length : Int).toNat (0 : Int)) (wrap64 ((l0.length : Int) - 1)) else none) else none else some 0
theorem impl_runs_w45.ok {k : Nat} {l0 : List S46} {r : Int} (H : impl_runs_w45.f k l0 = some r) : ACalls Try.prog 43 [] [.sl .o 4 (l0.map e46), .fn 45 []] [] (.lit (.int .i64 r)) := by
 refine acalls (fn := Try.f43) (nt := 52) Try.func43 rfl rfl (Nat.le_of_ble_eq_true rfl) fun E hE => ?_
 rw [impl_runs_w45.f] at H
 refine aw_grp1 ?_
 refine wk_start ?_
 refine kv g0 (asg) ?_
 refine wk_end ?_
 refine ac_next ?_
 refine aw_grp1 ?_
 refine aw_grp1 ?_
 refine wk_start ?_
 refine kv g0 (mv) ?_
 obtain ⟨t1, A2, H⟩ := of_bind H
 refine kcS0 11 (.lit (.bool t1)) [] g0 (cal (impl_CheckProgram.ok A2) [] 9999 .n (hf := Try.func48)) rfl rfl ?_
 refine kv g0 (not_) ?_
 refine wk_end ?_
 refine ac_next ?_
 by_cases c3 : t1 = true
 ·rw [if_pos c3] at H
  refine aw_ifF ?_ (nF c3)
  refine aw_skip ?_
  refine ac_next ?_
  refine aw_grp1 ?_
  refine wk_start ?_
  refine kv g0 (mv) ?_
  refine kv g0 (lnS lenE) ?_
  obtain ⟨c4, H⟩ := of_if H
  obtain ⟨c5, H⟩ := of_if H
  refine kb g0 (mks 0 3 1 8 [.int .i64 0] (eI .i64 (0 : Int)) ((List.replicate (l0.length : Int).toNat (0 : Int)).map (eI .i64)) c4 (mkb c5 rfl) repE) ?_
  refine kv g0 (asg) ?_
  refine wk_end ?_
  refine ac_next ?_
  refine aw_grp1 ?_
  refine aw_grp1 ?_
  refine wk_start ?_
  refine kv g0 (mv) ?_
  refine kv g0 (lnS lenE) ?_
  refine kv g0 (sub6) ?_
  refine kv g0 (asg) ?_
  refine wk_end ?_
  refine ac_next ?_
  refine aw_block ?_
  refine aw_loop2 (fun (k_ : Nat) (q30 : List Int) (p31 : Int) => k_ ≤ k ∧ impl_runs_w45.l1 k_ l0 q30 p31 = some r) (fun (q30 : List Int) (p31 : Int) => ⟨[(0, .sl .o 4 (l0.map e46)), (1, .fn 45 []), (5, .row 0), (6, .lit (.int .i64 p31))], [(0, .row 3 1 (q30.map (eI .i64)))]⟩) k (List.replicate (l0.length : Int).toNat (0 : Int)) (wrap64 ((l0.length : Int) - 1)) ⟨Nat.le_refl _, H⟩ (fun K_ h_ => acw hE [(0, 0)] 9999 h_) (fun _ _ => by intro h_; have h_ := h_.2; rw [impl_runs_w45.l1.eq_1] at h_; cases h_) ?_
  intro k32 q30 p31 hq_ K56 hK57
  have hk32 := hq_.1
  have H := hq_.2
  clear hq_
  rw [impl_runs_w45.l1.eq_2] at H
  refine aw_grp1 ?_
  refine aw_grp1 ?_
  refine wk_start ?_
  refine kv g0 (mv) ?_
  refine kv g0 (geq) ?_
  refine wk_end ?_
  refine ac_next ?_
  by_cases c33 : p31 ≥ 0
  ·rw [if_pos c33] at H
   refine aw_ifT ?_ (decide_eq_true c33)
   refine aw_skip ?_
   refine ac_next ?_
   refine aw_grp1 ?_
   refine aw_block ?_
   refine aw_grp1 ?_
   refine wk_start ?_
   refine kb g0 (bsl 1 3 1 [.int .i64 0] (([] : List Int).map (eI .i64))) ?_
   refine kv g0 (asg) ?_
   refine wk_end ?_
   refine ac_next ?_
   refine aw_grp1 ?_
   refine aw_grp1 ?_
   refine wk_start ?_
   refine kv g0 (mv) ?_
   refine kv g0 (mv) ?_
   obtain ⟨c34, H⟩ := of_if H
   obtain ⟨c35, H⟩ := of_if H
   refine kv g0 (ixS 46 (e46 (rd_T46 l0 p31)) c34 (getE (z := z46) c34 c35)) ?_
   refine kv g0 (ldRA 4 [.lit (.int .i64 ((rd_T46 l0 p31).f0)), .lit (.int .i64 ((rd_T46 l0 p31).f1)), .lit (.int .i64 ((rd_T46 l0 p31).f2)), .lit (.int .i64 ((rd_T46 l0 p31).f3))]) ?_
   refine kv g0 (mv) ?_
   obtain ⟨t36, A37, H⟩ := of_bind H
   refine kcS1 29 (.row 2) [(2, .row 3 1 (t36.map (eI .i64)))] g0 (cal (impl_ways.ok A37) [2] 9999 .n (hf := Try.func50)) rfl rfl ?_
   refine kv g0 (lnR lenE) ?_
   refine kv g0 (mv) ?_
   refine wk_end ?_
   refine ac_next ?_
   refine aw_block ?_
   refine aw_loop2 (fun (k_ : Nat) (q43 : List Int) (p44 : Int) => k_ ≤ k32 ∧ impl_runs_w45.l0 k_ l0 q30 p31 t36 q43 p44 = some r) (fun (q43 : List Int) (p44 : Int) => ⟨[(0, .sl .o 4 (l0.map e46)), (1, .fn 45 []), (5, .row 0), (6, .lit (.int .i64 p31)), (7, .row 1), (29, .row 2), (30, .lit (.int .i64 (t36.length : Int))), (31, .lit (.int .i64 p44))], [(0, .row 3 1 (q30.map (eI .i64))), (1, .row 3 1 (q43.map (eI .i64))), (2, .row 3 1 (t36.map (eI .i64)))]⟩) k32 ([] : List Int) 0 ⟨Nat.le_refl _, H⟩ (fun K_ h_ => acw hE [(0, 0), (1, 1), (2, 2)] 9999 h_) (fun _ _ => by intro h_; have h_ := h_.2; rw [impl_runs_w45.l0.eq_1] at h_; cases h_) ?_
   intro k45 q43 p44 hq_ K51 hK52
   have hk45 := hq_.1
   have H := hq_.2
   clear hq_
   rw [impl_runs_w45.l0.eq_2] at H
   refine aw_grp1 ?_
   refine wk_start ?_
   refine kv g0 (lss) ?_
   refine wk_end ?_
   refine ac_next ?_
   refine aw_grp1 ?_
   by_cases c46 : p44 < (t36.length : Int)
   ·rw [if_pos c46] at H
    refine aw_ifT ?_ (decide_eq_true c46)
    refine aw_skip ?_
    refine ac_next ?_
    refine aw_grp1 ?_
    refine aw_block ?_
    refine aw_grp1 ?_
    refine wk_start ?_
    obtain ⟨c47, H⟩ := of_if H
    refine kv g0 (ixR 3 c47 (ltE c46)) ?_
    refine kv g0 (ldE (eI .i64 (rd t36 p44)) (.lit (.int .i64 (rd t36 p44))) (getE (z := (0 : Int)) c47 c46)) ?_
    refine kv g0 (asg) ?_
    refine wk_end ?_
    refine ac_next ?_
    refine wk_start ?_
    refine kv g0 (mv) ?_
    refine kv g0 (mv) ?_
    refine kv g0 (mv) ?_
    obtain ⟨c48, H⟩ := of_if H
    obtain ⟨c49, H⟩ := of_if H
    refine kv g0 (ixR 3 c48 (ltE c49)) ?_
    refine kv g0 (ldE (eI .i64 (rd q30 (rd t36 p44))) (.lit (.int .i64 (rd q30 (rd t36 p44)))) (getE (z := (0 : Int)) c48 c49)) ?_
    refine kb g0 (bsl 3 3 1 [.int .i64 0] (([(rd q30 (rd t36 p44))] : List Int).map (eI .i64))) ?_
    obtain ⟨c50, H⟩ := of_if H
    refine kc g0 (apR 4 3 1 8 [.int .i64 0] ((q43 ++ ([(rd q30 (rd t36 p44))] : List Int)).map (eI .i64)) (.row rfl) (apb c50 rfl) appE) ?_
    refine kv g0 (asg) ?_
    refine wk_end ?_
    refine ac_blkN ?_
    refine ac_next ?_
    refine wk_start ?_
    refine kv g0 (add6) ?_
    refine kv g0 (mv) ?_
    refine wk_end ?_
    refine ac_k ?_
    exact acw hE [(0, 0), (1, 4), (2, 2)] 9999 (hK52 k45 (q43 ++ ([(rd q30 (rd t36 p44))] : List Int)) (wrap64 (p44 + 1)) (Nat.le_refl _) ⟨by omega, H⟩)
   rw [if_neg c46] at H
   refine aw_ifF ?_ (decide_eq_false c46)
   refine aw_exit ?_
   refine ac_then ?_
   refine ac_then ?_
   refine ac_hit rfl ?_
   refine ac_next ?_
   refine wk_start ?_
   refine kv g0 (mv) ?_
   refine kv g0 (mv) ?_
   refine kv g0 (mv) ?_
   refine kv g0 (mv) ?_
   obtain ⟨t53, A54, H⟩ := of_bind H
   refine kcS0 47 (.lit (.int .i64 t53)) [] g0 (cal (impl_WaysIn_1.ok A54) [] 9999 .n (hf := Try.func45)) rfl rfl ?_
   obtain ⟨c55, H⟩ := of_if H
   refine kv g0 (ixR 3 c34 (ltE c55)) ?_
   refine ks g0 (stE 1 (eI .i64 t53) ((q30.set p31.toNat t53).map (eI .i64)) (getE (z := (0 : Int)) c34 c55) setE) ?_
   refine wk_end ?_
   refine ac_blkN ?_
   refine ac_next ?_
   refine wk_start ?_
   refine kv g0 (mv) ?_
   refine kv g0 (sub6) ?_
   refine kv g0 (asg) ?_
   refine wk_end ?_
   refine ac_k ?_
   exact acw hE [(0, 0)] 9999 (hK57 k45 (q30.set p31.toNat t53) (wrap64 (p31 - 1)) (by omega) ⟨by omega, H⟩)
  rw [if_neg c33] at H
  refine aw_ifF ?_ (decide_eq_false c33)
  refine aw_exit ?_
  refine ac_then ?_
  refine ac_then ?_
  refine ac_hit rfl ?_
  refine ac_next ?_
  refine aw_grp1 ?_
  refine wk_start ?_
  refine kv g0 (mv) ?_
  obtain ⟨c58, H⟩ := of_if H
  refine kv g0 (ixR 3 (by decide : (0 : Int) ≤ 0) (ltE c58)) ?_
  refine kv g0 (ldE (eI .i64 (rd q30 0)) (.lit (.int .i64 (rd q30 0))) (getE (z := (0 : Int)) (by decide : (0 : Int) ≤ 0) c58)) ?_
  refine kv g0 (asg) ?_
  refine wk_end ?_
  refine ac_next ?_
  refine aw_ret ?_
  obtain rfl := Option.some.inj H
  exact acr hE [.tmp 4] (.tmp .nil) (.one _) [] 9999
 rw [if_neg c3] at H
 refine aw_ifT ?_ (nT (bF c3))
 refine aw_grp1 ?_
 refine wk_start ?_
 refine kv g0 (asg) ?_
 refine wk_end ?_
 refine ac_next ?_
 refine aw_ret ?_
 refine ac_thenR ?_
 obtain rfl := Option.some.inj H
 exact acr hE [.tmp 4] (.tmp .nil) (.one _) [] 9999
/-! impl_WaysIn -/
def impl_WaysIn.f (k : Nat) (l0 : List S46) : Option (Int) := (impl_runs_w45.f k l0).bind fun t1 => some t1
theorem impl_WaysIn.ok {k : Nat} {l0 : List S46} {r : Int} (H : impl_WaysIn.f k l0 = some r) : ACalls Try.prog 23 [] [.sl .o 4 (l0.map e46)] [] (.lit (.int .i64 r)) := by
 refine acalls (fn := Try.f23) (nt := 5) Try.func23 rfl rfl (Nat.le_of_ble_eq_true rfl) fun E hE => ?_
 rw [impl_WaysIn.f] at H
 refine aw_grp1 ?_
 refine wk_start ?_
 refine kv g0 (asg) ?_
 refine wk_end ?_
 refine ac_next ?_
 refine aw_grp1 ?_
 refine wk_start ?_
 refine kv g0 (mv) ?_
 obtain ⟨t1, A2, H⟩ := of_bind H
 refine kcS0 4 (.lit (.int .i64 t1)) [] g0 (cal (impl_runs_w45.ok A2) [] 9999 .n (hf := Try.func43)) rfl rfl ?_
 refine kv g0 (asg) ?_
 refine wk_end ?_
 refine ac_next ?_
 refine aw_ret ?_
 obtain rfl := Option.some.inj H
 exact acr hE [.tmp 2] (.tmp .nil) (.one _) [] 9999
/-! impl_Reached -/
mutual
def impl_Reached.l0 : Nat → (List S46) → Int → ((List Int)) → (List Bool) → Int → Option ((List Bool))
 | 0, _, _, _, _, _ => none
 | k41 + 1, l0, p27, t33, q39, p40 => if p40 < (t33.length : Int) then if 0 ≤ p40 then if 0 ≤ (rd t33 p40) then (if (rd t33 p40) < (q39.length : Int) then impl_Reached.l0 k41 l0 p27 t33 (q39.set (rd t33 p40).toNat true) (wrap64 (p40 + 1)) else none) else none else none else impl_Reached.l1 k41 l0 q39 (wrap64 (p27 + 1))
def impl_Reached.l1 : Nat → (List S46) → (List Bool) → Int → Option ((List Bool))
 | 0, _, _, _ => none
 | k28 + 1, l0, q26, p27 => if p27 < (l0.length : Int) then if 0 ≤ p27 then if p27 < (q26.length : Int) then if (rdOf false q26 p27) = true then (impl_ways.f k28 ((rd_T46 l0 p27).f0) ((rd_T46 l0 p27).f1) ((rd_T46 l0 p27).f2) ((rd_T46 l0 p27).f3) p27).bind fun t33 => impl_Reached.l0 k28 l0 p27 t33 q26 0 else impl_Reached.l1 k28 l0 q26 (wrap64 (p27 + 1)) else none else none else some q26
end
def impl_Reached.f (k : Nat) (l0 : List S46) : Option ((List Bool)) := (impl_CheckProgram.f k l0).bind fun t1 => if t1 = true then if 0 ≤ (l0.length : Int) then (if (l0.length : Int).toNat ≤ 281474976710656 then if 0 < ((List.replicate (l0.length : Int).toNat false).length : Int) then impl_Reached.l1 k l0 ((List.replicate (l0.length : Int).toNat false).set 0 true) 0 else none else none) else none else some ([] : List Bool)
theorem impl_Reached.ok {k : Nat} {l0 : List S46} {r : (List Bool)} (H : impl_Reached.f k l0 = some r) : ACalls Try.prog 64 [] [.sl .o 4 (l0.map e46)] [(0, .row 4 1 (r.map eB))] (.row 0) := by
 refine acalls (fn := Try.f64) (nt := 43) Try.func64 rfl rfl (Nat.le_of_ble_eq_true rfl) fun E hE => ?_
 rw [impl_Reached.f] at H
 refine aw_grp1 ?_
 refine wk_start ?_
 refine kv g0 (asg) ?_
 refine wk_end ?_
 refine ac_next ?_
 refine aw_grp1 ?_
 refine aw_grp1 ?_
 refine wk_start ?_
 refine kv g0 (mv) ?_
 obtain ⟨t1, A2, H⟩ := of_bind H
 refine kcS0 9 (.lit (.bool t1)) [] g0 (cal (impl_CheckProgram.ok A2) [] 9999 .n (hf := Try.func48)) rfl rfl ?_
 refine kv g0 (not_) ?_
 refine wk_end ?_
 refine ac_next ?_
 by_cases c3 : t1 = true
 ·rw [if_pos c3] at H
  refine aw_ifF ?_ (nF c3)
  refine aw_skip ?_
  refine ac_next ?_
  refine aw_grp1 ?_
  refine wk_start ?_
  refine kv g0 (mv) ?_
  refine kv g0 (lnS lenE) ?_
  obtain ⟨c4, H⟩ := of_if H
  obtain ⟨c5, H⟩ := of_if H
  refine kb g0 (mks 1 4 1 1 [.bool false] (eB false) ((List.replicate (l0.length : Int).toNat false).map eB) c4 (mkb c5 rfl) repE) ?_
  refine kv g0 (asg) ?_
  refine wk_end ?_
  refine ac_next ?_
  refine aw_grp1 ?_
  refine wk_start ?_
  refine kv g0 (mv) ?_
  obtain ⟨c6, H⟩ := of_if H
  refine kv g0 (ixR 4 (by decide : (0 : Int) ≤ 0) (ltE c6)) ?_
  refine ks g0 (stE 1 (eB true) (((List.replicate (l0.length : Int).toNat false).set 0 true).map eB) (getE (z := false) (by decide : (0 : Int) ≤ 0) c6) setE) ?_
  refine wk_end ?_
  refine ac_next ?_
  refine aw_grp1 ?_
  refine aw_grp1 ?_
  refine wk_start ?_
  refine kv g0 (mv) ?_
  refine kv g0 (lnS lenE) ?_
  refine kv g0 (mv) ?_
  refine wk_end ?_
  refine ac_next ?_
  refine aw_block ?_
  refine aw_loop2 (fun (k_ : Nat) (q26 : List Bool) (p27 : Int) => k_ ≤ k ∧ impl_Reached.l1 k_ l0 q26 p27 = some r) (fun (q26 : List Bool) (p27 : Int) => ⟨[(3, .row 1), (17, .sl .o 4 (l0.map e46)), (18, .lit (.int .i64 (l0.length : Int))), (19, .lit (.int .i64 p27))], [(1, .row 4 1 (q26.map eB))]⟩) k ((List.replicate (l0.length : Int).toNat false).set 0 true) 0 ⟨Nat.le_refl _, H⟩ (fun K_ h_ => acw hE [(1, 1)] 9999 h_) (fun _ _ => by intro h_; have h_ := h_.2; rw [impl_Reached.l1.eq_1] at h_; cases h_) ?_
  intro k28 q26 p27 hq_ K48 hK49
  have hk28 := hq_.1
  have H := hq_.2
  clear hq_
  rw [impl_Reached.l1.eq_2] at H
  refine aw_grp1 ?_
  refine wk_start ?_
  refine kv g0 (lss) ?_
  refine wk_end ?_
  refine ac_next ?_
  refine aw_grp1 ?_
  by_cases c29 : p27 < (l0.length : Int)
  ·rw [if_pos c29] at H
   refine aw_ifT ?_ (decide_eq_true c29)
   refine aw_skip ?_
   refine ac_next ?_
   refine aw_grp1 ?_
   refine aw_block ?_
   refine aw_grp1 ?_
   refine wk_start ?_
   refine kv g0 (mv) ?_
   obtain ⟨c30, H⟩ := of_if H
   refine kv g0 (ixS 46 (e46 (rd_T46 l0 p27)) c30 (getE (z := z46) c30 c29)) ?_
   refine kv g0 (ldRA 4 [.lit (.int .i64 ((rd_T46 l0 p27).f0)), .lit (.int .i64 ((rd_T46 l0 p27).f1)), .lit (.int .i64 ((rd_T46 l0 p27).f2)), .lit (.int .i64 ((rd_T46 l0 p27).f3))]) ?_
   refine kb g0 (alc 2 [.int .i64 0, .int .i64 0, .int .i64 0, .int .i64 0] [.lit (.int .i64 0), .lit (.int .i64 0), .lit (.int .i64 0), .lit (.int .i64 0)]) ?_
   refine kv g0 (asg) ?_
   refine ks g0 (stB 4 [.lit (.int .i64 ((rd_T46 l0 p27).f0)), .lit (.int .i64 ((rd_T46 l0 p27).f1)), .lit (.int .i64 ((rd_T46 l0 p27).f2)), .lit (.int .i64 ((rd_T46 l0 p27).f3))]) ?_
   refine wk_end ?_
   refine ac_next ?_
   refine aw_grp1 ?_
   refine aw_grp1 ?_
   refine wk_start ?_
   refine kv g0 (mv) ?_
   refine kv g0 (mv) ?_
   obtain ⟨c31, H⟩ := of_if H
   refine kv g0 (ixR 4 c30 (ltE c31)) ?_
   refine kv g0 (ldE (eB (rdOf false q26 p27)) (.lit (.bool (rdOf false q26 p27))) (getE (z := false) c30 c31)) ?_
   refine kv g0 (not_) ?_
   refine wk_end ?_
   refine ac_next ?_
   by_cases c32 : (rdOf false q26 p27) = true
   ·rw [if_pos c32] at H
    refine aw_ifF ?_ (nF c32)
    refine aw_skip ?_
    refine ac_next ?_
    refine aw_grp1 ?_
    refine wk_start ?_
    refine kv g0 (ldBA 4 [.lit (.int .i64 ((rd_T46 l0 p27).f0)), .lit (.int .i64 ((rd_T46 l0 p27).f1)), .lit (.int .i64 ((rd_T46 l0 p27).f2)), .lit (.int .i64 ((rd_T46 l0 p27).f3))]) ?_
    refine kv g0 (mv) ?_
    obtain ⟨t33, A34, H⟩ := of_bind H
    refine kcS1 31 (.row 3) [(3, .row 3 1 (t33.map (eI .i64)))] g0 (cal (impl_ways.ok A34) [3] 9999 .n (hf := Try.func50)) rfl rfl ?_
    refine kv g0 (lnR lenE) ?_
    refine kv g0 (mv) ?_
    refine wk_end ?_
    refine ac_next ?_
    refine aw_block ?_
    refine aw_loop2 (fun (k_ : Nat) (q39 : List Bool) (p40 : Int) => k_ ≤ k28 ∧ impl_Reached.l0 k_ l0 p27 t33 q39 p40 = some r) (fun (q39 : List Bool) (p40 : Int) => ⟨[(3, .row 1), (17, .sl .o 4 (l0.map e46)), (18, .lit (.int .i64 (l0.length : Int))), (19, .lit (.int .i64 p27)), (31, .row 3), (32, .lit (.int .i64 (t33.length : Int))), (33, .lit (.int .i64 p40))], [(1, .row 4 1 (q39.map eB)), (3, .row 3 1 (t33.map (eI .i64)))]⟩) k28 q26 0 ⟨Nat.le_refl _, H⟩ (fun K_ h_ => acw hE [(1, 1), (3, 3)] 9999 h_) (fun _ _ => by intro h_; have h_ := h_.2; rw [impl_Reached.l0.eq_1] at h_; cases h_) ?_
    intro k41 q39 p40 hq_ K46 hK47
    have hk41 := hq_.1
    have H := hq_.2
    clear hq_
    rw [impl_Reached.l0.eq_2] at H
    refine aw_grp1 ?_
    refine wk_start ?_
    refine kv g0 (lss) ?_
    refine wk_end ?_
    refine ac_next ?_
    refine aw_grp1 ?_
    by_cases c42 : p40 < (t33.length : Int)
    ·rw [if_pos c42] at H
     refine aw_ifT ?_ (decide_eq_true c42)
     refine aw_skip ?_
     refine ac_next ?_
     refine aw_grp1 ?_
     refine aw_block ?_
     refine aw_grp1 ?_
     refine wk_start ?_
     obtain ⟨c43, H⟩ := of_if H
     refine kv g0 (ixR 3 c43 (ltE c42)) ?_
     refine kv g0 (ldE (eI .i64 (rd t33 p40)) (.lit (.int .i64 (rd t33 p40))) (getE (z := (0 : Int)) c43 c42)) ?_
     refine kv g0 (asg) ?_
     refine wk_end ?_
     refine ac_next ?_
     refine wk_start ?_
     refine kv g0 (mv) ?_
     refine kv g0 (mv) ?_
     obtain ⟨c44, H⟩ := of_if H
     obtain ⟨c45, H⟩ := of_if H
     refine kv g0 (ixR 4 c44 (ltE c45)) ?_
     refine ks g0 (stE 1 (eB true) ((q39.set (rd t33 p40).toNat true).map eB) (getE (z := false) c44 c45) setE) ?_
     refine wk_end ?_
     refine ac_blkN ?_
     refine ac_next ?_
     refine wk_start ?_
     refine kv g0 (add6) ?_
     refine kv g0 (mv) ?_
     refine wk_end ?_
     refine ac_k ?_
     exact acw hE [(1, 1), (3, 3)] 9999 (hK47 k41 (q39.set (rd t33 p40).toNat true) (wrap64 (p40 + 1)) (Nat.le_refl _) ⟨by omega, H⟩)
    rw [if_neg c42] at H
    refine aw_ifF ?_ (decide_eq_false c42)
    refine aw_exit ?_
    refine ac_then ?_
    refine ac_then ?_
    refine ac_hit rfl ?_
    refine ac_blkN ?_
    refine ac_next ?_
    refine wk_start ?_
    refine kv g0 (add6) ?_
    refine kv g0 (mv) ?_
    refine wk_end ?_
    refine ac_k ?_
    exact acw hE [(1, 1)] 9999 (hK49 k41 q39 (wrap64 (p27 + 1)) (by omega) ⟨by omega, H⟩)
   rw [if_neg c32] at H
   refine aw_ifT ?_ (nT (bF c32))
   refine aw_exit ?_
   refine ac_then ?_
   refine ac_hit rfl ?_
   refine ac_next ?_
   refine wk_start ?_
   refine kv g0 (add6) ?_
   refine kv g0 (mv) ?_
   refine wk_end ?_
   refine ac_k ?_
   exact acw hE [(1, 1)] 9999 (hK49 k28 q26 (wrap64 (p27 + 1)) (Nat.le_refl _) ⟨by omega, H⟩)
  rw [if_neg c29] at H
  refine aw_ifF ?_ (decide_eq_false c29)
  refine aw_exit ?_
  refine ac_then ?_
  refine ac_then ?_
  refine ac_hit rfl ?_
  refine ac_next ?_
  refine aw_grp1 ?_
  refine wk_start ?_
  refine kv g0 (mv) ?_
  refine kv g0 (asg) ?_
  refine wk_end ?_
  refine ac_next ?_
  refine aw_ret ?_
  obtain rfl := Option.some.inj H
  exact acr hE [.tmp 2] (.tmp .nil) (.one _) [(0, 1)] 9999
 rw [if_neg c3] at H
 refine aw_ifT ?_ (nT (bF c3))
 refine aw_grp1 ?_
 refine wk_start ?_
 refine kb g0 (bsl 0 4 1 [.bool false] (([] : List Bool).map eB)) ?_
 refine kv g0 (asg) ?_
 refine wk_end ?_
 refine ac_next ?_
 refine aw_ret ?_
 refine ac_thenR ?_
 obtain rfl := Option.some.inj H
 exact acr hE [.tmp 2] (.tmp .nil) (.one _) [(0, 0)] 9999
/-! slices_Sort_int_int -/
def slices_Sort_int_int.f (l0 : List Int) : Option (List Int) := if l0.length < 4611686018427387904 then some (l0.mergeSort fun x y => decide (x ≤ y)) else none
theorem slices_Sort_int_int.ok {l0 : List Int} {r : List Int} (H : slices_Sort_int_int.f l0 = some r) : ACalls Try.prog 65 [(0, .row 3 1 (l0.map (eI .i64)))] [.row 0] [(0, .row 3 1 (r.map (eI .i64)))] (.tup []) := by
 unfold slices_Sort_int_int.f at H
 obtain ⟨h, H⟩ := of_if H
 obtain rfl := Option.some.inj H
 exact sort_calls Try.lays189 3 l0 h
/-! slices_Compact_int_int -/
def slices_Compact_int_int.f (l0 : List Int) : Option (List Int) := if l0.length ≤ 9223372036854775807 then some (Go.Lib.compact l0) else none
theorem slices_Compact_int_int.ok {l0 : List Int} {r : List Int} (H : slices_Compact_int_int.f l0 = some r) : ACalls Try.prog 66 [(0, .row 3 1 (l0.map (eI .i64)))] [.row 0] [(0, .gone), (1, .row 3 1 (r.map (eI .i64)))] (.row 1) := by
 unfold slices_Compact_int_int.f at H
 obtain ⟨h, H⟩ := of_if H
 obtain rfl := Option.some.inj H
 exact compact_calls Try.laysNm220 3 l0 h
/-! impl_numbersIn -/
def impl_numbersIn.l0 : Nat → (List S46) → Int → ((List Bool)) → (List Int) → Int → Option ((List Int))
 | 0, _, _, _, _, _ => none
 | k11 + 1, l0, a1, t1, q9, p10 => if p10 < (t1.length : Int) then if 0 ≤ p10 then if (rdOf false t1 p10) = true then (if p10 < (l0.length : Int) then if ((rd_T46 l0 p10).f0) = a1 then (if q9.length + ([(rd_T46 l0 p10).f1] : List Int).length < 17592186044416 then impl_numbersIn.l0 k11 l0 a1 t1 (q9 ++ ([(rd_T46 l0 p10).f1] : List Int)) (wrap64 (p10 + 1)) else none) else impl_numbersIn.l0 k11 l0 a1 t1 q9 (wrap64 (p10 + 1)) else none) else impl_numbersIn.l0 k11 l0 a1 t1 q9 (wrap64 (p10 + 1)) else none else (slices_Sort_int_int.f q9).bind fun t20 => (slices_Compact_int_int.f t20).bind fun t22 => some t22
def impl_numbersIn.f (k : Nat) (l0 : List S46) (a1 : Int) : Option ((List Int)) := (impl_Reached.f k l0).bind fun t1 => impl_numbersIn.l0 k l0 a1 t1 ([] : List Int) 0
theorem impl_numbersIn.ok {k : Nat} {l0 : List S46} {a1 : Int} {r : (List Int)} (H : impl_numbersIn.f k l0 a1 = some r) : ACalls Try.prog 35 [] [.sl .o 4 (l0.map e46), .lit (.int .i64 a1)] [(0, .row 3 1 (r.map (eI .i64)))] (.row 0) := by
 refine acalls (fn := Try.f35) (nt := 40) Try.func35 rfl rfl (Nat.le_of_ble_eq_true rfl) fun E hE => ?_
 rw [impl_numbersIn.f] at H
 refine aw_grp1 ?_
 refine wk_start ?_
 refine kv g0 (asg) ?_
 refine wk_end ?_
 refine ac_next ?_
 refine aw_grp1 ?_
 refine wk_start ?_
 refine kb g0 (bsl 0 3 1 [.int .i64 0] (([] : List Int).map (eI .i64))) ?_
 refine kv g0 (asg) ?_
 refine wk_end ?_
 refine ac_next ?_
 refine aw_grp1 ?_
 refine aw_grp1 ?_
 refine wk_start ?_
 refine kv g0 (mv) ?_
 obtain ⟨t1, A2, H⟩ := of_bind H
 refine kcS1 10 (.row 1) [(1, .row 4 1 (t1.map eB))] g0 (cal (impl_Reached.ok A2) [1] 9999 .n (hf := Try.func64)) rfl rfl ?_
 refine kv g0 (lnR lenE) ?_
 refine kv g0 (mv) ?_
 refine wk_end ?_
 refine ac_next ?_
 refine aw_block ?_
 refine aw_loop2 (fun (k_ : Nat) (q9 : List Int) (p10 : Int) => k_ ≤ k ∧ impl_numbersIn.l0 k_ l0 a1 t1 q9 p10 = some r) (fun (q9 : List Int) (p10 : Int) => ⟨[(0, .sl .o 4 (l0.map e46)), (1, .lit (.int .i64 a1)), (5, .row 0), (10, .row 1), (11, .lit (.int .i64 (t1.length : Int))), (12, .lit (.int .i64 p10))], [(0, .row 3 1 (q9.map (eI .i64))), (1, .row 4 1 (t1.map eB))]⟩) k ([] : List Int) 0 ⟨Nat.le_refl _, H⟩ (fun K_ h_ => acw hE [(0, 0), (1, 1)] 9999 h_) (fun _ _ => by intro h_; have h_ := h_.2; rw [impl_numbersIn.l0.eq_1] at h_; cases h_) ?_
 intro k11 q9 p10 hq_ K18 hK19
 have hk11 := hq_.1
 have H := hq_.2
 clear hq_
 rw [impl_numbersIn.l0.eq_2] at H
 refine aw_grp1 ?_
 refine wk_start ?_
 refine kv g0 (lss) ?_
 refine wk_end ?_
 refine ac_next ?_
 refine aw_grp1 ?_
 by_cases c12 : p10 < (t1.length : Int)
 ·rw [if_pos c12] at H
  refine aw_ifT ?_ (decide_eq_true c12)
  refine aw_skip ?_
  refine ac_next ?_
  refine aw_grp1 ?_
  refine aw_block ?_
  refine aw_grp1 ?_
  refine wk_start ?_
  refine kv g0 (mv) ?_
  obtain ⟨c13, H⟩ := of_if H
  refine kv g0 (ixR 4 c13 (ltE c12)) ?_
  refine kv g0 (ldE (eB (rdOf false t1 p10)) (.lit (.bool (rdOf false t1 p10))) (getE (z := false) c13 c12)) ?_
  refine kv g0 (asg) ?_
  refine kv g0 (asg) ?_
  refine wk_end ?_
  refine ac_next ?_
  refine aw_grp1 ?_
  refine wk_start ?_
  refine kv g0 (mv) ?_
  refine kv g0 (mv) ?_
  by_cases c14 : (rdOf false t1 p10) = true
  ·rw [if_pos c14] at H
   refine kv (g1 c14) (mv) ?_
   refine kv (g1 c14) (mv) ?_
   obtain ⟨c15, H⟩ := of_if H
   refine kv (g1 c14) (ixS 46 (e46 (rd_T46 l0 p10)) c13 (getE (z := z46) c13 c15)) ?_
   refine kv (g1 c14) (faR 0 0) ?_
   refine kv (g1 c14) (ldR (.lit (.int .i64 ((rd_T46 l0 p10).f0)))) ?_
   refine kv (g1 c14) (mv) ?_
   refine kv (g1 c14) (eql) ?_
   refine kv g0 (pkT c14) ?_
   refine wk_end ?_
   refine ac_next ?_
   by_cases c16 : ((rd_T46 l0 p10).f0) = a1
   ·rw [if_pos c16] at H
    refine aw_ifT ?_ (eT c16)
    refine wk_start ?_
    refine kv g0 (mv) ?_
    refine kv g0 (mv) ?_
    refine kv g0 (mv) ?_
    refine kv g0 (ixS 46 (e46 (rd_T46 l0 p10)) c13 (getE (z := z46) c13 c15)) ?_
    refine kv g0 (faR 1 1) ?_
    refine kv g0 (ldR (.lit (.int .i64 ((rd_T46 l0 p10).f1)))) ?_
    refine kb g0 (bsl 2 3 1 [.int .i64 0] (([(rd_T46 l0 p10).f1] : List Int).map (eI .i64))) ?_
    obtain ⟨c17, H⟩ := of_if H
    refine kc g0 (apR 3 3 1 8 [.int .i64 0] ((q9 ++ ([(rd_T46 l0 p10).f1] : List Int)).map (eI .i64)) (.row rfl) (apb c17 rfl) appE) ?_
    refine kv g0 (asg) ?_
    refine wk_end ?_
    refine ac_blkN ?_
    refine ac_next ?_
    refine wk_start ?_
    refine kv g0 (add6) ?_
    refine kv g0 (mv) ?_
    refine wk_end ?_
    refine ac_k ?_
    exact acw hE [(0, 3), (1, 1)] 9999 (hK19 k11 (q9 ++ ([(rd_T46 l0 p10).f1] : List Int)) (wrap64 (p10 + 1)) (Nat.le_refl _) ⟨by omega, H⟩)
   rw [if_neg c16] at H
   refine aw_ifF ?_ (eF c16)
   refine aw_skip ?_
   refine ac_blkN ?_
   refine ac_next ?_
   refine wk_start ?_
   refine kv g0 (add6) ?_
   refine kv g0 (mv) ?_
   refine wk_end ?_
   refine ac_k ?_
   exact acw hE [(0, 0), (1, 1)] 9999 (hK19 k11 q9 (wrap64 (p10 + 1)) (Nat.le_refl _) ⟨by omega, H⟩)
  rw [if_neg c14] at H
  refine kx (hT (bF c14)) ?_
  refine kx (hT (bF c14)) ?_
  refine kx (hT (bF c14)) ?_
  refine kx (hT (bF c14)) ?_
  refine kx (hT (bF c14)) ?_
  refine kx (hT (bF c14)) ?_
  refine kx (hT (bF c14)) ?_
  refine kv g0 (pkF (bF c14)) ?_
  refine wk_end ?_
  refine ac_next ?_
  refine aw_ifF ?_ rfl
  refine aw_skip ?_
  refine ac_blkN ?_
  refine ac_next ?_
  refine wk_start ?_
  refine kv g0 (add6) ?_
  refine kv g0 (mv) ?_
  refine wk_end ?_
  refine ac_k ?_
  exact acw hE [(0, 0), (1, 1)] 9999 (hK19 k11 q9 (wrap64 (p10 + 1)) (Nat.le_refl _) ⟨by omega, H⟩)
 rw [if_neg c12] at H
 refine aw_ifF ?_ (decide_eq_false c12)
 refine aw_exit ?_
 refine ac_then ?_
 refine ac_then ?_
 refine ac_hit rfl ?_
 refine ac_next ?_
 refine aw_grp1 ?_
 refine wk_start ?_
 refine kv g0 (mv) ?_
 obtain ⟨t20, A21, H⟩ := of_bind H
 refine kcS1 37 (.tup []) [(0, .row 3 1 (t20.map (eI .i64)))] g0 (cal (slices_Sort_int_int.ok A21) [0] 9999 .n (hf := Try.func65)) rfl rfl ?_
 refine wk_end ?_
 refine ac_next ?_
 refine aw_grp1 ?_
 refine wk_start ?_
 refine kv g0 (mv) ?_
 obtain ⟨t22, A23, H⟩ := of_bind H
 refine kcS2 39 (.row 4) [(0, .gone), (4, .row 3 1 (t22.map (eI .i64)))] g0 (cal (slices_Compact_int_int.ok A23) [0, 4] 9999 .n (hf := Try.func66)) rfl rfl ?_
 refine kv g0 (asg) ?_
 refine wk_end ?_
 refine ac_next ?_
 refine aw_ret ?_
 obtain rfl := Option.some.inj H
 exact acr hE [.tmp 4] (.tmp .nil) (.one _) [(0, 4)] 9999
/-! impl_ResultsIn -/
def impl_ResultsIn.f (k : Nat) (l0 : List S46) : Option ((List Int)) := (impl_numbersIn.f k l0 8).bind fun t1 => some t1
theorem impl_ResultsIn.ok {k : Nat} {l0 : List S46} {r : (List Int)} (H : impl_ResultsIn.f k l0 = some r) : ACalls Try.prog 17 [] [.sl .o 4 (l0.map e46)] [(0, .row 3 1 (r.map (eI .i64)))] (.row 0) := by
 refine acalls (fn := Try.f17) (nt := 5) Try.func17 rfl rfl (Nat.le_of_ble_eq_true rfl) fun E hE => ?_
 rw [impl_ResultsIn.f] at H
 refine aw_grp1 ?_
 refine wk_start ?_
 refine kv g0 (asg) ?_
 refine wk_end ?_
 refine ac_next ?_
 refine aw_grp1 ?_
 refine wk_start ?_
 refine kv g0 (mv) ?_
 obtain ⟨t1, A2, H⟩ := of_bind H
 refine kcS1 4 (.row 0) [(0, .row 3 1 (t1.map (eI .i64)))] g0 (cal (impl_numbersIn.ok A2) [0] 9999 .n (hf := Try.func35)) rfl rfl ?_
 refine kv g0 (asg) ?_
 refine wk_end ?_
 refine ac_next ?_
 refine aw_ret ?_
 obtain rfl := Option.some.inj H
 exact acr hE [.tmp 2] (.tmp .nil) (.one _) [(0, 0)] 9999
/-! spec_WideOk -/
def spec_WideOk.f (a0_0 : Int) (a0_1 : Int) : Option (Bool) := (spec_HalfOk.f a0_0).bind fun t1 => (if t1 = true then ((spec_HalfOk.f a0_1).bind fun t4 => some t4) else some false)
theorem spec_WideOk.ok {a0_0 : Int} {a0_1 : Int} {r : Bool} (H : spec_WideOk.f a0_0 a0_1 = some r) : ACalls Try.prog 51 [] [.agg [.lit (.int .i64 a0_0), .lit (.int .i64 a0_1)]] [] (.lit (.bool r)) := by
 refine acalls (fn := Try.f51) (nt := 11) Try.func51 rfl rfl (Nat.le_of_ble_eq_true rfl) fun E hE => ?_
 rw [spec_WideOk.f] at H
 refine aw_grp1 ?_
 refine wk_start ?_
 refine kb g0 (bxA 0) ?_
 refine kv g0 (asg) ?_
 refine wk_end ?_
 refine ac_next ?_
 refine aw_grp1 ?_
 refine wk_start ?_
 refine kv g0 (faB 0 0) ?_
 refine kv g0 (ldB) ?_
 obtain ⟨t1, A2, H⟩ := of_bind H
 refine kcS0 5 (.lit (.bool t1)) [] g0 (cal (spec_HalfOk.ok A2) [] 9999 .n (hf := Try.func52)) rfl rfl ?_
 refine kv g0 (mv) ?_
 by_cases c3 : t1 = true
 ·rw [if_pos c3] at H
  refine kv (g1 c3) (faB 1 1) ?_
  refine kv (g1 c3) (ldB) ?_
  obtain ⟨t4, A5, H⟩ := of_bind H
  refine kcS0 9 (.lit (.bool t4)) [] (g1 c3) (cal (spec_HalfOk.ok A5) [] 9999 .n (hf := Try.func52)) rfl rfl ?_
  refine kv g0 (pkT c3) ?_
  refine kv g0 (asg) ?_
  refine wk_end ?_
  refine ac_next ?_
  refine aw_ret ?_
  obtain rfl := Option.some.inj H
  exact acr hE [.tmp 2] (.tmp .nil) (.one _) [] 9999
 rw [if_neg c3] at H
 refine kx (hT (bF c3)) ?_
 refine kx (hT (bF c3)) ?_
 refine kx (hT (bF c3)) ?_
 refine kv g0 (pkF (bF c3)) ?_
 refine kv g0 (asg) ?_
 refine wk_end ?_
 refine ac_next ?_
 refine aw_ret ?_
 obtain rfl := Option.some.inj H
 exact acr hE [.tmp 2] (.tmp .nil) (.one _) [] 9999
/-! spec_CallOk -/
def spec_CallOk.l0 : Nat → Int → Int → (List S75) → Int → Option (Bool)
 | 0, _, _, _, _ => none
 | k7 + 1, a0_0, a0_1, l0_2, p6 => if p6 < (l0_2.length : Int) then if 0 ≤ p6 then ((spec_WideOk.f ((rd_T75 l0_2 p6).f0) ((rd_T75 l0_2 p6).f1)).bind fun t10 => if t10 = true then spec_CallOk.l0 k7 a0_0 a0_1 l0_2 (wrap64 (p6 + 1)) else some false) else none else (spec_HalfOk.f a0_0).bind fun t15 => (if t15 = true then ((spec_HalfOk.f a0_1).bind fun t18 => (if t18 = true then some ((l0_2.length : Int) == 3) else some false)) else some false)
def spec_CallOk.f (k : Nat) (a0_0 : Int) (a0_1 : Int) (l0_2 : List S75) : Option (Bool) := spec_CallOk.l0 k a0_0 a0_1 l0_2 0
theorem spec_CallOk.ok {k : Nat} {a0_0 : Int} {a0_1 : Int} {l0_2 : List S75} {r : Bool} (H : spec_CallOk.f k a0_0 a0_1 l0_2 = some r) : ACalls Try.prog 26 [] [.agg [.lit (.int .i64 a0_0), .lit (.int .i64 a0_1), .sl .o 2 (l0_2.map e75)]] [] (.lit (.bool r)) := by
 refine acalls (fn := Try.f26) (nt := 32) Try.func26 rfl rfl (Nat.le_of_ble_eq_true rfl) fun E hE => ?_
 rw [spec_CallOk.f] at H
 refine aw_grp1 ?_
 refine wk_start ?_
 refine kb g0 (bxA 0) ?_
 refine kv g0 (asg) ?_
 refine wk_end ?_
 refine ac_next ?_
 refine aw_grp1 ?_
 refine aw_grp1 ?_
 refine wk_start ?_
 refine kv g0 (asg) ?_
 refine wk_end ?_
 refine ac_next ?_
 refine aw_block ?_
 refine aw_loop1 (fun (k_ : Nat) (p6 : Int) => k_ ≤ k ∧ spec_CallOk.l0 k_ a0_0 a0_1 l0_2 p6 = some r) (fun (p6 : Int) => ⟨[(1, .box 0 0), (3, .lit (.int .i64 p6))], [(0, .box 38 [.lit (.int .i64 a0_0), .lit (.int .i64 a0_1), .sl .o 2 (l0_2.map e75)])]⟩) k 0 ⟨Nat.le_refl _, H⟩ (fun K_ h_ => acw hE [(0, 0)] 9999 h_) (fun _ => by intro h_; have h_ := h_.2; rw [spec_CallOk.l0.eq_1] at h_; cases h_) ?_
 intro k7 p6 hq_ K13 hK14
 have hk7 := hq_.1
 have H := hq_.2
 clear hq_
 rw [spec_CallOk.l0.eq_2] at H
 refine aw_grp1 ?_
 refine aw_grp1 ?_
 refine wk_start ?_
 refine kv g0 (mv) ?_
 refine kv g0 (faB 2 2) ?_
 refine kv g0 (ldB) ?_
 refine kv g0 (lnS lenE) ?_
 refine kv g0 (lss) ?_
 refine wk_end ?_
 refine ac_next ?_
 by_cases c8 : p6 < (l0_2.length : Int)
 ·rw [if_pos c8] at H
  refine aw_ifT ?_ (decide_eq_true c8)
  refine aw_skip ?_
  refine ac_next ?_
  refine aw_grp1 ?_
  refine aw_block ?_
  refine aw_grp1 ?_
  refine wk_start ?_
  refine kv g0 (faB 2 2) ?_
  refine kv g0 (ldB) ?_
  refine kv g0 (mv) ?_
  obtain ⟨c9, H⟩ := of_if H
  refine kv g0 (ixS 75 (e75 (rd_T75 l0_2 p6)) c9 (getE (z := z75) c9 c8)) ?_
  refine kv g0 (ldRA 2 [.lit (.int .i64 ((rd_T75 l0_2 p6).f0)), .lit (.int .i64 ((rd_T75 l0_2 p6).f1))]) ?_
  obtain ⟨t10, A11, H⟩ := of_bind H
  refine kcS0 16 (.lit (.bool t10)) [] g0 (cal (spec_WideOk.ok A11) [] 9999 .n (hf := Try.func51)) rfl rfl ?_
  refine kv g0 (not_) ?_
  refine wk_end ?_
  refine ac_next ?_
  by_cases c12 : t10 = true
  ·rw [if_pos c12] at H
   refine aw_ifF ?_ (nF c12)
   refine aw_skip ?_
   refine ac_blkN ?_
   refine ac_next ?_
   refine wk_start ?_
   refine kv g0 (mv) ?_
   refine kv g0 (add6) ?_
   refine kv g0 (asg) ?_
   refine wk_end ?_
   refine ac_k ?_
   exact acw hE [(0, 0)] 9999 (hK14 k7 (wrap64 (p6 + 1)) (Nat.le_refl _) ⟨by omega, H⟩)
  rw [if_neg c12] at H
  refine aw_ifT ?_ (nT (bF c12))
  refine aw_grp1 ?_
  refine wk_start ?_
  refine kv g0 (asg) ?_
  refine wk_end ?_
  refine ac_next ?_
  refine aw_ret ?_
  refine ac_blkR ?_
  refine ac_thenR ?_
  refine ac_thenR ?_
  refine ac_blkR ?_
  refine ac_thenR ?_
  obtain rfl := Option.some.inj H
  exact acr hE [.tmp 2] (.tmp .nil) (.one _) [] 9999
 rw [if_neg c8] at H
 refine aw_ifF ?_ (decide_eq_false c8)
 refine aw_exit ?_
 refine ac_then ?_
 refine ac_then ?_
 refine ac_hit rfl ?_
 refine ac_next ?_
 refine aw_grp1 ?_
 refine wk_start ?_
 refine kv g0 (faB 0 0) ?_
 refine kv g0 (ldB) ?_
 obtain ⟨t15, A16, H⟩ := of_bind H
 refine kcS0 20 (.lit (.bool t15)) [] g0 (cal (spec_HalfOk.ok A16) [] 9999 .n (hf := Try.func52)) rfl rfl ?_
 refine kv g0 (mv) ?_
 by_cases c17 : t15 = true
 ·rw [if_pos c17] at H
  refine kv (g1 c17) (faB 1 1) ?_
  refine kv (g1 c17) (ldB) ?_
  obtain ⟨t18, A19, H⟩ := of_bind H
  refine kcS0 24 (.lit (.bool t18)) [] (g1 c17) (cal (spec_HalfOk.ok A19) [] 9999 .n (hf := Try.func52)) rfl rfl ?_
  refine kv g0 (pkT c17) ?_
  refine kv g0 (mv) ?_
  by_cases c20 : t18 = true
  ·rw [if_pos c20] at H
   refine kv (g1 c20) (faB 2 2) ?_
   refine kv (g1 c20) (ldB) ?_
   refine kv (g1 c20) (lnS lenE) ?_
   refine kv (g1 c20) (eql) ?_
   refine kv g0 (pkT c20) ?_
   refine kv g0 (asg) ?_
   refine wk_end ?_
   refine ac_next ?_
   refine aw_ret ?_
   obtain rfl := Option.some.inj H
   exact acr hE [.tmp 2] (.tmp .nil) (.one _) [] 9999
  rw [if_neg c20] at H
  refine kx (hT (bF c20)) ?_
  refine kx (hT (bF c20)) ?_
  refine kx (hT (bF c20)) ?_
  refine kx (hT (bF c20)) ?_
  refine kv g0 (pkF (bF c20)) ?_
  refine kv g0 (asg) ?_
  refine wk_end ?_
  refine ac_next ?_
  refine aw_ret ?_
  obtain rfl := Option.some.inj H
  exact acr hE [.tmp 2] (.tmp .nil) (.one _) [] 9999
 rw [if_neg c17] at H
 refine kx (hT (bF c17)) ?_
 refine kx (hT (bF c17)) ?_
 refine kx (hT (bF c17)) ?_
 refine kv g0 (pkF (bF c17)) ?_
 refine kv g0 (mv) ?_
 refine kx (hT rfl) ?_
 refine kx (hT rfl) ?_
 refine kx (hT rfl) ?_
 refine kx (hT rfl) ?_
 refine kv g0 (pkF rfl) ?_
 refine kv g0 (asg) ?_
 refine wk_end ?_
 refine ac_next ?_
 refine aw_ret ?_
 obtain rfl := Option.some.inj H
 exact acr hE [.tmp 2] (.tmp .nil) (.one _) [] 9999
/-! spec_FieldAt -/
def spec_FieldAt.f (k : Nat) (a0_0 : Int) (a0_1 : Int) (l0_2 : List S75) (a1 : Int) : Option (Int × Bool) := (spec_CallOk.f k a0_0 a0_1 l0_2).bind fun t1 => (if t1 = true then ((spec_l01In.f a1 0 7).bind fun t4 => if t4 = true then if a1 = 0 then some (a0_1, true) else if a1 = 1 then some (a0_0, true) else if 0 ≤ (wrap64 ((wrap64 (a1 - 2)).tdiv 2)) then (if (wrap64 ((wrap64 (a1 - 2)).tdiv 2)) < (l0_2.length : Int) then if (a1.tmod 2) = 0 then some ((rd_T75 l0_2 (wrap64 ((wrap64 (a1 - 2)).tdiv 2))).f1, true) else some ((rd_T75 l0_2 (wrap64 ((wrap64 (a1 - 2)).tdiv 2))).f0, true) else none) else none else some (0, false)) else some (0, false))
theorem spec_FieldAt.ok {k : Nat} {a0_0 : Int} {a0_1 : Int} {l0_2 : List S75} {a1 : Int} {r : Int × Bool} (H : spec_FieldAt.f k a0_0 a0_1 l0_2 a1 = some r) : ACalls Try.prog 46 [] [.agg [.lit (.int .i64 a0_0), .lit (.int .i64 a0_1), .sl .o 2 (l0_2.map e75)], .lit (.int .i64 a1)] [] (.tup [.lit (.int .i64 r.1), .lit (.bool r.2)]) := by
 refine acalls (fn := Try.f46) (nt := 38) Try.func46 rfl rfl (Nat.le_of_ble_eq_true rfl) fun E hE => ?_
 rw [spec_FieldAt.f] at H
 refine aw_grp1 ?_
 refine wk_start ?_
 refine kb g0 (bxA 0) ?_
 refine kv g0 (asg) ?_
 refine kv g0 (asg) ?_
 refine wk_end ?_
 refine ac_next ?_
 refine aw_grp1 ?_
 refine aw_grp1 ?_
 refine wk_start ?_
 refine kv g0 (ldBA 3 [.lit (.int .i64 a0_0), .lit (.int .i64 a0_1), .sl .o 2 (l0_2.map e75)]) ?_
 obtain ⟨t1, A2, H⟩ := of_bind H
 refine kcS0 8 (.lit (.bool t1)) [] g0 (cal (spec_CallOk.ok A2) [] 9999 .n (hf := Try.func26)) rfl rfl ?_
 refine kv g0 (not_) ?_
 refine kv g0 (mv) ?_
 by_cases c3 : t1 = true
 ·rw [if_pos c3] at H
  refine kv (g1 (nF c3)) (mv) ?_
  obtain ⟨t4, A5, H⟩ := of_bind H
  refine kcS0 12 (.lit (.bool t4)) [] (g1 (nF c3)) (cal (spec_l01In.ok A5) [] 9999 .n (hf := Try.func40)) rfl rfl ?_
  refine kv (g1 (nF c3)) (not_) ?_
  refine kv g0 (pkF (nF c3)) ?_
  refine wk_end ?_
  refine ac_next ?_
  by_cases c6 : t4 = true
  ·rw [if_pos c6] at H
   refine aw_ifF ?_ (nF c6)
   refine aw_skip ?_
   refine ac_next ?_
   refine aw_grp1 ?_
   refine aw_grp1 ?_
   refine wk_start ?_
   refine kv g0 (mv) ?_
   refine wk_end ?_
   refine ac_next ?_
   refine aw_block ?_
   refine aw_grp1 ?_
   refine wk_start ?_
   refine kv g0 (eql) ?_
   refine kv g0 (asg) ?_
   refine wk_end ?_
   refine ac_next ?_
   by_cases c7 : a1 = 0
   ·rw [if_pos c7] at H
    refine aw_ifT ?_ (eT c7)
    refine aw_grp1 ?_
    refine wk_start ?_
    refine kv g0 (faB 1 1) ?_
    refine kv g0 (ldB) ?_
    refine kv g0 (asg) ?_
    refine kv g0 (asg) ?_
    refine wk_end ?_
    refine ac_next ?_
    refine aw_ret ?_
    refine ac_blkR ?_
    refine ac_thenR ?_
    obtain rfl := Option.some.inj H
    exact acr hE [.tmp 4, .tmp 5] (.tmp (.tmp .nil)) (.many _ _ _) [] 9999
   rw [if_neg c7] at H
   refine aw_ifF ?_ (eF c7)
   refine aw_grp1 ?_
   refine wk_start ?_
   refine kv g0 (eql) ?_
   refine kv g0 (asg) ?_
   refine wk_end ?_
   refine ac_next ?_
   by_cases c8 : a1 = 1
   ·rw [if_pos c8] at H
    refine aw_ifT ?_ (eT c8)
    refine aw_grp1 ?_
    refine wk_start ?_
    refine kv g0 (faB 0 0) ?_
    refine kv g0 (ldB) ?_
    refine kv g0 (asg) ?_
    refine kv g0 (asg) ?_
    refine wk_end ?_
    refine ac_next ?_
    refine aw_ret ?_
    refine ac_blkR ?_
    refine ac_thenR ?_
    obtain rfl := Option.some.inj H
    exact acr hE [.tmp 4, .tmp 5] (.tmp (.tmp .nil)) (.many _ _ _) [] 9999
   rw [if_neg c8] at H
   refine aw_ifF ?_ (eF c8)
   refine aw_skip ?_
   refine ac_blkN ?_
   refine ac_next ?_
   refine aw_grp1 ?_
   refine wk_start ?_
   refine kv g0 (faB 2 2) ?_
   refine kv g0 (ldB) ?_
   refine kv g0 (mv) ?_
   refine kv g0 (sub6) ?_
   refine kv g0 (quo6 (by decide : (2 : Int) ≠ 0)) ?_
   obtain ⟨c9, H⟩ := of_if H
   obtain ⟨c10, H⟩ := of_if H
   refine kv g0 (ixS 75 (e75 (rd_T75 l0_2 (wrap64 ((wrap64 (a1 - 2)).tdiv 2)))) c9 (getE (z := z75) c9 c10)) ?_
   refine kv g0 (ldRA 2 [.lit (.int .i64 ((rd_T75 l0_2 (wrap64 ((wrap64 (a1 - 2)).tdiv 2))).f0)), .lit (.int .i64 ((rd_T75 l0_2 (wrap64 ((wrap64 (a1 - 2)).tdiv 2))).f1))]) ?_
   refine kb g0 (alc 1 [.int .i64 0, .int .i64 0] [.lit (.int .i64 0), .lit (.int .i64 0)]) ?_
   refine ks g0 (stB 2 [.lit (.int .i64 ((rd_T75 l0_2 (wrap64 ((wrap64 (a1 - 2)).tdiv 2))).f0)), .lit (.int .i64 ((rd_T75 l0_2 (wrap64 ((wrap64 (a1 - 2)).tdiv 2))).f1))]) ?_
   refine wk_end ?_
   refine ac_next ?_
   refine aw_grp1 ?_
   refine aw_grp1 ?_
   refine wk_start ?_
   refine kv g0 (mv) ?_
   refine kv g0 (rem (by decide : (2 : Int) ≠ 0)) ?_
   refine kv g0 (eql) ?_
   refine wk_end ?_
   refine ac_next ?_
   by_cases c11 : (a1.tmod 2) = 0
   ·rw [if_pos c11] at H
    refine aw_ifT ?_ (eT c11)
    refine aw_grp1 ?_
    refine wk_start ?_
    refine kv g0 (faB 1 1) ?_
    refine kv g0 (ldB) ?_
    refine kv g0 (asg) ?_
    refine kv g0 (asg) ?_
    refine wk_end ?_
    refine ac_next ?_
    refine aw_ret ?_
    refine ac_thenR ?_
    obtain rfl := Option.some.inj H
    exact acr hE [.tmp 4, .tmp 5] (.tmp (.tmp .nil)) (.many _ _ _) [] 9999
   rw [if_neg c11] at H
   refine aw_ifF ?_ (eF c11)
   refine aw_skip ?_
   refine ac_next ?_
   refine aw_grp1 ?_
   refine wk_start ?_
   refine kv g0 (faB 0 0) ?_
   refine kv g0 (ldB) ?_
   refine kv g0 (asg) ?_
   refine kv g0 (asg) ?_
   refine wk_end ?_
   refine ac_next ?_
   refine aw_ret ?_
   obtain rfl := Option.some.inj H
   exact acr hE [.tmp 4, .tmp 5] (.tmp (.tmp .nil)) (.many _ _ _) [] 9999
  rw [if_neg c6] at H
  refine aw_ifT ?_ (nT (bF c6))
  refine aw_grp1 ?_
  refine wk_start ?_
  refine kv g0 (asg) ?_
  refine kv g0 (asg) ?_
  refine wk_end ?_
  refine ac_next ?_
  refine aw_ret ?_
  refine ac_thenR ?_
  obtain rfl := Option.some.inj H
  exact acr hE [.tmp 4, .tmp 5] (.tmp (.tmp .nil)) (.many _ _ _) [] 9999
 rw [if_neg c3] at H
 refine kx (hF (nT (bF c3))) ?_
 refine kx (hF (nT (bF c3))) ?_
 refine kx (hF (nT (bF c3))) ?_
 refine kv g0 (pkT (nT (bF c3))) ?_
 refine wk_end ?_
 refine ac_next ?_
 refine aw_ifT ?_ rfl
 refine aw_grp1 ?_
 refine wk_start ?_
 refine kv g0 (asg) ?_
 refine kv g0 (asg) ?_
 refine wk_end ?_
 refine ac_next ?_
 refine aw_ret ?_
 refine ac_thenR ?_
 obtain rfl := Option.some.inj H
 exact acr hE [.tmp 4, .tmp 5] (.tmp (.tmp .nil)) (.many _ _ _) [] 9999
/-! spec_l07Asks -/
def spec_l07Asks.f (a0_0 : Int) (a0_1 : Int) (a0_2 : Int) (a0_3 : Int) (a1 : Int) : Option (Bool) := if a0_0 = 3 then some (a1 == a0_1) else if a0_0 = 4 then some (decide (a1 > a0_1)) else if a0_0 = 5 then some (decide (a1 ≥ a0_1)) else some ((bits .and .i64 a1 a0_1) != 0)
theorem spec_l07Asks.ok {a0_0 : Int} {a0_1 : Int} {a0_2 : Int} {a0_3 : Int} {a1 : Int} {r : Bool} (H : spec_l07Asks.f a0_0 a0_1 a0_2 a0_3 a1 = some r) : ACalls Try.prog 47 [] [.agg [.lit (.int .i64 a0_0), .lit (.int .i64 a0_1), .lit (.int .i64 a0_2), .lit (.int .i64 a0_3)], .lit (.int .i64 a1)] [] (.lit (.bool r)) := by
 refine acalls (fn := Try.f47) (nt := 30) Try.func47 rfl rfl (Nat.le_of_ble_eq_true rfl) fun E hE => ?_
 rw [spec_l07Asks.f] at H
 refine aw_grp1 ?_
 refine wk_start ?_
 refine kb g0 (bxA 0) ?_
 refine kv g0 (asg) ?_
 refine wk_end ?_
 refine ac_next ?_
 refine aw_grp1 ?_
 refine aw_grp1 ?_
 refine wk_start ?_
 refine kv g0 (faB 0 0) ?_
 refine kv g0 (ldB) ?_
 refine wk_end ?_
 refine ac_next ?_
 refine aw_block ?_
 refine aw_grp1 ?_
 refine wk_start ?_
 refine kv g0 (eql) ?_
 refine kv g0 (asg) ?_
 refine wk_end ?_
 refine ac_next ?_
 by_cases c1 : a0_0 = 3
 ·rw [if_pos c1] at H
  refine aw_ifT ?_ (eT c1)
  refine aw_grp1 ?_
  refine wk_start ?_
  refine kv g0 (mv) ?_
  refine kv g0 (faB 1 1) ?_
  refine kv g0 (ldB) ?_
  refine kv g0 (eql) ?_
  refine kv g0 (asg) ?_
  refine wk_end ?_
  refine ac_next ?_
  refine aw_ret ?_
  refine ac_blkR ?_
  refine ac_thenR ?_
  obtain rfl := Option.some.inj H
  exact acr hE [.tmp 4] (.tmp .nil) (.one _) [] 9999
 rw [if_neg c1] at H
 refine aw_ifF ?_ (eF c1)
 refine aw_grp1 ?_
 refine wk_start ?_
 refine kv g0 (eql) ?_
 refine kv g0 (asg) ?_
 refine wk_end ?_
 refine ac_next ?_
 by_cases c2 : a0_0 = 4
 ·rw [if_pos c2] at H
  refine aw_ifT ?_ (eT c2)
  refine aw_grp1 ?_
  refine wk_start ?_
  refine kv g0 (mv) ?_
  refine kv g0 (faB 1 1) ?_
  refine kv g0 (ldB) ?_
  refine kv g0 (gtr) ?_
  refine kv g0 (asg) ?_
  refine wk_end ?_
  refine ac_next ?_
  refine aw_ret ?_
  refine ac_blkR ?_
  refine ac_thenR ?_
  obtain rfl := Option.some.inj H
  exact acr hE [.tmp 4] (.tmp .nil) (.one _) [] 9999
 rw [if_neg c2] at H
 refine aw_ifF ?_ (eF c2)
 refine aw_grp1 ?_
 refine wk_start ?_
 refine kv g0 (eql) ?_
 refine kv g0 (asg) ?_
 refine wk_end ?_
 refine ac_next ?_
 by_cases c3 : a0_0 = 5
 ·rw [if_pos c3] at H
  refine aw_ifT ?_ (eT c3)
  refine aw_grp1 ?_
  refine wk_start ?_
  refine kv g0 (mv) ?_
  refine kv g0 (faB 1 1) ?_
  refine kv g0 (ldB) ?_
  refine kv g0 (geq) ?_
  refine kv g0 (asg) ?_
  refine wk_end ?_
  refine ac_next ?_
  refine aw_ret ?_
  refine ac_blkR ?_
  refine ac_thenR ?_
  obtain rfl := Option.some.inj H
  exact acr hE [.tmp 4] (.tmp .nil) (.one _) [] 9999
 rw [if_neg c3] at H
 refine aw_ifF ?_ (eF c3)
 refine aw_skip ?_
 refine ac_blkN ?_
 refine ac_next ?_
 refine aw_grp1 ?_
 refine wk_start ?_
 refine kv g0 (mv) ?_
 refine kv g0 (faB 1 1) ?_
 refine kv g0 (ldB) ?_
 refine kv g0 (band) ?_
 refine kv g0 (neq) ?_
 refine kv g0 (asg) ?_
 refine wk_end ?_
 refine ac_next ?_
 refine aw_ret ?_
 obtain rfl := Option.some.inj H
 exact acr hE [.tmp 4] (.tmp .nil) (.one _) [] 9999
/-! spec_Run -/
mutual
def spec_Run.j0 : Nat → (List S46) → Int → Int → (List S75) → Int → Int → Int → Option (Int × Int)
 | 0, _, _, _, _, _, _, _ => none
 | k39 + 1, l0, a1_0, a1_1, l1_2, p23, p37, p38 => spec_Run.l0 k39 l0 a1_0 a1_1 l1_2 p37 (wrap64 (p23 + 1)) (wrap64 (p38 + 1))
def spec_Run.l0 : Nat → (List S46) → Int → Int → (List S75) → Int → Int → Int → Option (Int × Int)
 | 0, _, _, _, _, _, _, _ => none
 | k25 + 1, l0, a1_0, a1_1, l1_2, p22, p23, p24 => if p24 < (l0.length : Int) then if 0 ≤ p24 then if ((rd_T46 l0 p24).f0) = 1 then ((spec_FieldAt.f k25 a1_0 a1_1 l1_2 ((rd_T46 l0 p24).f1)).bind fun t29 => spec_Run.j0 k25 l0 a1_0 a1_1 l1_2 p23 t29.1 p24) else if ((rd_T46 l0 p24).f0) = 2 then spec_Run.j0 k25 l0 a1_0 a1_1 l1_2 p23 (bits .and .i64 p22 ((rd_T46 l0 p24).f1)) p24 else if ((rd_T46 l0 p24).f0) = 7 then spec_Run.j0 k25 l0 a1_0 a1_1 l1_2 p23 p22 (wrap64 (p24 + ((rd_T46 l0 p24).f1))) else if ((rd_T46 l0 p24).f0) = 8 then some ((rd_T46 l0 p24).f1, wrap64 (p23 + 1)) else ((spec_l07Asks.f ((rd_T46 l0 p24).f0) ((rd_T46 l0 p24).f1) ((rd_T46 l0 p24).f2) ((rd_T46 l0 p24).f3) p22).bind fun t34 => if t34 = true then spec_Run.j0 k25 l0 a1_0 a1_1 l1_2 p23 p22 (wrap64 (p24 + ((rd_T46 l0 p24).f2))) else spec_Run.j0 k25 l0 a1_0 a1_1 l1_2 p23 p22 (wrap64 (p24 + ((rd_T46 l0 p24).f3)))) else none else some (0, 0)
end
def spec_Run.f (k : Nat) (l0 : List S46) (a1_0 : Int) (a1_1 : Int) (l1_2 : List S75) : Option (Int × Int) := (spec_CheckProgram.f k l0).bind fun t1 => (if t1 = true then ((spec_CallOk.f k a1_0 a1_1 l1_2).bind fun t4 => if t4 = true then spec_Run.l0 k l0 a1_0 a1_1 l1_2 0 0 0 else some (0, 0)) else some (0, 0))
theorem spec_Run.ok {k : Nat} {l0 : List S46} {a1_0 : Int} {a1_1 : Int} {l1_2 : List S75} {r : Int × Int} (H : spec_Run.f k l0 a1_0 a1_1 l1_2 = some r) : ACalls Try.prog 24 [] [.sl .o 4 (l0.map e46), .agg [.lit (.int .i64 a1_0), .lit (.int .i64 a1_1), .sl .o 2 (l1_2.map e75)]] [] (.tup [.lit (.int .i64 r.1), .lit (.int .i64 r.2)]) := by
 refine acalls (fn := Try.f24) (nt := 69) Try.func24 rfl rfl (Nat.le_of_ble_eq_true rfl) fun E hE => ?_
 rw [spec_Run.f] at H
 refine aw_grp1 ?_
 refine wk_start ?_
 refine kb g0 (bxA 0) ?_
 refine kv g0 (asg) ?_
 refine kv g0 (asg) ?_
 refine wk_end ?_
 refine ac_next ?_
 refine aw_grp1 ?_
 refine aw_grp1 ?_
 refine wk_start ?_
 refine kv g0 (mv) ?_
 obtain ⟨t1, A2, H⟩ := of_bind H
 refine kcS0 11 (.lit (.bool t1)) [] g0 (cal (spec_CheckProgram.ok A2) [] 9999 .n (hf := Try.func21)) rfl rfl ?_
 refine kv g0 (not_) ?_
 refine kv g0 (mv) ?_
 by_cases c3 : t1 = true
 ·rw [if_pos c3] at H
  refine kv (g1 (nF c3)) (ldBA 3 [.lit (.int .i64 a1_0), .lit (.int .i64 a1_1), .sl .o 2 (l1_2.map e75)]) ?_
  obtain ⟨t4, A5, H⟩ := of_bind H
  refine kcS0 15 (.lit (.bool t4)) [] (g1 (nF c3)) (cal (spec_CallOk.ok A5) [] 9999 .n (hf := Try.func26)) rfl rfl ?_
  refine kv (g1 (nF c3)) (not_) ?_
  refine kv g0 (pkF (nF c3)) ?_
  refine wk_end ?_
  refine ac_next ?_
  by_cases c6 : t4 = true
  ·rw [if_pos c6] at H
   refine aw_ifF ?_ (nF c6)
   refine aw_skip ?_
   refine ac_next ?_
   refine aw_grp1 ?_
   refine wk_start ?_
   refine kv g0 (asg) ?_
   refine wk_end ?_
   refine ac_next ?_
   refine aw_grp1 ?_
   refine wk_start ?_
   refine kv g0 (asg) ?_
   refine wk_end ?_
   refine ac_next ?_
   refine aw_grp1 ?_
   refine aw_grp1 ?_
   refine wk_start ?_
   refine kv g0 (asg) ?_
   refine wk_end ?_
   refine ac_next ?_
   refine aw_block ?_
   refine aw_loop3 (fun (k_ : Nat) (p22 : Int) (p23 : Int) (p24 : Int) => k_ ≤ k ∧ spec_Run.l0 k_ l0 a1_0 a1_1 l1_2 p22 p23 p24 = some r) (fun (p22 : Int) (p23 : Int) (p24 : Int) => ⟨[(0, .sl .o 4 (l0.map e46)), (3, .box 0 0), (6, .lit (.int .i64 p22)), (7, .lit (.int .i64 p23)), (8, .lit (.int .i64 p24))], [(0, .box 38 [.lit (.int .i64 a1_0), .lit (.int .i64 a1_1), .sl .o 2 (l1_2.map e75)])]⟩) k 0 0 0 ⟨Nat.le_refl _, H⟩ (fun K_ h_ => acw hE [(0, 0)] 9999 h_) (fun _ _ _ => by intro h_; have h_ := h_.2; rw [spec_Run.l0.eq_1] at h_; cases h_) ?_
   intro k25 p22 p23 p24 hq_ K41 hK42
   have hk25 := hq_.1
   have H := hq_.2
   clear hq_
   rw [spec_Run.l0.eq_2] at H
   refine aw_grp1 ?_
   refine aw_grp1 ?_
   refine wk_start ?_
   refine kv g0 (mv) ?_
   refine kv g0 (mv) ?_
   refine kv g0 (lnS lenE) ?_
   refine kv g0 (lss) ?_
   refine wk_end ?_
   refine ac_next ?_
   by_cases c26 : p24 < (l0.length : Int)
   ·rw [if_pos c26] at H
    refine aw_ifT ?_ (decide_eq_true c26)
    refine aw_skip ?_
    refine ac_next ?_
    refine aw_cut1 (J := fun K_ => ∀ (k_ : Nat) (p37 : Int) (p38 : Int), k_ ≤ k25 → spec_Run.j0 k_ l0 a1_0 a1_1 l1_2 p23 p37 p38 = some r → ACont E 69 ⟨[(0, .sl .o 4 (l0.map e46)), (3, .box 0 0), (6, .lit (.int .i64 p37)), (7, .lit (.int .i64 (wrap64 (p23 + 1)))), (8, .lit (.int .i64 p38))], [(0, .box 38 [.lit (.int .i64 a1_0), .lit (.int .i64 a1_1), .sl .o 2 (l1_2.map e75)])]⟩ K_) ?_ ?_
    ·intro K_ hJ40
     refine aw_block ?_
     refine aw_grp1 ?_
     refine wk_start ?_
     refine kv g0 (mv) ?_
     refine kv g0 (mv) ?_
     obtain ⟨c27, H⟩ := of_if H
     refine kv g0 (ixS 46 (e46 (rd_T46 l0 p24)) c27 (getE (z := z46) c27 c26)) ?_
     refine kv g0 (ldRA 4 [.lit (.int .i64 ((rd_T46 l0 p24).f0)), .lit (.int .i64 ((rd_T46 l0 p24).f1)), .lit (.int .i64 ((rd_T46 l0 p24).f2)), .lit (.int .i64 ((rd_T46 l0 p24).f3))]) ?_
     refine kb g0 (alc 1 [.int .i64 0, .int .i64 0, .int .i64 0, .int .i64 0] [.lit (.int .i64 0), .lit (.int .i64 0), .lit (.int .i64 0), .lit (.int .i64 0)]) ?_
     refine ks g0 (stB 4 [.lit (.int .i64 ((rd_T46 l0 p24).f0)), .lit (.int .i64 ((rd_T46 l0 p24).f1)), .lit (.int .i64 ((rd_T46 l0 p24).f2)), .lit (.int .i64 ((rd_T46 l0 p24).f3))]) ?_
     refine wk_end ?_
     refine ac_next ?_
     refine aw_grp1 ?_
     refine wk_start ?_
     refine kv g0 (mv) ?_
     refine kv g0 (add6) ?_
     refine kv g0 (asg) ?_
     refine wk_end ?_
     refine ac_next ?_
     refine aw_grp1 ?_
     refine wk_start ?_
     refine kv g0 (faB 0 0) ?_
     refine kv g0 (ldB) ?_
     refine wk_end ?_
     refine ac_next ?_
     refine aw_block ?_
     refine aw_grp1 ?_
     refine wk_start ?_
     refine kv g0 (eql) ?_
     refine kv g0 (asg) ?_
     refine wk_end ?_
     refine ac_next ?_
     by_cases c28 : ((rd_T46 l0 p24).f0) = 1
     ·rw [if_pos c28] at H
      refine aw_ifT ?_ (eT c28)
      refine wk_start ?_
      refine kv g0 (ldBA 3 [.lit (.int .i64 a1_0), .lit (.int .i64 a1_1), .sl .o 2 (l1_2.map e75)]) ?_
      refine kv g0 (faB 1 1) ?_
      refine kv g0 (ldB) ?_
      obtain ⟨t29, A30, H⟩ := of_bind H
      refine kcS0 49 (.tup [.lit (.int .i64 t29.1), .lit (.bool t29.2)]) [] g0 (cal (spec_FieldAt.ok A30) [] 9999 .n (hf := Try.func46)) rfl rfl ?_
      refine kv g0 (mv) ?_
      refine kv g0 (ext) ?_
      refine kv g0 (ext) ?_
      refine kv g0 (asg) ?_
      refine wk_end ?_
      refine ac_blkN ?_
      refine ac_blkN ?_
      refine ac_k ?_
      exact acw hE [(0, 0)] 9999 (hJ40 k25 t29.1 p24 (Nat.le_refl _) H)
     rw [if_neg c28] at H
     refine aw_ifF ?_ (eF c28)
     refine aw_grp1 ?_
     refine wk_start ?_
     refine kv g0 (eql) ?_
     refine kv g0 (asg) ?_
     refine wk_end ?_
     refine ac_next ?_
     by_cases c31 : ((rd_T46 l0 p24).f0) = 2
     ·rw [if_pos c31] at H
      refine aw_ifT ?_ (eT c31)
      refine wk_start ?_
      refine kv g0 (mv) ?_
      refine kv g0 (faB 1 1) ?_
      refine kv g0 (ldB) ?_
      refine kv g0 (band) ?_
      refine kv g0 (asg) ?_
      refine wk_end ?_
      refine ac_blkN ?_
      refine ac_blkN ?_
      refine ac_k ?_
      exact acw hE [(0, 0)] 9999 (hJ40 k25 (bits .and .i64 p22 ((rd_T46 l0 p24).f1)) p24 (Nat.le_refl _) H)
     rw [if_neg c31] at H
     refine aw_ifF ?_ (eF c31)
     refine aw_grp1 ?_
     refine wk_start ?_
     refine kv g0 (eql) ?_
     refine kv g0 (asg) ?_
     refine wk_end ?_
     refine ac_next ?_
     by_cases c32 : ((rd_T46 l0 p24).f0) = 7
     ·rw [if_pos c32] at H
      refine aw_ifT ?_ (eT c32)
      refine wk_start ?_
      refine kv g0 (mv) ?_
      refine kv g0 (faB 1 1) ?_
      refine kv g0 (ldB) ?_
      refine kv g0 (add6) ?_
      refine kv g0 (asg) ?_
      refine wk_end ?_
      refine ac_blkN ?_
      refine ac_blkN ?_
      refine ac_k ?_
      exact acw hE [(0, 0)] 9999 (hJ40 k25 p22 (wrap64 (p24 + ((rd_T46 l0 p24).f1))) (Nat.le_refl _) H)
     rw [if_neg c32] at H
     refine aw_ifF ?_ (eF c32)
     refine aw_grp1 ?_
     refine wk_start ?_
     refine kv g0 (eql) ?_
     refine kv g0 (asg) ?_
     refine wk_end ?_
     refine ac_next ?_
     by_cases c33 : ((rd_T46 l0 p24).f0) = 8
     ·rw [if_pos c33] at H
      refine aw_ifT ?_ (eT c33)
      refine aw_grp1 ?_
      refine wk_start ?_
      refine kv g0 (faB 1 1) ?_
      refine kv g0 (ldB) ?_
      refine kv g0 (mv) ?_
      refine kv g0 (asg) ?_
      refine kv g0 (asg) ?_
      refine wk_end ?_
      refine ac_next ?_
      refine aw_ret ?_
      refine ac_blkR ?_
      refine ac_blkR ?_
      refine ac_thenR ?_
      refine ac_thenR ?_
      refine ac_blkR ?_
      refine ac_thenR ?_
      obtain rfl := Option.some.inj H
      exact acr hE [.tmp 4, .tmp 5] (.tmp (.tmp .nil)) (.many _ _ _) [] 9999
     rw [if_neg c33] at H
     refine aw_ifF ?_ (eF c33)
     refine aw_grp1 ?_
     refine wk_start ?_
     refine kv g0 (ldBA 4 [.lit (.int .i64 ((rd_T46 l0 p24).f0)), .lit (.int .i64 ((rd_T46 l0 p24).f1)), .lit (.int .i64 ((rd_T46 l0 p24).f2)), .lit (.int .i64 ((rd_T46 l0 p24).f3))]) ?_
     refine kv g0 (mv) ?_
     obtain ⟨t34, A35, H⟩ := of_bind H
     refine kcS0 34 (.lit (.bool t34)) [] g0 (cal (spec_l07Asks.ok A35) [] 9999 .n (hf := Try.func47)) rfl rfl ?_
     refine wk_end ?_
     refine ac_next ?_
     by_cases c36 : t34 = true
     ·rw [if_pos c36] at H
      refine aw_ifT ?_ c36
      refine wk_start ?_
      refine kv g0 (mv) ?_
      refine kv g0 (faB 2 2) ?_
      refine kv g0 (ldB) ?_
      refine kv g0 (add6) ?_
      refine kv g0 (asg) ?_
      refine wk_end ?_
      refine ac_blkN ?_
      refine ac_blkN ?_
      refine ac_k ?_
      exact acw hE [(0, 0)] 9999 (hJ40 k25 p22 (wrap64 (p24 + ((rd_T46 l0 p24).f2))) (Nat.le_refl _) H)
     rw [if_neg c36] at H
     refine aw_ifF ?_ (bF c36)
     refine wk_start ?_
     refine kv g0 (mv) ?_
     refine kv g0 (faB 3 3) ?_
     refine kv g0 (ldB) ?_
     refine kv g0 (add6) ?_
     refine kv g0 (asg) ?_
     refine wk_end ?_
     refine ac_blkN ?_
     refine ac_blkN ?_
     refine ac_k ?_
     exact acw hE [(0, 0)] 9999 (hJ40 k25 p22 (wrap64 (p24 + ((rd_T46 l0 p24).f3))) (Nat.le_refl _) H)
    intro k_ p37 p38 hk_ H
    rcases k_ with _ | k39
    ·rw [spec_Run.j0.eq_1] at H; cases H
    have hk39 : k39 ≤ k25 := by omega
    clear hk_
    rw [spec_Run.j0.eq_2] at H
    refine wk_start ?_
    refine kv g0 (mv) ?_
    refine kv g0 (add6) ?_
    refine kv g0 (asg) ?_
    refine wk_end ?_
    refine ac_k ?_
    exact acw hE [(0, 0)] 9999 (hK42 k39 p37 (wrap64 (p23 + 1)) (wrap64 (p38 + 1)) (by omega) ⟨by omega, H⟩)
   rw [if_neg c26] at H
   refine aw_ifF ?_ (decide_eq_false c26)
   refine aw_exit ?_
   refine ac_then ?_
   refine ac_then ?_
   refine ac_hit rfl ?_
   refine ac_next ?_
   refine aw_grp1 ?_
   refine wk_start ?_
   refine kv g0 (asg) ?_
   refine kv g0 (asg) ?_
   refine wk_end ?_
   refine ac_next ?_
   refine aw_ret ?_
   obtain rfl := Option.some.inj H
   exact acr hE [.tmp 4, .tmp 5] (.tmp (.tmp .nil)) (.many _ _ _) [] 9999
  rw [if_neg c6] at H
  refine aw_ifT ?_ (nT (bF c6))
  refine aw_grp1 ?_
  refine wk_start ?_
  refine kv g0 (asg) ?_
  refine kv g0 (asg) ?_
  refine wk_end ?_
  refine ac_next ?_
  refine aw_ret ?_
  refine ac_thenR ?_
  obtain rfl := Option.some.inj H
  exact acr hE [.tmp 4, .tmp 5] (.tmp (.tmp .nil)) (.many _ _ _) [] 9999
 rw [if_neg c3] at H
 refine kx (hF (nT (bF c3))) ?_
 refine kx (hF (nT (bF c3))) ?_
 refine kx (hF (nT (bF c3))) ?_
 refine kv g0 (pkT (nT (bF c3))) ?_
 refine wk_end ?_
 refine ac_next ?_
 refine aw_ifT ?_ rfl
 refine aw_grp1 ?_
 refine wk_start ?_
 refine kv g0 (asg) ?_
 refine kv g0 (asg) ?_
 refine wk_end ?_
 refine ac_next ?_
 refine aw_ret ?_
 refine ac_thenR ?_
 obtain rfl := Option.some.inj H
 exact acr hE [.tmp 4, .tmp 5] (.tmp (.tmp .nil)) (.many _ _ _) [] 9999
/-! impl_NextOf -/
def impl_NextOf.f (k : Nat) (l0 : List S46) (a1 : Int) : Option ((List Int)) := (impl_CheckProgram.f k l0).bind fun t1 => (if t1 = true then ((impl_within.f a1 0 (wrap64 ((l0.length : Int) - 1))).bind fun t4 => if t4 = true then if 0 ≤ a1 then (if a1 < (l0.length : Int) then ((impl_ways.f k ((rd_T46 l0 a1).f0) ((rd_T46 l0 a1).f1) ((rd_T46 l0 a1).f2) ((rd_T46 l0 a1).f3) a1).bind fun t9 => some t9) else none) else none else some ([] : List Int)) else some ([] : List Int))
theorem impl_NextOf.ok {k : Nat} {l0 : List S46} {a1 : Int} {r : (List Int)} (H : impl_NextOf.f k l0 a1 = some r) : ACalls Try.prog 25 [] [.sl .o 4 (l0.map e46), .lit (.int .i64 a1)] [(0, .row 3 1 (r.map (eI .i64)))] (.row 0) := by
 refine acalls (fn := Try.f25) (nt := 23) Try.func25 rfl rfl (Nat.le_of_ble_eq_true rfl) fun E hE => ?_
 rw [impl_NextOf.f] at H
 refine aw_grp1 ?_
 refine wk_start ?_
 refine kv g0 (asg) ?_
 refine wk_end ?_
 refine ac_next ?_
 refine aw_grp1 ?_
 refine aw_grp1 ?_
 refine wk_start ?_
 refine kv g0 (mv) ?_
 obtain ⟨t1, A2, H⟩ := of_bind H
 refine kcS0 6 (.lit (.bool t1)) [] g0 (cal (impl_CheckProgram.ok A2) [] 9999 .n (hf := Try.func48)) rfl rfl ?_
 refine kv g0 (not_) ?_
 refine kv g0 (mv) ?_
 by_cases c3 : t1 = true
 ·rw [if_pos c3] at H
  refine kv (g1 (nF c3)) (mv) ?_
  refine kv (g1 (nF c3)) (mv) ?_
  refine kv (g1 (nF c3)) (lnS lenE) ?_
  refine kv (g1 (nF c3)) (sub6) ?_
  obtain ⟨t4, A5, H⟩ := of_bind H
  refine kcS0 13 (.lit (.bool t4)) [] (g1 (nF c3)) (cal (impl_within.ok A5) [] 9999 .n (hf := Try.func49)) rfl rfl ?_
  refine kv (g1 (nF c3)) (not_) ?_
  refine kv g0 (pkF (nF c3)) ?_
  refine wk_end ?_
  refine ac_next ?_
  by_cases c6 : t4 = true
  ·rw [if_pos c6] at H
   refine aw_ifF ?_ (nF c6)
   refine aw_skip ?_
   refine ac_next ?_
   refine aw_grp1 ?_
   refine wk_start ?_
   refine kv g0 (mv) ?_
   refine kv g0 (mv) ?_
   obtain ⟨c7, H⟩ := of_if H
   obtain ⟨c8, H⟩ := of_if H
   refine kv g0 (ixS 46 (e46 (rd_T46 l0 a1)) c7 (getE (z := z46) c7 c8)) ?_
   refine kv g0 (ldRA 4 [.lit (.int .i64 ((rd_T46 l0 a1).f0)), .lit (.int .i64 ((rd_T46 l0 a1).f1)), .lit (.int .i64 ((rd_T46 l0 a1).f2)), .lit (.int .i64 ((rd_T46 l0 a1).f3))]) ?_
   refine kv g0 (mv) ?_
   obtain ⟨t9, A10, H⟩ := of_bind H
   refine kcS1 22 (.row 2) [(2, .row 3 1 (t9.map (eI .i64)))] g0 (cal (impl_ways.ok A10) [2] 9999 .n (hf := Try.func50)) rfl rfl ?_
   refine kv g0 (asg) ?_
   refine wk_end ?_
   refine ac_next ?_
   refine aw_ret ?_
   obtain rfl := Option.some.inj H
   exact acr hE [.tmp 4] (.tmp .nil) (.one _) [(0, 2)] 9999
  rw [if_neg c6] at H
  refine aw_ifT ?_ (nT (bF c6))
  refine aw_grp1 ?_
  refine wk_start ?_
  refine kb g0 (bsl 0 3 1 [.int .i64 0] (([] : List Int).map (eI .i64))) ?_
  refine kv g0 (asg) ?_
  refine wk_end ?_
  refine ac_next ?_
  refine aw_ret ?_
  refine ac_thenR ?_
  obtain rfl := Option.some.inj H
  exact acr hE [.tmp 4] (.tmp .nil) (.one _) [(0, 0)] 9999
 rw [if_neg c3] at H
 refine kx (hF (nT (bF c3))) ?_
 refine kx (hF (nT (bF c3))) ?_
 refine kx (hF (nT (bF c3))) ?_
 refine kx (hF (nT (bF c3))) ?_
 refine kx (hF (nT (bF c3))) ?_
 refine kx (hF (nT (bF c3))) ?_
 refine kv g0 (pkT (nT (bF c3))) ?_
 refine wk_end ?_
 refine ac_next ?_
 refine aw_ifT ?_ rfl
 refine aw_grp1 ?_
 refine wk_start ?_
 refine kb g0 (bsl 1 3 1 [.int .i64 0] (([] : List Int).map (eI .i64))) ?_
 refine kv g0 (asg) ?_
 refine wk_end ?_
 refine ac_next ?_
 refine aw_ret ?_
 refine ac_thenR ?_
 obtain rfl := Option.some.inj H
 exact acr hE [.tmp 4] (.tmp .nil) (.one _) [(0, 1)] 9999
/-! slices_Min_int_int -/
def slices_Min_int_int.l0 : Nat → (List Int) → Int → Int → Option (Int)
 | 0, _, _, _ => none
 | k7 + 1, l0, p5, p6 => if p6 < (l0.length : Int) then if 0 ≤ p6 then slices_Min_int_int.l0 k7 l0 (min p5 (rd l0 p6)) (wrap64 (p6 + 1)) else none else some p5
def slices_Min_int_int.f (k : Nat) (l0 : List Int) : Option (Int) := if (l0.length : Int) < 1 then (none) else if 0 < (l0.length : Int) then slices_Min_int_int.l0 k l0 (rd l0 0) 1 else none
theorem slices_Min_int_int.ok {k : Nat} {l0 : List Int} {r : Int} (H : slices_Min_int_int.f k l0 = some r) : ACalls Try.prog 54 [] [.sl .o 1 (l0.map (eI .i64))] [] (.lit (.int .i64 r)) := by
 refine acalls (fn := Try.f54) (nt := 25) Try.func54 rfl rfl (Nat.le_of_ble_eq_true rfl) fun E hE => ?_
 rw [slices_Min_int_int.f] at H
 refine aw_grp1 ?_
 refine wk_start ?_
 refine kv g0 (asg) ?_
 refine wk_end ?_
 refine ac_next ?_
 refine aw_grp1 ?_
 refine aw_grp1 ?_
 refine wk_start ?_
 refine kv g0 (mv) ?_
 refine kv g0 (lnS lenE) ?_
 refine kv g0 (lss) ?_
 refine wk_end ?_
 refine ac_next ?_
 by_cases c1 : (l0.length : Int) < 1
 ·rw [if_pos c1] at H
  refine aw_ifT ?_ (decide_eq_true c1)
  cases H
 rw [if_neg c1] at H
 refine aw_ifF ?_ (decide_eq_false c1)
 refine aw_skip ?_
 refine ac_next ?_
 refine aw_grp1 ?_
 refine wk_start ?_
 refine kv g0 (mv) ?_
 obtain ⟨c2, H⟩ := of_if H
 refine kv g0 (ixS 3 (eI .i64 (rd l0 0)) (by decide : (0 : Int) ≤ 0) (getE (z := (0 : Int)) (by decide : (0 : Int) ≤ 0) c2)) ?_
 refine kv g0 (ldR (.lit (.int .i64 (rd l0 0)))) ?_
 refine kv g0 (asg) ?_
 refine wk_end ?_
 refine ac_next ?_
 refine aw_grp1 ?_
 refine aw_grp1 ?_
 refine wk_start ?_
 refine kv g0 (asg) ?_
 refine wk_end ?_
 refine ac_next ?_
 refine aw_block ?_
 refine aw_loop2 (fun (k_ : Nat) (p5 : Int) (p6 : Int) => k_ ≤ k ∧ slices_Min_int_int.l0 k_ l0 p5 p6 = some r) (fun (p5 : Int) (p6 : Int) => ⟨[(0, .sl .o 1 (l0.map (eI .i64))), (3, .lit (.int .i64 p5)), (4, .lit (.int .i64 p6))], []⟩) k (rd l0 0) 1 ⟨Nat.le_refl _, H⟩ (fun K_ h_ => acw hE [] 9999 h_) (fun _ _ => by intro h_; have h_ := h_.2; rw [slices_Min_int_int.l0.eq_1] at h_; cases h_) ?_
 intro k7 p5 p6 hq_ K10 hK11
 have hk7 := hq_.1
 have H := hq_.2
 clear hq_
 rw [slices_Min_int_int.l0.eq_2] at H
 refine aw_grp1 ?_
 refine aw_grp1 ?_
 refine wk_start ?_
 refine kv g0 (mv) ?_
 refine kv g0 (mv) ?_
 refine kv g0 (lnS lenE) ?_
 refine kv g0 (lss) ?_
 refine wk_end ?_
 refine ac_next ?_
 by_cases c8 : p6 < (l0.length : Int)
 ·rw [if_pos c8] at H
  refine aw_ifT ?_ (decide_eq_true c8)
  refine aw_skip ?_
  refine ac_next ?_
  refine aw_grp1 ?_
  refine aw_block ?_
  refine wk_start ?_
  refine kv g0 (mv) ?_
  refine kv g0 (mv) ?_
  refine kv g0 (mv) ?_
  obtain ⟨c9, H⟩ := of_if H
  refine kv g0 (ixS 3 (eI .i64 (rd l0 p6)) c9 (getE (z := (0 : Int)) c9 c8)) ?_
  refine kv g0 (ldR (.lit (.int .i64 (rd l0 p6)))) ?_
  refine kv g0 (min_) ?_
  refine kv g0 (asg) ?_
  refine wk_end ?_
  refine ac_blkN ?_
  refine ac_next ?_
  refine wk_start ?_
  refine kv g0 (mv) ?_
  refine kv g0 (add6) ?_
  refine kv g0 (asg) ?_
  refine wk_end ?_
  refine ac_k ?_
  exact acw hE [] 9999 (hK11 k7 (min p5 (rd l0 p6)) (wrap64 (p6 + 1)) (Nat.le_refl _) ⟨by omega, H⟩)
 rw [if_neg c8] at H
 refine aw_ifF ?_ (decide_eq_false c8)
 refine aw_exit ?_
 refine ac_then ?_
 refine ac_then ?_
 refine ac_hit rfl ?_
 refine ac_next ?_
 refine aw_grp1 ?_
 refine wk_start ?_
 refine kv g0 (mv) ?_
 refine kv g0 (asg) ?_
 refine wk_end ?_
 refine ac_next ?_
 refine aw_ret ?_
 obtain rfl := Option.some.inj H
 exact acr hE [.tmp 2] (.tmp .nil) (.one _) [] 9999
/-! impl_ShortestRun_1 -/
def impl_ShortestRun_1.f (k : Nat) (l0 : List Int) : Option (Int) := if (l0.length : Int) = 0 then some 1 else (slices_Min_int_int.f k l0).bind fun t2 => some (wrap64 (t2 + 1))
theorem impl_ShortestRun_1.ok {k : Nat} {l0 : List Int} {r : Int} (H : impl_ShortestRun_1.f k l0 = some r) : ACalls Try.prog 53 [] [.sl .o 1 (l0.map (eI .i64))] [] (.lit (.int .i64 r)) := by
 refine acalls (fn := Try.f53) (nt := 9) Try.func53 rfl rfl (Nat.le_of_ble_eq_true rfl) fun E hE => ?_
 rw [impl_ShortestRun_1.f] at H
 refine aw_grp1 ?_
 refine wk_start ?_
 refine kv g0 (asg) ?_
 refine wk_end ?_
 refine ac_next ?_
 refine aw_grp1 ?_
 refine aw_grp1 ?_
 refine wk_start ?_
 refine kv g0 (mv) ?_
 refine kv g0 (lnS lenE) ?_
 refine kv g0 (eql) ?_
 refine wk_end ?_
 refine ac_next ?_
 by_cases c1 : (l0.length : Int) = 0
 ·rw [if_pos c1] at H
  refine aw_ifT ?_ (eT c1)
  refine aw_grp1 ?_
  refine wk_start ?_
  refine kv g0 (asg) ?_
  refine wk_end ?_
  refine ac_next ?_
  refine aw_ret ?_
  refine ac_thenR ?_
  obtain rfl := Option.some.inj H
  exact acr hE [.tmp 2] (.tmp .nil) (.one _) [] 9999
 rw [if_neg c1] at H
 refine aw_ifF ?_ (eF c1)
 refine aw_skip ?_
 refine ac_next ?_
 refine aw_grp1 ?_
 refine wk_start ?_
 refine kv g0 (mv) ?_
 obtain ⟨t2, A3, H⟩ := of_bind H
 refine kcS0 7 (.lit (.int .i64 t2)) [] g0 (cal (slices_Min_int_int.ok A3) [] 9999 .n (hf := Try.func54)) rfl rfl ?_
 refine kv g0 (add6) ?_
 refine kv g0 (asg) ?_
 refine wk_end ?_
 refine ac_next ?_
 refine aw_ret ?_
 obtain rfl := Option.some.inj H
 exact acr hE [.tmp 2] (.tmp .nil) (.one _) [] 9999
/-! impl_runs, handed impl_ShortestRun_1 -/
mutual
def impl_runs_w53.l0 : Nat → (List S46) → (List Int) → Int → ((List Int)) → (List Int) → Int → Option (Int)
 | 0, _, _, _, _, _, _ => none
 | k45 + 1, l0, q30, p31, t36, q43, p44 => if p44 < (t36.length : Int) then if 0 ≤ p44 then if 0 ≤ (rd t36 p44) then (if (rd t36 p44) < (q30.length : Int) then (if q43.length + ([(rd q30 (rd t36 p44))] : List Int).length < 17592186044416 then impl_runs_w53.l0 k45 l0 q30 p31 t36 (q43 ++ ([(rd q30 (rd t36 p44))] : List Int)) (wrap64 (p44 + 1)) else none) else none) else none else none else (impl_ShortestRun_1.f k45 q43).bind fun t53 => (if p31 < (q30.length : Int) then impl_runs_w53.l1 k45 l0 (q30.set p31.toNat t53) (wrap64 (p31 - 1)) else none)
def impl_runs_w53.l1 : Nat → (List S46) → (List Int) → Int → Option (Int)
 | 0, _, _, _ => none
 | k32 + 1, l0, q30, p31 => if p31 ≥ 0 then if 0 ≤ p31 then (if p31 < (l0.length : Int) then ((impl_ways.f k32 ((rd_T46 l0 p31).f0) ((rd_T46 l0 p31).f1) ((rd_T46 l0 p31).f2) ((rd_T46 l0 p31).f3) p31).bind fun t36 => impl_runs_w53.l0 k32 l0 q30 p31 t36 ([] : List Int) 0) else none) else none else if 0 < (q30.length : Int) then some (rd q30 0) else none
end
def impl_runs_w53.f (k : Nat) (l0 : List S46) : Option (Int) := (impl_CheckProgram.f k l0).bind fun t1 => if t1 = true then if 0 ≤ (l0.length : Int) then (if (l0.length : Int).toNat ≤ 35184372088832 then impl_runs_w53.l1 k l0 (List.replicate (l0.length : Int).toNat (0 : Int)) (wrap64 ((l0.length : Int) - 1)) else none) else none else some 0
theorem impl_runs_w53.ok {k : Nat} {l0 : List S46} {r : Int} (H : impl_runs_w53.f k l0 = some r) : ACalls Try.prog 43 [] [.sl .o 4 (l0.map e46), .fn 53 []] [] (.lit (.int .i64 r)) := by
 refine acalls (fn := Try.f43) (nt := 52) Try.func43 rfl rfl (Nat.le_of_ble_eq_true rfl) fun E hE => ?_
 rw [impl_runs_w53.f] at H
 refine aw_grp1 ?_
 refine wk_start ?_
 refine kv g0 (asg) ?_
 refine wk_end ?_
 refine ac_next ?_
 refine aw_grp1 ?_
 refine aw_grp1 ?_
 refine wk_start ?_
 refine kv g0 (mv) ?_
 obtain ⟨t1, A2, H⟩ := of_bind H
 refine kcS0 11 (.lit (.bool t1)) [] g0 (cal (impl_CheckProgram.ok A2) [] 9999 .n (hf := Try.func48)) rfl rfl ?_
 refine kv g0 (not_) ?_
 refine wk_end ?_
 refine ac_next ?_
 by_cases c3 : t1 = true
 ·rw [if_pos c3] at H
  refine aw_ifF ?_ (nF c3)
  refine aw_skip ?_
  refine ac_next ?_
  refine aw_grp1 ?_
  refine wk_start ?_
  refine kv g0 (mv) ?_
  refine kv g0 (lnS lenE) ?_
  obtain ⟨c4, H⟩ := of_if H
  obtain ⟨c5, H⟩ := of_if H
  refine kb g0 (mks 0 3 1 8 [.int .i64 0] (eI .i64 (0 : Int)) ((List.replicate (l0.length : Int).toNat (0 : Int)).map (eI .i64)) c4 (mkb c5 rfl) repE) ?_
  refine kv g0 (asg) ?_
  refine wk_end ?_
  refine ac_next ?_
  refine aw_grp1 ?_
  refine aw_grp1 ?_
  refine wk_start ?_
  refine kv g0 (mv) ?_
  refine kv g0 (lnS lenE) ?_
  refine kv g0 (sub6) ?_
  refine kv g0 (asg) ?_
  refine wk_end ?_
  refine ac_next ?_
  refine aw_block ?_
  refine aw_loop2 (fun (k_ : Nat) (q30 : List Int) (p31 : Int) => k_ ≤ k ∧ impl_runs_w53.l1 k_ l0 q30 p31 = some r) (fun (q30 : List Int) (p31 : Int) => ⟨[(0, .sl .o 4 (l0.map e46)), (1, .fn 53 []), (5, .row 0), (6, .lit (.int .i64 p31))], [(0, .row 3 1 (q30.map (eI .i64)))]⟩) k (List.replicate (l0.length : Int).toNat (0 : Int)) (wrap64 ((l0.length : Int) - 1)) ⟨Nat.le_refl _, H⟩ (fun K_ h_ => acw hE [(0, 0)] 9999 h_) (fun _ _ => by intro h_; have h_ := h_.2; rw [impl_runs_w53.l1.eq_1] at h_; cases h_) ?_
  intro k32 q30 p31 hq_ K56 hK57
  have hk32 := hq_.1
  have H := hq_.2
  clear hq_
  rw [impl_runs_w53.l1.eq_2] at H
  refine aw_grp1 ?_
  refine aw_grp1 ?_
  refine wk_start ?_
  refine kv g0 (mv) ?_
  refine kv g0 (geq) ?_
  refine wk_end ?_
  refine ac_next ?_
  by_cases c33 : p31 ≥ 0
  ·rw [if_pos c33] at H
   refine aw_ifT ?_ (decide_eq_true c33)
   refine aw_skip ?_
   refine ac_next ?_
   refine aw_grp1 ?_
   refine aw_block ?_
   refine aw_grp1 ?_
   refine wk_start ?_
   refine kb g0 (bsl 1 3 1 [.int .i64 0] (([] : List Int).map (eI .i64))) ?_
   refine kv g0 (asg) ?_
   refine wk_end ?_
   refine ac_next ?_
   refine aw_grp1 ?_
   refine aw_grp1 ?_
   refine wk_start ?_
   refine kv g0 (mv) ?_
   refine kv g0 (mv) ?_
   obtain ⟨c34, H⟩ := of_if H
   obtain ⟨c35, H⟩ := of_if H
   refine kv g0 (ixS 46 (e46 (rd_T46 l0 p31)) c34 (getE (z := z46) c34 c35)) ?_
   refine kv g0 (ldRA 4 [.lit (.int .i64 ((rd_T46 l0 p31).f0)), .lit (.int .i64 ((rd_T46 l0 p31).f1)), .lit (.int .i64 ((rd_T46 l0 p31).f2)), .lit (.int .i64 ((rd_T46 l0 p31).f3))]) ?_
   refine kv g0 (mv) ?_
   obtain ⟨t36, A37, H⟩ := of_bind H
   refine kcS1 29 (.row 2) [(2, .row 3 1 (t36.map (eI .i64)))] g0 (cal (impl_ways.ok A37) [2] 9999 .n (hf := Try.func50)) rfl rfl ?_
   refine kv g0 (lnR lenE) ?_
   refine kv g0 (mv) ?_
   refine wk_end ?_
   refine ac_next ?_
   refine aw_block ?_
   refine aw_loop2 (fun (k_ : Nat) (q43 : List Int) (p44 : Int) => k_ ≤ k32 ∧ impl_runs_w53.l0 k_ l0 q30 p31 t36 q43 p44 = some r) (fun (q43 : List Int) (p44 : Int) => ⟨[(0, .sl .o 4 (l0.map e46)), (1, .fn 53 []), (5, .row 0), (6, .lit (.int .i64 p31)), (7, .row 1), (29, .row 2), (30, .lit (.int .i64 (t36.length : Int))), (31, .lit (.int .i64 p44))], [(0, .row 3 1 (q30.map (eI .i64))), (1, .row 3 1 (q43.map (eI .i64))), (2, .row 3 1 (t36.map (eI .i64)))]⟩) k32 ([] : List Int) 0 ⟨Nat.le_refl _, H⟩ (fun K_ h_ => acw hE [(0, 0), (1, 1), (2, 2)] 9999 h_) (fun _ _ => by intro h_; have h_ := h_.2; rw [impl_runs_w53.l0.eq_1] at h_; cases h_) ?_
   intro k45 q43 p44 hq_ K51 hK52
   have hk45 := hq_.1
   have H := hq_.2
   clear hq_
   rw [impl_runs_w53.l0.eq_2] at H
   refine aw_grp1 ?_
   refine wk_start ?_
   refine kv g0 (lss) ?_
   refine wk_end ?_
   refine ac_next ?_
   refine aw_grp1 ?_
   by_cases c46 : p44 < (t36.length : Int)
   ·rw [if_pos c46] at H
    refine aw_ifT ?_ (decide_eq_true c46)
    refine aw_skip ?_
    refine ac_next ?_
    refine aw_grp1 ?_
    refine aw_block ?_
    refine aw_grp1 ?_
    refine wk_start ?_
    obtain ⟨c47, H⟩ := of_if H
    refine kv g0 (ixR 3 c47 (ltE c46)) ?_
    refine kv g0 (ldE (eI .i64 (rd t36 p44)) (.lit (.int .i64 (rd t36 p44))) (getE (z := (0 : Int)) c47 c46)) ?_
    refine kv g0 (asg) ?_
    refine wk_end ?_
    refine ac_next ?_
    refine wk_start ?_
    refine kv g0 (mv) ?_
    refine kv g0 (mv) ?_
    refine kv g0 (mv) ?_
    obtain ⟨c48, H⟩ := of_if H
    obtain ⟨c49, H⟩ := of_if H
    refine kv g0 (ixR 3 c48 (ltE c49)) ?_
    refine kv g0 (ldE (eI .i64 (rd q30 (rd t36 p44))) (.lit (.int .i64 (rd q30 (rd t36 p44)))) (getE (z := (0 : Int)) c48 c49)) ?_
    refine kb g0 (bsl 3 3 1 [.int .i64 0] (([(rd q30 (rd t36 p44))] : List Int).map (eI .i64))) ?_
    obtain ⟨c50, H⟩ := of_if H
    refine kc g0 (apR 4 3 1 8 [.int .i64 0] ((q43 ++ ([(rd q30 (rd t36 p44))] : List Int)).map (eI .i64)) (.row rfl) (apb c50 rfl) appE) ?_
    refine kv g0 (asg) ?_
    refine wk_end ?_
    refine ac_blkN ?_
    refine ac_next ?_
    refine wk_start ?_
    refine kv g0 (add6) ?_
    refine kv g0 (mv) ?_
    refine wk_end ?_
    refine ac_k ?_
    exact acw hE [(0, 0), (1, 4), (2, 2)] 9999 (hK52 k45 (q43 ++ ([(rd q30 (rd t36 p44))] : List Int)) (wrap64 (p44 + 1)) (Nat.le_refl _) ⟨by omega, H⟩)
   rw [if_neg c46] at H
   refine aw_ifF ?_ (decide_eq_false c46)
   refine aw_exit ?_
   refine ac_then ?_
   refine ac_then ?_
   refine ac_hit rfl ?_
   refine ac_next ?_
   refine wk_start ?_
   refine kv g0 (mv) ?_
   refine kv g0 (mv) ?_
   refine kv g0 (mv) ?_
   refine kv g0 (mv) ?_
   obtain ⟨t53, A54, H⟩ := of_bind H
   refine kcS0 47 (.lit (.int .i64 t53)) [] g0 (cal (impl_ShortestRun_1.ok A54) [] 9999 .n (hf := Try.func53)) rfl rfl ?_
   obtain ⟨c55, H⟩ := of_if H
   refine kv g0 (ixR 3 c34 (ltE c55)) ?_
   refine ks g0 (stE 1 (eI .i64 t53) ((q30.set p31.toNat t53).map (eI .i64)) (getE (z := (0 : Int)) c34 c55) setE) ?_
   refine wk_end ?_
   refine ac_blkN ?_
   refine ac_next ?_
   refine wk_start ?_
   refine kv g0 (mv) ?_
   refine kv g0 (sub6) ?_
   refine kv g0 (asg) ?_
   refine wk_end ?_
   refine ac_k ?_
   exact acw hE [(0, 0)] 9999 (hK57 k45 (q30.set p31.toNat t53) (wrap64 (p31 - 1)) (by omega) ⟨by omega, H⟩)
  rw [if_neg c33] at H
  refine aw_ifF ?_ (decide_eq_false c33)
  refine aw_exit ?_
  refine ac_then ?_
  refine ac_then ?_
  refine ac_hit rfl ?_
  refine ac_next ?_
  refine aw_grp1 ?_
  refine wk_start ?_
  refine kv g0 (mv) ?_
  obtain ⟨c58, H⟩ := of_if H
  refine kv g0 (ixR 3 (by decide : (0 : Int) ≤ 0) (ltE c58)) ?_
  refine kv g0 (ldE (eI .i64 (rd q30 0)) (.lit (.int .i64 (rd q30 0))) (getE (z := (0 : Int)) (by decide : (0 : Int) ≤ 0) c58)) ?_
  refine kv g0 (asg) ?_
  refine wk_end ?_
  refine ac_next ?_
  refine aw_ret ?_
  obtain rfl := Option.some.inj H
  exact acr hE [.tmp 4] (.tmp .nil) (.one _) [] 9999
 rw [if_neg c3] at H
 refine aw_ifT ?_ (nT (bF c3))
 refine aw_grp1 ?_
 refine wk_start ?_
 refine kv g0 (asg) ?_
 refine wk_end ?_
 refine ac_next ?_
 refine aw_ret ?_
 refine ac_thenR ?_
 obtain rfl := Option.some.inj H
 exact acr hE [.tmp 4] (.tmp .nil) (.one _) [] 9999
/-! impl_ShortestRun -/
def impl_ShortestRun.f (k : Nat) (l0 : List S46) : Option (Int) := (impl_runs_w53.f k l0).bind fun t1 => some t1
theorem impl_ShortestRun.ok {k : Nat} {l0 : List S46} {r : Int} (H : impl_ShortestRun.f k l0 = some r) : ACalls Try.prog 27 [] [.sl .o 4 (l0.map e46)] [] (.lit (.int .i64 r)) := by
 refine acalls (fn := Try.f27) (nt := 5) Try.func27 rfl rfl (Nat.le_of_ble_eq_true rfl) fun E hE => ?_
 rw [impl_ShortestRun.f] at H
 refine aw_grp1 ?_
 refine wk_start ?_
 refine kv g0 (asg) ?_
 refine wk_end ?_
 refine ac_next ?_
 refine aw_grp1 ?_
 refine wk_start ?_
 refine kv g0 (mv) ?_
 obtain ⟨t1, A2, H⟩ := of_bind H
 refine kcS0 4 (.lit (.int .i64 t1)) [] g0 (cal (impl_runs_w53.ok A2) [] 9999 .n (hf := Try.func43)) rfl rfl ?_
 refine kv g0 (asg) ?_
 refine wk_end ?_
 refine ac_next ?_
 refine aw_ret ?_
 obtain rfl := Option.some.inj H
 exact acr hE [.tmp 2] (.tmp .nil) (.one _) [] 9999
/-! laws_hasNum -/
def laws_hasNum.l0 : Nat → (List Int) → Int → Int → Option (Bool)
 | 0, _, _, _ => none
 | k5 + 1, l0, a1, p4 => if p4 < (l0.length : Int) then if 0 ≤ p4 then if (rd l0 p4) = a1 then some true else laws_hasNum.l0 k5 l0 a1 (wrap64 (p4 + 1)) else none else some false
def laws_hasNum.f (k : Nat) (l0 : List Int) (a1 : Int) : Option (Bool) := laws_hasNum.l0 k l0 a1 0
theorem laws_hasNum.ok {k : Nat} {l0 : List Int} {a1 : Int} {r : Bool} (H : laws_hasNum.f k l0 a1 = some r) : ACalls Try.prog 28 [] [.sl .o 1 (l0.map (eI .i64)), .lit (.int .i64 a1)] [] (.lit (.bool r)) := by
 refine acalls (fn := Try.f28) (nt := 18) Try.func28 rfl rfl (Nat.le_of_ble_eq_true rfl) fun E hE => ?_
 rw [laws_hasNum.f] at H
 refine aw_grp1 ?_
 refine wk_start ?_
 refine kv g0 (asg) ?_
 refine wk_end ?_
 refine ac_next ?_
 refine aw_grp1 ?_
 refine aw_grp1 ?_
 refine wk_start ?_
 refine kv g0 (asg) ?_
 refine wk_end ?_
 refine ac_next ?_
 refine aw_block ?_
 refine aw_loop1 (fun (k_ : Nat) (p4 : Int) => k_ ≤ k ∧ laws_hasNum.l0 k_ l0 a1 p4 = some r) (fun (p4 : Int) => ⟨[(0, .sl .o 1 (l0.map (eI .i64))), (1, .lit (.int .i64 a1)), (5, .lit (.int .i64 p4))], []⟩) k 0 ⟨Nat.le_refl _, H⟩ (fun K_ h_ => acw hE [] 9999 h_) (fun _ => by intro h_; have h_ := h_.2; rw [laws_hasNum.l0.eq_1] at h_; cases h_) ?_
 intro k5 p4 hq_ K9 hK10
 have hk5 := hq_.1
 have H := hq_.2
 clear hq_
 rw [laws_hasNum.l0.eq_2] at H
 refine aw_grp1 ?_
 refine aw_grp1 ?_
 refine wk_start ?_
 refine kv g0 (mv) ?_
 refine kv g0 (mv) ?_
 refine kv g0 (lnS lenE) ?_
 refine kv g0 (lss) ?_
 refine wk_end ?_
 refine ac_next ?_
 by_cases c6 : p4 < (l0.length : Int)
 ·rw [if_pos c6] at H
  refine aw_ifT ?_ (decide_eq_true c6)
  refine aw_skip ?_
  refine ac_next ?_
  refine aw_grp1 ?_
  refine aw_block ?_
  refine aw_grp1 ?_
  refine wk_start ?_
  refine kv g0 (mv) ?_
  refine kv g0 (mv) ?_
  obtain ⟨c7, H⟩ := of_if H
  refine kv g0 (ixS 3 (eI .i64 (rd l0 p4)) c7 (getE (z := (0 : Int)) c7 c6)) ?_
  refine kv g0 (ldR (.lit (.int .i64 (rd l0 p4)))) ?_
  refine kv g0 (mv) ?_
  refine kv g0 (eql) ?_
  refine wk_end ?_
  refine ac_next ?_
  by_cases c8 : (rd l0 p4) = a1
  ·rw [if_pos c8] at H
   refine aw_ifT ?_ (eT c8)
   refine aw_grp1 ?_
   refine wk_start ?_
   refine kv g0 (asg) ?_
   refine wk_end ?_
   refine ac_next ?_
   refine aw_ret ?_
   refine ac_blkR ?_
   refine ac_thenR ?_
   refine ac_thenR ?_
   refine ac_blkR ?_
   refine ac_thenR ?_
   obtain rfl := Option.some.inj H
   exact acr hE [.tmp 4] (.tmp .nil) (.one _) [] 9999
  rw [if_neg c8] at H
  refine aw_ifF ?_ (eF c8)
  refine aw_skip ?_
  refine ac_blkN ?_
  refine ac_next ?_
  refine wk_start ?_
  refine kv g0 (mv) ?_
  refine kv g0 (add6) ?_
  refine kv g0 (asg) ?_
  refine wk_end ?_
  refine ac_k ?_
  exact acw hE [] 9999 (hK10 k5 (wrap64 (p4 + 1)) (Nat.le_refl _) ⟨by omega, H⟩)
 rw [if_neg c6] at H
 refine aw_ifF ?_ (decide_eq_false c6)
 refine aw_exit ?_
 refine ac_then ?_
 refine ac_then ?_
 refine ac_hit rfl ?_
 refine ac_next ?_
 refine aw_grp1 ?_
 refine wk_start ?_
 refine kv g0 (asg) ?_
 refine wk_end ?_
 refine ac_next ?_
 refine aw_ret ?_
 obtain rfl := Option.some.inj H
 exact acr hE [.tmp 4] (.tmp .nil) (.one _) [] 9999
/-! laws_FnWays -/
mutual
def laws_FnWays.l0 : Nat → ((List S46)) → (Int × Int × (List S75)) → (Int × Int) → Int → ((List Int)) → Int → Option (Bool)
 | 0, _, _, _, _, _, _ => none
 | k48 + 1, t4, t6, t19, p38, t41, p47 => if p47 < (t41.length : Int) then if 0 ≤ p47 then (if (rd t41 p47) ≤ p38 then some false else if (rd t41 p47) ≥ (t4.length : Int) then some false else laws_FnWays.l0 k48 t4 t6 t19 p38 t41 (wrap64 (p47 + 1))) else none else if 0 ≤ p38 then if ((t41.length : Int) == 0) = (((rd_T46 t4 p38).f0) == 8) then laws_FnWays.l1 k48 t4 t6 t19 (wrap64 (p38 + 1)) else some false else none
def laws_FnWays.l1 : Nat → ((List S46)) → (Int × Int × (List S75)) → (Int × Int) → Int → Option (Bool)
 | 0, _, _, _, _ => none
 | k39 + 1, t4, t6, t19, p38 => if p38 < (t4.length : Int) then (impl_NextOf.f k39 t4 p38).bind fun t41 => laws_FnWays.l0 k39 t4 t6 t19 p38 t41 0 else (spec_CallOk.f k39 t6.1 t6.2.1 t6.2.2).bind fun t59 => (if t59 = true then ((impl_ShortestRun.f k39 t4).bind fun t62 => (if t19.2 ≥ t62 then ((impl_LongestRun.f k39 t4).bind fun t65 => (if t19.2 ≤ t65 then ((impl_ResultsIn.f k39 t4).bind fun t68 => ((laws_hasNum.f k39 t68 t19.1).bind fun t70 => (if t70 = true then ((impl_LongestRun.f k39 t4).bind fun t73 => (if t73 ≤ (t4.length : Int) then ((impl_ShortestRun.f k39 t4).bind fun t76 => (if t76 ≥ 1 then ((impl_WaysIn.f k39 t4).bind fun t79 => some (decide (t79 ≥ 1))) else some false)) else some false)) else some false))) else some false)) else some false)) else ((impl_LongestRun.f k39 t4).bind fun t81 => (if t81 ≤ (t4.length : Int) then ((impl_ShortestRun.f k39 t4).bind fun t84 => (if t84 ≥ 1 then ((impl_WaysIn.f k39 t4).bind fun t87 => some (decide (t87 ≥ 1))) else some false)) else some false)))
end
def laws_FnWays.f (k : Nat) (l0 : List Int) : Option (Bool) := (laws_big.f l0).bind fun t1 => if t1 = true then some true else (spec_DrawProgram.f k l0).bind fun t4 => (spec_DrawCall.f k l0).bind fun t6 => (spec_CheckProgram.f k t4).bind fun t8 => if t8 = true then (spec_Run.f k t4 t6.1 t6.2.1 t6.2.2).bind fun t19 => laws_FnWays.l1 k t4 t6 t19 0 else ((impl_LongestRun.f k t4).bind fun t11 => (if t11 = 0 then ((impl_WaysIn.f k t4).bind fun t14 => (if t14 = 0 then ((impl_ResultsIn.f k t4).bind fun t17 => some ((t17.length : Int) == 0)) else some false)) else some false))
theorem laws_FnWays.ok {k : Nat} {l0 : List Int} {r : Bool} (H : laws_FnWays.f k l0 = some r) : ACalls Try.prog 5 [] [.sl .o 1 (l0.map (eI .u8))] [] (.lit (.bool r)) := by
 refine acalls (fn := Try.f5) (nt := 117) Try.func5 rfl rfl (Nat.le_of_ble_eq_true rfl) fun E hE => ?_
 rw [laws_FnWays.f] at H
 refine aw_grp1 ?_
 refine wk_start ?_
 refine kv g0 (asg) ?_
 refine wk_end ?_
 refine ac_next ?_
 refine aw_grp1 ?_
 refine aw_grp1 ?_
 refine wk_start ?_
 refine kv g0 (mv) ?_
 obtain ⟨t1, A2, H⟩ := of_bind H
 refine kcS0 11 (.lit (.bool t1)) [] g0 (cal (laws_big.ok A2) [] 9999 .n (hf := Try.func18)) rfl rfl ?_
 refine wk_end ?_
 refine ac_next ?_
 by_cases c3 : t1 = true
 ·rw [if_pos c3] at H
  refine aw_ifT ?_ c3
  refine aw_grp1 ?_
  refine wk_start ?_
  refine kv g0 (asg) ?_
  refine wk_end ?_
  refine ac_next ?_
  refine aw_ret ?_
  refine ac_thenR ?_
  obtain rfl := Option.some.inj H
  exact acr hE [.tmp 2] (.tmp .nil) (.one _) [] 9999
 rw [if_neg c3] at H
 refine aw_ifF ?_ (bF c3)
 refine aw_skip ?_
 refine ac_next ?_
 refine aw_grp1 ?_
 refine wk_start ?_
 refine kv g0 (mv) ?_
 obtain ⟨t4, A5, H⟩ := of_bind H
 refine kcS1 13 (.row 0) [(0, .row 46 4 (t4.map e46))] g0 (cal (spec_DrawProgram.ok A5) [0] 9999 .n (hf := Try.func19)) rfl rfl ?_
 refine kv g0 (asg) ?_
 refine wk_end ?_
 refine ac_next ?_
 refine aw_grp1 ?_
 refine wk_start ?_
 refine kv g0 (mv) ?_
 obtain ⟨t6, A7, H⟩ := of_bind H
 refine kcS1 15 (.agg [.lit (.int .i64 t6.1), .lit (.int .i64 t6.2.1), .row 1]) [(1, .row 75 2 (t6.2.2.map e75))] g0 (cal (spec_DrawCall.ok A7) [1] 9999 .n (hf := Try.func20)) rfl rfl ?_
 refine kb g0 (alc 2 [.int .i64 0, .int .i64 0, .slice none 0 0] [.lit (.int .i64 0), .lit (.int .i64 0), .lit (.slice none 0 0)]) ?_
 refine ks g0 (stB 3 [.lit (.int .i64 t6.1), .lit (.int .i64 t6.2.1), .row 1]) ?_
 refine wk_end ?_
 refine ac_next ?_
 refine aw_grp1 ?_
 refine aw_grp1 ?_
 refine wk_start ?_
 refine kv g0 (mv) ?_
 obtain ⟨t8, A9, H⟩ := of_bind H
 refine kcS0 17 (.lit (.bool t8)) [] g0 (cal (spec_CheckProgram.ok A9) [] 9999 .n (hf := Try.func21)) rfl rfl ?_
 refine kv g0 (not_) ?_
 refine wk_end ?_
 refine ac_next ?_
 by_cases c10 : t8 = true
 ·rw [if_pos c10] at H
  refine aw_ifF ?_ (nF c10)
  refine aw_skip ?_
  refine ac_next ?_
  refine aw_grp1 ?_
  refine wk_start ?_
  refine kv g0 (mv) ?_
  refine kv g0 (ldBA 3 [.lit (.int .i64 t6.1), .lit (.int .i64 t6.2.1), .row 1]) ?_
  obtain ⟨t19, A20, H⟩ := of_bind H
  refine kcS0 36 (.tup [.lit (.int .i64 t19.1), .lit (.int .i64 t19.2)]) [] g0 (cal (spec_Run.ok A20) [] 9999 .n (hf := Try.func24)) rfl rfl ?_
  refine kv g0 (mv) ?_
  refine kv g0 (ext) ?_
  refine kv g0 (ext) ?_
  refine kv g0 (asg) ?_
  refine kv g0 (asg) ?_
  refine wk_end ?_
  refine ac_next ?_
  refine aw_grp1 ?_
  refine aw_grp1 ?_
  refine wk_start ?_
  refine kv g0 (asg) ?_
  refine wk_end ?_
  refine ac_next ?_
  refine aw_block ?_
  refine aw_loop1 (fun (k_ : Nat) (p38 : Int) => k_ ≤ k ∧ laws_FnWays.l1 k_ t4 t6 t19 p38 = some r) (fun (p38 : Int) => ⟨[(3, .row 0), (4, .box 2 0), (5, .lit (.int .i64 t19.1)), (6, .lit (.int .i64 t19.2)), (7, .lit (.int .i64 p38))], [(0, .row 46 4 (t4.map e46)), (1, .row 75 2 (t6.2.2.map e75)), (2, .box 38 [.lit (.int .i64 t6.1), .lit (.int .i64 t6.2.1), .row 1])]⟩) k 0 ⟨Nat.le_refl _, H⟩ (fun K_ h_ => acw hE [(0, 0), (1, 1), (2, 2)] 9999 h_) (fun _ => by intro h_; have h_ := h_.2; rw [laws_FnWays.l1.eq_1] at h_; cases h_) ?_
  intro k39 p38 hq_ K57 hK58
  have hk39 := hq_.1
  have H := hq_.2
  clear hq_
  rw [laws_FnWays.l1.eq_2] at H
  refine aw_grp1 ?_
  refine aw_grp1 ?_
  refine wk_start ?_
  refine kv g0 (mv) ?_
  refine kv g0 (mv) ?_
  refine kv g0 (lnR lenE) ?_
  refine kv g0 (lss) ?_
  refine wk_end ?_
  refine ac_next ?_
  by_cases c40 : p38 < (t4.length : Int)
  ·rw [if_pos c40] at H
   refine aw_ifT ?_ (decide_eq_true c40)
   refine aw_skip ?_
   refine ac_next ?_
   refine aw_grp1 ?_
   refine aw_block ?_
   refine aw_grp1 ?_
   refine wk_start ?_
   refine kv g0 (mv) ?_
   refine kv g0 (mv) ?_
   obtain ⟨t41, A42, H⟩ := of_bind H
   refine kcS1 47 (.row 4) [(4, .row 3 1 (t41.map (eI .i64)))] g0 (cal (impl_NextOf.ok A42) [4] 9999 .n (hf := Try.func25)) rfl rfl ?_
   refine kv g0 (asg) ?_
   refine wk_end ?_
   refine ac_next ?_
   refine aw_grp1 ?_
   refine aw_grp1 ?_
   refine wk_start ?_
   refine kv g0 (asg) ?_
   refine wk_end ?_
   refine ac_next ?_
   refine aw_block ?_
   refine aw_loop1 (fun (k_ : Nat) (p47 : Int) => k_ ≤ k39 ∧ laws_FnWays.l0 k_ t4 t6 t19 p38 t41 p47 = some r) (fun (p47 : Int) => ⟨[(3, .row 0), (4, .box 2 0), (5, .lit (.int .i64 t19.1)), (6, .lit (.int .i64 t19.2)), (7, .lit (.int .i64 p38)), (8, .row 4), (9, .lit (.int .i64 p47))], [(0, .row 46 4 (t4.map e46)), (1, .row 75 2 (t6.2.2.map e75)), (2, .box 38 [.lit (.int .i64 t6.1), .lit (.int .i64 t6.2.1), .row 1]), (4, .row 3 1 (t41.map (eI .i64)))]⟩) k39 0 ⟨Nat.le_refl _, H⟩ (fun K_ h_ => acw hE [(0, 0), (1, 1), (2, 2), (4, 4)] 9999 h_) (fun _ => by intro h_; have h_ := h_.2; rw [laws_FnWays.l0.eq_1] at h_; cases h_) ?_
   intro k48 p47 hq_ K53 hK54
   have hk48 := hq_.1
   have H := hq_.2
   clear hq_
   rw [laws_FnWays.l0.eq_2] at H
   refine aw_grp1 ?_
   refine aw_grp1 ?_
   refine wk_start ?_
   refine kv g0 (mv) ?_
   refine kv g0 (mv) ?_
   refine kv g0 (lnR lenE) ?_
   refine kv g0 (lss) ?_
   refine wk_end ?_
   refine ac_next ?_
   by_cases c49 : p47 < (t41.length : Int)
   ·rw [if_pos c49] at H
    refine aw_ifT ?_ (decide_eq_true c49)
    refine aw_skip ?_
    refine ac_next ?_
    refine aw_grp1 ?_
    refine aw_block ?_
    refine aw_grp1 ?_
    refine wk_start ?_
    refine kv g0 (mv) ?_
    refine kv g0 (mv) ?_
    obtain ⟨c50, H⟩ := of_if H
    refine kv g0 (ixR 3 c50 (ltE c49)) ?_
    refine kv g0 (ldE (eI .i64 (rd t41 p47)) (.lit (.int .i64 (rd t41 p47))) (getE (z := (0 : Int)) c50 c49)) ?_
    refine kv g0 (mv) ?_
    refine kv g0 (leq) ?_
    refine kv g0 (mv) ?_
    by_cases c51 : (rd t41 p47) ≤ p38
    ·rw [if_pos c51] at H
     refine kx (hF (decide_eq_true c51)) ?_
     refine kx (hF (decide_eq_true c51)) ?_
     refine kx (hF (decide_eq_true c51)) ?_
     refine kx (hF (decide_eq_true c51)) ?_
     refine kx (hF (decide_eq_true c51)) ?_
     refine kx (hF (decide_eq_true c51)) ?_
     refine kx (hF (decide_eq_true c51)) ?_
     refine kv g0 (pkT (decide_eq_true c51)) ?_
     refine wk_end ?_
     refine ac_next ?_
     refine aw_ifT ?_ rfl
     refine aw_grp1 ?_
     refine wk_start ?_
     refine kv g0 (asg) ?_
     refine wk_end ?_
     refine ac_next ?_
     refine aw_ret ?_
     refine ac_blkR ?_
     refine ac_thenR ?_
     refine ac_thenR ?_
     refine ac_blkR ?_
     refine ac_thenR ?_
     refine ac_blkR ?_
     refine ac_thenR ?_
     refine ac_thenR ?_
     refine ac_blkR ?_
     refine ac_thenR ?_
     obtain rfl := Option.some.inj H
     exact acr hE [.tmp 2] (.tmp .nil) (.one _) [] 9999
    rw [if_neg c51] at H
    refine kv (g1 (decide_eq_false c51)) (mv) ?_
    refine kv (g1 (decide_eq_false c51)) (mv) ?_
    refine kv (g1 (decide_eq_false c51)) (ixR 3 c50 (ltE c49)) ?_
    refine kv (g1 (decide_eq_false c51)) (ldE (eI .i64 (rd t41 p47)) (.lit (.int .i64 (rd t41 p47))) (getE (z := (0 : Int)) c50 c49)) ?_
    refine kv (g1 (decide_eq_false c51)) (mv) ?_
    refine kv (g1 (decide_eq_false c51)) (lnR lenE) ?_
    refine kv (g1 (decide_eq_false c51)) (geq) ?_
    refine kv g0 (pkF (decide_eq_false c51)) ?_
    refine wk_end ?_
    refine ac_next ?_
    by_cases c52 : (rd t41 p47) ≥ (t4.length : Int)
    ·rw [if_pos c52] at H
     refine aw_ifT ?_ (decide_eq_true c52)
     refine aw_grp1 ?_
     refine wk_start ?_
     refine kv g0 (asg) ?_
     refine wk_end ?_
     refine ac_next ?_
     refine aw_ret ?_
     refine ac_blkR ?_
     refine ac_thenR ?_
     refine ac_thenR ?_
     refine ac_blkR ?_
     refine ac_thenR ?_
     refine ac_blkR ?_
     refine ac_thenR ?_
     refine ac_thenR ?_
     refine ac_blkR ?_
     refine ac_thenR ?_
     obtain rfl := Option.some.inj H
     exact acr hE [.tmp 2] (.tmp .nil) (.one _) [] 9999
    rw [if_neg c52] at H
    refine aw_ifF ?_ (decide_eq_false c52)
    refine aw_skip ?_
    refine ac_blkN ?_
    refine ac_next ?_
    refine wk_start ?_
    refine kv g0 (mv) ?_
    refine kv g0 (add6) ?_
    refine kv g0 (asg) ?_
    refine wk_end ?_
    refine ac_k ?_
    exact acw hE [(0, 0), (1, 1), (2, 2), (4, 4)] 9999 (hK54 k48 (wrap64 (p47 + 1)) (Nat.le_refl _) ⟨by omega, H⟩)
   rw [if_neg c49] at H
   refine aw_ifF ?_ (decide_eq_false c49)
   refine aw_exit ?_
   refine ac_then ?_
   refine ac_then ?_
   refine ac_hit rfl ?_
   refine ac_next ?_
   refine aw_grp1 ?_
   refine wk_start ?_
   refine kv g0 (mv) ?_
   refine kv g0 (lnR lenE) ?_
   refine kv g0 (eql) ?_
   refine kv g0 (mv) ?_
   refine kv g0 (mv) ?_
   obtain ⟨c55, H⟩ := of_if H
   refine kv g0 (ixR 46 c55 (ltE c40)) ?_
   refine kv g0 (faE 0 0) ?_
   refine kv g0 (ldE (e46 (rd_T46 t4 p38)) (.lit (.int .i64 ((rd_T46 t4 p38).f0))) (getE (z := z46) c55 c40)) ?_
   refine kv g0 (eql) ?_
   refine kv g0 (bne) ?_
   refine wk_end ?_
   refine ac_next ?_
   by_cases c56 : ((t41.length : Int) == 0) = (((rd_T46 t4 p38).f0) == 8)
   ·rw [if_pos c56] at H
    refine aw_ifF ?_ (nF (eTb c56))
    refine aw_skip ?_
    refine ac_blkN ?_
    refine ac_next ?_
    refine wk_start ?_
    refine kv g0 (mv) ?_
    refine kv g0 (add6) ?_
    refine kv g0 (asg) ?_
    refine wk_end ?_
    refine ac_k ?_
    exact acw hE [(0, 0), (1, 1), (2, 2)] 9999 (hK58 k48 (wrap64 (p38 + 1)) (by omega) ⟨by omega, H⟩)
   rw [if_neg c56] at H
   refine aw_ifT ?_ (nT (eFb c56))
   refine aw_grp1 ?_
   refine wk_start ?_
   refine kv g0 (asg) ?_
   refine wk_end ?_
   refine ac_next ?_
   refine aw_ret ?_
   refine ac_blkR ?_
   refine ac_thenR ?_
   refine ac_thenR ?_
   refine ac_blkR ?_
   refine ac_thenR ?_
   obtain rfl := Option.some.inj H
   exact acr hE [.tmp 2] (.tmp .nil) (.one _) [] 9999
  rw [if_neg c40] at H
  refine aw_ifF ?_ (decide_eq_false c40)
  refine aw_exit ?_
  refine ac_then ?_
  refine ac_then ?_
  refine ac_hit rfl ?_
  refine ac_next ?_
  refine aw_grp1 ?_
  refine wk_start ?_
  refine kv g0 (ldBA 3 [.lit (.int .i64 t6.1), .lit (.int .i64 t6.2.1), .row 1]) ?_
  obtain ⟨t59, A60, H⟩ := of_bind H
  refine kcS0 80 (.lit (.bool t59)) [] g0 (cal (spec_CallOk.ok A60) [] 9999 .n (hf := Try.func26)) rfl rfl ?_
  refine kv g0 (not_) ?_
  refine kv g0 (mv) ?_
  by_cases c61 : t59 = true
  ·rw [if_pos c61] at H
   refine kv (g1 (nF c61)) (mv) ?_
   refine kv (g1 (nF c61)) (mv) ?_
   obtain ⟨t62, A63, H⟩ := of_bind H
   refine kcS0 85 (.lit (.int .i64 t62)) [] (g1 (nF c61)) (cal (impl_ShortestRun.ok A63) [] 9999 .n (hf := Try.func27)) rfl rfl ?_
   refine kv (g1 (nF c61)) (geq) ?_
   refine kv (g1 (nF c61)) (mv) ?_
   by_cases c64 : t19.2 ≥ t62
   ·rw [if_pos c64] at H
    refine kv (g1 (decide_eq_true c64)) (mv) ?_
    refine kv (g1 (decide_eq_true c64)) (mv) ?_
    obtain ⟨t65, A66, H⟩ := of_bind H
    refine kcS0 90 (.lit (.int .i64 t65)) [] (g1 (decide_eq_true c64)) (cal (impl_LongestRun.ok A66) [] 9999 .n (hf := Try.func22)) rfl rfl ?_
    refine kv (g1 (decide_eq_true c64)) (leq) ?_
    refine kv (g1 (nF c61)) (pkT (decide_eq_true c64)) ?_
    refine kv (g1 (nF c61)) (mv) ?_
    by_cases c67 : t19.2 ≤ t65
    ·rw [if_pos c67] at H
     refine kv (g1 (decide_eq_true c67)) (mv) ?_
     obtain ⟨t68, A69, H⟩ := of_bind H
     refine kcS1 95 (.row 5) [(5, .row 3 1 (t68.map (eI .i64)))] (g1 (decide_eq_true c67)) (cal (impl_ResultsIn.ok A69) [5] 9999 .n (hf := Try.func17)) rfl rfl ?_
     refine kv (g1 (decide_eq_true c67)) (mv) ?_
     obtain ⟨t70, A71, H⟩ := of_bind H
     refine kcS0 97 (.lit (.bool t70)) [] (g1 (decide_eq_true c67)) (cal (laws_hasNum.ok A71) [] 9999 .n (hf := Try.func28)) rfl rfl ?_
     refine kv (g1 (nF c61)) (pkT (decide_eq_true c67)) ?_
     refine kv g0 (pkF (nF c61)) ?_
     refine kv g0 (mv) ?_
     by_cases c72 : t70 = true
     ·rw [if_pos c72] at H
      refine kv (g1 c72) (mv) ?_
      obtain ⟨t73, A74, H⟩ := of_bind H
      refine kcS0 102 (.lit (.int .i64 t73)) [] (g1 c72) (cal (impl_LongestRun.ok A74) [] 9999 .n (hf := Try.func22)) rfl rfl ?_
      refine kv (g1 c72) (mv) ?_
      refine kv (g1 c72) (lnR lenE) ?_
      refine kv (g1 c72) (leq) ?_
      refine kv g0 (pkT c72) ?_
      refine kv g0 (mv) ?_
      by_cases c75 : t73 ≤ (t4.length : Int)
      ·rw [if_pos c75] at H
       refine kv (g1 (decide_eq_true c75)) (mv) ?_
       obtain ⟨t76, A77, H⟩ := of_bind H
       refine kcS0 109 (.lit (.int .i64 t76)) [] (g1 (decide_eq_true c75)) (cal (impl_ShortestRun.ok A77) [] 9999 .n (hf := Try.func27)) rfl rfl ?_
       refine kv (g1 (decide_eq_true c75)) (geq) ?_
       refine kv g0 (pkT (decide_eq_true c75)) ?_
       refine kv g0 (mv) ?_
       by_cases c78 : t76 ≥ 1
       ·rw [if_pos c78] at H
        refine kv (g1 (decide_eq_true c78)) (mv) ?_
        obtain ⟨t79, A80, H⟩ := of_bind H
        refine kcS0 114 (.lit (.int .i64 t79)) [] (g1 (decide_eq_true c78)) (cal (impl_WaysIn.ok A80) [] 9999 .n (hf := Try.func23)) rfl rfl ?_
        refine kv (g1 (decide_eq_true c78)) (geq) ?_
        refine kv g0 (pkT (decide_eq_true c78)) ?_
        refine kv g0 (asg) ?_
        refine wk_end ?_
        refine ac_next ?_
        refine aw_ret ?_
        obtain rfl := Option.some.inj H
        exact acr hE [.tmp 2] (.tmp .nil) (.one _) [] 9999
       rw [if_neg c78] at H
       refine kx (hT (decide_eq_false c78)) ?_
       refine kx (hT (decide_eq_false c78)) ?_
       refine kx (hT (decide_eq_false c78)) ?_
       refine kv g0 (pkF (decide_eq_false c78)) ?_
       refine kv g0 (asg) ?_
       refine wk_end ?_
       refine ac_next ?_
       refine aw_ret ?_
       obtain rfl := Option.some.inj H
       exact acr hE [.tmp 2] (.tmp .nil) (.one _) [] 9999
      rw [if_neg c75] at H
      refine kx (hT (decide_eq_false c75)) ?_
      refine kx (hT (decide_eq_false c75)) ?_
      refine kx (hT (decide_eq_false c75)) ?_
      refine kv g0 (pkF (decide_eq_false c75)) ?_
      refine kv g0 (mv) ?_
      refine kx (hT rfl) ?_
      refine kx (hT rfl) ?_
      refine kx (hT rfl) ?_
      refine kv g0 (pkF rfl) ?_
      refine kv g0 (asg) ?_
      refine wk_end ?_
      refine ac_next ?_
      refine aw_ret ?_
      obtain rfl := Option.some.inj H
      exact acr hE [.tmp 2] (.tmp .nil) (.one _) [] 9999
     rw [if_neg c72] at H
     refine kx (hT (bF c72)) ?_
     refine kx (hT (bF c72)) ?_
     refine kx (hT (bF c72)) ?_
     refine kx (hT (bF c72)) ?_
     refine kx (hT (bF c72)) ?_
     refine kv g0 (pkF (bF c72)) ?_
     refine kv g0 (mv) ?_
     refine kx (hT rfl) ?_
     refine kx (hT rfl) ?_
     refine kx (hT rfl) ?_
     refine kv g0 (pkF rfl) ?_
     refine kv g0 (mv) ?_
     refine kx (hT rfl) ?_
     refine kx (hT rfl) ?_
     refine kx (hT rfl) ?_
     refine kv g0 (pkF rfl) ?_
     refine kv g0 (asg) ?_
     refine wk_end ?_
     refine ac_next ?_
     refine aw_ret ?_
     obtain rfl := Option.some.inj H
     exact acr hE [.tmp 2] (.tmp .nil) (.one _) [] 9999
    rw [if_neg c67] at H
    refine kx (hT (decide_eq_false c67)) ?_
    refine kx (hT (decide_eq_false c67)) ?_
    refine kx (hT (decide_eq_false c67)) ?_
    refine kx (hT (decide_eq_false c67)) ?_
    refine kv (g1 (nF c61)) (pkF (decide_eq_false c67)) ?_
    refine kv g0 (pkF (nF c61)) ?_
    refine kv g0 (mv) ?_
    refine kx (hT rfl) ?_
    refine kx (hT rfl) ?_
    refine kx (hT rfl) ?_
    refine kx (hT rfl) ?_
    refine kx (hT rfl) ?_
    refine kv g0 (pkF rfl) ?_
    refine kv g0 (mv) ?_
    refine kx (hT rfl) ?_
    refine kx (hT rfl) ?_
    refine kx (hT rfl) ?_
    refine kv g0 (pkF rfl) ?_
    refine kv g0 (mv) ?_
    refine kx (hT rfl) ?_
    refine kx (hT rfl) ?_
    refine kx (hT rfl) ?_
    refine kv g0 (pkF rfl) ?_
    refine kv g0 (asg) ?_
    refine wk_end ?_
    refine ac_next ?_
    refine aw_ret ?_
    obtain rfl := Option.some.inj H
    exact acr hE [.tmp 2] (.tmp .nil) (.one _) [] 9999
   rw [if_neg c64] at H
   refine kx (hT (decide_eq_false c64)) ?_
   refine kx (hT (decide_eq_false c64)) ?_
   refine kx (hT (decide_eq_false c64)) ?_
   refine kx (hT (decide_eq_false c64)) ?_
   refine kv (g1 (nF c61)) (pkF (decide_eq_false c64)) ?_
   refine kv (g1 (nF c61)) (mv) ?_
   refine kx (hT rfl) ?_
   refine kx (hT rfl) ?_
   refine kx (hT rfl) ?_
   refine kx (hT rfl) ?_
   refine kv (g1 (nF c61)) (pkF rfl) ?_
   refine kv g0 (pkF (nF c61)) ?_
   refine kv g0 (mv) ?_
   refine kx (hT rfl) ?_
   refine kx (hT rfl) ?_
   refine kx (hT rfl) ?_
   refine kx (hT rfl) ?_
   refine kx (hT rfl) ?_
   refine kv g0 (pkF rfl) ?_
   refine kv g0 (mv) ?_
   refine kx (hT rfl) ?_
   refine kx (hT rfl) ?_
   refine kx (hT rfl) ?_
   refine kv g0 (pkF rfl) ?_
   refine kv g0 (mv) ?_
   refine kx (hT rfl) ?_
   refine kx (hT rfl) ?_
   refine kx (hT rfl) ?_
   refine kv g0 (pkF rfl) ?_
   refine kv g0 (asg) ?_
   refine wk_end ?_
   refine ac_next ?_
   refine aw_ret ?_
   obtain rfl := Option.some.inj H
   exact acr hE [.tmp 2] (.tmp .nil) (.one _) [] 9999
  rw [if_neg c61] at H
  refine kx (hF (nT (bF c61))) ?_
  refine kx (hF (nT (bF c61))) ?_
  refine kx (hF (nT (bF c61))) ?_
  refine kx (hF (nT (bF c61))) ?_
  refine ku (neT (hF (nT (bF c61)))) ?_
  refine ku neU ?_
  refine ku neU ?_
  refine ku neU ?_
  refine ku neU ?_
  refine kx (hF (nT (bF c61))) ?_
  refine ku (neT (hF (nT (bF c61)))) ?_
  refine ku neU ?_
  refine ku neU ?_
  refine ku neU ?_
  refine ku neU ?_
  refine kx (hF (nT (bF c61))) ?_
  refine kv g0 (pkT (nT (bF c61))) ?_
  refine kv g0 (mv) ?_
  refine kv (g1 rfl) (mv) ?_
  obtain ⟨t81, A82, H⟩ := of_bind H
  refine kcS0 102 (.lit (.int .i64 t81)) [] (g1 rfl) (cal (impl_LongestRun.ok A82) [] 9999 .n (hf := Try.func22)) rfl rfl ?_
  refine kv (g1 rfl) (mv) ?_
  refine kv (g1 rfl) (lnR lenE) ?_
  refine kv (g1 rfl) (leq) ?_
  refine kv g0 (pkT rfl) ?_
  refine kv g0 (mv) ?_
  by_cases c83 : t81 ≤ (t4.length : Int)
  ·rw [if_pos c83] at H
   refine kv (g1 (decide_eq_true c83)) (mv) ?_
   obtain ⟨t84, A85, H⟩ := of_bind H
   refine kcS0 109 (.lit (.int .i64 t84)) [] (g1 (decide_eq_true c83)) (cal (impl_ShortestRun.ok A85) [] 9999 .n (hf := Try.func27)) rfl rfl ?_
   refine kv (g1 (decide_eq_true c83)) (geq) ?_
   refine kv g0 (pkT (decide_eq_true c83)) ?_
   refine kv g0 (mv) ?_
   by_cases c86 : t84 ≥ 1
   ·rw [if_pos c86] at H
    refine kv (g1 (decide_eq_true c86)) (mv) ?_
    obtain ⟨t87, A88, H⟩ := of_bind H
    refine kcS0 114 (.lit (.int .i64 t87)) [] (g1 (decide_eq_true c86)) (cal (impl_WaysIn.ok A88) [] 9999 .n (hf := Try.func23)) rfl rfl ?_
    refine kv (g1 (decide_eq_true c86)) (geq) ?_
    refine kv g0 (pkT (decide_eq_true c86)) ?_
    refine kv g0 (asg) ?_
    refine wk_end ?_
    refine ac_next ?_
    refine aw_ret ?_
    obtain rfl := Option.some.inj H
    exact acr hE [.tmp 2] (.tmp .nil) (.one _) [] 9999
   rw [if_neg c86] at H
   refine kx (hT (decide_eq_false c86)) ?_
   refine kx (hT (decide_eq_false c86)) ?_
   refine kx (hT (decide_eq_false c86)) ?_
   refine kv g0 (pkF (decide_eq_false c86)) ?_
   refine kv g0 (asg) ?_
   refine wk_end ?_
   refine ac_next ?_
   refine aw_ret ?_
   obtain rfl := Option.some.inj H
   exact acr hE [.tmp 2] (.tmp .nil) (.one _) [] 9999
  rw [if_neg c83] at H
  refine kx (hT (decide_eq_false c83)) ?_
  refine kx (hT (decide_eq_false c83)) ?_
  refine kx (hT (decide_eq_false c83)) ?_
  refine kv g0 (pkF (decide_eq_false c83)) ?_
  refine kv g0 (mv) ?_
  refine kx (hT rfl) ?_
  refine kx (hT rfl) ?_
  refine kx (hT rfl) ?_
  refine kv g0 (pkF rfl) ?_
  refine kv g0 (asg) ?_
  refine wk_end ?_
  refine ac_next ?_
  refine aw_ret ?_
  obtain rfl := Option.some.inj H
  exact acr hE [.tmp 2] (.tmp .nil) (.one _) [] 9999
 rw [if_neg c10] at H
 refine aw_ifT ?_ (nT (bF c10))
 refine aw_grp1 ?_
 refine wk_start ?_
 refine kv g0 (mv) ?_
 obtain ⟨t11, A12, H⟩ := of_bind H
 refine kcS0 20 (.lit (.int .i64 t11)) [] g0 (cal (impl_LongestRun.ok A12) [] 9999 .n (hf := Try.func22)) rfl rfl ?_
 refine kv g0 (eql) ?_
 refine kv g0 (mv) ?_
 by_cases c13 : t11 = 0
 ·rw [if_pos c13] at H
  refine kv (g1 (eT c13)) (mv) ?_
  obtain ⟨t14, A15, H⟩ := of_bind H
  refine kcS0 24 (.lit (.int .i64 t14)) [] (g1 (eT c13)) (cal (impl_WaysIn.ok A15) [] 9999 .n (hf := Try.func23)) rfl rfl ?_
  refine kv (g1 (eT c13)) (eql) ?_
  refine kv g0 (pkT (eT c13)) ?_
  refine kv g0 (mv) ?_
  by_cases c16 : t14 = 0
  ·rw [if_pos c16] at H
   refine kv (g1 (eT c16)) (mv) ?_
   obtain ⟨t17, A18, H⟩ := of_bind H
   refine kcS1 29 (.row 3) [(3, .row 3 1 (t17.map (eI .i64)))] (g1 (eT c16)) (cal (impl_ResultsIn.ok A18) [3] 9999 .n (hf := Try.func17)) rfl rfl ?_
   refine kv (g1 (eT c16)) (lnR lenE) ?_
   refine kv (g1 (eT c16)) (eql) ?_
   refine kv g0 (pkT (eT c16)) ?_
   refine kv g0 (asg) ?_
   refine wk_end ?_
   refine ac_next ?_
   refine aw_ret ?_
   refine ac_thenR ?_
   obtain rfl := Option.some.inj H
   exact acr hE [.tmp 2] (.tmp .nil) (.one _) [] 9999
  rw [if_neg c16] at H
  refine kx (hT (eF c16)) ?_
  refine kx (hT (eF c16)) ?_
  refine kx (hT (eF c16)) ?_
  refine kx (hT (eF c16)) ?_
  refine kv g0 (pkF (eF c16)) ?_
  refine kv g0 (asg) ?_
  refine wk_end ?_
  refine ac_next ?_
  refine aw_ret ?_
  refine ac_thenR ?_
  obtain rfl := Option.some.inj H
  exact acr hE [.tmp 2] (.tmp .nil) (.one _) [] 9999
 rw [if_neg c13] at H
 refine kx (hT (eF c13)) ?_
 refine kx (hT (eF c13)) ?_
 refine kx (hT (eF c13)) ?_
 refine kv g0 (pkF (eF c13)) ?_
 refine kv g0 (mv) ?_
 refine kx (hT rfl) ?_
 refine kx (hT rfl) ?_
 refine kx (hT rfl) ?_
 refine kx (hT rfl) ?_
 refine kv g0 (pkF rfl) ?_
 refine kv g0 (asg) ?_
 refine wk_end ?_
 refine ac_next ?_
 refine aw_ret ?_
 refine ac_thenR ?_
 obtain rfl := Option.some.inj H
 exact acr hE [.tmp 2] (.tmp .nil) (.one _) [] 9999
end Go.Proofs.Ythfflkfpmebbbaa.PFnWays
