import Derived.Test.YtfeaemlakniijaaPFnKeepsToldx2
set_option linter.unusedVariables false
set_option linter.unusedSimpArgs false
set_option maxRecDepth 100000
namespace Go.Proofs.Ytfeaemlakniijaa.PFnKeepsTold
open Go Go.RowKit Go.Proofs.YtfeaemlakniijaaA
/-! impl_KeeperOk -/
mutual
def impl_KeeperOk.l0 : Nat → (List S98) → (List Int) → (List S97) → Int → (List Int) → Int → Option (Bool)
 | 0, _, _, _, _, _, _ => none
 | k18 + 1, l0_0, l0_1, l0_2, a0_3, l0_4, p17 => if p17 < 3 then if 0 ≤ p17 then (if p17 < (l0_1.length : Int) then ((impl_within.f (rd l0_1 p17) 1 1000000000).bind fun t22 => (if t22 = true then (if p17 < (l0_4.length : Int) then ((impl_within.f (rd l0_4 p17) 1 (rd l0_1 p17)).bind fun t26 => if t26 = true then impl_KeeperOk.l0 k18 l0_0 l0_1 l0_2 a0_3 l0_4 (wrap64 (p17 + 1)) else some false) else none) else some false)) else none) else none else impl_KeeperOk.l1 k18 l0_0 l0_1 l0_2 a0_3 l0_4 (List.replicate 3 (0 : Int)) (List.replicate 3 (0 : Int)) 0
def impl_KeeperOk.j0 : Nat → (List S98) → (List Int) → (List S97) → Int → (List Int) → (List Int) → Int → (List Int) → Option (Bool)
 | 0, _, _, _, _, _, _, _, _ => none
 | k66 + 1, l0_0, l0_1, l0_2, a0_3, l0_4, q48, p50, q65 => if ((rd_T98 l0_0 p50).f0) < ((q48.set ((rd_T98 l0_0 p50).f0).toNat (wrap64 ((rd q48 ((rd_T98 l0_0 p50).f0)) + 1))).length : Int) then if ((rd_T98 l0_0 p50).f1) = (rd (q48.set ((rd_T98 l0_0 p50).f0).toNat (wrap64 ((rd q48 ((rd_T98 l0_0 p50).f0)) + 1))) ((rd_T98 l0_0 p50).f0)) then impl_KeeperOk.l1 k66 l0_0 l0_1 l0_2 a0_3 l0_4 (q48.set ((rd_T98 l0_0 p50).f0).toNat (wrap64 ((rd q48 ((rd_T98 l0_0 p50).f0)) + 1))) q65 (wrap64 (p50 + 1)) else some false else none
def impl_KeeperOk.l1 : Nat → (List S98) → (List Int) → (List S97) → Int → (List Int) → (List Int) → (List Int) → Int → Option (Bool)
 | 0, _, _, _, _, _, _, _, _ => none
 | k51 + 1, l0_0, l0_1, l0_2, a0_3, l0_4, q48, q49, p50 => if p50 < (l0_0.length : Int) then if 0 ≤ p50 then (impl_isPid.f ((rd_T98 l0_0 p50).f0)).bind fun t54 => (if t54 = true then ((impl_ItemOk.f ((rd_T98 l0_0 p50).f2.f0) ((rd_T98 l0_0 p50).f2.f1) ((rd_T98 l0_0 p50).f2.f2) ((rd_T98 l0_0 p50).f2.f3)).bind fun t57 => if t57 = true then if 0 ≤ ((rd_T98 l0_0 p50).f0) then (if ((rd_T98 l0_0 p50).f0) < 3 then (if ((rd_T98 l0_0 p50).f0) < (q48.length : Int) then if p50 < a0_3 then (if ((rd_T98 l0_0 p50).f0) < (q49.length : Int) then impl_KeeperOk.j0 k51 l0_0 l0_1 l0_2 a0_3 l0_4 q48 p50 (q49.set ((rd_T98 l0_0 p50).f0).toNat (wrap64 ((rd q49 ((rd_T98 l0_0 p50).f0)) + 1))) else none) else impl_KeeperOk.j0 k51 l0_0 l0_1 l0_2 a0_3 l0_4 q48 p50 q49 else none) else none) else none else some false) else some false) else none else impl_KeeperOk.l2 k51 l0_0 l0_1 l0_2 a0_3 l0_4 q48 q49 0
def impl_KeeperOk.l2 : Nat → (List S98) → (List Int) → (List S97) → Int → (List Int) → (List Int) → (List Int) → Int → Option (Bool)
 | 0, _, _, _, _, _, _, _, _ => none
 | k81 + 1, l0_0, l0_1, l0_2, a0_3, l0_4, q48, q49, p80 => if p80 < 3 then if 0 ≤ p80 then (if p80 < (q48.length : Int) then (if p80 < (l0_1.length : Int) then (if (rd q48 p80) = (wrap64 ((rd l0_1 p80) - 1)) then (if p80 < (q49.length : Int) then (if p80 < (l0_4.length : Int) then if (rd q49 p80) = (wrap64 ((rd l0_4 p80) - 1)) then impl_KeeperOk.l2 k81 l0_0 l0_1 l0_2 a0_3 l0_4 q48 q49 (wrap64 (p80 + 1)) else some false else none) else none) else some false) else none) else none) else none else impl_KeeperOk.l3 k81 l0_0 l0_1 l0_2 a0_3 l0_4 0
def impl_KeeperOk.l3 : Nat → (List S98) → (List Int) → (List S97) → Int → (List Int) → Int → Option (Bool)
 | 0, _, _, _, _, _, _ => none
 | k109 + 1, l0_0, l0_1, l0_2, a0_3, l0_4, p108 => if p108 < (l0_2.length : Int) then if 0 ≤ p108 then (impl_isPid.f ((rd_T97 l0_2 p108).f0)).bind fun t112 => (if t112 = true then ((impl_ItemOk.f ((rd_T97 l0_2 p108).f2.f0) ((rd_T97 l0_2 p108).f2.f1) ((rd_T97 l0_2 p108).f2.f2) ((rd_T97 l0_2 p108).f2.f3)).bind fun t115 => (if t115 = true then (if 0 ≤ ((rd_T97 l0_2 p108).f0) then (if ((rd_T97 l0_2 p108).f0) < (l0_1.length : Int) then (if ((rd_T97 l0_2 p108).f1) ≤ (rd l0_1 ((rd_T97 l0_2 p108).f0)) then some false else (if ((rd_T97 l0_2 p108).f1) > 1000000000 then some false else (if p108 ≤ (l0_2.length : Int) then ((impl_earlyAt.f k109 (l0_2.take p108.toNat) ((rd_T97 l0_2 p108).f0) ((rd_T97 l0_2 p108).f1)).bind fun t123 => if t123 ≥ 0 then some false else impl_KeeperOk.l3 k109 l0_0 l0_1 l0_2 a0_3 l0_4 (wrap64 (p108 + 1))) else none))) else none) else none) else some false)) else some false) else none else some true
end
def impl_KeeperOk.f (k : Nat) (l0_0 : List S98) (l0_1 : List Int) (l0_2 : List S97) (a0_3 : Int) (l0_4 : List Int) : Option (Bool) := if (l0_1.length : Int) = 3 then (if (l0_4.length : Int) = 3 then (if (l0_0.length : Int) > 200 then some false else ((impl_within.f a0_3 0 (l0_0.length : Int)).bind fun t4 => (if t4 = true then if (l0_2.length : Int) > 3 then some false else impl_KeeperOk.l0 k l0_0 l0_1 l0_2 a0_3 l0_4 0 else some false))) else some false) else some false
theorem impl_KeeperOk.ok {k : Nat} {l0_0 : List S98} {l0_1 : List Int} {l0_2 : List S97} {a0_3 : Int} {l0_4 : List Int} {r : Bool} (H : impl_KeeperOk.f k l0_0 l0_1 l0_2 a0_3 l0_4 = some r) : ACalls Try.prog 12 [] [.agg [.sl .o 6 (l0_0.map e98), .sl .o 1 (l0_1.map (eI .i64)), .sl .o 6 (l0_2.map e97), .lit (.int .i64 a0_3), .sl .o 1 (l0_4.map (eI .i64))]] [] (.lit (.bool r)) := by
 refine acalls (fn := Try.f12) (nt := 182) Try.func12 rfl rfl (Nat.le_of_ble_eq_true rfl) fun E hE => ?_
 rw [impl_KeeperOk.f] at H
 refine aw_grp1 ?_
 refine wk_start ?_
 refine kb g0 (bxA 0) ?_
 refine kv g0 (asg) ?_
 refine wk_end ?_
 refine ac_next ?_
 refine aw_grp1 ?_
 refine aw_grp1 ?_
 refine wk_start ?_
 refine kv g0 (faB 1 1) ?_
 refine kv g0 (ldB) ?_
 refine kv g0 (lnS lenE) ?_
 refine kv g0 (neq) ?_
 refine kv g0 (mv) ?_
 by_cases c1 : (l0_1.length : Int) = 3
 ·rw [if_pos c1] at H
  refine kv (g1 (eM c1)) (faB 4 4) ?_
  refine kv (g1 (eM c1)) (ldB) ?_
  refine kv (g1 (eM c1)) (lnS lenE) ?_
  refine kv (g1 (eM c1)) (neq) ?_
  refine kv g0 (pkF (eM c1)) ?_
  refine kv g0 (mv) ?_
  by_cases c2 : (l0_4.length : Int) = 3
  ·rw [if_pos c2] at H
   refine kv (g1 (eM c2)) (faB 0 0) ?_
   refine kv (g1 (eM c2)) (ldB) ?_
   refine kv (g1 (eM c2)) (lnS lenE) ?_
   refine kv (g1 (eM c2)) (gtr) ?_
   refine kv g0 (pkF (eM c2)) ?_
   refine kv g0 (mv) ?_
   by_cases c3 : (l0_0.length : Int) > 200
   ·rw [if_pos c3] at H
    refine kx (hF (decide_eq_true c3)) ?_
    refine kx (hF (decide_eq_true c3)) ?_
    refine kx (hF (decide_eq_true c3)) ?_
    refine kx (hF (decide_eq_true c3)) ?_
    refine kx (hF (decide_eq_true c3)) ?_
    refine kx (hF (decide_eq_true c3)) ?_
    refine kx (hF (decide_eq_true c3)) ?_
    refine kv g0 (pkT (decide_eq_true c3)) ?_
    refine kv g0 (mv) ?_
    refine kx (hF rfl) ?_
    refine kx (hF rfl) ?_
    refine kx (hF rfl) ?_
    refine kx (hF rfl) ?_
    refine kv g0 (pkT rfl) ?_
    refine wk_end ?_
    refine ac_next ?_
    refine aw_ifT ?_ rfl
    refine aw_grp1 ?_
    refine wk_start ?_
    refine kv g0 (asg) ?_
    refine wk_end ?_
    refine ac_next ?_
    refine aw_ret ?_
    refine ac_thenR ?_
    obtain rfl := Option.some.inj H
    exact acr hE [.tmp 2] (.tmp .nil) (.one _) [] 9999
   rw [if_neg c3] at H
   refine kv (g1 (decide_eq_false c3)) (faB 3 3) ?_
   refine kv (g1 (decide_eq_false c3)) (ldB) ?_
   refine kv (g1 (decide_eq_false c3)) (faB 0 0) ?_
   refine kv (g1 (decide_eq_false c3)) (ldB) ?_
   refine kv (g1 (decide_eq_false c3)) (lnS lenE) ?_
   obtain ⟨t4, A5, H⟩ := of_bind H
   refine kcS0 33 (.lit (.bool t4)) [] (g1 (decide_eq_false c3)) (cal (impl_within.ok A5) [] 9999 .n (hf := Try.func55)) rfl rfl ?_
   refine kv (g1 (decide_eq_false c3)) (not_) ?_
   refine kv g0 (pkF (decide_eq_false c3)) ?_
   refine kv g0 (mv) ?_
   by_cases c6 : t4 = true
   ·rw [if_pos c6] at H
    refine kv (g1 (nF c6)) (faB 2 2) ?_
    refine kv (g1 (nF c6)) (ldB) ?_
    refine kv (g1 (nF c6)) (lnS lenE) ?_
    refine kv (g1 (nF c6)) (gtr) ?_
    refine kv g0 (pkF (nF c6)) ?_
    refine wk_end ?_
    refine ac_next ?_
    by_cases c7 : (l0_2.length : Int) > 3
    ·rw [if_pos c7] at H
     refine aw_ifT ?_ (decide_eq_true c7)
     refine aw_grp1 ?_
     refine wk_start ?_
     refine kv g0 (asg) ?_
     refine wk_end ?_
     refine ac_next ?_
     refine aw_ret ?_
     refine ac_thenR ?_
     obtain rfl := Option.some.inj H
     exact acr hE [.tmp 2] (.tmp .nil) (.one _) [] 9999
    rw [if_neg c7] at H
    refine aw_ifF ?_ (decide_eq_false c7)
    refine aw_skip ?_
    refine ac_next ?_
    refine aw_grp1 ?_
    refine aw_grp1 ?_
    refine wk_start ?_
    refine kv g0 (mv) ?_
    refine wk_end ?_
    refine ac_next ?_
    refine aw_block ?_
    refine aw_loop1 (fun (k_ : Nat) (p17 : Int) => k_ ≤ k ∧ impl_KeeperOk.l0 k_ l0_0 l0_1 l0_2 a0_3 l0_4 p17 = some r) (fun (p17 : Int) => ⟨[(1, .box 0 0), (42, .lit (.int .i64 p17))], [(0, .box 29 [.sl .o 6 (l0_0.map e98), .sl .o 1 (l0_1.map (eI .i64)), .sl .o 6 (l0_2.map e97), .lit (.int .i64 a0_3), .sl .o 1 (l0_4.map (eI .i64))])]⟩) k 0 ⟨Nat.le_refl _, H⟩ (fun K_ h_ => acw hE [(0, 0)] 9999 h_) (fun _ => by intro h_; have h_ := h_.2; rw [impl_KeeperOk.l0.eq_1] at h_; cases h_) ?_
    intro k18 p17 hq_ K29 hK30
    have hk18 := hq_.1
    have H := hq_.2
    clear hq_
    rw [impl_KeeperOk.l0.eq_2] at H
    refine aw_grp1 ?_
    refine wk_start ?_
    refine kv g0 (lss) ?_
    refine wk_end ?_
    refine ac_next ?_
    refine aw_grp1 ?_
    by_cases c19 : p17 < 3
    ·rw [if_pos c19] at H
     refine aw_ifT ?_ (decide_eq_true c19)
     refine aw_skip ?_
     refine ac_next ?_
     refine aw_grp1 ?_
     refine aw_block ?_
     refine aw_grp1 ?_
     refine wk_start ?_
     refine kv g0 (mv) ?_
     refine kv g0 (asg) ?_
     refine wk_end ?_
     refine ac_next ?_
     refine aw_grp1 ?_
     refine wk_start ?_
     refine kv g0 (faB 1 1) ?_
     refine kv g0 (ldB) ?_
     refine kv g0 (mv) ?_
     obtain ⟨c20, H⟩ := of_if H
     obtain ⟨c21, H⟩ := of_if H
     refine kv g0 (ixS 3 (eI .i64 (rd l0_1 p17)) c20 (getE (z := (0 : Int)) c20 c21)) ?_
     refine kv g0 (ldR (.lit (.int .i64 (rd l0_1 p17)))) ?_
     obtain ⟨t22, A23, H⟩ := of_bind H
     refine kcS0 50 (.lit (.bool t22)) [] g0 (cal (impl_within.ok A23) [] 9999 .n (hf := Try.func55)) rfl rfl ?_
     refine kv g0 (not_) ?_
     refine kv g0 (mv) ?_
     by_cases c24 : t22 = true
     ·rw [if_pos c24] at H
      refine kv (g1 (nF c24)) (faB 4 4) ?_
      refine kv (g1 (nF c24)) (ldB) ?_
      refine kv (g1 (nF c24)) (mv) ?_
      obtain ⟨c25, H⟩ := of_if H
      refine kv (g1 (nF c24)) (ixS 3 (eI .i64 (rd l0_4 p17)) c20 (getE (z := (0 : Int)) c20 c25)) ?_
      refine kv (g1 (nF c24)) (ldR (.lit (.int .i64 (rd l0_4 p17)))) ?_
      refine kv (g1 (nF c24)) (faB 1 1) ?_
      refine kv (g1 (nF c24)) (ldB) ?_
      refine kv (g1 (nF c24)) (mv) ?_
      refine kv (g1 (nF c24)) (ixS 3 (eI .i64 (rd l0_1 p17)) c20 (getE (z := (0 : Int)) c20 c21)) ?_
      refine kv (g1 (nF c24)) (ldR (.lit (.int .i64 (rd l0_1 p17)))) ?_
      obtain ⟨t26, A27, H⟩ := of_bind H
      refine kcS0 63 (.lit (.bool t26)) [] (g1 (nF c24)) (cal (impl_within.ok A27) [] 9999 .n (hf := Try.func55)) rfl rfl ?_
      refine kv (g1 (nF c24)) (not_) ?_
      refine kv g0 (pkF (nF c24)) ?_
      refine wk_end_draw hM (by kernel_rfl) ?_
      refine ac_next ?_
      by_cases c28 : t26 = true
      ·rw [if_pos c28] at H
       refine aw_ifF ?_ (nF c28)
       refine aw_skip ?_
       refine ac_blkN ?_
       refine ac_next ?_
       refine wk_start ?_
       refine kv g0 (add6) ?_
       refine kv g0 (mv) ?_
       refine wk_end ?_
       refine ac_k ?_
       exact acw hE [(0, 0)] 9999 (hK30 k18 (wrap64 (p17 + 1)) (Nat.le_refl _) ⟨by omega, H⟩)
      rw [if_neg c28] at H
      refine aw_ifT ?_ (nT (bF c28))
      refine aw_grp1 ?_
      refine wk_start ?_
      refine kv g0 (asg) ?_
      refine wk_end ?_
      refine ac_next ?_
      refine aw_ret ?_
      refine ac_blkR ?_
      refine ac_thenR ?_
      refine ac_thenR ?_
      refine ac_blkR ?_
      refine ac_thenR ?_
      obtain rfl := Option.some.inj H
      exact acr hE [.tmp 2] (.tmp .nil) (.one _) [] 9999
     rw [if_neg c24] at H
     refine kx (hF (nT (bF c24))) ?_
     refine kx (hF (nT (bF c24))) ?_
     refine kx (hF (nT (bF c24))) ?_
     refine kx (hF (nT (bF c24))) ?_
     refine kx (hF (nT (bF c24))) ?_
     refine kx (hF (nT (bF c24))) ?_
     refine kx (hF (nT (bF c24))) ?_
     refine kx (hF (nT (bF c24))) ?_
     refine kx (hF (nT (bF c24))) ?_
     refine kx (hF (nT (bF c24))) ?_
     refine kx (hF (nT (bF c24))) ?_
     refine kx (hF (nT (bF c24))) ?_
     refine kv g0 (pkT (nT (bF c24))) ?_
     refine wk_end_draw hM (by kernel_rfl) ?_
     refine ac_next ?_
     refine aw_ifT ?_ rfl
     refine aw_grp1 ?_
     refine wk_start ?_
     refine kv g0 (asg) ?_
     refine wk_end ?_
     refine ac_next ?_
     refine aw_ret ?_
     refine ac_blkR ?_
     refine ac_thenR ?_
     refine ac_thenR ?_
     refine ac_blkR ?_
     refine ac_thenR ?_
     obtain rfl := Option.some.inj H
     exact acr hE [.tmp 2] (.tmp .nil) (.one _) [] 9999
    rw [if_neg c19] at H
    refine aw_ifF ?_ (decide_eq_false c19)
    refine aw_exit ?_
    refine ac_then ?_
    refine ac_then ?_
    refine ac_hit rfl ?_
    refine ac_next ?_
    refine aw_grp1 ?_
    refine wk_start ?_
    refine kb g0 (alc 1 [.int .i64 0, .int .i64 0, .int .i64 0] ((List.replicate 3 (0 : Int)).map (eI .i64))) ?_
    refine kb g0 (alc 2 [.int .i64 0, .int .i64 0, .int .i64 0] ((List.replicate 3 (0 : Int)).map (eI .i64))) ?_
    refine wk_end ?_
    refine ac_next ?_
    refine aw_grp1 ?_
    refine aw_grp1 ?_
    refine wk_start ?_
    refine kv g0 (faB 0 0) ?_
    refine kv g0 (ldB) ?_
    refine kv g0 (lnS lenE) ?_
    refine kv g0 (mv) ?_
    refine wk_end ?_
    refine ac_next ?_
    refine aw_block ?_
    refine aw_loop3 (fun (k_ : Nat) (q48 : List Int) (q49 : List Int) (p50 : Int) => k_ ≤ k18 ∧ impl_KeeperOk.l1 k_ l0_0 l0_1 l0_2 a0_3 l0_4 q48 q49 p50 = some r) (fun (q48 : List Int) (q49 : List Int) (p50 : Int) => ⟨[(1, .box 0 0), (4, .box 1 0), (5, .box 2 0), (68, .sl .o 6 (l0_0.map e98)), (69, .lit (.int .i64 (l0_0.length : Int))), (70, .lit (.int .i64 p50))], [(0, .box 29 [.sl .o 6 (l0_0.map e98), .sl .o 1 (l0_1.map (eI .i64)), .sl .o 6 (l0_2.map e97), .lit (.int .i64 a0_3), .sl .o 1 (l0_4.map (eI .i64))]), (1, .box 100 (q48.map (eI .i64))), (2, .box 100 (q49.map (eI .i64)))]⟩) k18 (List.replicate 3 (0 : Int)) (List.replicate 3 (0 : Int)) 0 ⟨Nat.le_refl _, H⟩ (fun K_ h_ => acw hE [(0, 0), (1, 1), (2, 2)] 9999 h_) (fun _ _ _ => by intro h_; have h_ := h_.2; rw [impl_KeeperOk.l1.eq_1] at h_; cases h_) ?_
    intro k51 q48 q49 p50 hq_ K70 hK71
    have hk51 := hq_.1
    have H := hq_.2
    clear hq_
    rw [impl_KeeperOk.l1.eq_2] at H
    refine aw_grp1 ?_
    refine wk_start ?_
    refine kv g0 (lss) ?_
    refine wk_end ?_
    refine ac_next ?_
    refine aw_grp1 ?_
    by_cases c52 : p50 < (l0_0.length : Int)
    ·rw [if_pos c52] at H
     refine aw_ifT ?_ (decide_eq_true c52)
     refine aw_skip ?_
     refine ac_next ?_
     refine aw_grp1 ?_
     refine aw_block ?_
     refine aw_grp1 ?_
     refine wk_start ?_
     refine kv g0 (mv) ?_
     obtain ⟨c53, H⟩ := of_if H
     refine kv g0 (ixS 98 (e98 (rd_T98 l0_0 p50)) c53 (getE (z := z98) c53 c52)) ?_
     refine kv g0 (ldRA 6 [.lit (.int .i64 ((rd_T98 l0_0 p50).f0)), .lit (.int .i64 ((rd_T98 l0_0 p50).f1)), .lit (.int .i64 ((rd_T98 l0_0 p50).f2.f0)), .lit (.int .i64 ((rd_T98 l0_0 p50).f2.f1)), .lit (.int .i64 ((rd_T98 l0_0 p50).f2.f2)), .lit (.int .i64 ((rd_T98 l0_0 p50).f2.f3))]) ?_
     refine kb g0 (alc 3 [.int .i64 0, .int .i64 0, .int .i64 0, .int .i64 0, .int .i64 0, .int .i64 0] [.lit (.int .i64 0), .lit (.int .i64 0), .lit (.int .i64 0), .lit (.int .i64 0), .lit (.int .i64 0), .lit (.int .i64 0)]) ?_
     refine kv g0 (asg) ?_
     refine ks g0 (stB 6 [.lit (.int .i64 ((rd_T98 l0_0 p50).f0)), .lit (.int .i64 ((rd_T98 l0_0 p50).f1)), .lit (.int .i64 ((rd_T98 l0_0 p50).f2.f0)), .lit (.int .i64 ((rd_T98 l0_0 p50).f2.f1)), .lit (.int .i64 ((rd_T98 l0_0 p50).f2.f2)), .lit (.int .i64 ((rd_T98 l0_0 p50).f2.f3))]) ?_
     refine wk_end ?_
     refine ac_next ?_
     refine aw_grp1 ?_
     refine aw_grp1 ?_
     refine wk_start ?_
     refine kv g0 (faB 0 0) ?_
     refine kv g0 (ldB) ?_
     obtain ⟨t54, A55, H⟩ := of_bind H
     refine kcS0 77 (.lit (.bool t54)) [] g0 (cal (impl_isPid.ok A55) [] 9999 .n (hf := Try.func56)) rfl rfl ?_
     refine kv g0 (not_) ?_
     refine kv g0 (mv) ?_
     by_cases c56 : t54 = true
     ·rw [if_pos c56] at H
      refine kv (g1 (nF c56)) (faB 2 2) ?_
      refine kv (g1 (nF c56)) (ldBA 4 [.lit (.int .i64 ((rd_T98 l0_0 p50).f2.f0)), .lit (.int .i64 ((rd_T98 l0_0 p50).f2.f1)), .lit (.int .i64 ((rd_T98 l0_0 p50).f2.f2)), .lit (.int .i64 ((rd_T98 l0_0 p50).f2.f3))]) ?_
      obtain ⟨t57, A58, H⟩ := of_bind H
      refine kcS0 82 (.lit (.bool t57)) [] (g1 (nF c56)) (cal (impl_ItemOk.ok A58) [] 9999 .n (hf := Try.func57)) rfl rfl ?_
      refine kv (g1 (nF c56)) (not_) ?_
      refine kv g0 (pkF (nF c56)) ?_
      refine wk_end ?_
      refine ac_next ?_
      by_cases c59 : t57 = true
      ·rw [if_pos c59] at H
       refine aw_ifF ?_ (nF c59)
       refine aw_skip ?_
       refine ac_next ?_
       refine aw_grp1 ?_
       refine wk_start ?_
       refine kv g0 (faB 0 0) ?_
       refine kv g0 (ldB) ?_
       obtain ⟨c60, H⟩ := of_if H
       obtain ⟨c61, H⟩ := of_if H
       obtain ⟨c62, H⟩ := of_if H
       refine kv g0 (ixX 3 c60 c61) ?_
       refine kv g0 (ldX (z := (0 : Int)) c60 c62 (.lit (.int .i64 (rd q48 ((rd_T98 l0_0 p50).f0)))) rfl) ?_
       refine kv g0 (add6) ?_
       refine kv g0 (ixX 3 c60 c61) ?_
       refine ks g0 (stX (e := wrap64 ((rd q48 ((rd_T98 l0_0 p50).f0)) + 1)) c60 c62 rfl) ?_
       refine wk_end ?_
       refine ac_next ?_
       refine aw_cut1 (J := fun K_ => ∀ (k_ : Nat) (q65 : List Int), k_ ≤ k51 → impl_KeeperOk.j0 k_ l0_0 l0_1 l0_2 a0_3 l0_4 q48 p50 q65 = some r → ACont E 182 ⟨[(1, .box 0 0), (4, .box 1 0), (5, .box 2 0), (7, .box 3 0), (68, .sl .o 6 (l0_0.map e98)), (69, .lit (.int .i64 (l0_0.length : Int))), (70, .lit (.int .i64 p50))], [(0, .box 29 [.sl .o 6 (l0_0.map e98), .sl .o 1 (l0_1.map (eI .i64)), .sl .o 6 (l0_2.map e97), .lit (.int .i64 a0_3), .sl .o 1 (l0_4.map (eI .i64))]), (1, .box 100 ((q48.set ((rd_T98 l0_0 p50).f0).toNat (wrap64 ((rd q48 ((rd_T98 l0_0 p50).f0)) + 1))).map (eI .i64))), (2, .box 100 (q65.map (eI .i64))), (3, .box 98 [.lit (.int .i64 ((rd_T98 l0_0 p50).f0)), .lit (.int .i64 ((rd_T98 l0_0 p50).f1)), .lit (.int .i64 ((rd_T98 l0_0 p50).f2.f0)), .lit (.int .i64 ((rd_T98 l0_0 p50).f2.f1)), .lit (.int .i64 ((rd_T98 l0_0 p50).f2.f2)), .lit (.int .i64 ((rd_T98 l0_0 p50).f2.f3))])]⟩ K_) ?_ ?_
       ·intro K_ hJ69
        refine aw_grp1 ?_
        refine wk_start ?_
        refine kv g0 (mv) ?_
        refine kv g0 (faB 3 3) ?_
        refine kv g0 (ldB) ?_
        refine kv g0 (lss) ?_
        refine wk_end ?_
        refine ac_next ?_
        by_cases c63 : p50 < a0_3
        ·rw [if_pos c63] at H
         refine aw_ifT ?_ (decide_eq_true c63)
         refine wk_start ?_
         refine kv g0 (faB 0 0) ?_
         refine kv g0 (ldB) ?_
         obtain ⟨c64, H⟩ := of_if H
         refine kv g0 (ixX 3 c60 c61) ?_
         refine kv g0 (ldX (z := (0 : Int)) c60 c64 (.lit (.int .i64 (rd q49 ((rd_T98 l0_0 p50).f0)))) rfl) ?_
         refine kv g0 (add6) ?_
         refine kv g0 (ixX 3 c60 c61) ?_
         refine ks g0 (stX (e := wrap64 ((rd q49 ((rd_T98 l0_0 p50).f0)) + 1)) c60 c64 rfl) ?_
         refine wk_end ?_
         refine ac_k ?_
         exact acw hE [(0, 0), (1, 1), (2, 2), (3, 3)] 9999 (hJ69 k51 (q49.set ((rd_T98 l0_0 p50).f0).toNat (wrap64 ((rd q49 ((rd_T98 l0_0 p50).f0)) + 1))) (Nat.le_refl _) H)
        rw [if_neg c63] at H
        refine aw_ifF ?_ (decide_eq_false c63)
        refine aw_skip ?_
        refine ac_k ?_
        exact acw hE [(0, 0), (1, 1), (2, 2), (3, 3)] 9999 (hJ69 k51 q49 (Nat.le_refl _) H)
       intro k_ q65 hk_ H
       rcases k_ with _ | k66
       ·rw [impl_KeeperOk.j0.eq_1] at H; cases H
       have hk66 : k66 ≤ k51 := by omega
       clear hk_
       rw [impl_KeeperOk.j0.eq_2] at H
       refine aw_grp1 ?_
       refine wk_start ?_
       refine kv g0 (faB 1 1) ?_
       refine kv g0 (ldB) ?_
       refine kv g0 (faB 0 0) ?_
       refine kv g0 (ldB) ?_
       obtain ⟨c67, H⟩ := of_if H
       refine kv g0 (ixX 3 c60 c61) ?_
       refine kv g0 (ldX (z := (0 : Int)) c60 c67 (.lit (.int .i64 (rd (q48.set ((rd_T98 l0_0 p50).f0).toNat (wrap64 ((rd q48 ((rd_T98 l0_0 p50).f0)) + 1))) ((rd_T98 l0_0 p50).f0)))) rfl) ?_
       refine kv g0 (neq) ?_
       refine wk_end_draw hM (by kernel_rfl) ?_
       refine ac_next ?_
       by_cases c68 : ((rd_T98 l0_0 p50).f1) = (rd (q48.set ((rd_T98 l0_0 p50).f0).toNat (wrap64 ((rd q48 ((rd_T98 l0_0 p50).f0)) + 1))) ((rd_T98 l0_0 p50).f0))
       ·rw [if_pos c68] at H
        refine aw_ifF ?_ (eM c68)
        refine aw_skip ?_
        refine ac_blkN ?_
        refine ac_next ?_
        refine wk_start ?_
        refine kv g0 (add6) ?_
        refine kv g0 (mv) ?_
        refine wk_end ?_
        refine ac_k ?_
        exact acw hE [(0, 0), (1, 1), (2, 2)] 9999 (hK71 k66 (q48.set ((rd_T98 l0_0 p50).f0).toNat (wrap64 ((rd q48 ((rd_T98 l0_0 p50).f0)) + 1))) q65 (wrap64 (p50 + 1)) (by omega) ⟨by omega, H⟩)
       rw [if_neg c68] at H
       refine aw_ifT ?_ (eN c68)
       refine aw_grp1 ?_
       refine wk_start ?_
       refine kv g0 (asg) ?_
       refine wk_end ?_
       refine ac_next ?_
       refine aw_ret ?_
       refine ac_blkR ?_
       refine ac_thenR ?_
       refine ac_thenR ?_
       refine ac_blkR ?_
       refine ac_thenR ?_
       obtain rfl := Option.some.inj H
       exact acr hE [.tmp 2] (.tmp .nil) (.one _) [] 9999
      rw [if_neg c59] at H
      refine aw_ifT ?_ (nT (bF c59))
      refine aw_grp1 ?_
      refine wk_start ?_
      refine kv g0 (asg) ?_
      refine wk_end ?_
      refine ac_next ?_
      refine aw_ret ?_
      refine ac_thenR ?_
      refine ac_blkR ?_
      refine ac_thenR ?_
      refine ac_thenR ?_
      refine ac_blkR ?_
      refine ac_thenR ?_
      obtain rfl := Option.some.inj H
      exact acr hE [.tmp 2] (.tmp .nil) (.one _) [] 9999
     rw [if_neg c56] at H
     refine kx (hF (nT (bF c56))) ?_
     refine kx (hF (nT (bF c56))) ?_
     refine kx (hF (nT (bF c56))) ?_
     refine kx (hF (nT (bF c56))) ?_
     refine kv g0 (pkT (nT (bF c56))) ?_
     refine wk_end ?_
     refine ac_next ?_
     refine aw_ifT ?_ rfl
     refine aw_grp1 ?_
     refine wk_start ?_
     refine kv g0 (asg) ?_
     refine wk_end ?_
     refine ac_next ?_
     refine aw_ret ?_
     refine ac_thenR ?_
     refine ac_blkR ?_
     refine ac_thenR ?_
     refine ac_thenR ?_
     refine ac_blkR ?_
     refine ac_thenR ?_
     obtain rfl := Option.some.inj H
     exact acr hE [.tmp 2] (.tmp .nil) (.one _) [] 9999
    rw [if_neg c52] at H
    refine aw_ifF ?_ (decide_eq_false c52)
    refine aw_exit ?_
    refine ac_then ?_
    refine ac_then ?_
    refine ac_hit rfl ?_
    refine ac_next ?_
    refine aw_grp1 ?_
    refine aw_grp1 ?_
    refine wk_start ?_
    refine kv g0 (mv) ?_
    refine wk_end ?_
    refine ac_next ?_
    refine aw_block ?_
    refine aw_loop1 (fun (k_ : Nat) (p80 : Int) => k_ ≤ k51 ∧ impl_KeeperOk.l2 k_ l0_0 l0_1 l0_2 a0_3 l0_4 q48 q49 p80 = some r) (fun (p80 : Int) => ⟨[(1, .box 0 0), (4, .box 1 0), (5, .box 2 0), (109, .lit (.int .i64 p80))], [(0, .box 29 [.sl .o 6 (l0_0.map e98), .sl .o 1 (l0_1.map (eI .i64)), .sl .o 6 (l0_2.map e97), .lit (.int .i64 a0_3), .sl .o 1 (l0_4.map (eI .i64))]), (1, .box 100 (q48.map (eI .i64))), (2, .box 100 (q49.map (eI .i64)))]⟩) k51 0 ⟨Nat.le_refl _, H⟩ (fun K_ h_ => acw hE [(0, 0), (1, 1), (2, 2)] 9999 h_) (fun _ => by intro h_; have h_ := h_.2; rw [impl_KeeperOk.l2.eq_1] at h_; cases h_) ?_
    intro k81 p80 hq_ K90 hK91
    have hk81 := hq_.1
    have H := hq_.2
    clear hq_
    rw [impl_KeeperOk.l2.eq_2] at H
    refine aw_grp1 ?_
    refine wk_start ?_
    refine kv g0 (lss) ?_
    refine wk_end ?_
    refine ac_next ?_
    refine aw_grp1 ?_
    by_cases c82 : p80 < 3
    ·rw [if_pos c82] at H
     refine aw_ifT ?_ (decide_eq_true c82)
     refine aw_skip ?_
     refine ac_next ?_
     refine aw_grp1 ?_
     refine aw_block ?_
     refine aw_grp1 ?_
     refine wk_start ?_
     refine kv g0 (mv) ?_
     refine kv g0 (asg) ?_
     refine wk_end ?_
     refine ac_next ?_
     refine aw_grp1 ?_
     refine wk_start ?_
     refine kv g0 (mv) ?_
     obtain ⟨c83, H⟩ := of_if H
     obtain ⟨c84, H⟩ := of_if H
     refine kv g0 (ixX 3 c83 c82) ?_
     refine kv g0 (ldX (z := (0 : Int)) c83 c84 (.lit (.int .i64 (rd q48 p80))) rfl) ?_
     refine kv g0 (faB 1 1) ?_
     refine kv g0 (ldB) ?_
     refine kv g0 (mv) ?_
     obtain ⟨c85, H⟩ := of_if H
     refine kv g0 (ixS 3 (eI .i64 (rd l0_1 p80)) c83 (getE (z := (0 : Int)) c83 c85)) ?_
     refine kv g0 (ldR (.lit (.int .i64 (rd l0_1 p80)))) ?_
     refine kv g0 (sub6) ?_
     refine kv g0 (neq) ?_
     refine kv g0 (mv) ?_
     by_cases c86 : (rd q48 p80) = (wrap64 ((rd l0_1 p80) - 1))
     ·rw [if_pos c86] at H
      refine kv (g1 (eM c86)) (mv) ?_
      obtain ⟨c87, H⟩ := of_if H
      refine kv (g1 (eM c86)) (ixX 3 c83 c82) ?_
      refine kv (g1 (eM c86)) (ldX (z := (0 : Int)) c83 c87 (.lit (.int .i64 (rd q49 p80))) rfl) ?_
      refine kv (g1 (eM c86)) (faB 4 4) ?_
      refine kv (g1 (eM c86)) (ldB) ?_
      refine kv (g1 (eM c86)) (mv) ?_
      obtain ⟨c88, H⟩ := of_if H
      refine kv (g1 (eM c86)) (ixS 3 (eI .i64 (rd l0_4 p80)) c83 (getE (z := (0 : Int)) c83 c88)) ?_
      refine kv (g1 (eM c86)) (ldR (.lit (.int .i64 (rd l0_4 p80)))) ?_
      refine kv (g1 (eM c86)) (sub6) ?_
      refine kv (g1 (eM c86)) (neq) ?_
      refine kv g0 (pkF (eM c86)) ?_
      refine wk_end_draw hM (by kernel_rfl) ?_
      refine ac_next ?_
      by_cases c89 : (rd q49 p80) = (wrap64 ((rd l0_4 p80) - 1))
      ·rw [if_pos c89] at H
       refine aw_ifF ?_ (eM c89)
       refine aw_skip ?_
       refine ac_blkN ?_
       refine ac_next ?_
       refine wk_start ?_
       refine kv g0 (add6) ?_
       refine kv g0 (mv) ?_
       refine wk_end ?_
       refine ac_k ?_
       exact acw hE [(0, 0), (1, 1), (2, 2)] 9999 (hK91 k81 (wrap64 (p80 + 1)) (Nat.le_refl _) ⟨by omega, H⟩)
      rw [if_neg c89] at H
      refine aw_ifT ?_ (eN c89)
      refine aw_grp1 ?_
      refine wk_start ?_
      refine kv g0 (asg) ?_
      refine wk_end ?_
      refine ac_next ?_
      refine aw_ret ?_
      refine ac_blkR ?_
      refine ac_thenR ?_
      refine ac_thenR ?_
      refine ac_blkR ?_
      refine ac_thenR ?_
      obtain rfl := Option.some.inj H
      exact acr hE [.tmp 2] (.tmp .nil) (.one _) [] 9999
     rw [if_neg c86] at H
     refine kx (hF (eN c86)) ?_
     refine kx (hF (eN c86)) ?_
     refine kx (hF (eN c86)) ?_
     refine kx (hF (eN c86)) ?_
     refine kx (hF (eN c86)) ?_
     refine kx (hF (eN c86)) ?_
     refine kx (hF (eN c86)) ?_
     refine kx (hF (eN c86)) ?_
     refine kx (hF (eN c86)) ?_
     refine kx (hF (eN c86)) ?_
     refine kv g0 (pkT (eN c86)) ?_
     refine wk_end_draw hM (by kernel_rfl) ?_
     refine ac_next ?_
     refine aw_ifT ?_ rfl
     refine aw_grp1 ?_
     refine wk_start ?_
     refine kv g0 (asg) ?_
     refine wk_end ?_
     refine ac_next ?_
     refine aw_ret ?_
     refine ac_blkR ?_
     refine ac_thenR ?_
     refine ac_thenR ?_
     refine ac_blkR ?_
     refine ac_thenR ?_
     obtain rfl := Option.some.inj H
     exact acr hE [.tmp 2] (.tmp .nil) (.one _) [] 9999
    rw [if_neg c82] at H
    refine aw_ifF ?_ (decide_eq_false c82)
    refine aw_exit ?_
    refine ac_then ?_
    refine ac_then ?_
    refine ac_hit rfl ?_
    refine ac_next ?_
    refine aw_grp1 ?_
    refine aw_grp1 ?_
    refine wk_start ?_
    refine kv g0 (faB 2 2) ?_
    refine kv g0 (ldB) ?_
    refine kv g0 (lnS lenE) ?_
    refine kv g0 (mv) ?_
    refine wk_end ?_
    refine ac_next ?_
    refine aw_block ?_
    refine aw_loop1 (fun (k_ : Nat) (p108 : Int) => k_ ≤ k81 ∧ impl_KeeperOk.l3 k_ l0_0 l0_1 l0_2 a0_3 l0_4 p108 = some r) (fun (p108 : Int) => ⟨[(1, .box 0 0), (136, .sl .o 6 (l0_2.map e97)), (137, .lit (.int .i64 (l0_2.length : Int))), (138, .lit (.int .i64 p108))], [(0, .box 29 [.sl .o 6 (l0_0.map e98), .sl .o 1 (l0_1.map (eI .i64)), .sl .o 6 (l0_2.map e97), .lit (.int .i64 a0_3), .sl .o 1 (l0_4.map (eI .i64))])]⟩) k81 0 ⟨Nat.le_refl _, H⟩ (fun K_ h_ => acw hE [(0, 0)] 9999 h_) (fun _ => by intro h_; have h_ := h_.2; rw [impl_KeeperOk.l3.eq_1] at h_; cases h_) ?_
    intro k109 p108 hq_ K126 hK127
    have hk109 := hq_.1
    have H := hq_.2
    clear hq_
    rw [impl_KeeperOk.l3.eq_2] at H
    refine aw_grp1 ?_
    refine wk_start ?_
    refine kv g0 (lss) ?_
    refine wk_end ?_
    refine ac_next ?_
    refine aw_grp1 ?_
    by_cases c110 : p108 < (l0_2.length : Int)
    ·rw [if_pos c110] at H
     refine aw_ifT ?_ (decide_eq_true c110)
     refine aw_skip ?_
     refine ac_next ?_
     refine aw_grp1 ?_
     refine aw_block ?_
     refine aw_grp1 ?_
     refine wk_start ?_
     refine kv g0 (mv) ?_
     obtain ⟨c111, H⟩ := of_if H
     refine kv g0 (ixS 97 (e97 (rd_T97 l0_2 p108)) c111 (getE (z := z97) c111 c110)) ?_
     refine kv g0 (ldRA 6 [.lit (.int .i64 ((rd_T97 l0_2 p108).f0)), .lit (.int .i64 ((rd_T97 l0_2 p108).f1)), .lit (.int .i64 ((rd_T97 l0_2 p108).f2.f0)), .lit (.int .i64 ((rd_T97 l0_2 p108).f2.f1)), .lit (.int .i64 ((rd_T97 l0_2 p108).f2.f2)), .lit (.int .i64 ((rd_T97 l0_2 p108).f2.f3))]) ?_
     refine kb g0 (alc 4 [.int .i64 0, .int .i64 0, .int .i64 0, .int .i64 0, .int .i64 0, .int .i64 0] [.lit (.int .i64 0), .lit (.int .i64 0), .lit (.int .i64 0), .lit (.int .i64 0), .lit (.int .i64 0), .lit (.int .i64 0)]) ?_
     refine kv g0 (asg) ?_
     refine ks g0 (stB 6 [.lit (.int .i64 ((rd_T97 l0_2 p108).f0)), .lit (.int .i64 ((rd_T97 l0_2 p108).f1)), .lit (.int .i64 ((rd_T97 l0_2 p108).f2.f0)), .lit (.int .i64 ((rd_T97 l0_2 p108).f2.f1)), .lit (.int .i64 ((rd_T97 l0_2 p108).f2.f2)), .lit (.int .i64 ((rd_T97 l0_2 p108).f2.f3))]) ?_
     refine wk_end ?_
     refine ac_next ?_
     refine aw_grp1 ?_
     refine wk_start ?_
     refine kv g0 (faB 0 0) ?_
     refine kv g0 (ldB) ?_
     obtain ⟨t112, A113, H⟩ := of_bind H
     refine kcS0 145 (.lit (.bool t112)) [] g0 (cal (impl_isPid.ok A113) [] 9999 .n (hf := Try.func56)) rfl rfl ?_
     refine kv g0 (not_) ?_
     refine kv g0 (mv) ?_
     by_cases c114 : t112 = true
     ·rw [if_pos c114] at H
      refine kv (g1 (nF c114)) (faB 2 2) ?_
      refine kv (g1 (nF c114)) (ldBA 4 [.lit (.int .i64 ((rd_T97 l0_2 p108).f2.f0)), .lit (.int .i64 ((rd_T97 l0_2 p108).f2.f1)), .lit (.int .i64 ((rd_T97 l0_2 p108).f2.f2)), .lit (.int .i64 ((rd_T97 l0_2 p108).f2.f3))]) ?_
      obtain ⟨t115, A116, H⟩ := of_bind H
      refine kcS0 150 (.lit (.bool t115)) [] (g1 (nF c114)) (cal (impl_ItemOk.ok A116) [] 9999 .n (hf := Try.func57)) rfl rfl ?_
      refine kv (g1 (nF c114)) (not_) ?_
      refine kv g0 (pkF (nF c114)) ?_
      refine kv g0 (mv) ?_
      by_cases c117 : t115 = true
      ·rw [if_pos c117] at H
       refine kv (g1 (nF c117)) (faB 1 1) ?_
       refine kv (g1 (nF c117)) (ldB) ?_
       refine kv (g1 (nF c117)) (faB 1 1) ?_
       refine kv (g1 (nF c117)) (ldB) ?_
       refine kv (g1 (nF c117)) (faB 0 0) ?_
       refine kv (g1 (nF c117)) (ldB) ?_
       obtain ⟨c118, H⟩ := of_if H
       obtain ⟨c119, H⟩ := of_if H
       refine kv (g1 (nF c117)) (ixS 3 (eI .i64 (rd l0_1 ((rd_T97 l0_2 p108).f0))) c118 (getE (z := (0 : Int)) c118 c119)) ?_
       refine kv (g1 (nF c117)) (ldR (.lit (.int .i64 (rd l0_1 ((rd_T97 l0_2 p108).f0))))) ?_
       refine kv (g1 (nF c117)) (leq) ?_
       refine kv g0 (pkF (nF c117)) ?_
       refine kv g0 (mv) ?_
       by_cases c120 : ((rd_T97 l0_2 p108).f1) ≤ (rd l0_1 ((rd_T97 l0_2 p108).f0))
       ·rw [if_pos c120] at H
        refine kx (hF (decide_eq_true c120)) ?_
        refine kx (hF (decide_eq_true c120)) ?_
        refine kx (hF (decide_eq_true c120)) ?_
        refine kv g0 (pkT (decide_eq_true c120)) ?_
        refine kv g0 (mv) ?_
        refine kx (hF rfl) ?_
        refine kx (hF rfl) ?_
        refine kx (hF rfl) ?_
        refine kx (hF rfl) ?_
        refine kx (hF rfl) ?_
        refine kx (hF rfl) ?_
        refine kx (hF rfl) ?_
        refine kx (hF rfl) ?_
        refine kx (hF rfl) ?_
        refine kx (hF rfl) ?_
        refine kv g0 (pkT rfl) ?_
        refine wk_end_draw hM (by kernel_rfl) ?_
        refine ac_next ?_
        refine aw_ifT ?_ rfl
        refine aw_grp1 ?_
        refine wk_start ?_
        refine kv g0 (asg) ?_
        refine wk_end ?_
        refine ac_next ?_
        refine aw_ret ?_
        refine ac_blkR ?_
        refine ac_thenR ?_
        refine ac_thenR ?_
        refine ac_blkR ?_
        refine ac_thenR ?_
        obtain rfl := Option.some.inj H
        exact acr hE [.tmp 2] (.tmp .nil) (.one _) [] 9999
       rw [if_neg c120] at H
       refine kv (g1 (decide_eq_false c120)) (faB 1 1) ?_
       refine kv (g1 (decide_eq_false c120)) (ldB) ?_
       refine kv (g1 (decide_eq_false c120)) (gtr) ?_
       refine kv g0 (pkF (decide_eq_false c120)) ?_
       refine kv g0 (mv) ?_
       by_cases c121 : ((rd_T97 l0_2 p108).f1) > 1000000000
       ·rw [if_pos c121] at H
        refine kx (hF (decide_eq_true c121)) ?_
        refine kx (hF (decide_eq_true c121)) ?_
        refine kx (hF (decide_eq_true c121)) ?_
        refine kx (hF (decide_eq_true c121)) ?_
        refine kx (hF (decide_eq_true c121)) ?_
        refine kx (hF (decide_eq_true c121)) ?_
        refine kx (hF (decide_eq_true c121)) ?_
        refine kx (hF (decide_eq_true c121)) ?_
        refine kx (hF (decide_eq_true c121)) ?_
        refine kx (hF (decide_eq_true c121)) ?_
        refine kv g0 (pkT (decide_eq_true c121)) ?_
        refine wk_end_draw hM (by kernel_rfl) ?_
        refine ac_next ?_
        refine aw_ifT ?_ rfl
        refine aw_grp1 ?_
        refine wk_start ?_
        refine kv g0 (asg) ?_
        refine wk_end ?_
        refine ac_next ?_
        refine aw_ret ?_
        refine ac_blkR ?_
        refine ac_thenR ?_
        refine ac_thenR ?_
        refine ac_blkR ?_
        refine ac_thenR ?_
        obtain rfl := Option.some.inj H
        exact acr hE [.tmp 2] (.tmp .nil) (.one _) [] 9999
       rw [if_neg c121] at H
       refine kv (g1 (decide_eq_false c121)) (faB 2 2) ?_
       refine kv (g1 (decide_eq_false c121)) (ldB) ?_
       refine kv (g1 (decide_eq_false c121)) (mv) ?_
       obtain ⟨c122, H⟩ := of_if H
       refine kv (g1 (decide_eq_false c121)) (slH 97 c111 c122) ?_
       refine kv (g1 (decide_eq_false c121)) (faB 0 0) ?_
       refine kv (g1 (decide_eq_false c121)) (ldB) ?_
       refine kv (g1 (decide_eq_false c121)) (faB 1 1) ?_
       refine kv (g1 (decide_eq_false c121)) (ldB) ?_
       obtain ⟨t123, A124, H⟩ := of_bind H
       refine kcS0 178 (.lit (.int .i64 t123)) [] (g1 (decide_eq_false c121)) (cal (impl_earlyAt.ok A124) [] 9999 .n (hf := Try.func54)) rfl rfl ?_
       refine kv (g1 (decide_eq_false c121)) (geq) ?_
       refine kv g0 (pkF (decide_eq_false c121)) ?_
       refine wk_end_draw hM (by kernel_rfl) ?_
       refine ac_next ?_
       by_cases c125 : t123 ≥ 0
       ·rw [if_pos c125] at H
        refine aw_ifT ?_ (decide_eq_true c125)
        refine aw_grp1 ?_
        refine wk_start ?_
        refine kv g0 (asg) ?_
        refine wk_end ?_
        refine ac_next ?_
        refine aw_ret ?_
        refine ac_blkR ?_
        refine ac_thenR ?_
        refine ac_thenR ?_
        refine ac_blkR ?_
        refine ac_thenR ?_
        obtain rfl := Option.some.inj H
        exact acr hE [.tmp 2] (.tmp .nil) (.one _) [] 9999
       rw [if_neg c125] at H
       refine aw_ifF ?_ (decide_eq_false c125)
       refine aw_skip ?_
       refine ac_blkN ?_
       refine ac_next ?_
       refine wk_start ?_
       refine kv g0 (add6) ?_
       refine kv g0 (mv) ?_
       refine wk_end ?_
       refine ac_k ?_
       exact acw hE [(0, 0)] 9999 (hK127 k109 (wrap64 (p108 + 1)) (Nat.le_refl _) ⟨by omega, H⟩)
      rw [if_neg c117] at H
      refine kx (hF (nT (bF c117))) ?_
      refine kx (hF (nT (bF c117))) ?_
      refine kx (hF (nT (bF c117))) ?_
      refine kx (hF (nT (bF c117))) ?_
      refine kx (hF (nT (bF c117))) ?_
      refine kx (hF (nT (bF c117))) ?_
      refine kx (hF (nT (bF c117))) ?_
      refine kx (hF (nT (bF c117))) ?_
      refine kx (hF (nT (bF c117))) ?_
      refine kv g0 (pkT (nT (bF c117))) ?_
      refine kv g0 (mv) ?_
      refine kx (hF rfl) ?_
      refine kx (hF rfl) ?_
      refine kx (hF rfl) ?_
      refine kv g0 (pkT rfl) ?_
      refine kv g0 (mv) ?_
      refine kx (hF rfl) ?_
      refine kx (hF rfl) ?_
      refine kx (hF rfl) ?_
      refine kx (hF rfl) ?_
      refine kx (hF rfl) ?_
      refine kx (hF rfl) ?_
      refine kx (hF rfl) ?_
      refine kx (hF rfl) ?_
      refine kx (hF rfl) ?_
      refine kx (hF rfl) ?_
      refine kv g0 (pkT rfl) ?_
      refine wk_end_draw hM (by kernel_rfl) ?_
      refine ac_next ?_
      refine aw_ifT ?_ rfl
      refine aw_grp1 ?_
      refine wk_start ?_
      refine kv g0 (asg) ?_
      refine wk_end ?_
      refine ac_next ?_
      refine aw_ret ?_
      refine ac_blkR ?_
      refine ac_thenR ?_
      refine ac_thenR ?_
      refine ac_blkR ?_
      refine ac_thenR ?_
      obtain rfl := Option.some.inj H
      exact acr hE [.tmp 2] (.tmp .nil) (.one _) [] 9999
     rw [if_neg c114] at H
     refine kx (hF (nT (bF c114))) ?_
     refine kx (hF (nT (bF c114))) ?_
     refine kx (hF (nT (bF c114))) ?_
     refine kx (hF (nT (bF c114))) ?_
     refine kv g0 (pkT (nT (bF c114))) ?_
     refine kv g0 (mv) ?_
     refine kx (hF rfl) ?_
     refine kx (hF rfl) ?_
     refine kx (hF rfl) ?_
     refine kx (hF rfl) ?_
     refine kx (hF rfl) ?_
     refine kx (hF rfl) ?_
     refine kx (hF rfl) ?_
     refine kx (hF rfl) ?_
     refine kx (hF rfl) ?_
     refine kv g0 (pkT rfl) ?_
     refine kv g0 (mv) ?_
     refine kx (hF rfl) ?_
     refine kx (hF rfl) ?_
     refine kx (hF rfl) ?_
     refine kv g0 (pkT rfl) ?_
     refine kv g0 (mv) ?_
     refine kx (hF rfl) ?_
     refine kx (hF rfl) ?_
     refine kx (hF rfl) ?_
     refine kx (hF rfl) ?_
     refine kx (hF rfl) ?_
     refine kx (hF rfl) ?_
     refine kx (hF rfl) ?_
     refine kx (hF rfl) ?_
     refine kx (hF rfl) ?_
     refine kx (hF rfl) ?_
     refine kv g0 (pkT rfl) ?_
     refine wk_end_draw hM (by kernel_rfl) ?_
     refine ac_next ?_
     refine aw_ifT ?_ rfl
     refine aw_grp1 ?_
     refine wk_start ?_
     refine kv g0 (asg) ?_
     refine wk_end ?_
     refine ac_next ?_
     refine aw_ret ?_
     refine ac_blkR ?_
     refine ac_thenR ?_
     refine ac_thenR ?_
     refine ac_blkR ?_
     refine ac_thenR ?_
     obtain rfl := Option.some.inj H
     exact acr hE [.tmp 2] (.tmp .nil) (.one _) [] 9999
    rw [if_neg c110] at H
    refine aw_ifF ?_ (decide_eq_false c110)
    refine aw_exit ?_
    refine ac_then ?_
    refine ac_then ?_
    refine ac_hit rfl ?_
    refine ac_next ?_
    refine aw_grp1 ?_
    refine wk_start ?_
    refine kv g0 (asg) ?_
    refine wk_end ?_
    refine ac_next ?_
    refine aw_ret ?_
    obtain rfl := Option.some.inj H
    exact acr hE [.tmp 2] (.tmp .nil) (.one _) [] 9999
   rw [if_neg c6] at H
   refine kx (hF (nT (bF c6))) ?_
   refine kx (hF (nT (bF c6))) ?_
   refine kx (hF (nT (bF c6))) ?_
   refine kx (hF (nT (bF c6))) ?_
   refine kv g0 (pkT (nT (bF c6))) ?_
   refine wk_end ?_
   refine ac_next ?_
   refine aw_ifT ?_ rfl
   refine aw_grp1 ?_
   refine wk_start ?_
   refine kv g0 (asg) ?_
   refine wk_end ?_
   refine ac_next ?_
   refine aw_ret ?_
   refine ac_thenR ?_
   obtain rfl := Option.some.inj H
   exact acr hE [.tmp 2] (.tmp .nil) (.one _) [] 9999
  rw [if_neg c2] at H
  refine kx (hF (eN c2)) ?_
  refine kx (hF (eN c2)) ?_
  refine kx (hF (eN c2)) ?_
  refine kx (hF (eN c2)) ?_
  refine kv g0 (pkT (eN c2)) ?_
  refine kv g0 (mv) ?_
  refine kx (hF rfl) ?_
  refine kx (hF rfl) ?_
  refine kx (hF rfl) ?_
  refine kx (hF rfl) ?_
  refine kx (hF rfl) ?_
  refine kx (hF rfl) ?_
  refine kx (hF rfl) ?_
  refine kv g0 (pkT rfl) ?_
  refine kv g0 (mv) ?_
  refine kx (hF rfl) ?_
  refine kx (hF rfl) ?_
  refine kx (hF rfl) ?_
  refine kx (hF rfl) ?_
  refine kv g0 (pkT rfl) ?_
  refine wk_end ?_
  refine ac_next ?_
  refine aw_ifT ?_ rfl
  refine aw_grp1 ?_
  refine wk_start ?_
  refine kv g0 (asg) ?_
  refine wk_end ?_
  refine ac_next ?_
  refine aw_ret ?_
  refine ac_thenR ?_
  obtain rfl := Option.some.inj H
  exact acr hE [.tmp 2] (.tmp .nil) (.one _) [] 9999
 rw [if_neg c1] at H
 refine kx (hF (eN c1)) ?_
 refine kx (hF (eN c1)) ?_
 refine kx (hF (eN c1)) ?_
 refine kx (hF (eN c1)) ?_
 refine kv g0 (pkT (eN c1)) ?_
 refine kv g0 (mv) ?_
 refine kx (hF rfl) ?_
 refine kx (hF rfl) ?_
 refine kx (hF rfl) ?_
 refine kx (hF rfl) ?_
 refine kv g0 (pkT rfl) ?_
 refine kv g0 (mv) ?_
 refine kx (hF rfl) ?_
 refine kx (hF rfl) ?_
 refine kx (hF rfl) ?_
 refine kx (hF rfl) ?_
 refine kx (hF rfl) ?_
 refine kx (hF rfl) ?_
 refine kx (hF rfl) ?_
 refine kv g0 (pkT rfl) ?_
 refine kv g0 (mv) ?_
 refine kx (hF rfl) ?_
 refine kx (hF rfl) ?_
 refine kx (hF rfl) ?_
 refine kx (hF rfl) ?_
 refine kv g0 (pkT rfl) ?_
 refine wk_end ?_
 refine ac_next ?_
 refine aw_ifT ?_ rfl
 refine aw_grp1 ?_
 refine wk_start ?_
 refine kv g0 (asg) ?_
 refine wk_end ?_
 refine ac_next ?_
 refine aw_ret ?_
 refine ac_thenR ?_
 obtain rfl := Option.some.inj H
 exact acr hE [.tmp 2] (.tmp .nil) (.one _) [] 9999
/-! spec_l20Counts -/
def spec_l20Counts.l0 : Nat → (List S98) → Int → (List Int) → Int → Option ((List Int) × Bool)
 | 0, _, _, _, _ => none
 | k15 + 1, l0, a1, q13, p14 => if p14 < a1 then if 0 ≤ p14 then (if p14 < (l0.length : Int) then (spec_l01In.f ((rd_T98 l0 p14).f0) 0 2).bind fun t19 => (if t19 = true then (if 0 ≤ ((rd_T98 l0 p14).f0) then (if ((rd_T98 l0 p14).f0) < (q13.length : Int) then (if ((rd_T98 l0 p14).f1) = (wrap64 ((rd q13 ((rd_T98 l0 p14).f0)) + 1)) then ((spec_ItemOk.f ((rd_T98 l0 p14).f2.f0) ((rd_T98 l0 p14).f2.f1) ((rd_T98 l0 p14).f2.f2) ((rd_T98 l0 p14).f2.f3)).bind fun t25 => if t25 = true then spec_l20Counts.l0 k15 l0 a1 (q13.set ((rd_T98 l0 p14).f0).toNat (wrap64 ((rd q13 ((rd_T98 l0 p14).f0)) + 1))) (wrap64 (p14 + 1)) else some (q13, false)) else some (q13, false)) else none) else none) else some (q13, false)) else none) else none else some (q13, true)
def spec_l20Counts.f (k : Nat) (l0 : List S98) (a1 : Int) : Option ((List Int) × Bool) := spec_l20Counts.l0 k l0 a1 (List.replicate 3 (0 : Int)) 0
theorem spec_l20Counts.ok {k : Nat} {l0 : List S98} {a1 : Int} {r : (List Int) × Bool} (H : spec_l20Counts.f k l0 a1 = some r) : ACalls Try.prog 68 [] [.sl .o 6 (l0.map e98), .lit (.int .i64 a1)] [(0, .row 3 1 (r.1.map (eI .i64)))] (.tup [.row 0, .lit (.bool r.2)]) := by
 refine acalls (fn := Try.f68) (nt := 49) Try.func68 rfl rfl (Nat.le_of_ble_eq_true rfl) fun E hE => ?_
 rw [spec_l20Counts.f] at H
 refine aw_grp1 ?_
 refine wk_start ?_
 refine kv g0 (asg) ?_
 refine kv g0 (asg) ?_
 refine wk_end ?_
 refine ac_next ?_
 refine aw_grp1 ?_
 refine wk_start ?_
 refine kb g0 (mks 0 3 1 8 [.int .i64 0] (eI .i64 (0 : Int)) ((List.replicate 3 (0 : Int)).map (eI .i64)) (by decide : (0 : Int) ≤ 3) (mkb (by decide : (3 : Nat) ≤ 35184372088832) rfl) repE) ?_
 refine kv g0 (asg) ?_
 refine wk_end ?_
 refine ac_next ?_
 refine aw_grp1 ?_
 refine aw_grp1 ?_
 refine wk_start ?_
 refine kv g0 (asg) ?_
 refine wk_end ?_
 refine ac_next ?_
 refine aw_block ?_
 refine aw_loop2 (fun (k_ : Nat) (q13 : List Int) (p14 : Int) => k_ ≤ k ∧ spec_l20Counts.l0 k_ l0 a1 q13 p14 = some r) (fun (q13 : List Int) (p14 : Int) => ⟨[(0, .sl .o 6 (l0.map e98)), (1, .lit (.int .i64 a1)), (6, .row 0), (7, .lit (.int .i64 p14))], [(0, .row 3 1 (q13.map (eI .i64)))]⟩) k (List.replicate 3 (0 : Int)) 0 ⟨Nat.le_refl _, H⟩ (fun K_ h_ => acw hE [(0, 0)] 9999 h_) (fun _ _ => by intro h_; have h_ := h_.2; rw [spec_l20Counts.l0.eq_1] at h_; cases h_) ?_
 intro k15 q13 p14 hq_ K28 hK29
 have hk15 := hq_.1
 have H := hq_.2
 clear hq_
 rw [spec_l20Counts.l0.eq_2] at H
 refine aw_grp1 ?_
 refine aw_grp1 ?_
 refine wk_start ?_
 refine kv g0 (mv) ?_
 refine kv g0 (mv) ?_
 refine kv g0 (lss) ?_
 refine wk_end ?_
 refine ac_next ?_
 by_cases c16 : p14 < a1
 ·rw [if_pos c16] at H
  refine aw_ifT ?_ (decide_eq_true c16)
  refine aw_skip ?_
  refine ac_next ?_
  refine aw_grp1 ?_
  refine aw_block ?_
  refine aw_grp1 ?_
  refine wk_start ?_
  refine kv g0 (mv) ?_
  refine kv g0 (mv) ?_
  obtain ⟨c17, H⟩ := of_if H
  obtain ⟨c18, H⟩ := of_if H
  refine kv g0 (ixS 98 (e98 (rd_T98 l0 p14)) c17 (getE (z := z98) c17 c18)) ?_
  refine kv g0 (ldRA 6 [.lit (.int .i64 ((rd_T98 l0 p14).f0)), .lit (.int .i64 ((rd_T98 l0 p14).f1)), .lit (.int .i64 ((rd_T98 l0 p14).f2.f0)), .lit (.int .i64 ((rd_T98 l0 p14).f2.f1)), .lit (.int .i64 ((rd_T98 l0 p14).f2.f2)), .lit (.int .i64 ((rd_T98 l0 p14).f2.f3))]) ?_
  refine kb g0 (alc 1 [.int .i64 0, .int .i64 0, .int .i64 0, .int .i64 0, .int .i64 0, .int .i64 0] [.lit (.int .i64 0), .lit (.int .i64 0), .lit (.int .i64 0), .lit (.int .i64 0), .lit (.int .i64 0), .lit (.int .i64 0)]) ?_
  refine ks g0 (stB 6 [.lit (.int .i64 ((rd_T98 l0 p14).f0)), .lit (.int .i64 ((rd_T98 l0 p14).f1)), .lit (.int .i64 ((rd_T98 l0 p14).f2.f0)), .lit (.int .i64 ((rd_T98 l0 p14).f2.f1)), .lit (.int .i64 ((rd_T98 l0 p14).f2.f2)), .lit (.int .i64 ((rd_T98 l0 p14).f2.f3))]) ?_
  refine wk_end ?_
  refine ac_next ?_
  refine aw_grp1 ?_
  refine aw_grp1 ?_
  refine wk_start ?_
  refine kv g0 (faB 0 0) ?_
  refine kv g0 (ldB) ?_
  obtain ⟨t19, A20, H⟩ := of_bind H
  refine kcS0 21 (.lit (.bool t19)) [] g0 (cal (spec_l01In.ok A20) [] 9999 .n (hf := Try.func63)) rfl rfl ?_
  refine kv g0 (not_) ?_
  refine kv g0 (mv) ?_
  by_cases c21 : t19 = true
  ·rw [if_pos c21] at H
   refine kv (g1 (nF c21)) (faB 1 1) ?_
   refine kv (g1 (nF c21)) (ldB) ?_
   refine kv (g1 (nF c21)) (mv) ?_
   refine kv (g1 (nF c21)) (faB 0 0) ?_
   refine kv (g1 (nF c21)) (ldB) ?_
   obtain ⟨c22, H⟩ := of_if H
   obtain ⟨c23, H⟩ := of_if H
   refine kv (g1 (nF c21)) (ixR 3 c22 (ltE c23)) ?_
   refine kv (g1 (nF c21)) (ldE (eI .i64 (rd q13 ((rd_T98 l0 p14).f0))) (.lit (.int .i64 (rd q13 ((rd_T98 l0 p14).f0)))) (getE (z := (0 : Int)) c22 c23)) ?_
   refine kv (g1 (nF c21)) (add6) ?_
   refine kv (g1 (nF c21)) (neq) ?_
   refine kv g0 (pkF (nF c21)) ?_
   refine kv g0 (mv) ?_
   by_cases c24 : ((rd_T98 l0 p14).f1) = (wrap64 ((rd q13 ((rd_T98 l0 p14).f0)) + 1))
   ·rw [if_pos c24] at H
    refine kv (g1 (eM c24)) (faB 2 2) ?_
    refine kv (g1 (eM c24)) (ldBA 4 [.lit (.int .i64 ((rd_T98 l0 p14).f2.f0)), .lit (.int .i64 ((rd_T98 l0 p14).f2.f1)), .lit (.int .i64 ((rd_T98 l0 p14).f2.f2)), .lit (.int .i64 ((rd_T98 l0 p14).f2.f3))]) ?_
    obtain ⟨t25, A26, H⟩ := of_bind H
    refine kcS0 37 (.lit (.bool t25)) [] (g1 (eM c24)) (cal (spec_ItemOk.ok A26) [] 9999 .n (hf := Try.func69)) rfl rfl ?_
    refine kv (g1 (eM c24)) (not_) ?_
    refine kv g0 (pkF (eM c24)) ?_
    refine wk_end_draw hM (by kernel_rfl) ?_
    refine ac_next ?_
    by_cases c27 : t25 = true
    ·rw [if_pos c27] at H
     refine aw_ifF ?_ (nF c27)
     refine aw_skip ?_
     refine ac_next ?_
     refine wk_start ?_
     refine kv g0 (mv) ?_
     refine kv g0 (faB 0 0) ?_
     refine kv g0 (ldB) ?_
     refine kv g0 (ixR 3 c22 (ltE c23)) ?_
     refine kv g0 (ldE (eI .i64 (rd q13 ((rd_T98 l0 p14).f0))) (.lit (.int .i64 (rd q13 ((rd_T98 l0 p14).f0)))) (getE (z := (0 : Int)) c22 c23)) ?_
     refine kv g0 (add6) ?_
     refine kv g0 (ixR 3 c22 (ltE c23)) ?_
     refine ks g0 (stE 1 (eI .i64 (wrap64 ((rd q13 ((rd_T98 l0 p14).f0)) + 1))) ((q13.set ((rd_T98 l0 p14).f0).toNat (wrap64 ((rd q13 ((rd_T98 l0 p14).f0)) + 1))).map (eI .i64)) (getE (z := (0 : Int)) c22 c23) setE) ?_
     refine wk_end ?_
     refine ac_blkN ?_
     refine ac_next ?_
     refine wk_start ?_
     refine kv g0 (mv) ?_
     refine kv g0 (add6) ?_
     refine kv g0 (asg) ?_
     refine wk_end ?_
     refine ac_k ?_
     exact acw hE [(0, 0)] 9999 (hK29 k15 (q13.set ((rd_T98 l0 p14).f0).toNat (wrap64 ((rd q13 ((rd_T98 l0 p14).f0)) + 1))) (wrap64 (p14 + 1)) (Nat.le_refl _) ⟨by omega, H⟩)
    rw [if_neg c27] at H
    refine aw_ifT ?_ (nT (bF c27))
    refine aw_grp1 ?_
    refine wk_start ?_
    refine kv g0 (mv) ?_
    refine kv g0 (asg) ?_
    refine kv g0 (asg) ?_
    refine wk_end ?_
    refine ac_next ?_
    refine aw_ret ?_
    refine ac_thenR ?_
    refine ac_blkR ?_
    refine ac_thenR ?_
    refine ac_thenR ?_
    refine ac_blkR ?_
    refine ac_thenR ?_
    obtain rfl := Option.some.inj H
    exact acr hE [.tmp 4, .tmp 5] (.tmp (.tmp .nil)) (.many _ _ _) [(0, 0)] 9999
   rw [if_neg c24] at H
   refine kx (hF (eN c24)) ?_
   refine kx (hF (eN c24)) ?_
   refine kx (hF (eN c24)) ?_
   refine kx (hF (eN c24)) ?_
   refine kv g0 (pkT (eN c24)) ?_
   refine wk_end_draw hM (by kernel_rfl) ?_
   refine ac_next ?_
   refine aw_ifT ?_ rfl
   refine aw_grp1 ?_
   refine wk_start ?_
   refine kv g0 (mv) ?_
   refine kv g0 (asg) ?_
   refine kv g0 (asg) ?_
   refine wk_end ?_
   refine ac_next ?_
   refine aw_ret ?_
   refine ac_thenR ?_
   refine ac_blkR ?_
   refine ac_thenR ?_
   refine ac_thenR ?_
   refine ac_blkR ?_
   refine ac_thenR ?_
   obtain rfl := Option.some.inj H
   exact acr hE [.tmp 4, .tmp 5] (.tmp (.tmp .nil)) (.many _ _ _) [(0, 0)] 9999
  rw [if_neg c21] at H
  refine kx (hF (nT (bF c21))) ?_
  refine kx (hF (nT (bF c21))) ?_
  refine kx (hF (nT (bF c21))) ?_
  refine kx (hF (nT (bF c21))) ?_
  refine kx (hF (nT (bF c21))) ?_
  refine kx (hF (nT (bF c21))) ?_
  refine kx (hF (nT (bF c21))) ?_
  refine kx (hF (nT (bF c21))) ?_
  refine kx (hF (nT (bF c21))) ?_
  refine kv g0 (pkT (nT (bF c21))) ?_
  refine kv g0 (mv) ?_
  refine kx (hF rfl) ?_
  refine kx (hF rfl) ?_
  refine kx (hF rfl) ?_
  refine kx (hF rfl) ?_
  refine kv g0 (pkT rfl) ?_
  refine wk_end_draw hM (by kernel_rfl) ?_
  refine ac_next ?_
  refine aw_ifT ?_ rfl
  refine aw_grp1 ?_
  refine wk_start ?_
  refine kv g0 (mv) ?_
  refine kv g0 (asg) ?_
  refine kv g0 (asg) ?_
  refine wk_end ?_
  refine ac_next ?_
  refine aw_ret ?_
  refine ac_thenR ?_
  refine ac_blkR ?_
  refine ac_thenR ?_
  refine ac_thenR ?_
  refine ac_blkR ?_
  refine ac_thenR ?_
  obtain rfl := Option.some.inj H
  exact acr hE [.tmp 4, .tmp 5] (.tmp (.tmp .nil)) (.many _ _ _) [(0, 0)] 9999
 rw [if_neg c16] at H
 refine aw_ifF ?_ (decide_eq_false c16)
 refine aw_exit ?_
 refine ac_then ?_
 refine ac_then ?_
 refine ac_hit rfl ?_
 refine ac_next ?_
 refine aw_grp1 ?_
 refine wk_start ?_
 refine kv g0 (mv) ?_
 refine kv g0 (asg) ?_
 refine kv g0 (asg) ?_
 refine wk_end ?_
 refine ac_next ?_
 refine aw_ret ?_
 obtain rfl := Option.some.inj H
 exact acr hE [.tmp 4, .tmp 5] (.tmp (.tmp .nil)) (.many _ _ _) [(0, 0)] 9999
/-! spec_KeeperOk -/
mutual
def spec_KeeperOk.l0 : Nat → (List S98) → (List Int) → (List S97) → Int → (List Int) → ((List Int) × Bool) → ((List Int) × Bool) → Int → Option (Bool)
 | 0, _, _, _, _, _, _, _, _ => none
 | k22 + 1, l0_0, l0_1, l0_2, a0_3, l0_4, t8, t10, p21 => if p21 < 3 then if 0 ≤ p21 then (if p21 < (l0_1.length : Int) then (if p21 < (t8.1.length : Int) then (if (rd l0_1 p21) = (wrap64 ((rd t8.1 p21) + 1)) then (if p21 < (l0_4.length : Int) then (if p21 < (t10.1.length : Int) then if (rd l0_4 p21) = (wrap64 ((rd t10.1 p21) + 1)) then spec_KeeperOk.l0 k22 l0_0 l0_1 l0_2 a0_3 l0_4 t8 t10 (wrap64 (p21 + 1)) else some false else none) else none) else some false) else none) else none) else none else spec_KeeperOk.l1 k22 l0_0 l0_1 l0_2 a0_3 l0_4 0
def spec_KeeperOk.l1 : Nat → (List S98) → (List Int) → (List S97) → Int → (List Int) → Int → Option (Bool)
 | 0, _, _, _, _, _, _ => none
 | k51 + 1, l0_0, l0_1, l0_2, a0_3, l0_4, p50 => if p50 < (l0_2.length : Int) then if 0 ≤ p50 then (spec_l01In.f ((rd_T97 l0_2 p50).f0) 0 2).bind fun t54 => (if t54 = true then (if 0 ≤ ((rd_T97 l0_2 p50).f0) then (if ((rd_T97 l0_2 p50).f0) < (l0_1.length : Int) then ((spec_l01In.f ((rd_T97 l0_2 p50).f1) (wrap64 ((rd l0_1 ((rd_T97 l0_2 p50).f0)) + 1)) 1000000000).bind fun t59 => (if t59 = true then ((spec_ItemOk.f ((rd_T97 l0_2 p50).f2.f0) ((rd_T97 l0_2 p50).f2.f1) ((rd_T97 l0_2 p50).f2.f2) ((rd_T97 l0_2 p50).f2.f3)).bind fun t62 => (if t62 = true then (if p50 ≤ (l0_2.length : Int) then ((spec_l20Early.f k51 (l0_2.take p50.toNat) ((rd_T97 l0_2 p50).f0) ((rd_T97 l0_2 p50).f1)).bind fun t66 => if t66 ≥ 0 then some false else spec_KeeperOk.l1 k51 l0_0 l0_1 l0_2 a0_3 l0_4 (wrap64 (p50 + 1))) else none) else some false)) else some false)) else none) else none) else some false) else none else some true
end
def spec_KeeperOk.f (k : Nat) (l0_0 : List S98) (l0_1 : List Int) (l0_2 : List S97) (a0_3 : Int) (l0_4 : List Int) : Option (Bool) := if (l0_1.length : Int) = 3 then (if (l0_4.length : Int) = 3 then (if (l0_0.length : Int) > 200 then some false else ((spec_l01In.f a0_3 0 (l0_0.length : Int)).bind fun t4 => (if t4 = true then if (l0_2.length : Int) > 3 then some false else (spec_l20Counts.f k l0_0 (l0_0.length : Int)).bind fun t8 => (spec_l20Counts.f k l0_0 a0_3).bind fun t10 => if t8.2 = true then if t10.2 = true then spec_KeeperOk.l0 k l0_0 l0_1 l0_2 a0_3 l0_4 t8 t10 0 else some false else some false else some false))) else some false) else some false
theorem spec_KeeperOk.ok {k : Nat} {l0_0 : List S98} {l0_1 : List Int} {l0_2 : List S97} {a0_3 : Int} {l0_4 : List Int} {r : Bool} (H : spec_KeeperOk.f k l0_0 l0_1 l0_2 a0_3 l0_4 = some r) : ACalls Try.prog 26 [] [.agg [.sl .o 6 (l0_0.map e98), .sl .o 1 (l0_1.map (eI .i64)), .sl .o 6 (l0_2.map e97), .lit (.int .i64 a0_3), .sl .o 1 (l0_4.map (eI .i64))]] [] (.lit (.bool r)) := by
 refine acalls (fn := Try.f26) (nt := 139) Try.func26 rfl rfl (Nat.le_of_ble_eq_true rfl) fun E hE => ?_
 rw [spec_KeeperOk.f] at H
 refine aw_grp1 ?_
 refine wk_start ?_
 refine kb g0 (bxA 0) ?_
 refine kv g0 (asg) ?_
 refine wk_end ?_
 refine ac_next ?_
 refine aw_grp1 ?_
 refine aw_grp1 ?_
 refine wk_start ?_
 refine kv g0 (faB 1 1) ?_
 refine kv g0 (ldB) ?_
 refine kv g0 (lnS lenE) ?_
 refine kv g0 (neq) ?_
 refine kv g0 (mv) ?_
 by_cases c1 : (l0_1.length : Int) = 3
 ·rw [if_pos c1] at H
  refine kv (g1 (eM c1)) (faB 4 4) ?_
  refine kv (g1 (eM c1)) (ldB) ?_
  refine kv (g1 (eM c1)) (lnS lenE) ?_
  refine kv (g1 (eM c1)) (neq) ?_
  refine kv g0 (pkF (eM c1)) ?_
  refine kv g0 (mv) ?_
  by_cases c2 : (l0_4.length : Int) = 3
  ·rw [if_pos c2] at H
   refine kv (g1 (eM c2)) (faB 0 0) ?_
   refine kv (g1 (eM c2)) (ldB) ?_
   refine kv (g1 (eM c2)) (lnS lenE) ?_
   refine kv (g1 (eM c2)) (gtr) ?_
   refine kv g0 (pkF (eM c2)) ?_
   refine kv g0 (mv) ?_
   by_cases c3 : (l0_0.length : Int) > 200
   ·rw [if_pos c3] at H
    refine kx (hF (decide_eq_true c3)) ?_
    refine kx (hF (decide_eq_true c3)) ?_
    refine kx (hF (decide_eq_true c3)) ?_
    refine kx (hF (decide_eq_true c3)) ?_
    refine kx (hF (decide_eq_true c3)) ?_
    refine kx (hF (decide_eq_true c3)) ?_
    refine kx (hF (decide_eq_true c3)) ?_
    refine kv g0 (pkT (decide_eq_true c3)) ?_
    refine kv g0 (mv) ?_
    refine kx (hF rfl) ?_
    refine kx (hF rfl) ?_
    refine kx (hF rfl) ?_
    refine kx (hF rfl) ?_
    refine kv g0 (pkT rfl) ?_
    refine wk_end ?_
    refine ac_next ?_
    refine aw_ifT ?_ rfl
    refine aw_grp1 ?_
    refine wk_start ?_
    refine kv g0 (asg) ?_
    refine wk_end ?_
    refine ac_next ?_
    refine aw_ret ?_
    refine ac_thenR ?_
    obtain rfl := Option.some.inj H
    exact acr hE [.tmp 2] (.tmp .nil) (.one _) [] 9999
   rw [if_neg c3] at H
   refine kv (g1 (decide_eq_false c3)) (faB 3 3) ?_
   refine kv (g1 (decide_eq_false c3)) (ldB) ?_
   refine kv (g1 (decide_eq_false c3)) (faB 0 0) ?_
   refine kv (g1 (decide_eq_false c3)) (ldB) ?_
   refine kv (g1 (decide_eq_false c3)) (lnS lenE) ?_
   obtain ⟨t4, A5, H⟩ := of_bind H
   refine kcS0 32 (.lit (.bool t4)) [] (g1 (decide_eq_false c3)) (cal (spec_l01In.ok A5) [] 9999 .n (hf := Try.func63)) rfl rfl ?_
   refine kv (g1 (decide_eq_false c3)) (not_) ?_
   refine kv g0 (pkF (decide_eq_false c3)) ?_
   refine kv g0 (mv) ?_
   by_cases c6 : t4 = true
   ·rw [if_pos c6] at H
    refine kv (g1 (nF c6)) (faB 2 2) ?_
    refine kv (g1 (nF c6)) (ldB) ?_
    refine kv (g1 (nF c6)) (lnS lenE) ?_
    refine kv (g1 (nF c6)) (gtr) ?_
    refine kv g0 (pkF (nF c6)) ?_
    refine wk_end ?_
    refine ac_next ?_
    by_cases c7 : (l0_2.length : Int) > 3
    ·rw [if_pos c7] at H
     refine aw_ifT ?_ (decide_eq_true c7)
     refine aw_grp1 ?_
     refine wk_start ?_
     refine kv g0 (asg) ?_
     refine wk_end ?_
     refine ac_next ?_
     refine aw_ret ?_
     refine ac_thenR ?_
     obtain rfl := Option.some.inj H
     exact acr hE [.tmp 2] (.tmp .nil) (.one _) [] 9999
    rw [if_neg c7] at H
    refine aw_ifF ?_ (decide_eq_false c7)
    refine aw_skip ?_
    refine ac_next ?_
    refine aw_grp1 ?_
    refine wk_start ?_
    refine kv g0 (faB 0 0) ?_
    refine kv g0 (ldB) ?_
    refine kv g0 (faB 0 0) ?_
    refine kv g0 (ldB) ?_
    refine kv g0 (lnS lenE) ?_
    obtain ⟨t8, A9, H⟩ := of_bind H
    refine kcS1 47 (.tup [.row 1, .lit (.bool t8.2)]) [(1, .row 3 1 (t8.1.map (eI .i64)))] g0 (cal (spec_l20Counts.ok A9) [1] 9999 .n (hf := Try.func68)) rfl rfl ?_
    refine kv g0 (mv) ?_
    refine kv g0 (ext) ?_
    refine kv g0 (ext) ?_
    refine kv g0 (asg) ?_
    refine kv g0 (asg) ?_
    refine wk_end ?_
    refine ac_next ?_
    refine aw_grp1 ?_
    refine wk_start ?_
    refine kv g0 (faB 0 0) ?_
    refine kv g0 (ldB) ?_
    refine kv g0 (faB 3 3) ?_
    refine kv g0 (ldB) ?_
    obtain ⟨t10, A11, H⟩ := of_bind H
    refine kcS1 55 (.tup [.row 2, .lit (.bool t10.2)]) [(2, .row 3 1 (t10.1.map (eI .i64)))] g0 (cal (spec_l20Counts.ok A11) [2] 9999 .n (hf := Try.func68)) rfl rfl ?_
    refine kv g0 (mv) ?_
    refine kv g0 (ext) ?_
    refine kv g0 (ext) ?_
    refine kv g0 (asg) ?_
    refine kv g0 (asg) ?_
    refine wk_end ?_
    refine ac_next ?_
    refine aw_grp1 ?_
    refine aw_grp1 ?_
    refine wk_start ?_
    refine kv g0 (mv) ?_
    refine kv g0 (not_) ?_
    refine kv g0 (mv) ?_
    by_cases c12 : t8.2 = true
    ·rw [if_pos c12] at H
     refine kv (g1 (nF c12)) (mv) ?_
     refine kv (g1 (nF c12)) (not_) ?_
     refine kv g0 (pkF (nF c12)) ?_
     refine wk_end ?_
     refine ac_next ?_
     by_cases c13 : t10.2 = true
     ·rw [if_pos c13] at H
      refine aw_ifF ?_ (nF c13)
      refine aw_skip ?_
      refine ac_next ?_
      refine aw_grp1 ?_
      refine aw_grp1 ?_
      refine wk_start ?_
      refine kv g0 (asg) ?_
      refine wk_end ?_
      refine ac_next ?_
      refine aw_block ?_
      refine aw_loop1 (fun (k_ : Nat) (p21 : Int) => k_ ≤ k ∧ spec_KeeperOk.l0 k_ l0_0 l0_1 l0_2 a0_3 l0_4 t8 t10 p21 = some r) (fun (p21 : Int) => ⟨[(1, .box 0 0), (3, .row 1), (5, .row 2), (7, .lit (.int .i64 p21))], [(0, .box 29 [.sl .o 6 (l0_0.map e98), .sl .o 1 (l0_1.map (eI .i64)), .sl .o 6 (l0_2.map e97), .lit (.int .i64 a0_3), .sl .o 1 (l0_4.map (eI .i64))]), (1, .row 3 1 (t8.1.map (eI .i64))), (2, .row 3 1 (t10.1.map (eI .i64)))]⟩) k 0 ⟨Nat.le_refl _, H⟩ (fun K_ h_ => acw hE [(0, 0), (1, 1), (2, 2)] 9999 h_) (fun _ => by intro h_; have h_ := h_.2; rw [spec_KeeperOk.l0.eq_1] at h_; cases h_) ?_
      intro k22 p21 hq_ K31 hK32
      have hk22 := hq_.1
      have H := hq_.2
      clear hq_
      rw [spec_KeeperOk.l0.eq_2] at H
      refine aw_grp1 ?_
      refine aw_grp1 ?_
      refine wk_start ?_
      refine kv g0 (mv) ?_
      refine kv g0 (lss) ?_
      refine wk_end ?_
      refine ac_next ?_
      by_cases c23 : p21 < 3
      ·rw [if_pos c23] at H
       refine aw_ifT ?_ (decide_eq_true c23)
       refine aw_skip ?_
       refine ac_next ?_
       refine aw_grp1 ?_
       refine aw_block ?_
       refine aw_grp1 ?_
       refine wk_start ?_
       refine kv g0 (faB 1 1) ?_
       refine kv g0 (ldB) ?_
       refine kv g0 (mv) ?_
       obtain ⟨c24, H⟩ := of_if H
       obtain ⟨c25, H⟩ := of_if H
       refine kv g0 (ixS 3 (eI .i64 (rd l0_1 p21)) c24 (getE (z := (0 : Int)) c24 c25)) ?_
       refine kv g0 (ldR (.lit (.int .i64 (rd l0_1 p21)))) ?_
       refine kv g0 (mv) ?_
       refine kv g0 (mv) ?_
       obtain ⟨c26, H⟩ := of_if H
       refine kv g0 (ixR 3 c24 (ltE c26)) ?_
       refine kv g0 (ldE (eI .i64 (rd t8.1 p21)) (.lit (.int .i64 (rd t8.1 p21))) (getE (z := (0 : Int)) c24 c26)) ?_
       refine kv g0 (add6) ?_
       refine kv g0 (neq) ?_
       refine kv g0 (mv) ?_
       by_cases c27 : (rd l0_1 p21) = (wrap64 ((rd t8.1 p21) + 1))
       ·rw [if_pos c27] at H
        refine kv (g1 (eM c27)) (faB 4 4) ?_
        refine kv (g1 (eM c27)) (ldB) ?_
        refine kv (g1 (eM c27)) (mv) ?_
        obtain ⟨c28, H⟩ := of_if H
        refine kv (g1 (eM c27)) (ixS 3 (eI .i64 (rd l0_4 p21)) c24 (getE (z := (0 : Int)) c24 c28)) ?_
        refine kv (g1 (eM c27)) (ldR (.lit (.int .i64 (rd l0_4 p21)))) ?_
        refine kv (g1 (eM c27)) (mv) ?_
        refine kv (g1 (eM c27)) (mv) ?_
        obtain ⟨c29, H⟩ := of_if H
        refine kv (g1 (eM c27)) (ixR 3 c24 (ltE c29)) ?_
        refine kv (g1 (eM c27)) (ldE (eI .i64 (rd t10.1 p21)) (.lit (.int .i64 (rd t10.1 p21))) (getE (z := (0 : Int)) c24 c29)) ?_
        refine kv (g1 (eM c27)) (add6) ?_
        refine kv (g1 (eM c27)) (neq) ?_
        refine kv g0 (pkF (eM c27)) ?_
        refine wk_end_draw hM (by kernel_rfl) ?_
        refine ac_next ?_
        by_cases c30 : (rd l0_4 p21) = (wrap64 ((rd t10.1 p21) + 1))
        ·rw [if_pos c30] at H
         refine aw_ifF ?_ (eM c30)
         refine aw_skip ?_
         refine ac_blkN ?_
         refine ac_next ?_
         refine wk_start ?_
         refine kv g0 (mv) ?_
         refine kv g0 (add6) ?_
         refine kv g0 (asg) ?_
         refine wk_end ?_
         refine ac_k ?_
         exact acw hE [(0, 0), (1, 1), (2, 2)] 9999 (hK32 k22 (wrap64 (p21 + 1)) (Nat.le_refl _) ⟨by omega, H⟩)
        rw [if_neg c30] at H
        refine aw_ifT ?_ (eN c30)
        refine aw_grp1 ?_
        refine wk_start ?_
        refine kv g0 (asg) ?_
        refine wk_end ?_
        refine ac_next ?_
        refine aw_ret ?_
        refine ac_blkR ?_
        refine ac_thenR ?_
        refine ac_thenR ?_
        refine ac_blkR ?_
        refine ac_thenR ?_
        obtain rfl := Option.some.inj H
        exact acr hE [.tmp 2] (.tmp .nil) (.one _) [] 9999
       rw [if_neg c27] at H
       refine kx (hF (eN c27)) ?_
       refine kx (hF (eN c27)) ?_
       refine kx (hF (eN c27)) ?_
       refine kx (hF (eN c27)) ?_
       refine kx (hF (eN c27)) ?_
       refine kx (hF (eN c27)) ?_
       refine kx (hF (eN c27)) ?_
       refine kx (hF (eN c27)) ?_
       refine kx (hF (eN c27)) ?_
       refine kx (hF (eN c27)) ?_
       refine kx (hF (eN c27)) ?_
       refine kv g0 (pkT (eN c27)) ?_
       refine wk_end_draw hM (by kernel_rfl) ?_
       refine ac_next ?_
       refine aw_ifT ?_ rfl
       refine aw_grp1 ?_
       refine wk_start ?_
       refine kv g0 (asg) ?_
       refine wk_end ?_
       refine ac_next ?_
       refine aw_ret ?_
       refine ac_blkR ?_
       refine ac_thenR ?_
       refine ac_thenR ?_
       refine ac_blkR ?_
       refine ac_thenR ?_
       obtain rfl := Option.some.inj H
       exact acr hE [.tmp 2] (.tmp .nil) (.one _) [] 9999
      rw [if_neg c23] at H
      refine aw_ifF ?_ (decide_eq_false c23)
      refine aw_exit ?_
      refine ac_then ?_
      refine ac_then ?_
      refine ac_hit rfl ?_
      refine ac_next ?_
      refine aw_grp1 ?_
      refine aw_grp1 ?_
      refine wk_start ?_
      refine kv g0 (asg) ?_
      refine wk_end ?_
      refine ac_next ?_
      refine aw_block ?_
      refine aw_loop1 (fun (k_ : Nat) (p50 : Int) => k_ ≤ k22 ∧ spec_KeeperOk.l1 k_ l0_0 l0_1 l0_2 a0_3 l0_4 p50 = some r) (fun (p50 : Int) => ⟨[(1, .box 0 0), (8, .lit (.int .i64 p50))], [(0, .box 29 [.sl .o 6 (l0_0.map e98), .sl .o 1 (l0_1.map (eI .i64)), .sl .o 6 (l0_2.map e97), .lit (.int .i64 a0_3), .sl .o 1 (l0_4.map (eI .i64))])]⟩) k22 0 ⟨Nat.le_refl _, H⟩ (fun K_ h_ => acw hE [(0, 0)] 9999 h_) (fun _ => by intro h_; have h_ := h_.2; rw [spec_KeeperOk.l1.eq_1] at h_; cases h_) ?_
      intro k51 p50 hq_ K69 hK70
      have hk51 := hq_.1
      have H := hq_.2
      clear hq_
      rw [spec_KeeperOk.l1.eq_2] at H
      refine aw_grp1 ?_
      refine aw_grp1 ?_
      refine wk_start ?_
      refine kv g0 (mv) ?_
      refine kv g0 (faB 2 2) ?_
      refine kv g0 (ldB) ?_
      refine kv g0 (lnS lenE) ?_
      refine kv g0 (lss) ?_
      refine wk_end ?_
      refine ac_next ?_
      by_cases c52 : p50 < (l0_2.length : Int)
      ·rw [if_pos c52] at H
       refine aw_ifT ?_ (decide_eq_true c52)
       refine aw_skip ?_
       refine ac_next ?_
       refine aw_grp1 ?_
       refine aw_block ?_
       refine aw_grp1 ?_
       refine wk_start ?_
       refine kv g0 (faB 2 2) ?_
       refine kv g0 (ldB) ?_
       refine kv g0 (mv) ?_
       obtain ⟨c53, H⟩ := of_if H
       refine kv g0 (ixS 97 (e97 (rd_T97 l0_2 p50)) c53 (getE (z := z97) c53 c52)) ?_
       refine kv g0 (ldRA 6 [.lit (.int .i64 ((rd_T97 l0_2 p50).f0)), .lit (.int .i64 ((rd_T97 l0_2 p50).f1)), .lit (.int .i64 ((rd_T97 l0_2 p50).f2.f0)), .lit (.int .i64 ((rd_T97 l0_2 p50).f2.f1)), .lit (.int .i64 ((rd_T97 l0_2 p50).f2.f2)), .lit (.int .i64 ((rd_T97 l0_2 p50).f2.f3))]) ?_
       refine kb g0 (alc 3 [.int .i64 0, .int .i64 0, .int .i64 0, .int .i64 0, .int .i64 0, .int .i64 0] [.lit (.int .i64 0), .lit (.int .i64 0), .lit (.int .i64 0), .lit (.int .i64 0), .lit (.int .i64 0), .lit (.int .i64 0)]) ?_
       refine ks g0 (stB 6 [.lit (.int .i64 ((rd_T97 l0_2 p50).f0)), .lit (.int .i64 ((rd_T97 l0_2 p50).f1)), .lit (.int .i64 ((rd_T97 l0_2 p50).f2.f0)), .lit (.int .i64 ((rd_T97 l0_2 p50).f2.f1)), .lit (.int .i64 ((rd_T97 l0_2 p50).f2.f2)), .lit (.int .i64 ((rd_T97 l0_2 p50).f2.f3))]) ?_
       refine wk_end ?_
       refine ac_next ?_
       refine aw_grp1 ?_
       refine wk_start ?_
       refine kv g0 (faB 0 0) ?_
       refine kv g0 (ldB) ?_
       obtain ⟨t54, A55, H⟩ := of_bind H
       refine kcS0 106 (.lit (.bool t54)) [] g0 (cal (spec_l01In.ok A55) [] 9999 .n (hf := Try.func63)) rfl rfl ?_
       refine kv g0 (not_) ?_
       refine kv g0 (mv) ?_
       by_cases c56 : t54 = true
       ·rw [if_pos c56] at H
        refine kv (g1 (nF c56)) (faB 1 1) ?_
        refine kv (g1 (nF c56)) (ldB) ?_
        refine kv (g1 (nF c56)) (faB 1 1) ?_
        refine kv (g1 (nF c56)) (ldB) ?_
        refine kv (g1 (nF c56)) (faB 0 0) ?_
        refine kv (g1 (nF c56)) (ldB) ?_
        obtain ⟨c57, H⟩ := of_if H
        obtain ⟨c58, H⟩ := of_if H
        refine kv (g1 (nF c56)) (ixS 3 (eI .i64 (rd l0_1 ((rd_T97 l0_2 p50).f0))) c57 (getE (z := (0 : Int)) c57 c58)) ?_
        refine kv (g1 (nF c56)) (ldR (.lit (.int .i64 (rd l0_1 ((rd_T97 l0_2 p50).f0))))) ?_
        refine kv (g1 (nF c56)) (add6) ?_
        obtain ⟨t59, A60, H⟩ := of_bind H
        refine kcS0 118 (.lit (.bool t59)) [] (g1 (nF c56)) (cal (spec_l01In.ok A60) [] 9999 .n (hf := Try.func63)) rfl rfl ?_
        refine kv (g1 (nF c56)) (not_) ?_
        refine kv g0 (pkF (nF c56)) ?_
        refine kv g0 (mv) ?_
        by_cases c61 : t59 = true
        ·rw [if_pos c61] at H
         refine kv (g1 (nF c61)) (faB 2 2) ?_
         refine kv (g1 (nF c61)) (ldBA 4 [.lit (.int .i64 ((rd_T97 l0_2 p50).f2.f0)), .lit (.int .i64 ((rd_T97 l0_2 p50).f2.f1)), .lit (.int .i64 ((rd_T97 l0_2 p50).f2.f2)), .lit (.int .i64 ((rd_T97 l0_2 p50).f2.f3))]) ?_
         obtain ⟨t62, A63, H⟩ := of_bind H
         refine kcS0 124 (.lit (.bool t62)) [] (g1 (nF c61)) (cal (spec_ItemOk.ok A63) [] 9999 .n (hf := Try.func69)) rfl rfl ?_
         refine kv (g1 (nF c61)) (not_) ?_
         refine kv g0 (pkF (nF c61)) ?_
         refine kv g0 (mv) ?_
         by_cases c64 : t62 = true
         ·rw [if_pos c64] at H
          refine kv (g1 (nF c64)) (faB 2 2) ?_
          refine kv (g1 (nF c64)) (ldB) ?_
          refine kv (g1 (nF c64)) (mv) ?_
          obtain ⟨c65, H⟩ := of_if H
          refine kv (g1 (nF c64)) (slH 97 c53 c65) ?_
          refine kv (g1 (nF c64)) (faB 0 0) ?_
          refine kv (g1 (nF c64)) (ldB) ?_
          refine kv (g1 (nF c64)) (faB 1 1) ?_
          refine kv (g1 (nF c64)) (ldB) ?_
          obtain ⟨t66, A67, H⟩ := of_bind H
          refine kcS0 136 (.lit (.int .i64 t66)) [] (g1 (nF c64)) (cal (spec_l20Early.ok A67) [] 9999 .n (hf := Try.func66)) rfl rfl ?_
          refine kv (g1 (nF c64)) (geq) ?_
          refine kv g0 (pkF (nF c64)) ?_
          refine wk_end_draw hM (by kernel_rfl) ?_
          refine ac_next ?_
          by_cases c68 : t66 ≥ 0
          ·rw [if_pos c68] at H
           refine aw_ifT ?_ (decide_eq_true c68)
           refine aw_grp1 ?_
           refine wk_start ?_
           refine kv g0 (asg) ?_
           refine wk_end ?_
           refine ac_next ?_
           refine aw_ret ?_
           refine ac_blkR ?_
           refine ac_thenR ?_
           refine ac_thenR ?_
           refine ac_blkR ?_
           refine ac_thenR ?_
           obtain rfl := Option.some.inj H
           exact acr hE [.tmp 2] (.tmp .nil) (.one _) [] 9999
          rw [if_neg c68] at H
          refine aw_ifF ?_ (decide_eq_false c68)
          refine aw_skip ?_
          refine ac_blkN ?_
          refine ac_next ?_
          refine wk_start ?_
          refine kv g0 (mv) ?_
          refine kv g0 (add6) ?_
          refine kv g0 (asg) ?_
          refine wk_end ?_
          refine ac_k ?_
          exact acw hE [(0, 0)] 9999 (hK70 k51 (wrap64 (p50 + 1)) (Nat.le_refl _) ⟨by omega, H⟩)
         rw [if_neg c64] at H
         refine kx (hF (nT (bF c64))) ?_
         refine kx (hF (nT (bF c64))) ?_
         refine kx (hF (nT (bF c64))) ?_
         refine kx (hF (nT (bF c64))) ?_
         refine kx (hF (nT (bF c64))) ?_
         refine kx (hF (nT (bF c64))) ?_
         refine kx (hF (nT (bF c64))) ?_
         refine kx (hF (nT (bF c64))) ?_
         refine kx (hF (nT (bF c64))) ?_
         refine kx (hF (nT (bF c64))) ?_
         refine kv g0 (pkT (nT (bF c64))) ?_
         refine wk_end_draw hM (by kernel_rfl) ?_
         refine ac_next ?_
         refine aw_ifT ?_ rfl
         refine aw_grp1 ?_
         refine wk_start ?_
         refine kv g0 (asg) ?_
         refine wk_end ?_
         refine ac_next ?_
         refine aw_ret ?_
         refine ac_blkR ?_
         refine ac_thenR ?_
         refine ac_thenR ?_
         refine ac_blkR ?_
         refine ac_thenR ?_
         obtain rfl := Option.some.inj H
         exact acr hE [.tmp 2] (.tmp .nil) (.one _) [] 9999
        rw [if_neg c61] at H
        refine kx (hF (nT (bF c61))) ?_
        refine kx (hF (nT (bF c61))) ?_
        refine kx (hF (nT (bF c61))) ?_
        refine kx (hF (nT (bF c61))) ?_
        refine kv g0 (pkT (nT (bF c61))) ?_
        refine kv g0 (mv) ?_
        refine kx (hF rfl) ?_
        refine kx (hF rfl) ?_
        refine kx (hF rfl) ?_
        refine kx (hF rfl) ?_
        refine kx (hF rfl) ?_
        refine kx (hF rfl) ?_
        refine kx (hF rfl) ?_
        refine kx (hF rfl) ?_
        refine kx (hF rfl) ?_
        refine kx (hF rfl) ?_
        refine kv g0 (pkT rfl) ?_
        refine wk_end_draw hM (by kernel_rfl) ?_
        refine ac_next ?_
        refine aw_ifT ?_ rfl
        refine aw_grp1 ?_
        refine wk_start ?_
        refine kv g0 (asg) ?_
        refine wk_end ?_
        refine ac_next ?_
        refine aw_ret ?_
        refine ac_blkR ?_
        refine ac_thenR ?_
        refine ac_thenR ?_
        refine ac_blkR ?_
        refine ac_thenR ?_
        obtain rfl := Option.some.inj H
        exact acr hE [.tmp 2] (.tmp .nil) (.one _) [] 9999
       rw [if_neg c56] at H
       refine kx (hF (nT (bF c56))) ?_
       refine kx (hF (nT (bF c56))) ?_
       refine kx (hF (nT (bF c56))) ?_
       refine kx (hF (nT (bF c56))) ?_
       refine kx (hF (nT (bF c56))) ?_
       refine kx (hF (nT (bF c56))) ?_
       refine kx (hF (nT (bF c56))) ?_
       refine kx (hF (nT (bF c56))) ?_
       refine kx (hF (nT (bF c56))) ?_
       refine kx (hF (nT (bF c56))) ?_
       refine kx (hF (nT (bF c56))) ?_
       refine kv g0 (pkT (nT (bF c56))) ?_
       refine kv g0 (mv) ?_
       refine kx (hF rfl) ?_
       refine kx (hF rfl) ?_
       refine kx (hF rfl) ?_
       refine kx (hF rfl) ?_
       refine kv g0 (pkT rfl) ?_
       refine kv g0 (mv) ?_
       refine kx (hF rfl) ?_
       refine kx (hF rfl) ?_
       refine kx (hF rfl) ?_
       refine kx (hF rfl) ?_
       refine kx (hF rfl) ?_
       refine kx (hF rfl) ?_
       refine kx (hF rfl) ?_
       refine kx (hF rfl) ?_
       refine kx (hF rfl) ?_
       refine kx (hF rfl) ?_
       refine kv g0 (pkT rfl) ?_
       refine wk_end_draw hM (by kernel_rfl) ?_
       refine ac_next ?_
       refine aw_ifT ?_ rfl
       refine aw_grp1 ?_
       refine wk_start ?_
       refine kv g0 (asg) ?_
       refine wk_end ?_
       refine ac_next ?_
       refine aw_ret ?_
       refine ac_blkR ?_
       refine ac_thenR ?_
       refine ac_thenR ?_
       refine ac_blkR ?_
       refine ac_thenR ?_
       obtain rfl := Option.some.inj H
       exact acr hE [.tmp 2] (.tmp .nil) (.one _) [] 9999
      rw [if_neg c52] at H
      refine aw_ifF ?_ (decide_eq_false c52)
      refine aw_exit ?_
      refine ac_then ?_
      refine ac_then ?_
      refine ac_hit rfl ?_
      refine ac_next ?_
      refine aw_grp1 ?_
      refine wk_start ?_
      refine kv g0 (asg) ?_
      refine wk_end ?_
      refine ac_next ?_
      refine aw_ret ?_
      obtain rfl := Option.some.inj H
      exact acr hE [.tmp 2] (.tmp .nil) (.one _) [] 9999
     rw [if_neg c13] at H
     refine aw_ifT ?_ (nT (bF c13))
     refine aw_grp1 ?_
     refine wk_start ?_
     refine kv g0 (asg) ?_
     refine wk_end ?_
     refine ac_next ?_
     refine aw_ret ?_
     refine ac_thenR ?_
     obtain rfl := Option.some.inj H
     exact acr hE [.tmp 2] (.tmp .nil) (.one _) [] 9999
    rw [if_neg c12] at H
    refine kx (hF (nT (bF c12))) ?_
    refine kx (hF (nT (bF c12))) ?_
    refine kv g0 (pkT (nT (bF c12))) ?_
    refine wk_end ?_
    refine ac_next ?_
    refine aw_ifT ?_ rfl
    refine aw_grp1 ?_
    refine wk_start ?_
    refine kv g0 (asg) ?_
    refine wk_end ?_
    refine ac_next ?_
    refine aw_ret ?_
    refine ac_thenR ?_
    obtain rfl := Option.some.inj H
    exact acr hE [.tmp 2] (.tmp .nil) (.one _) [] 9999
   rw [if_neg c6] at H
   refine kx (hF (nT (bF c6))) ?_
   refine kx (hF (nT (bF c6))) ?_
   refine kx (hF (nT (bF c6))) ?_
   refine kx (hF (nT (bF c6))) ?_
   refine kv g0 (pkT (nT (bF c6))) ?_
   refine wk_end ?_
   refine ac_next ?_
   refine aw_ifT ?_ rfl
   refine aw_grp1 ?_
   refine wk_start ?_
   refine kv g0 (asg) ?_
   refine wk_end ?_
   refine ac_next ?_
   refine aw_ret ?_
   refine ac_thenR ?_
   obtain rfl := Option.some.inj H
   exact acr hE [.tmp 2] (.tmp .nil) (.one _) [] 9999
  rw [if_neg c2] at H
  refine kx (hF (eN c2)) ?_
  refine kx (hF (eN c2)) ?_
  refine kx (hF (eN c2)) ?_
  refine kx (hF (eN c2)) ?_
  refine kv g0 (pkT (eN c2)) ?_
  refine kv g0 (mv) ?_
  refine kx (hF rfl) ?_
  refine kx (hF rfl) ?_
  refine kx (hF rfl) ?_
  refine kx (hF rfl) ?_
  refine kx (hF rfl) ?_
  refine kx (hF rfl) ?_
  refine kx (hF rfl) ?_
  refine kv g0 (pkT rfl) ?_
  refine kv g0 (mv) ?_
  refine kx (hF rfl) ?_
  refine kx (hF rfl) ?_
  refine kx (hF rfl) ?_
  refine kx (hF rfl) ?_
  refine kv g0 (pkT rfl) ?_
  refine wk_end ?_
  refine ac_next ?_
  refine aw_ifT ?_ rfl
  refine aw_grp1 ?_
  refine wk_start ?_
  refine kv g0 (asg) ?_
  refine wk_end ?_
  refine ac_next ?_
  refine aw_ret ?_
  refine ac_thenR ?_
  obtain rfl := Option.some.inj H
  exact acr hE [.tmp 2] (.tmp .nil) (.one _) [] 9999
 rw [if_neg c1] at H
 refine kx (hF (eN c1)) ?_
 refine kx (hF (eN c1)) ?_
 refine kx (hF (eN c1)) ?_
 refine kx (hF (eN c1)) ?_
 refine kv g0 (pkT (eN c1)) ?_
 refine kv g0 (mv) ?_
 refine kx (hF rfl) ?_
 refine kx (hF rfl) ?_
 refine kx (hF rfl) ?_
 refine kx (hF rfl) ?_
 refine kv g0 (pkT rfl) ?_
 refine kv g0 (mv) ?_
 refine kx (hF rfl) ?_
 refine kx (hF rfl) ?_
 refine kx (hF rfl) ?_
 refine kx (hF rfl) ?_
 refine kx (hF rfl) ?_
 refine kx (hF rfl) ?_
 refine kx (hF rfl) ?_
 refine kv g0 (pkT rfl) ?_
 refine kv g0 (mv) ?_
 refine kx (hF rfl) ?_
 refine kx (hF rfl) ?_
 refine kx (hF rfl) ?_
 refine kx (hF rfl) ?_
 refine kv g0 (pkT rfl) ?_
 refine wk_end ?_
 refine ac_next ?_
 refine aw_ifT ?_ rfl
 refine aw_grp1 ?_
 refine wk_start ?_
 refine kv g0 (asg) ?_
 refine wk_end ?_
 refine ac_next ?_
 refine aw_ret ?_
 refine ac_thenR ?_
 obtain rfl := Option.some.inj H
 exact acr hE [.tmp 2] (.tmp .nil) (.one _) [] 9999
/-! impl_SaveKeeper -/
def impl_SaveKeeper.f (l0_0 : List S98) (l0_1 : List Int) (l0_2 : List S97) (a0_3 : Int) (l0_4 : List Int) : Option ((List S98) × (List Int) × (List S97) × Int × (List Int)) := (impl_copyKeeper.f l0_0 l0_1 l0_2 a0_3 l0_4).bind fun t1 => (impl_copyInts.f t1.2.1).bind fun t3 => some (t1.1, t1.2.1, t1.2.2.1, (t1.1.length : Int), t3)
theorem impl_SaveKeeper.ok {l0_0 : List S98} {l0_1 : List Int} {l0_2 : List S97} {a0_3 : Int} {l0_4 : List Int} {r : (List S98) × (List Int) × (List S97) × Int × (List Int)} (H : impl_SaveKeeper.f l0_0 l0_1 l0_2 a0_3 l0_4 = some r) : ACalls Try.prog 15 [] [.agg [.sl .o 6 (l0_0.map e98), .sl .o 1 (l0_1.map (eI .i64)), .sl .o 6 (l0_2.map e97), .lit (.int .i64 a0_3), .sl .o 1 (l0_4.map (eI .i64))]] [(0, .row 98 6 (r.1.map e98)), (1, .row 3 1 (r.2.1.map (eI .i64))), (2, .row 97 6 (r.2.2.1.map e97)), (3, .row 3 1 (r.2.2.2.2.map (eI .i64)))] (.agg [.row 0, .row 1, .row 2, .lit (.int .i64 r.2.2.2.1), .row 3]) := by
 refine acalls (fn := Try.f15) (nt := 15) Try.func15 rfl rfl (Nat.le_of_ble_eq_true rfl) fun E hE => ?_
 rw [impl_SaveKeeper.f] at H
 refine aw_grp1 ?_
 refine wk_start ?_
 refine kb g0 (bxA 0) ?_
 refine kb g0 (alc 1 [.slice none 0 0, .slice none 0 0, .slice none 0 0, .int .i64 0, .slice none 0 0] [.lit (.slice none 0 0), .lit (.slice none 0 0), .lit (.slice none 0 0), .lit (.int .i64 0), .lit (.slice none 0 0)]) ?_
 refine wk_end ?_
 refine ac_next ?_
 refine aw_grp1 ?_
 refine wk_start ?_
 refine kv g0 (ldBA 5 [.sl .o 6 (l0_0.map e98), .sl .o 1 (l0_1.map (eI .i64)), .sl .o 6 (l0_2.map e97), .lit (.int .i64 a0_3), .sl .o 1 (l0_4.map (eI .i64))]) ?_
 obtain ⟨t1, A2, H⟩ := of_bind H
 refine kcS4 5 (.agg [.row 2, .row 3, .row 4, .lit (.int .i64 t1.2.2.2.1), .row 5]) [(2, .row 98 6 (t1.1.map e98)), (3, .row 3 1 (t1.2.1.map (eI .i64))), (4, .row 97 6 (t1.2.2.1.map e97)), (5, .row 3 1 (t1.2.2.2.2.map (eI .i64)))] g0 (cal (impl_copyKeeper.ok A2) [2, 3, 4, 5] 9999 .n (hf := Try.func53)) rfl rfl ?_
 refine kb g0 (alc 6 [.slice none 0 0, .slice none 0 0, .slice none 0 0, .int .i64 0, .slice none 0 0] [.lit (.slice none 0 0), .lit (.slice none 0 0), .lit (.slice none 0 0), .lit (.int .i64 0), .lit (.slice none 0 0)]) ?_
 refine ks g0 (stB 5 [.row 2, .row 3, .row 4, .lit (.int .i64 t1.2.2.2.1), .row 5]) ?_
 refine wk_end ?_
 refine ac_next ?_
 refine aw_grp1 ?_
 refine wk_start ?_
 refine kv g0 (faB 0 0) ?_
 refine kv g0 (ldB) ?_
 refine kv g0 (lnR lenE) ?_
 refine kv g0 (faB 3 3) ?_
 refine ks g0 (stB 1 [.row 2, .row 3, .row 4, .lit (.int .i64 (t1.1.length : Int)), .row 5]) ?_
 refine wk_end ?_
 refine ac_next ?_
 refine aw_grp1 ?_
 refine wk_start ?_
 refine kv g0 (faB 1 1) ?_
 refine kv g0 (ldB) ?_
 obtain ⟨t3, A4, H⟩ := of_bind H
 refine kcS1 12 (.row 7) [(7, .row 3 1 (t3.map (eI .i64)))] g0 (cal (impl_copyInts.ok A4) [7] 9999 .n (hf := Try.func59)) rfl rfl ?_
 refine kv g0 (faB 4 4) ?_
 refine ks g0 (stB 1 [.row 2, .row 3, .row 4, .lit (.int .i64 (t1.1.length : Int)), .row 7]) ?_
 refine wk_end ?_
 refine ac_next ?_
 refine aw_grp1 ?_
 refine wk_start ?_
 refine kv g0 (ldBA 5 [.row 2, .row 3, .row 4, .lit (.int .i64 (t1.1.length : Int)), .row 7]) ?_
 refine ks g0 (stB 5 [.row 2, .row 3, .row 4, .lit (.int .i64 (t1.1.length : Int)), .row 7]) ?_
 refine wk_end ?_
 refine ac_next ?_
 refine aw_ret ?_
 obtain rfl := Option.some.inj H
 exact acr hE [.cell 2 29] (rcA 5 .nil) (.one _) [(0, 2), (1, 3), (2, 4), (3, 7)] 9999
/-! impl_FallKeeper -/
def impl_FallKeeper.j0 : Nat → ((List S98) × (List Int) × (List S97) × Int × (List Int)) → (List S98) → Option ((List S98) × (List Int) × (List S97) × Int × (List Int))
 | 0, _, _ => none
 | k9 + 1, t1, q8 => (impl_copyInts.f t1.2.2.2.2).bind fun t10 => some (q8, t10, ([] : List S97), t1.2.2.2.1, t1.2.2.2.2)
def impl_FallKeeper.f (k : Nat) (l0_0 : List S98) (l0_1 : List Int) (l0_2 : List S97) (a0_3 : Int) (l0_4 : List Int) : Option ((List S98) × (List Int) × (List S97) × Int × (List Int)) := (impl_copyKeeper.f l0_0 l0_1 l0_2 a0_3 l0_4).bind fun t1 => (impl_within.f a0_3 0 (l0_0.length : Int)).bind fun t3 => if t3 = true then (if 0 ≤ a0_3 then (if a0_3 ≤ (t1.1.length : Int) then impl_FallKeeper.j0 k t1 (t1.1.take a0_3.toNat) else none) else none) else impl_FallKeeper.j0 k t1 t1.1
theorem impl_FallKeeper.ok {k : Nat} {l0_0 : List S98} {l0_1 : List Int} {l0_2 : List S97} {a0_3 : Int} {l0_4 : List Int} {r : (List S98) × (List Int) × (List S97) × Int × (List Int)} (H : impl_FallKeeper.f k l0_0 l0_1 l0_2 a0_3 l0_4 = some r) : ACalls Try.prog 16 [] [.agg [.sl .o 6 (l0_0.map e98), .sl .o 1 (l0_1.map (eI .i64)), .sl .o 6 (l0_2.map e97), .lit (.int .i64 a0_3), .sl .o 1 (l0_4.map (eI .i64))]] [(0, .row 98 6 (r.1.map e98)), (1, .row 3 1 (r.2.1.map (eI .i64))), (2, .row 97 6 (r.2.2.1.map e97)), (3, .row 3 1 (r.2.2.2.2.map (eI .i64)))] (.agg [.row 0, .row 1, .row 2, .lit (.int .i64 r.2.2.2.1), .row 3]) := by
 refine acalls (fn := Try.f16) (nt := 25) Try.func16 rfl rfl (Nat.le_of_ble_eq_true rfl) fun E hE => ?_
 rw [impl_FallKeeper.f] at H
 refine aw_grp1 ?_
 refine wk_start ?_
 refine kb g0 (bxA 0) ?_
 refine kb g0 (alc 1 [.slice none 0 0, .slice none 0 0, .slice none 0 0, .int .i64 0, .slice none 0 0] [.lit (.slice none 0 0), .lit (.slice none 0 0), .lit (.slice none 0 0), .lit (.int .i64 0), .lit (.slice none 0 0)]) ?_
 refine wk_end ?_
 refine ac_next ?_
 refine aw_grp1 ?_
 refine wk_start ?_
 refine kv g0 (ldBA 5 [.sl .o 6 (l0_0.map e98), .sl .o 1 (l0_1.map (eI .i64)), .sl .o 6 (l0_2.map e97), .lit (.int .i64 a0_3), .sl .o 1 (l0_4.map (eI .i64))]) ?_
 obtain ⟨t1, A2, H⟩ := of_bind H
 refine kcS4 5 (.agg [.row 2, .row 3, .row 4, .lit (.int .i64 t1.2.2.2.1), .row 5]) [(2, .row 98 6 (t1.1.map e98)), (3, .row 3 1 (t1.2.1.map (eI .i64))), (4, .row 97 6 (t1.2.2.1.map e97)), (5, .row 3 1 (t1.2.2.2.2.map (eI .i64)))] g0 (cal (impl_copyKeeper.ok A2) [2, 3, 4, 5] 9999 .n (hf := Try.func53)) rfl rfl ?_
 refine kb g0 (alc 6 [.slice none 0 0, .slice none 0 0, .slice none 0 0, .int .i64 0, .slice none 0 0] [.lit (.slice none 0 0), .lit (.slice none 0 0), .lit (.slice none 0 0), .lit (.int .i64 0), .lit (.slice none 0 0)]) ?_
 refine ks g0 (stB 5 [.row 2, .row 3, .row 4, .lit (.int .i64 t1.2.2.2.1), .row 5]) ?_
 refine wk_end ?_
 refine ac_next ?_
 refine aw_cut1 (J := fun K_ => ∀ (k_ : Nat) (q8 : List S98), k_ ≤ k → impl_FallKeeper.j0 k_ t1 q8 = some r → ACont E 25 ⟨[(2, .box 1 0), (3, .box 6 0)], [(1, .box 29 [.lit (.slice none 0 0), .lit (.slice none 0 0), .lit (.slice none 0 0), .lit (.int .i64 0), .lit (.slice none 0 0)]), (3, .row 3 1 (t1.2.1.map (eI .i64))), (4, .row 97 6 (t1.2.2.1.map e97)), (5, .row 3 1 (t1.2.2.2.2.map (eI .i64))), (6, .box 29 [.row 7, .row 3, .row 4, .lit (.int .i64 t1.2.2.2.1), .row 5]), (7, .row 98 6 (q8.map e98))]⟩ K_) ?_ ?_
 ·intro K_ hJ12
  refine aw_grp1 ?_
  refine wk_start ?_
  refine kv g0 (faB 3 3) ?_
  refine kv g0 (ldB) ?_
  refine kv g0 (faB 0 0) ?_
  refine kv g0 (ldB) ?_
  refine kv g0 (lnS lenE) ?_
  obtain ⟨t3, A4, H⟩ := of_bind H
  refine kcS0 11 (.lit (.bool t3)) [] g0 (cal (impl_within.ok A4) [] 9999 .n (hf := Try.func55)) rfl rfl ?_
  refine wk_end ?_
  refine ac_next ?_
  by_cases c5 : t3 = true
  ·rw [if_pos c5] at H
   refine aw_ifT ?_ c5
   refine wk_start ?_
   refine kv g0 (faB 0 0) ?_
   refine kv g0 (ldB) ?_
   refine kv g0 (faB 3 3) ?_
   refine kv g0 (ldB) ?_
   obtain ⟨c6, H⟩ := of_if H
   obtain ⟨c7, H⟩ := of_if H
   refine kv g0 (srH 98 c6 c7) ?_
   refine kv g0 (faB 0 0) ?_
   refine ks g0 (stB 1 [.sub 2 6 0 a0_3.toNat, .row 3, .row 4, .lit (.int .i64 t1.2.2.2.1), .row 5]) ?_
   refine wk_end ?_
   refine ac_preB 6 0 7 ((t1.1.take a0_3.toNat).map e98) [.row 7, .row 3, .row 4, .lit (.int .i64 t1.2.2.2.1), .row 5] ?_ (List.map_take ..).symm
   refine ac_k ?_
   exact acw hE [(1, 1), (3, 3), (4, 4), (5, 5), (6, 6), (7, 7)] 9999 (hJ12 k (t1.1.take a0_3.toNat) (Nat.le_refl _) H)
  rw [if_neg c5] at H
  refine aw_ifF ?_ (bF c5)
  refine aw_skip ?_
  refine ac_k ?_
  exact acw hE [(1, 1), (3, 3), (4, 4), (5, 5), (6, 6), (7, 2)] 9999 (hJ12 k t1.1 (Nat.le_refl _) H)
 intro k_ q8 hk_ H
 rcases k_ with _ | k9
 ·rw [impl_FallKeeper.j0.eq_1] at H; cases H
 have hk9 : k9 ≤ k := by omega
 clear hk_
 rw [impl_FallKeeper.j0.eq_2] at H
 refine aw_grp1 ?_
 refine wk_start ?_
 refine kv g0 (faB 4 4) ?_
 refine kv g0 (ldB) ?_
 obtain ⟨t10, A11, H⟩ := of_bind H
 refine kcS1 20 (.row 8) [(8, .row 3 1 (t10.map (eI .i64)))] g0 (cal (impl_copyInts.ok A11) [8] 9999 .n (hf := Try.func59)) rfl rfl ?_
 refine kv g0 (faB 1 1) ?_
 refine ks g0 (stB 1 [.row 7, .row 8, .row 4, .lit (.int .i64 t1.2.2.2.1), .row 5]) ?_
 refine wk_end ?_
 refine ac_next ?_
 refine aw_grp1 ?_
 refine wk_start ?_
 refine kb g0 (bsl 9 97 6 [.int .i64 0, .int .i64 0, .int .i64 0, .int .i64 0, .int .i64 0, .int .i64 0] (([] : List S97).map e97)) ?_
 refine kv g0 (faB 2 2) ?_
 refine ks g0 (stB 1 [.row 7, .row 8, .row 9, .lit (.int .i64 t1.2.2.2.1), .row 5]) ?_
 refine wk_end ?_
 refine ac_next ?_
 refine aw_grp1 ?_
 refine wk_start ?_
 refine kv g0 (ldBA 5 [.row 7, .row 8, .row 9, .lit (.int .i64 t1.2.2.2.1), .row 5]) ?_
 refine ks g0 (stB 5 [.row 7, .row 8, .row 9, .lit (.int .i64 t1.2.2.2.1), .row 5]) ?_
 refine wk_end ?_
 refine ac_next ?_
 refine aw_ret ?_
 obtain rfl := Option.some.inj H
 exact acr hE [.cell 2 29] (rcA 5 .nil) (.one _) [(0, 7), (1, 8), (2, 9), (3, 5)] 9999
/-! impl_EntriesOf -/
def impl_EntriesOf.l0 : Nat → (List S98) → Int → (List S34) → Int → Option ((List S34))
 | 0, _, _, _, _ => none
 | k7 + 1, l0_0, a1, q5, p6 => if p6 < (l0_0.length : Int) then if 0 ≤ p6 then if ((rd_T98 l0_0 p6).f0) = a1 then (if q5.length + ([(⟨(rd_T98 l0_0 p6).f2.f0, (rd_T98 l0_0 p6).f2.f1, (rd_T98 l0_0 p6).f2.f2, (rd_T98 l0_0 p6).f2.f3⟩ : S34)] : List S34).length < 4398046511104 then impl_EntriesOf.l0 k7 l0_0 a1 (q5 ++ ([(⟨(rd_T98 l0_0 p6).f2.f0, (rd_T98 l0_0 p6).f2.f1, (rd_T98 l0_0 p6).f2.f2, (rd_T98 l0_0 p6).f2.f3⟩ : S34)] : List S34)) (wrap64 (p6 + 1)) else none) else impl_EntriesOf.l0 k7 l0_0 a1 q5 (wrap64 (p6 + 1)) else none else some q5
def impl_EntriesOf.f (k : Nat) (l0_0 : List S98) (l0_1 : List Int) (l0_2 : List S97) (a0_3 : Int) (l0_4 : List Int) (a1 : Int) : Option ((List S34)) := impl_EntriesOf.l0 k l0_0 a1 ([] : List S34) 0
theorem impl_EntriesOf.ok {k : Nat} {l0_0 : List S98} {l0_1 : List Int} {l0_2 : List S97} {a0_3 : Int} {l0_4 : List Int} {a1 : Int} {r : (List S34)} (H : impl_EntriesOf.f k l0_0 l0_1 l0_2 a0_3 l0_4 a1 = some r) : ACalls Try.prog 13 [] [.agg [.sl .o 6 (l0_0.map e98), .sl .o 1 (l0_1.map (eI .i64)), .sl .o 6 (l0_2.map e97), .lit (.int .i64 a0_3), .sl .o 1 (l0_4.map (eI .i64))], .lit (.int .i64 a1)] [(0, .row 34 4 (r.map e34))] (.row 0) := by
 refine acalls (fn := Try.f13) (nt := 27) Try.func13 rfl rfl (Nat.le_of_ble_eq_true rfl) fun E hE => ?_
 rw [impl_EntriesOf.f] at H
 refine aw_grp1 ?_
 refine wk_start ?_
 refine kb g0 (bxA 0) ?_
 refine kv g0 (asg) ?_
 refine wk_end ?_
 refine ac_next ?_
 refine aw_grp1 ?_
 refine wk_start ?_
 refine kb g0 (bsl 1 34 4 [.int .i64 0, .int .i64 0, .int .i64 0, .int .i64 0] (([] : List S34).map e34)) ?_
 refine kv g0 (asg) ?_
 refine wk_end ?_
 refine ac_next ?_
 refine aw_grp1 ?_
 refine aw_grp1 ?_
 refine wk_start ?_
 refine kv g0 (faB 0 0) ?_
 refine kv g0 (ldB) ?_
 refine kv g0 (lnS lenE) ?_
 refine kv g0 (mv) ?_
 refine wk_end ?_
 refine ac_next ?_
 refine aw_block ?_
 refine aw_loop2 (fun (k_ : Nat) (q5 : List S34) (p6 : Int) => k_ ≤ k ∧ impl_EntriesOf.l0 k_ l0_0 a1 q5 p6 = some r) (fun (q5 : List S34) (p6 : Int) => ⟨[(1, .lit (.int .i64 a1)), (5, .row 1), (10, .sl .o 6 (l0_0.map e98)), (11, .lit (.int .i64 (l0_0.length : Int))), (12, .lit (.int .i64 p6))], [(1, .row 34 4 (q5.map e34))]⟩) k ([] : List S34) 0 ⟨Nat.le_refl _, H⟩ (fun K_ h_ => acw hE [(1, 1)] 9999 h_) (fun _ _ => by intro h_; have h_ := h_.2; rw [impl_EntriesOf.l0.eq_1] at h_; cases h_) ?_
 intro k7 q5 p6 hq_ K12 hK13
 have hk7 := hq_.1
 have H := hq_.2
 clear hq_
 rw [impl_EntriesOf.l0.eq_2] at H
 refine aw_grp1 ?_
 refine wk_start ?_
 refine kv g0 (lss) ?_
 refine wk_end ?_
 refine ac_next ?_
 refine aw_grp1 ?_
 by_cases c8 : p6 < (l0_0.length : Int)
 ·rw [if_pos c8] at H
  refine aw_ifT ?_ (decide_eq_true c8)
  refine aw_skip ?_
  refine ac_next ?_
  refine aw_grp1 ?_
  refine aw_block ?_
  refine aw_grp1 ?_
  refine wk_start ?_
  obtain ⟨c9, H⟩ := of_if H
  refine kv g0 (ixS 98 (e98 (rd_T98 l0_0 p6)) c9 (getE (z := z98) c9 c8)) ?_
  refine kv g0 (ldRA 6 [.lit (.int .i64 ((rd_T98 l0_0 p6).f0)), .lit (.int .i64 ((rd_T98 l0_0 p6).f1)), .lit (.int .i64 ((rd_T98 l0_0 p6).f2.f0)), .lit (.int .i64 ((rd_T98 l0_0 p6).f2.f1)), .lit (.int .i64 ((rd_T98 l0_0 p6).f2.f2)), .lit (.int .i64 ((rd_T98 l0_0 p6).f2.f3))]) ?_
  refine kb g0 (alc 2 [.int .i64 0, .int .i64 0, .int .i64 0, .int .i64 0, .int .i64 0, .int .i64 0] [.lit (.int .i64 0), .lit (.int .i64 0), .lit (.int .i64 0), .lit (.int .i64 0), .lit (.int .i64 0), .lit (.int .i64 0)]) ?_
  refine ks g0 (stB 6 [.lit (.int .i64 ((rd_T98 l0_0 p6).f0)), .lit (.int .i64 ((rd_T98 l0_0 p6).f1)), .lit (.int .i64 ((rd_T98 l0_0 p6).f2.f0)), .lit (.int .i64 ((rd_T98 l0_0 p6).f2.f1)), .lit (.int .i64 ((rd_T98 l0_0 p6).f2.f2)), .lit (.int .i64 ((rd_T98 l0_0 p6).f2.f3))]) ?_
  refine wk_end ?_
  refine ac_next ?_
  refine aw_grp1 ?_
  refine wk_start ?_
  refine kv g0 (faB 0 0) ?_
  refine kv g0 (ldB) ?_
  refine kv g0 (mv) ?_
  refine kv g0 (eql) ?_
  refine wk_end ?_
  refine ac_next ?_
  by_cases c10 : ((rd_T98 l0_0 p6).f0) = a1
  ·rw [if_pos c10] at H
   refine aw_ifT ?_ (eT c10)
   refine wk_start ?_
   refine kv g0 (mv) ?_
   refine kv g0 (faB 2 2) ?_
   refine kv g0 (ldBA 4 [.lit (.int .i64 ((rd_T98 l0_0 p6).f2.f0)), .lit (.int .i64 ((rd_T98 l0_0 p6).f2.f1)), .lit (.int .i64 ((rd_T98 l0_0 p6).f2.f2)), .lit (.int .i64 ((rd_T98 l0_0 p6).f2.f3))]) ?_
   refine kb g0 (bsl 3 34 4 [.int .i64 0, .int .i64 0, .int .i64 0, .int .i64 0] (([(⟨(rd_T98 l0_0 p6).f2.f0, (rd_T98 l0_0 p6).f2.f1, (rd_T98 l0_0 p6).f2.f2, (rd_T98 l0_0 p6).f2.f3⟩ : S34)] : List S34).map e34)) ?_
   obtain ⟨c11, H⟩ := of_if H
   refine kc g0 (apR 4 34 4 32 [.int .i64 0, .int .i64 0, .int .i64 0, .int .i64 0] ((q5 ++ ([(⟨(rd_T98 l0_0 p6).f2.f0, (rd_T98 l0_0 p6).f2.f1, (rd_T98 l0_0 p6).f2.f2, (rd_T98 l0_0 p6).f2.f3⟩ : S34)] : List S34)).map e34) (.row rfl) (apb c11 rfl) appE) ?_
   refine kv g0 (asg) ?_
   refine wk_end ?_
   refine ac_blkN ?_
   refine ac_next ?_
   refine wk_start ?_
   refine kv g0 (add6) ?_
   refine kv g0 (mv) ?_
   refine wk_end ?_
   refine ac_k ?_
   exact acw hE [(1, 4)] 9999 (hK13 k7 (q5 ++ ([(⟨(rd_T98 l0_0 p6).f2.f0, (rd_T98 l0_0 p6).f2.f1, (rd_T98 l0_0 p6).f2.f2, (rd_T98 l0_0 p6).f2.f3⟩ : S34)] : List S34)) (wrap64 (p6 + 1)) (Nat.le_refl _) ⟨by omega, H⟩)
  rw [if_neg c10] at H
  refine aw_ifF ?_ (eF c10)
  refine aw_skip ?_
  refine ac_blkN ?_
  refine ac_next ?_
  refine wk_start ?_
  refine kv g0 (add6) ?_
  refine kv g0 (mv) ?_
  refine wk_end ?_
  refine ac_k ?_
  exact acw hE [(1, 1)] 9999 (hK13 k7 q5 (wrap64 (p6 + 1)) (Nat.le_refl _) ⟨by omega, H⟩)
 rw [if_neg c8] at H
 refine aw_ifF ?_ (decide_eq_false c8)
 refine aw_exit ?_
 refine ac_then ?_
 refine ac_then ?_
 refine ac_hit rfl ?_
 refine ac_next ?_
 refine aw_grp1 ?_
 refine wk_start ?_
 refine kv g0 (mv) ?_
 refine kv g0 (asg) ?_
 refine wk_end ?_
 refine ac_next ?_
 refine aw_ret ?_
 obtain rfl := Option.some.inj H
 exact acr hE [.tmp 4] (.tmp .nil) (.one _) [(0, 1)] 9999
/-! spec_EntriesOf -/
def spec_EntriesOf.l0 : Nat → (List S98) → (List Int) → (List S97) → Int → (List Int) → Int → (List S34) → Int → Option ((List S34))
 | 0, _, _, _, _, _, _, _, _ => none
 | k7 + 1, l0_0, l0_1, l0_2, a0_3, l0_4, a1, q5, p6 => if p6 < (l0_0.length : Int) then if 0 ≤ p6 then if ((rd_T98 l0_0 p6).f0) = a1 then (if q5.length + ([(⟨(rd_T98 l0_0 p6).f2.f0, (rd_T98 l0_0 p6).f2.f1, (rd_T98 l0_0 p6).f2.f2, (rd_T98 l0_0 p6).f2.f3⟩ : S34)] : List S34).length < 4398046511104 then spec_EntriesOf.l0 k7 l0_0 l0_1 l0_2 a0_3 l0_4 a1 (q5 ++ ([(⟨(rd_T98 l0_0 p6).f2.f0, (rd_T98 l0_0 p6).f2.f1, (rd_T98 l0_0 p6).f2.f2, (rd_T98 l0_0 p6).f2.f3⟩ : S34)] : List S34)) (wrap64 (p6 + 1)) else none) else spec_EntriesOf.l0 k7 l0_0 l0_1 l0_2 a0_3 l0_4 a1 q5 (wrap64 (p6 + 1)) else none else some q5
def spec_EntriesOf.f (k : Nat) (l0_0 : List S98) (l0_1 : List Int) (l0_2 : List S97) (a0_3 : Int) (l0_4 : List Int) (a1 : Int) : Option ((List S34)) := spec_EntriesOf.l0 k l0_0 l0_1 l0_2 a0_3 l0_4 a1 ([] : List S34) 0
theorem spec_EntriesOf.ok {k : Nat} {l0_0 : List S98} {l0_1 : List Int} {l0_2 : List S97} {a0_3 : Int} {l0_4 : List Int} {a1 : Int} {r : (List S34)} (H : spec_EntriesOf.f k l0_0 l0_1 l0_2 a0_3 l0_4 a1 = some r) : ACalls Try.prog 19 [] [.agg [.sl .o 6 (l0_0.map e98), .sl .o 1 (l0_1.map (eI .i64)), .sl .o 6 (l0_2.map e97), .lit (.int .i64 a0_3), .sl .o 1 (l0_4.map (eI .i64))], .lit (.int .i64 a1)] [(0, .row 34 4 (r.map e34))] (.row 0) := by
 refine acalls (fn := Try.f19) (nt := 33) Try.func19 rfl rfl (Nat.le_of_ble_eq_true rfl) fun E hE => ?_
 rw [spec_EntriesOf.f] at H
 refine aw_grp1 ?_
 refine wk_start ?_
 refine kb g0 (bxA 0) ?_
 refine kv g0 (asg) ?_
 refine wk_end ?_
 refine ac_next ?_
 refine aw_grp1 ?_
 refine wk_start ?_
 refine kb g0 (bsl 1 34 4 [.int .i64 0, .int .i64 0, .int .i64 0, .int .i64 0] (([] : List S34).map e34)) ?_
 refine kv g0 (asg) ?_
 refine wk_end ?_
 refine ac_next ?_
 refine aw_grp1 ?_
 refine aw_grp1 ?_
 refine wk_start ?_
 refine kv g0 (asg) ?_
 refine wk_end ?_
 refine ac_next ?_
 refine aw_block ?_
 refine aw_loop2 (fun (k_ : Nat) (q5 : List S34) (p6 : Int) => k_ ≤ k ∧ spec_EntriesOf.l0 k_ l0_0 l0_1 l0_2 a0_3 l0_4 a1 q5 p6 = some r) (fun (q5 : List S34) (p6 : Int) => ⟨[(1, .lit (.int .i64 a1)), (2, .box 0 0), (5, .row 1), (6, .lit (.int .i64 p6))], [(0, .box 29 [.sl .o 6 (l0_0.map e98), .sl .o 1 (l0_1.map (eI .i64)), .sl .o 6 (l0_2.map e97), .lit (.int .i64 a0_3), .sl .o 1 (l0_4.map (eI .i64))]), (1, .row 34 4 (q5.map e34))]⟩) k ([] : List S34) 0 ⟨Nat.le_refl _, H⟩ (fun K_ h_ => acw hE [(0, 0), (1, 1)] 9999 h_) (fun _ _ => by intro h_; have h_ := h_.2; rw [spec_EntriesOf.l0.eq_1] at h_; cases h_) ?_
 intro k7 q5 p6 hq_ K12 hK13
 have hk7 := hq_.1
 have H := hq_.2
 clear hq_
 rw [spec_EntriesOf.l0.eq_2] at H
 refine aw_grp1 ?_
 refine aw_grp1 ?_
 refine wk_start ?_
 refine kv g0 (mv) ?_
 refine kv g0 (faB 0 0) ?_
 refine kv g0 (ldB) ?_
 refine kv g0 (lnS lenE) ?_
 refine kv g0 (lss) ?_
 refine wk_end ?_
 refine ac_next ?_
 by_cases c8 : p6 < (l0_0.length : Int)
 ·rw [if_pos c8] at H
  refine aw_ifT ?_ (decide_eq_true c8)
  refine aw_skip ?_
  refine ac_next ?_
  refine aw_grp1 ?_
  refine aw_block ?_
  refine aw_grp1 ?_
  refine wk_start ?_
  refine kv g0 (faB 0 0) ?_
  refine kv g0 (ldB) ?_
  refine kv g0 (mv) ?_
  obtain ⟨c9, H⟩ := of_if H
  refine kv g0 (ixS 98 (e98 (rd_T98 l0_0 p6)) c9 (getE (z := z98) c9 c8)) ?_
  refine kv g0 (faR 0 0) ?_
  refine kv g0 (ldR (.lit (.int .i64 ((rd_T98 l0_0 p6).f0)))) ?_
  refine kv g0 (mv) ?_
  refine kv g0 (eql) ?_
  refine wk_end ?_
  refine ac_next ?_
  by_cases c10 : ((rd_T98 l0_0 p6).f0) = a1
  ·rw [if_pos c10] at H
   refine aw_ifT ?_ (eT c10)
   refine wk_start ?_
   refine kv g0 (mv) ?_
   refine kv g0 (faB 0 0) ?_
   refine kv g0 (ldB) ?_
   refine kv g0 (mv) ?_
   refine kv g0 (ixS 98 (e98 (rd_T98 l0_0 p6)) c9 (getE (z := z98) c9 c8)) ?_
   refine kv g0 (faR 2 2) ?_
   refine kv g0 (ldRA 4 [.lit (.int .i64 ((rd_T98 l0_0 p6).f2.f0)), .lit (.int .i64 ((rd_T98 l0_0 p6).f2.f1)), .lit (.int .i64 ((rd_T98 l0_0 p6).f2.f2)), .lit (.int .i64 ((rd_T98 l0_0 p6).f2.f3))]) ?_
   refine kb g0 (bsl 2 34 4 [.int .i64 0, .int .i64 0, .int .i64 0, .int .i64 0] (([(⟨(rd_T98 l0_0 p6).f2.f0, (rd_T98 l0_0 p6).f2.f1, (rd_T98 l0_0 p6).f2.f2, (rd_T98 l0_0 p6).f2.f3⟩ : S34)] : List S34).map e34)) ?_
   obtain ⟨c11, H⟩ := of_if H
   refine kc g0 (apR 3 34 4 32 [.int .i64 0, .int .i64 0, .int .i64 0, .int .i64 0] ((q5 ++ ([(⟨(rd_T98 l0_0 p6).f2.f0, (rd_T98 l0_0 p6).f2.f1, (rd_T98 l0_0 p6).f2.f2, (rd_T98 l0_0 p6).f2.f3⟩ : S34)] : List S34)).map e34) (.row rfl) (apb c11 rfl) appE) ?_
   refine kv g0 (asg) ?_
   refine wk_end ?_
   refine ac_blkN ?_
   refine ac_next ?_
   refine wk_start ?_
   refine kv g0 (mv) ?_
   refine kv g0 (add6) ?_
   refine kv g0 (asg) ?_
   refine wk_end ?_
   refine ac_k ?_
   exact acw hE [(0, 0), (1, 3)] 9999 (hK13 k7 (q5 ++ ([(⟨(rd_T98 l0_0 p6).f2.f0, (rd_T98 l0_0 p6).f2.f1, (rd_T98 l0_0 p6).f2.f2, (rd_T98 l0_0 p6).f2.f3⟩ : S34)] : List S34)) (wrap64 (p6 + 1)) (Nat.le_refl _) ⟨by omega, H⟩)
  rw [if_neg c10] at H
  refine aw_ifF ?_ (eF c10)
  refine aw_skip ?_
  refine ac_blkN ?_
  refine ac_next ?_
  refine wk_start ?_
  refine kv g0 (mv) ?_
  refine kv g0 (add6) ?_
  refine kv g0 (asg) ?_
  refine wk_end ?_
  refine ac_k ?_
  exact acw hE [(0, 0), (1, 1)] 9999 (hK13 k7 q5 (wrap64 (p6 + 1)) (Nat.le_refl _) ⟨by omega, H⟩)
 rw [if_neg c8] at H
 refine aw_ifF ?_ (decide_eq_false c8)
 refine aw_exit ?_
 refine ac_then ?_
 refine ac_then ?_
 refine ac_hit rfl ?_
 refine ac_next ?_
 refine aw_grp1 ?_
 refine wk_start ?_
 refine kv g0 (mv) ?_
 refine kv g0 (asg) ?_
 refine wk_end ?_
 refine ac_next ?_
 refine aw_ret ?_
 obtain rfl := Option.some.inj H
 exact acr hE [.tmp 4] (.tmp .nil) (.one _) [(0, 1)] 9999
/-! laws_sameItems -/
def laws_sameItems.l0 : Nat → (List S34) → (List S34) → Int → Option (Bool)
 | 0, _, _, _ => none
 | k7 + 1, l0, l1, p6 => if p6 < (l0.length : Int) then if 0 ≤ p6 then (if p6 < (l1.length : Int) then if (((rd_T34 l0 p6).f0) == ((rd_T34 l1 p6).f0) && (((rd_T34 l0 p6).f1) == ((rd_T34 l1 p6).f1) && (((rd_T34 l0 p6).f2) == ((rd_T34 l1 p6).f2) && (((rd_T34 l0 p6).f3) == ((rd_T34 l1 p6).f3))))) = true then laws_sameItems.l0 k7 l0 l1 (wrap64 (p6 + 1)) else some false else none) else none else some true
def laws_sameItems.f (k : Nat) (l0 : List S34) (l1 : List S34) : Option (Bool) := if (l0.length : Int) = (l1.length : Int) then laws_sameItems.l0 k l0 l1 0 else some false
theorem laws_sameItems.ok {k : Nat} {l0 : List S34} {l1 : List S34} {r : Bool} (H : laws_sameItems.f k l0 l1 = some r) : ACalls Try.prog 29 [] [.sl .o 4 (l0.map e34), .sl .o 4 (l1.map e34)] [] (.lit (.bool r)) := by
 refine acalls (fn := Try.f29) (nt := 26) Try.func29 rfl rfl (Nat.le_of_ble_eq_true rfl) fun E hE => ?_
 rw [laws_sameItems.f] at H
 refine aw_grp1 ?_
 refine wk_start ?_
 refine kv g0 (asg) ?_
 refine wk_end ?_
 refine ac_next ?_
 refine aw_grp1 ?_
 refine aw_grp1 ?_
 refine wk_start ?_
 refine kv g0 (mv) ?_
 refine kv g0 (lnS lenE) ?_
 refine kv g0 (mv) ?_
 refine kv g0 (lnS lenE) ?_
 refine kv g0 (neq) ?_
 refine wk_end ?_
 refine ac_next ?_
 by_cases c1 : (l0.length : Int) = (l1.length : Int)
 ·rw [if_pos c1] at H
  refine aw_ifF ?_ (eM c1)
  refine aw_skip ?_
  refine ac_next ?_
  refine aw_grp1 ?_
  refine aw_grp1 ?_
  refine wk_start ?_
  refine kv g0 (asg) ?_
  refine wk_end ?_
  refine ac_next ?_
  refine aw_block ?_
  refine aw_loop1 (fun (k_ : Nat) (p6 : Int) => k_ ≤ k ∧ laws_sameItems.l0 k_ l0 l1 p6 = some r) (fun (p6 : Int) => ⟨[(0, .sl .o 4 (l0.map e34)), (1, .sl .o 4 (l1.map e34)), (5, .lit (.int .i64 p6))], []⟩) k 0 ⟨Nat.le_refl _, H⟩ (fun K_ h_ => acw hE [] 9999 h_) (fun _ => by intro h_; have h_ := h_.2; rw [laws_sameItems.l0.eq_1] at h_; cases h_) ?_
  intro k7 p6 hq_ K12 hK13
  have hk7 := hq_.1
  have H := hq_.2
  clear hq_
  rw [laws_sameItems.l0.eq_2] at H
  refine aw_grp1 ?_
  refine aw_grp1 ?_
  refine wk_start ?_
  refine kv g0 (mv) ?_
  refine kv g0 (mv) ?_
  refine kv g0 (lnS lenE) ?_
  refine kv g0 (lss) ?_
  refine wk_end ?_
  refine ac_next ?_
  by_cases c8 : p6 < (l0.length : Int)
  ·rw [if_pos c8] at H
   refine aw_ifT ?_ (decide_eq_true c8)
   refine aw_skip ?_
   refine ac_next ?_
   refine aw_grp1 ?_
   refine aw_block ?_
   refine aw_grp1 ?_
   refine wk_start ?_
   refine kv g0 (mv) ?_
   refine kv g0 (mv) ?_
   obtain ⟨c9, H⟩ := of_if H
   refine kv g0 (ixS 34 (e34 (rd_T34 l0 p6)) c9 (getE (z := z34) c9 c8)) ?_
   refine kv g0 (ldRA 4 [.lit (.int .i64 ((rd_T34 l0 p6).f0)), .lit (.int .i64 ((rd_T34 l0 p6).f1)), .lit (.int .i64 ((rd_T34 l0 p6).f2)), .lit (.int .i64 ((rd_T34 l0 p6).f3))]) ?_
   refine kv g0 (mv) ?_
   refine kv g0 (mv) ?_
   obtain ⟨c10, H⟩ := of_if H
   refine kv g0 (ixS 34 (e34 (rd_T34 l1 p6)) c9 (getE (z := z34) c9 c10)) ?_
   refine kv g0 (ldRA 4 [.lit (.int .i64 ((rd_T34 l1 p6).f0)), .lit (.int .i64 ((rd_T34 l1 p6).f1)), .lit (.int .i64 ((rd_T34 l1 p6).f2)), .lit (.int .i64 ((rd_T34 l1 p6).f3))]) ?_
   refine kv g0 (neS (fun w => eq34 _ w ((rd_T34 l0 p6).f0) ((rd_T34 l0 p6).f1) ((rd_T34 l0 p6).f2) ((rd_T34 l0 p6).f3) ((rd_T34 l1 p6).f0) ((rd_T34 l1 p6).f1) ((rd_T34 l1 p6).f2) ((rd_T34 l1 p6).f3))) ?_
   refine wk_end_draw hM (by kernel_rfl) ?_
   refine ac_next ?_
   by_cases c11 : (((rd_T34 l0 p6).f0) == ((rd_T34 l1 p6).f0) && (((rd_T34 l0 p6).f1) == ((rd_T34 l1 p6).f1) && (((rd_T34 l0 p6).f2) == ((rd_T34 l1 p6).f2) && (((rd_T34 l0 p6).f3) == ((rd_T34 l1 p6).f3))))) = true
   ·rw [if_pos c11] at H
    refine aw_ifF ?_ (nF c11)
    refine aw_skip ?_
    refine ac_blkN ?_
    refine ac_next ?_
    refine wk_start ?_
    refine kv g0 (mv) ?_
    refine kv g0 (add6) ?_
    refine kv g0 (asg) ?_
    refine wk_end ?_
    refine ac_k ?_
    exact acw hE [] 9999 (hK13 k7 (wrap64 (p6 + 1)) (Nat.le_refl _) ⟨by omega, H⟩)
   rw [if_neg c11] at H
   refine aw_ifT ?_ (nT (bF c11))
   refine aw_grp1 ?_
   refine wk_start ?_
   refine kv g0 (asg) ?_
   refine wk_end ?_
   refine ac_next ?_
   refine aw_ret ?_
   refine ac_blkR ?_
   refine ac_thenR ?_
   refine ac_thenR ?_
   refine ac_blkR ?_
   refine ac_thenR ?_
   obtain rfl := Option.some.inj H
   exact acr hE [.tmp 4] (.tmp .nil) (.one _) [] 9999
  rw [if_neg c8] at H
  refine aw_ifF ?_ (decide_eq_false c8)
  refine aw_exit ?_
  refine ac_then ?_
  refine ac_then ?_
  refine ac_hit rfl ?_
  refine ac_next ?_
  refine aw_grp1 ?_
  refine wk_start ?_
  refine kv g0 (asg) ?_
  refine wk_end ?_
  refine ac_next ?_
  refine aw_ret ?_
  obtain rfl := Option.some.inj H
  exact acr hE [.tmp 4] (.tmp .nil) (.one _) [] 9999
 rw [if_neg c1] at H
 refine aw_ifT ?_ (eN c1)
 refine aw_grp1 ?_
 refine wk_start ?_
 refine kv g0 (asg) ?_
 refine wk_end ?_
 refine ac_next ?_
 refine aw_ret ?_
 refine ac_thenR ?_
 obtain rfl := Option.some.inj H
 exact acr hE [.tmp 4] (.tmp .nil) (.one _) [] 9999
/-! impl_KeeperNew -/
def impl_KeeperNew.f  : Option ((List Int) × Int × (List Int)) := some (([1, 1, 1] : List Int), 0, ([1, 1, 1] : List Int))
theorem impl_KeeperNew.ok {r : (List Int) × Int × (List Int)} (H : impl_KeeperNew.f = some r) : ACalls Try.prog 10 [] [] [(0, .row 3 1 (r.1.map (eI .i64))), (1, .row 3 1 (r.2.2.map (eI .i64)))] (.agg [.lit (.slice none 0 0), .row 0, .lit (.slice none 0 0), .lit (.int .i64 r.2.1), .row 1]) := by
 refine acalls (fn := Try.f10) (nt := 4) Try.func10 rfl rfl (Nat.le_of_ble_eq_true rfl) fun E hE => ?_
 rw [impl_KeeperNew.f] at H
 refine aw_grp1 ?_
 refine wk_start ?_
 refine kb g0 (alc 0 [.slice none 0 0, .slice none 0 0, .slice none 0 0, .int .i64 0, .slice none 0 0] [.lit (.slice none 0 0), .lit (.slice none 0 0), .lit (.slice none 0 0), .lit (.int .i64 0), .lit (.slice none 0 0)]) ?_
 refine wk_end ?_
 refine ac_next ?_
 refine aw_grp1 ?_
 refine wk_start ?_
 refine kb g0 (bsl 1 3 1 [.int .i64 0] (([1, 1, 1] : List Int).map (eI .i64))) ?_
 refine kb g0 (bsl 2 3 1 [.int .i64 0] (([1, 1, 1] : List Int).map (eI .i64))) ?_
 refine kv g0 (bld [(0, 1), (1, 1), (2, 1), (3, 1), (4, 1)] [.slice none 0 0, .slice none 0 0, .slice none 0 0, .int .i64 0, .slice none 0 0] [.lit (.slice none 0 0), .row 1, .lit (.slice none 0 0), .lit (.int .i64 0), .row 2]) ?_
 refine ks g0 (stB 5 [.lit (.slice none 0 0), .row 1, .lit (.slice none 0 0), .lit (.int .i64 0), .row 2]) ?_
 refine wk_end ?_
 refine ac_next ?_
 refine aw_ret ?_
 obtain rfl := Option.some.inj H
 exact acr hE [.cell 0 29] (rcA 5 .nil) (.one _) [(0, 1), (1, 2)] 9999
/-! laws_FnKeepsTold -/
def laws_FnKeepsTold.f (k : Nat) (l0 : List Int) : Option (Bool) := (laws_big.f l0).bind fun t1 => if t1 = true then some true else (spec_DrawKept.f k l0).bind fun t4 => (impl_Kept.f k t4.1 t4.2.1 t4.2.2.1 t4.2.2.2.1 t4.2.2.2.2.1 t4.2.2.2.2.2.1 t4.2.2.2.2.2.2.1 t4.2.2.2.2.2.2.2.1 t4.2.2.2.2.2.2.2.2.1 t4.2.2.2.2.2.2.2.2.2.1 t4.2.2.2.2.2.2.2.2.2.2.1 t4.2.2.2.2.2.2.2.2.2.2.2).bind fun t6 => (spec_Kept.f k t4.1 t4.2.1 t4.2.2.1 t4.2.2.2.1 t4.2.2.2.2.1 t4.2.2.2.2.2.1 t4.2.2.2.2.2.2.1 t4.2.2.2.2.2.2.2.1 t4.2.2.2.2.2.2.2.2.1 t4.2.2.2.2.2.2.2.2.2.1 t4.2.2.2.2.2.2.2.2.2.2.1 t4.2.2.2.2.2.2.2.2.2.2.2).bind fun t8 => (spec_DrawKeeperOk.f k l0).bind fun t10 => (spec_DrawAckOf.f k l0).bind fun t12 => (impl_AckOf.f t12.1 t12.2.1 t12.2.2.1 t12.2.2.2.1 t12.2.2.2.2.1 t12.2.2.2.2.2).bind fun t14 => (spec_AckOf.f t12.1 t12.2.1 t12.2.2.1 t12.2.2.2.1 t12.2.2.2.2.1 t12.2.2.2.2.2).bind fun t16 => if t6.2.2.2.2.2 = t8.2.2.2.2.2 then ((laws_sameKeeper.f k t6.1 t6.2.1 t6.2.2.1 t6.2.2.2.1 t6.2.2.2.2.1 t8.1 t8.2.1 t8.2.2.1 t8.2.2.2.1 t8.2.2.2.2.1).bind fun t19 => (if t19 = true then ((impl_KeeperOk.f k t10.1 t10.2.1 t10.2.2.1 t10.2.2.2.1 t10.2.2.2.2).bind fun t22 => ((spec_KeeperOk.f k t10.1 t10.2.1 t10.2.2.1 t10.2.2.2.1 t10.2.2.2.2).bind fun t24 => (if t22 = t24 then (if t14.2.2.2.2.2.2.2 = t16.2.2.2.2.2.2.2 then (if (t14.1 == t16.1 && (t14.2.1 == t16.2.1 && (t14.2.2.1 == t16.2.2.1 && ((t14.2.2.2.1 == t16.2.2.2.1 && (t14.2.2.2.2.1 == t16.2.2.2.2.1 && (t14.2.2.2.2.2.1 == t16.2.2.2.2.2.1 && (t14.2.2.2.2.2.2.1 == t16.2.2.2.2.2.2.1)))))))) = true then ((impl_SaveKeeper.f t10.1 t10.2.1 t10.2.2.1 t10.2.2.2.1 t10.2.2.2.2).bind fun t29 => ((spec_SaveKeeper.f t10.1 t10.2.1 t10.2.2.1 t10.2.2.2.1 t10.2.2.2.2).bind fun t31 => ((laws_sameKeeper.f k t29.1 t29.2.1 t29.2.2.1 t29.2.2.2.1 t29.2.2.2.2 t31.1 t31.2.1 t31.2.2.1 t31.2.2.2.1 t31.2.2.2.2).bind fun t33 => (if t33 = true then ((impl_FallKeeper.f k t10.1 t10.2.1 t10.2.2.1 t10.2.2.2.1 t10.2.2.2.2).bind fun t36 => ((spec_FallKeeper.f k t10.1 t10.2.1 t10.2.2.1 t10.2.2.2.1 t10.2.2.2.2).bind fun t38 => ((laws_sameKeeper.f k t36.1 t36.2.1 t36.2.2.1 t36.2.2.2.1 t36.2.2.2.2 t38.1 t38.2.1 t38.2.2.1 t38.2.2.2.1 t38.2.2.2.2).bind fun t40 => (if t40 = true then ((impl_EntriesOf.f k t12.1 t12.2.1 t12.2.2.1 t12.2.2.2.1 t12.2.2.2.2.1 t12.2.2.2.2.2).bind fun t43 => ((spec_EntriesOf.f k t12.1 t12.2.1 t12.2.2.1 t12.2.2.2.1 t12.2.2.2.2.1 t12.2.2.2.2.2).bind fun t45 => ((laws_sameItems.f k t43 t45).bind fun t47 => (if t47 = true then ((impl_KeeperNew.f).bind fun t50 => ((impl_KeeperOk.f k ([]) t50.1 ([]) t50.2.1 t50.2.2).bind fun t52 => some t52)) else some false)))) else some false)))) else some false)))) else some false) else some false) else some false))) else some false)) else some false
theorem laws_FnKeepsTold.ok {k : Nat} {l0 : List Int} {r : Bool} (H : laws_FnKeepsTold.f k l0 = some r) : ACalls Try.prog 4 [] [.sl .o 1 (l0.map (eI .u8))] [] (.lit (.bool r)) := by
 refine acalls (fn := Try.f4) (nt := 106) Try.func4 rfl rfl (Nat.le_of_ble_eq_true rfl) fun E hE => ?_
 rw [laws_FnKeepsTold.f] at H
 refine aw_grp1 ?_
 refine wk_start ?_
 refine kv g0 (asg) ?_
 refine wk_end ?_
 refine ac_next ?_
 refine aw_grp1 ?_
 refine aw_grp1 ?_
 refine wk_start ?_
 refine kv g0 (mv) ?_
 obtain ⟨t1, A2, H⟩ := of_bind H
 refine kcS0 17 (.lit (.bool t1)) [] g0 (cal (laws_big.ok A2) [] 9999 .n (hf := Try.func8)) rfl rfl ?_
 refine wk_end ?_
 refine ac_next ?_
 by_cases c3 : t1 = true
 ·rw [if_pos c3] at H
  refine aw_ifT ?_ c3
  refine aw_grp1 ?_
  refine wk_start ?_
  refine kv g0 (asg) ?_
  refine wk_end ?_
  refine ac_next ?_
  refine aw_ret ?_
  refine ac_thenR ?_
  obtain rfl := Option.some.inj H
  exact acr hE [.tmp 2] (.tmp .nil) (.one _) [] 9999
 rw [if_neg c3] at H
 refine aw_ifF ?_ (bF c3)
 refine aw_skip ?_
 refine ac_next ?_
 refine aw_grp1 ?_
 refine wk_start ?_
 refine kv g0 (mv) ?_
 obtain ⟨t4, A5, H⟩ := of_bind H
 refine kcS3 20 (.tup [.agg [.row 0, .row 1, .row 2, .lit (.int .i64 t4.2.2.2.1), .sl .n 1 (t4.2.2.2.2.1.map (eI .i64))], .agg [.lit (.int .i64 t4.2.2.2.2.2.1), .lit (.int .i64 t4.2.2.2.2.2.2.1), .lit (.int .i64 t4.2.2.2.2.2.2.2.1), .lit (.int .i64 t4.2.2.2.2.2.2.2.2.1), .lit (.int .i64 t4.2.2.2.2.2.2.2.2.2.1), .lit (.int .i64 t4.2.2.2.2.2.2.2.2.2.2.1), .lit (.int .i64 t4.2.2.2.2.2.2.2.2.2.2.2)]]) [(0, .row 98 6 (t4.1.map e98)), (1, .row 3 1 (t4.2.1.map (eI .i64))), (2, .row 97 6 (t4.2.2.1.map e97))] g0 (cal (spec_DrawKept.ok A5) [0, 1, 2] 9999 .n (hf := Try.func20)) rfl rfl ?_
 refine kv g0 (mv) ?_
 refine kv g0 (ext) ?_
 refine kv g0 (ext) ?_
 refine kb g0 (alc 3 [.slice none 0 0, .slice none 0 0, .slice none 0 0, .int .i64 0, .slice none 0 0] [.lit (.slice none 0 0), .lit (.slice none 0 0), .lit (.slice none 0 0), .lit (.int .i64 0), .lit (.slice none 0 0)]) ?_
 refine kb g0 (alc 4 [.int .i64 0, .int .i64 0, .int .i64 0, .int .i64 0, .int .i64 0, .int .i64 0, .int .i64 0] [.lit (.int .i64 0), .lit (.int .i64 0), .lit (.int .i64 0), .lit (.int .i64 0), .lit (.int .i64 0), .lit (.int .i64 0), .lit (.int .i64 0)]) ?_
 refine ks g0 (stB 5 [.row 0, .row 1, .row 2, .lit (.int .i64 t4.2.2.2.1), .sl .n 1 (t4.2.2.2.2.1.map (eI .i64))]) ?_
 refine ks g0 (stB 7 [.lit (.int .i64 t4.2.2.2.2.2.1), .lit (.int .i64 t4.2.2.2.2.2.2.1), .lit (.int .i64 t4.2.2.2.2.2.2.2.1), .lit (.int .i64 t4.2.2.2.2.2.2.2.2.1), .lit (.int .i64 t4.2.2.2.2.2.2.2.2.2.1), .lit (.int .i64 t4.2.2.2.2.2.2.2.2.2.2.1), .lit (.int .i64 t4.2.2.2.2.2.2.2.2.2.2.2)]) ?_
 refine wk_end ?_
 refine ac_next ?_
 refine aw_grp1 ?_
 refine wk_start ?_
 refine kv g0 (ldBA 5 [.row 0, .row 1, .row 2, .lit (.int .i64 t4.2.2.2.1), .sl .n 1 (t4.2.2.2.2.1.map (eI .i64))]) ?_
 refine kv g0 (ldBA 7 [.lit (.int .i64 t4.2.2.2.2.2.1), .lit (.int .i64 t4.2.2.2.2.2.2.1), .lit (.int .i64 t4.2.2.2.2.2.2.2.1), .lit (.int .i64 t4.2.2.2.2.2.2.2.2.1), .lit (.int .i64 t4.2.2.2.2.2.2.2.2.2.1), .lit (.int .i64 t4.2.2.2.2.2.2.2.2.2.2.1), .lit (.int .i64 t4.2.2.2.2.2.2.2.2.2.2.2)]) ?_
 obtain ⟨t6, A7, H⟩ := of_bind H
 refine kcS4 26 (.tup [.agg [.row 5, .row 6, .row 7, .lit (.int .i64 t6.2.2.2.1), .row 8], .lit (.bool t6.2.2.2.2.2)]) [(5, .row 98 6 (t6.1.map e98)), (6, .row 3 1 (t6.2.1.map (eI .i64))), (7, .row 97 6 (t6.2.2.1.map e97)), (8, .row 3 1 (t6.2.2.2.2.1.map (eI .i64)))] g0 (cal (impl_Kept.ok A7) [5, 6, 7, 8] 9999 .n (hf := Try.func11)) rfl rfl ?_
 refine kv g0 (mv) ?_
 refine kv g0 (ext) ?_
 refine kv g0 (ext) ?_
 refine kb g0 (alc 9 [.slice none 0 0, .slice none 0 0, .slice none 0 0, .int .i64 0, .slice none 0 0] [.lit (.slice none 0 0), .lit (.slice none 0 0), .lit (.slice none 0 0), .lit (.int .i64 0), .lit (.slice none 0 0)]) ?_
 refine ks g0 (stB 5 [.row 5, .row 6, .row 7, .lit (.int .i64 t6.2.2.2.1), .row 8]) ?_
 refine kv g0 (asg) ?_
 refine wk_end ?_
 refine ac_next ?_
 refine aw_grp1 ?_
 refine wk_start ?_
 refine kv g0 (ldBA 5 [.row 0, .row 1, .row 2, .lit (.int .i64 t4.2.2.2.1), .sl .n 1 (t4.2.2.2.2.1.map (eI .i64))]) ?_
 refine kv g0 (ldBA 7 [.lit (.int .i64 t4.2.2.2.2.2.1), .lit (.int .i64 t4.2.2.2.2.2.2.1), .lit (.int .i64 t4.2.2.2.2.2.2.2.1), .lit (.int .i64 t4.2.2.2.2.2.2.2.2.1), .lit (.int .i64 t4.2.2.2.2.2.2.2.2.2.1), .lit (.int .i64 t4.2.2.2.2.2.2.2.2.2.2.1), .lit (.int .i64 t4.2.2.2.2.2.2.2.2.2.2.2)]) ?_
 obtain ⟨t8, A9, H⟩ := of_bind H
 refine kcS4 32 (.tup [.agg [.row 10, .row 11, .row 12, .lit (.int .i64 t8.2.2.2.1), .row 13], .lit (.bool t8.2.2.2.2.2)]) [(10, .row 98 6 (t8.1.map e98)), (11, .row 3 1 (t8.2.1.map (eI .i64))), (12, .row 97 6 (t8.2.2.1.map e97)), (13, .row 3 1 (t8.2.2.2.2.1.map (eI .i64)))] g0 (cal (spec_Kept.ok A9) [10, 11, 12, 13] 9999 .n (hf := Try.func21)) rfl rfl ?_
 refine kv g0 (mv) ?_
 refine kv g0 (ext) ?_
 refine kv g0 (ext) ?_
 refine kb g0 (alc 14 [.slice none 0 0, .slice none 0 0, .slice none 0 0, .int .i64 0, .slice none 0 0] [.lit (.slice none 0 0), .lit (.slice none 0 0), .lit (.slice none 0 0), .lit (.int .i64 0), .lit (.slice none 0 0)]) ?_
 refine ks g0 (stB 5 [.row 10, .row 11, .row 12, .lit (.int .i64 t8.2.2.2.1), .row 13]) ?_
 refine kv g0 (asg) ?_
 refine wk_end ?_
 refine ac_next ?_
 refine aw_grp1 ?_
 refine wk_start ?_
 refine kv g0 (mv) ?_
 obtain ⟨t10, A11, H⟩ := of_bind H
 refine kcS3 36 (.agg [.row 15, .row 16, .row 17, .lit (.int .i64 t10.2.2.2.1), .sl .n 1 (t10.2.2.2.2.map (eI .i64))]) [(15, .row 98 6 (t10.1.map e98)), (16, .row 3 1 (t10.2.1.map (eI .i64))), (17, .row 97 6 (t10.2.2.1.map e97))] g0 (cal (spec_DrawKeeperOk.ok A11) [15, 16, 17] 9999 .n (hf := Try.func22)) rfl rfl ?_
 refine kb g0 (alc 18 [.slice none 0 0, .slice none 0 0, .slice none 0 0, .int .i64 0, .slice none 0 0] [.lit (.slice none 0 0), .lit (.slice none 0 0), .lit (.slice none 0 0), .lit (.int .i64 0), .lit (.slice none 0 0)]) ?_
 refine ks g0 (stB 5 [.row 15, .row 16, .row 17, .lit (.int .i64 t10.2.2.2.1), .sl .n 1 (t10.2.2.2.2.map (eI .i64))]) ?_
 refine wk_end ?_
 refine ac_next ?_
 refine aw_grp1 ?_
 refine wk_start ?_
 refine kv g0 (mv) ?_
 obtain ⟨t12, A13, H⟩ := of_bind H
 refine kcS3 39 (.tup [.agg [.row 19, .row 20, .row 21, .lit (.int .i64 t12.2.2.2.1), .sl .n 1 (t12.2.2.2.2.1.map (eI .i64))], .lit (.int .i64 t12.2.2.2.2.2)]) [(19, .row 98 6 (t12.1.map e98)), (20, .row 3 1 (t12.2.1.map (eI .i64))), (21, .row 97 6 (t12.2.2.1.map e97))] g0 (cal (spec_DrawAckOf.ok A13) [19, 20, 21] 9999 .n (hf := Try.func23)) rfl rfl ?_
 refine kv g0 (mv) ?_
 refine kv g0 (ext) ?_
 refine kv g0 (ext) ?_
 refine kb g0 (alc 22 [.slice none 0 0, .slice none 0 0, .slice none 0 0, .int .i64 0, .slice none 0 0] [.lit (.slice none 0 0), .lit (.slice none 0 0), .lit (.slice none 0 0), .lit (.int .i64 0), .lit (.slice none 0 0)]) ?_
 refine ks g0 (stB 5 [.row 19, .row 20, .row 21, .lit (.int .i64 t12.2.2.2.1), .sl .n 1 (t12.2.2.2.2.1.map (eI .i64))]) ?_
 refine kv g0 (asg) ?_
 refine wk_end ?_
 refine ac_next ?_
 refine aw_grp1 ?_
 refine wk_start ?_
 refine kv g0 (ldBA 5 [.row 19, .row 20, .row 21, .lit (.int .i64 t12.2.2.2.1), .sl .n 1 (t12.2.2.2.2.1.map (eI .i64))]) ?_
 refine kv g0 (mv) ?_
 obtain ⟨t14, A15, H⟩ := of_bind H
 refine kcS0 45 (.tup [.agg [.lit (.int .i64 t14.1), .lit (.int .i64 t14.2.1), .lit (.int .i64 t14.2.2.1), .lit (.int .i64 t14.2.2.2.1), .lit (.int .i64 t14.2.2.2.2.1), .lit (.int .i64 t14.2.2.2.2.2.1), .lit (.int .i64 t14.2.2.2.2.2.2.1)], .lit (.bool t14.2.2.2.2.2.2.2)]) [] g0 (cal (impl_AckOf.ok A15) [] 9999 .n (hf := Try.func17)) rfl rfl ?_
 refine kv g0 (mv) ?_
 refine kv g0 (ext) ?_
 refine kv g0 (ext) ?_
 refine kb g0 (alc 23 [.int .i64 0, .int .i64 0, .int .i64 0, .int .i64 0, .int .i64 0, .int .i64 0, .int .i64 0] [.lit (.int .i64 0), .lit (.int .i64 0), .lit (.int .i64 0), .lit (.int .i64 0), .lit (.int .i64 0), .lit (.int .i64 0), .lit (.int .i64 0)]) ?_
 refine ks g0 (stB 7 [.lit (.int .i64 t14.1), .lit (.int .i64 t14.2.1), .lit (.int .i64 t14.2.2.1), .lit (.int .i64 t14.2.2.2.1), .lit (.int .i64 t14.2.2.2.2.1), .lit (.int .i64 t14.2.2.2.2.2.1), .lit (.int .i64 t14.2.2.2.2.2.2.1)]) ?_
 refine kv g0 (asg) ?_
 refine wk_end ?_
 refine ac_next ?_
 refine aw_grp1 ?_
 refine wk_start ?_
 refine kv g0 (ldBA 5 [.row 19, .row 20, .row 21, .lit (.int .i64 t12.2.2.2.1), .sl .n 1 (t12.2.2.2.2.1.map (eI .i64))]) ?_
 refine kv g0 (mv) ?_
 obtain ⟨t16, A17, H⟩ := of_bind H
 refine kcS0 51 (.tup [.agg [.lit (.int .i64 t16.1), .lit (.int .i64 t16.2.1), .lit (.int .i64 t16.2.2.1), .lit (.int .i64 t16.2.2.2.1), .lit (.int .i64 t16.2.2.2.2.1), .lit (.int .i64 t16.2.2.2.2.2.1), .lit (.int .i64 t16.2.2.2.2.2.2.1)], .lit (.bool t16.2.2.2.2.2.2.2)]) [] g0 (cal (spec_AckOf.ok A17) [] 9999 .n (hf := Try.func24)) rfl rfl ?_
 refine kv g0 (mv) ?_
 refine kv g0 (ext) ?_
 refine kv g0 (ext) ?_
 refine kb g0 (alc 24 [.int .i64 0, .int .i64 0, .int .i64 0, .int .i64 0, .int .i64 0, .int .i64 0, .int .i64 0] [.lit (.int .i64 0), .lit (.int .i64 0), .lit (.int .i64 0), .lit (.int .i64 0), .lit (.int .i64 0), .lit (.int .i64 0), .lit (.int .i64 0)]) ?_
 refine ks g0 (stB 7 [.lit (.int .i64 t16.1), .lit (.int .i64 t16.2.1), .lit (.int .i64 t16.2.2.1), .lit (.int .i64 t16.2.2.2.1), .lit (.int .i64 t16.2.2.2.2.1), .lit (.int .i64 t16.2.2.2.2.2.1), .lit (.int .i64 t16.2.2.2.2.2.2.1)]) ?_
 refine kv g0 (asg) ?_
 refine wk_end ?_
 refine ac_next ?_
 refine aw_grp1 ?_
 refine wk_start ?_
 refine kv g0 (mv) ?_
 refine kv g0 (mv) ?_
 refine kv g0 (beq) ?_
 refine kv g0 (mv) ?_
 by_cases c18 : t6.2.2.2.2.2 = t8.2.2.2.2.2
 ·rw [if_pos c18] at H
  refine kv (g1 (eTb c18)) (ldBA 5 [.row 5, .row 6, .row 7, .lit (.int .i64 t6.2.2.2.1), .row 8]) ?_
  refine kv (g1 (eTb c18)) (ldBA 5 [.row 10, .row 11, .row 12, .lit (.int .i64 t8.2.2.2.1), .row 13]) ?_
  obtain ⟨t19, A20, H⟩ := of_bind H
  refine kcS0 60 (.lit (.bool t19)) [] (g1 (eTb c18)) (cal (laws_sameKeeper.ok A20) [] 9999 .n (hf := Try.func25)) rfl rfl ?_
  refine kv g0 (pkT (eTb c18)) ?_
  refine kv g0 (mv) ?_
  by_cases c21 : t19 = true
  ·rw [if_pos c21] at H
   refine kv (g1 c21) (ldBA 5 [.row 15, .row 16, .row 17, .lit (.int .i64 t10.2.2.2.1), .sl .n 1 (t10.2.2.2.2.map (eI .i64))]) ?_
   obtain ⟨t22, A23, H⟩ := of_bind H
   refine kcS0 64 (.lit (.bool t22)) [] (g1 c21) (cal (impl_KeeperOk.ok A23) [] 9999 .n (hf := Try.func12)) rfl rfl ?_
   refine kv (g1 c21) (ldBA 5 [.row 15, .row 16, .row 17, .lit (.int .i64 t10.2.2.2.1), .sl .n 1 (t10.2.2.2.2.map (eI .i64))]) ?_
   obtain ⟨t24, A25, H⟩ := of_bind H
   refine kcS0 66 (.lit (.bool t24)) [] (g1 c21) (cal (spec_KeeperOk.ok A25) [] 9999 .n (hf := Try.func26)) rfl rfl ?_
   refine kv (g1 c21) (beq) ?_
   refine kv g0 (pkT c21) ?_
   refine kv g0 (mv) ?_
   by_cases c26 : t22 = t24
   ·rw [if_pos c26] at H
    refine kv (g1 (eTb c26)) (mv) ?_
    refine kv (g1 (eTb c26)) (mv) ?_
    refine kv (g1 (eTb c26)) (beq) ?_
    refine kv g0 (pkT (eTb c26)) ?_
    refine kv g0 (mv) ?_
    by_cases c27 : t14.2.2.2.2.2.2.2 = t16.2.2.2.2.2.2.2
    ·rw [if_pos c27] at H
     refine kv (g1 (eTb c27)) (ldBA 7 [.lit (.int .i64 t14.1), .lit (.int .i64 t14.2.1), .lit (.int .i64 t14.2.2.1), .lit (.int .i64 t14.2.2.2.1), .lit (.int .i64 t14.2.2.2.2.1), .lit (.int .i64 t14.2.2.2.2.2.1), .lit (.int .i64 t14.2.2.2.2.2.2.1)]) ?_
     refine kv (g1 (eTb c27)) (ldBA 7 [.lit (.int .i64 t16.1), .lit (.int .i64 t16.2.1), .lit (.int .i64 t16.2.2.1), .lit (.int .i64 t16.2.2.2.1), .lit (.int .i64 t16.2.2.2.2.1), .lit (.int .i64 t16.2.2.2.2.2.1), .lit (.int .i64 t16.2.2.2.2.2.2.1)]) ?_
     refine kv (g1 (eTb c27)) (eqS (fun w => eq36 _ w t14.1 t14.2.1 t14.2.2.1 t14.2.2.2.1 t14.2.2.2.2.1 t14.2.2.2.2.2.1 t14.2.2.2.2.2.2.1 t16.1 t16.2.1 t16.2.2.1 t16.2.2.2.1 t16.2.2.2.2.1 t16.2.2.2.2.2.1 t16.2.2.2.2.2.2.1)) ?_
     refine kv g0 (pkT (eTb c27)) ?_
     refine kv g0 (mv) ?_
     by_cases c28 : (t14.1 == t16.1 && (t14.2.1 == t16.2.1 && (t14.2.2.1 == t16.2.2.1 && ((t14.2.2.2.1 == t16.2.2.2.1 && (t14.2.2.2.2.1 == t16.2.2.2.2.1 && (t14.2.2.2.2.2.1 == t16.2.2.2.2.2.1 && (t14.2.2.2.2.2.2.1 == t16.2.2.2.2.2.2.1)))))))) = true
     ·rw [if_pos c28] at H
      refine kv (g1 c28) (ldBA 5 [.row 15, .row 16, .row 17, .lit (.int .i64 t10.2.2.2.1), .sl .n 1 (t10.2.2.2.2.map (eI .i64))]) ?_
      obtain ⟨t29, A30, H⟩ := of_bind H
      refine kcS4 81 (.agg [.row 25, .row 26, .row 27, .lit (.int .i64 t29.2.2.2.1), .row 28]) [(25, .row 98 6 (t29.1.map e98)), (26, .row 3 1 (t29.2.1.map (eI .i64))), (27, .row 97 6 (t29.2.2.1.map e97)), (28, .row 3 1 (t29.2.2.2.2.map (eI .i64)))] (g1 c28) (cal (impl_SaveKeeper.ok A30) [25, 26, 27, 28] 9999 .n (hf := Try.func15)) rfl rfl ?_
      refine kv (g1 c28) (ldBA 5 [.row 15, .row 16, .row 17, .lit (.int .i64 t10.2.2.2.1), .sl .n 1 (t10.2.2.2.2.map (eI .i64))]) ?_
      obtain ⟨t31, A32, H⟩ := of_bind H
      refine kcS4 83 (.agg [.row 29, .row 30, .row 31, .lit (.int .i64 t31.2.2.2.1), .row 32]) [(29, .row 98 6 (t31.1.map e98)), (30, .row 3 1 (t31.2.1.map (eI .i64))), (31, .row 97 6 (t31.2.2.1.map e97)), (32, .row 3 1 (t31.2.2.2.2.map (eI .i64)))] (g1 c28) (cal (spec_SaveKeeper.ok A32) [29, 30, 31, 32] 9999 .n (hf := Try.func27)) rfl rfl ?_
      obtain ⟨t33, A34, H⟩ := of_bind H
      refine kcS0 84 (.lit (.bool t33)) [] (g1 c28) (cal (laws_sameKeeper.ok A34) [] 9999 .n (hf := Try.func25)) rfl rfl ?_
      refine kv g0 (pkT c28) ?_
      refine kv g0 (mv) ?_
      by_cases c35 : t33 = true
      ·rw [if_pos c35] at H
       refine kv (g1 c35) (ldBA 5 [.row 15, .row 16, .row 17, .lit (.int .i64 t10.2.2.2.1), .sl .n 1 (t10.2.2.2.2.map (eI .i64))]) ?_
       obtain ⟨t36, A37, H⟩ := of_bind H
       refine kcS4 88 (.agg [.row 33, .row 34, .row 35, .lit (.int .i64 t36.2.2.2.1), .row 36]) [(33, .row 98 6 (t36.1.map e98)), (34, .row 3 1 (t36.2.1.map (eI .i64))), (35, .row 97 6 (t36.2.2.1.map e97)), (36, .row 3 1 (t36.2.2.2.2.map (eI .i64)))] (g1 c35) (cal (impl_FallKeeper.ok A37) [33, 34, 35, 36] 9999 .n (hf := Try.func16)) rfl rfl ?_
       refine kv (g1 c35) (ldBA 5 [.row 15, .row 16, .row 17, .lit (.int .i64 t10.2.2.2.1), .sl .n 1 (t10.2.2.2.2.map (eI .i64))]) ?_
       obtain ⟨t38, A39, H⟩ := of_bind H
       refine kcS4 90 (.agg [.row 37, .row 38, .row 39, .lit (.int .i64 t38.2.2.2.1), .row 40]) [(37, .row 98 6 (t38.1.map e98)), (38, .row 3 1 (t38.2.1.map (eI .i64))), (39, .row 97 6 (t38.2.2.1.map e97)), (40, .row 3 1 (t38.2.2.2.2.map (eI .i64)))] (g1 c35) (cal (spec_FallKeeper.ok A39) [37, 38, 39, 40] 9999 .n (hf := Try.func28)) rfl rfl ?_
       obtain ⟨t40, A41, H⟩ := of_bind H
       refine kcS0 91 (.lit (.bool t40)) [] (g1 c35) (cal (laws_sameKeeper.ok A41) [] 9999 .n (hf := Try.func25)) rfl rfl ?_
       refine kv g0 (pkT c35) ?_
       refine kv g0 (mv) ?_
       by_cases c42 : t40 = true
       ·rw [if_pos c42] at H
        refine kv (g1 c42) (ldBA 5 [.row 19, .row 20, .row 21, .lit (.int .i64 t12.2.2.2.1), .sl .n 1 (t12.2.2.2.2.1.map (eI .i64))]) ?_
        refine kv (g1 c42) (mv) ?_
        obtain ⟨t43, A44, H⟩ := of_bind H
        refine kcS1 96 (.row 41) [(41, .row 34 4 (t43.map e34))] (g1 c42) (cal (impl_EntriesOf.ok A44) [41] 9999 .n (hf := Try.func13)) rfl rfl ?_
        refine kv (g1 c42) (ldBA 5 [.row 19, .row 20, .row 21, .lit (.int .i64 t12.2.2.2.1), .sl .n 1 (t12.2.2.2.2.1.map (eI .i64))]) ?_
        refine kv (g1 c42) (mv) ?_
        obtain ⟨t45, A46, H⟩ := of_bind H
        refine kcS1 99 (.row 42) [(42, .row 34 4 (t45.map e34))] (g1 c42) (cal (spec_EntriesOf.ok A46) [42] 9999 .n (hf := Try.func19)) rfl rfl ?_
        obtain ⟨t47, A48, H⟩ := of_bind H
        refine kcS0 100 (.lit (.bool t47)) [] (g1 c42) (cal (laws_sameItems.ok A48) [] 9999 .n (hf := Try.func29)) rfl rfl ?_
        refine kv g0 (pkT c42) ?_
        refine kv g0 (mv) ?_
        by_cases c49 : t47 = true
        ·rw [if_pos c49] at H
         obtain ⟨t50, A51, H⟩ := of_bind H
         refine kcS2 103 (.agg [.lit (.slice none 0 0), .row 43, .lit (.slice none 0 0), .lit (.int .i64 t50.2.1), .row 44]) [(43, .row 3 1 (t50.1.map (eI .i64))), (44, .row 3 1 (t50.2.2.map (eI .i64)))] (g1 c49) (cal (impl_KeeperNew.ok A51) [43, 44] 9999 .n (hf := Try.func10)) rfl rfl ?_
         obtain ⟨t52, A53, H⟩ := of_bind H
         refine kcS0 104 (.lit (.bool t52)) [] (g1 c49) (cal (impl_KeeperOk.ok A53) [] 9999 .n (hf := Try.func12)) rfl rfl ?_
         refine kv g0 (pkT c49) ?_
         refine kv g0 (asg) ?_
         refine wk_end_draw hM (by kernel_rfl) ?_
         refine ac_next ?_
         refine aw_ret ?_
         obtain rfl := Option.some.inj H
         exact acr hE [.tmp 2] (.tmp .nil) (.one _) [] 9999
        rw [if_neg c49] at H
        refine kx (hT (bF c49)) ?_
        refine kx (hT (bF c49)) ?_
        refine kv g0 (pkF (bF c49)) ?_
        refine kv g0 (asg) ?_
        refine wk_end_draw hM (by kernel_rfl) ?_
        refine ac_next ?_
        refine aw_ret ?_
        obtain rfl := Option.some.inj H
        exact acr hE [.tmp 2] (.tmp .nil) (.one _) [] 9999
       rw [if_neg c42] at H
       refine kx (hT (bF c42)) ?_
       refine kx (hT (bF c42)) ?_
       refine kx (hT (bF c42)) ?_
       refine kx (hT (bF c42)) ?_
       refine kx (hT (bF c42)) ?_
       refine kx (hT (bF c42)) ?_
       refine kx (hT (bF c42)) ?_
       refine kv g0 (pkF (bF c42)) ?_
       refine kv g0 (mv) ?_
       refine kx (hT rfl) ?_
       refine kx (hT rfl) ?_
       refine kv g0 (pkF rfl) ?_
       refine kv g0 (asg) ?_
       refine wk_end_draw hM (by kernel_rfl) ?_
       refine ac_next ?_
       refine aw_ret ?_
       obtain rfl := Option.some.inj H
       exact acr hE [.tmp 2] (.tmp .nil) (.one _) [] 9999
      rw [if_neg c35] at H
      refine kx (hT (bF c35)) ?_
      refine kx (hT (bF c35)) ?_
      refine kx (hT (bF c35)) ?_
      refine kx (hT (bF c35)) ?_
      refine kx (hT (bF c35)) ?_
      refine kv g0 (pkF (bF c35)) ?_
      refine kv g0 (mv) ?_
      refine kx (hT rfl) ?_
      refine kx (hT rfl) ?_
      refine kx (hT rfl) ?_
      refine kx (hT rfl) ?_
      refine kx (hT rfl) ?_
      refine kx (hT rfl) ?_
      refine kx (hT rfl) ?_
      refine kv g0 (pkF rfl) ?_
      refine kv g0 (mv) ?_
      refine kx (hT rfl) ?_
      refine kx (hT rfl) ?_
      refine kv g0 (pkF rfl) ?_
      refine kv g0 (asg) ?_
      refine wk_end_draw hM (by kernel_rfl) ?_
      refine ac_next ?_
      refine aw_ret ?_
      obtain rfl := Option.some.inj H
      exact acr hE [.tmp 2] (.tmp .nil) (.one _) [] 9999
     rw [if_neg c28] at H
     refine kx (hT (bF c28)) ?_
     refine kx (hT (bF c28)) ?_
     refine kx (hT (bF c28)) ?_
     refine kx (hT (bF c28)) ?_
     refine kx (hT (bF c28)) ?_
     refine kv g0 (pkF (bF c28)) ?_
     refine kv g0 (mv) ?_
     refine kx (hT rfl) ?_
     refine kx (hT rfl) ?_
     refine kx (hT rfl) ?_
     refine kx (hT rfl) ?_
     refine kx (hT rfl) ?_
     refine kv g0 (pkF rfl) ?_
     refine kv g0 (mv) ?_
     refine kx (hT rfl) ?_
     refine kx (hT rfl) ?_
     refine kx (hT rfl) ?_
     refine kx (hT rfl) ?_
     refine kx (hT rfl) ?_
     refine kx (hT rfl) ?_
     refine kx (hT rfl) ?_
     refine kv g0 (pkF rfl) ?_
     refine kv g0 (mv) ?_
     refine kx (hT rfl) ?_
     refine kx (hT rfl) ?_
     refine kv g0 (pkF rfl) ?_
     refine kv g0 (asg) ?_
     refine wk_end_draw hM (by kernel_rfl) ?_
     refine ac_next ?_
     refine aw_ret ?_
     obtain rfl := Option.some.inj H
     exact acr hE [.tmp 2] (.tmp .nil) (.one _) [] 9999
    rw [if_neg c27] at H
    refine kx (hT (eFb c27)) ?_
    refine kx (hT (eFb c27)) ?_
    refine kx (hT (eFb c27)) ?_
    refine kv g0 (pkF (eFb c27)) ?_
    refine kv g0 (mv) ?_
    refine kx (hT rfl) ?_
    refine kx (hT rfl) ?_
    refine kx (hT rfl) ?_
    refine kx (hT rfl) ?_
    refine kx (hT rfl) ?_
    refine kv g0 (pkF rfl) ?_
    refine kv g0 (mv) ?_
    refine kx (hT rfl) ?_
    refine kx (hT rfl) ?_
    refine kx (hT rfl) ?_
    refine kx (hT rfl) ?_
    refine kx (hT rfl) ?_
    refine kv g0 (pkF rfl) ?_
    refine kv g0 (mv) ?_
    refine kx (hT rfl) ?_
    refine kx (hT rfl) ?_
    refine kx (hT rfl) ?_
    refine kx (hT rfl) ?_
    refine kx (hT rfl) ?_
    refine kx (hT rfl) ?_
    refine kx (hT rfl) ?_
    refine kv g0 (pkF rfl) ?_
    refine kv g0 (mv) ?_
    refine kx (hT rfl) ?_
    refine kx (hT rfl) ?_
    refine kv g0 (pkF rfl) ?_
    refine kv g0 (asg) ?_
    refine wk_end_draw hM (by kernel_rfl) ?_
    refine ac_next ?_
    refine aw_ret ?_
    obtain rfl := Option.some.inj H
    exact acr hE [.tmp 2] (.tmp .nil) (.one _) [] 9999
   rw [if_neg c26] at H
   refine kx (hT (eFb c26)) ?_
   refine kx (hT (eFb c26)) ?_
   refine kx (hT (eFb c26)) ?_
   refine kv g0 (pkF (eFb c26)) ?_
   refine kv g0 (mv) ?_
   refine kx (hT rfl) ?_
   refine kx (hT rfl) ?_
   refine kx (hT rfl) ?_
   refine kv g0 (pkF rfl) ?_
   refine kv g0 (mv) ?_
   refine kx (hT rfl) ?_
   refine kx (hT rfl) ?_
   refine kx (hT rfl) ?_
   refine kx (hT rfl) ?_
   refine kx (hT rfl) ?_
   refine kv g0 (pkF rfl) ?_
   refine kv g0 (mv) ?_
   refine kx (hT rfl) ?_
   refine kx (hT rfl) ?_
   refine kx (hT rfl) ?_
   refine kx (hT rfl) ?_
   refine kx (hT rfl) ?_
   refine kv g0 (pkF rfl) ?_
   refine kv g0 (mv) ?_
   refine kx (hT rfl) ?_
   refine kx (hT rfl) ?_
   refine kx (hT rfl) ?_
   refine kx (hT rfl) ?_
   refine kx (hT rfl) ?_
   refine kx (hT rfl) ?_
   refine kx (hT rfl) ?_
   refine kv g0 (pkF rfl) ?_
   refine kv g0 (mv) ?_
   refine kx (hT rfl) ?_
   refine kx (hT rfl) ?_
   refine kv g0 (pkF rfl) ?_
   refine kv g0 (asg) ?_
   refine wk_end_draw hM (by kernel_rfl) ?_
   refine ac_next ?_
   refine aw_ret ?_
   obtain rfl := Option.some.inj H
   exact acr hE [.tmp 2] (.tmp .nil) (.one _) [] 9999
  rw [if_neg c21] at H
  refine kx (hT (bF c21)) ?_
  refine kx (hT (bF c21)) ?_
  refine kx (hT (bF c21)) ?_
  refine kx (hT (bF c21)) ?_
  refine kx (hT (bF c21)) ?_
  refine kv g0 (pkF (bF c21)) ?_
  refine kv g0 (mv) ?_
  refine kx (hT rfl) ?_
  refine kx (hT rfl) ?_
  refine kx (hT rfl) ?_
  refine kv g0 (pkF rfl) ?_
  refine kv g0 (mv) ?_
  refine kx (hT rfl) ?_
  refine kx (hT rfl) ?_
  refine kx (hT rfl) ?_
  refine kv g0 (pkF rfl) ?_
  refine kv g0 (mv) ?_
  refine kx (hT rfl) ?_
  refine kx (hT rfl) ?_
  refine kx (hT rfl) ?_
  refine kx (hT rfl) ?_
  refine kx (hT rfl) ?_
  refine kv g0 (pkF rfl) ?_
  refine kv g0 (mv) ?_
  refine kx (hT rfl) ?_
  refine kx (hT rfl) ?_
  refine kx (hT rfl) ?_
  refine kx (hT rfl) ?_
  refine kx (hT rfl) ?_
  refine kv g0 (pkF rfl) ?_
  refine kv g0 (mv) ?_
  refine kx (hT rfl) ?_
  refine kx (hT rfl) ?_
  refine kx (hT rfl) ?_
  refine kx (hT rfl) ?_
  refine kx (hT rfl) ?_
  refine kx (hT rfl) ?_
  refine kx (hT rfl) ?_
  refine kv g0 (pkF rfl) ?_
  refine kv g0 (mv) ?_
  refine kx (hT rfl) ?_
  refine kx (hT rfl) ?_
  refine kv g0 (pkF rfl) ?_
  refine kv g0 (asg) ?_
  refine wk_end_draw hM (by kernel_rfl) ?_
  refine ac_next ?_
  refine aw_ret ?_
  obtain rfl := Option.some.inj H
  exact acr hE [.tmp 2] (.tmp .nil) (.one _) [] 9999
 rw [if_neg c18] at H
 refine kx (hT (eFb c18)) ?_
 refine kx (hT (eFb c18)) ?_
 refine kx (hT (eFb c18)) ?_
 refine kv g0 (pkF (eFb c18)) ?_
 refine kv g0 (mv) ?_
 refine kx (hT rfl) ?_
 refine kx (hT rfl) ?_
 refine kx (hT rfl) ?_
 refine kx (hT rfl) ?_
 refine kx (hT rfl) ?_
 refine kv g0 (pkF rfl) ?_
 refine kv g0 (mv) ?_
 refine kx (hT rfl) ?_
 refine kx (hT rfl) ?_
 refine kx (hT rfl) ?_
 refine kv g0 (pkF rfl) ?_
 refine kv g0 (mv) ?_
 refine kx (hT rfl) ?_
 refine kx (hT rfl) ?_
 refine kx (hT rfl) ?_
 refine kv g0 (pkF rfl) ?_
 refine kv g0 (mv) ?_
 refine kx (hT rfl) ?_
 refine kx (hT rfl) ?_
 refine kx (hT rfl) ?_
 refine kx (hT rfl) ?_
 refine kx (hT rfl) ?_
 refine kv g0 (pkF rfl) ?_
 refine kv g0 (mv) ?_
 refine kx (hT rfl) ?_
 refine kx (hT rfl) ?_
 refine kx (hT rfl) ?_
 refine kx (hT rfl) ?_
 refine kx (hT rfl) ?_
 refine kv g0 (pkF rfl) ?_
 refine kv g0 (mv) ?_
 refine kx (hT rfl) ?_
 refine kx (hT rfl) ?_
 refine kx (hT rfl) ?_
 refine kx (hT rfl) ?_
 refine kx (hT rfl) ?_
 refine kx (hT rfl) ?_
 refine kx (hT rfl) ?_
 refine kv g0 (pkF rfl) ?_
 refine kv g0 (mv) ?_
 refine kx (hT rfl) ?_
 refine kx (hT rfl) ?_
 refine kv g0 (pkF rfl) ?_
 refine kv g0 (asg) ?_
 refine wk_end_draw hM (by kernel_rfl) ?_
 refine ac_next ?_
 refine aw_ret ?_
 obtain rfl := Option.some.inj H
 exact acr hE [.tmp 2] (.tmp .nil) (.one _) [] 9999
end Go.Proofs.Ytfeaemlakniijaa.PFnKeepsTold
