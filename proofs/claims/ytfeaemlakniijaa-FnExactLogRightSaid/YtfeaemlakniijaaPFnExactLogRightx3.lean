import Derived.Test.YtfeaemlakniijaaPFnExactLogRightx2
set_option linter.unusedVariables false
set_option linter.unusedSimpArgs false
set_option maxRecDepth 100000
namespace Go.Proofs.Ytfeaemlakniijaa.PFnExactLogRight
open Go Go.RowKit Go.Proofs.YtfeaemlakniijaaA
/-! impl_KeeperOk -/
mutual
def impl_KeeperOk.l0 : Nat → (List S98) → (List Int) → (List S97) → Int → (List Int) → Int → Option (Bool)
 | 0, _, _, _, _, _, _ => none
 | k18 + 1, l0_0, l0_1, l0_2, a0_3, l0_4, p17 => if p17 < 3 then if 0 ≤ p17 then (if p17 < (l0_1.length : Int) then ((impl_within.f (rd l0_1 p17) 1 1000000000).bind fun t22 => (if t22 = true then (if p17 < (l0_4.length : Int) then ((impl_within.f (rd l0_4 p17) 1 (rd l0_1 p17)).bind fun t26 => if t26 = true then impl_KeeperOk.l0 k18 l0_0 l0_1 l0_2 a0_3 l0_4 (wrap64 (p17 + 1)) else some false) else none) else some false)) else none) else none else impl_KeeperOk.l1 k18 l0_0 l0_1 l0_2 a0_3 l0_4 (List.replicate 3 (0 : Int)) (List.replicate 3 (0 : Int)) 0
def impl_KeeperOk.j0 : Nat → (List S98) → (List Int) → (List S97) → Int → (List Int) → (List Int) → Int → (List Int) → Option (Bool)
 | 0, _, _, _, _, _, _, _, _ => none
 | k66 + 1, l0_0, l0_1, l0_2, a0_3, l0_4, q48, p50, q65 => if ((rd_T98 l0_0 p50).f0) < ((q48.set ((rd_T98 l0_0 p50).f0).toNat (wrap64 ((rd q48 ((rd_T98 l0_0 p50).f0)) + 1))).length : Int) then if ((rd_T98 l0_0 p50).f1) = (rd (q48.set ((rd_T98 l0_0 p50).f0).toNat (wrap64 ((rd q48 ((rd_T98 l0_0 p50).f0)) + 1))) ((rd_T98 l0_0 p50).f0)) then impl_KeeperOk.l1 k66 l0_0 l0_1 l0_2 a0_3 l0_4 (q48.set ((rd_T98 l0_0 p50).f0).toNat (wrap64 ((rd q48 ((rd_T98 l0_0 p50).f0)) + 1))) q65 (wrap64 (p50 + 1)) else some false else none
def impl_KeeperOk.l1 : Nat → (List S98) → (List Int) → (List S97) → Int → (List Int) → (List Int) → (List Int) → Int → Option (Bool)
 | 0, _, _, _, _, _, _, _, _ => none
 | k51 + 1, l0_0, l0_1, l0_2, a0_3, l0_4, q48, q49, p50 => if p50 < (l0_0.length : Int) then if 0 ≤ p50 then (impl_isPid.f ((rd_T98 l0_0 p50).f0)).bind fun t54 => (if t54 = true then ((impl_ItemOk.f ((rd_T98 l0_0 p50).f2.f0) ((rd_T98 l0_0 p50).f2.f1) ((rd_T98 l0_0 p50).f2.f2) ((rd_T98 l0_0 p50).f2.f3)).bind fun t57 => if t57 = true then if 0 ≤ ((rd_T98 l0_0 p50).f0) then (if ((rd_T98 l0_0 p50).f0) < 3 then (if ((rd_T98 l0_0 p50).f0) < (q48.length : Int) then if p50 < a0_3 then (if ((rd_T98 l0_0 p50).f0) < (q49.length : Int) then impl_KeeperOk.j0 k51 l0_0 l0_1 l0_2 a0_3 l0_4 q48 p50 (q49.set ((rd_T98 l0_0 p50).f0).toNat (wrap64 ((rd q49 ((rd_T98 l0_0 p50).f0)) + 1))) else none) else impl_KeeperOk.j0 k51 l0_0 l0_1 l0_2 a0_3 l0_4 q48 p50 q49 else none) else none) else none else some false) else some false) else none else impl_KeeperOk.l2 k51 l0_0 l0_1 l0_2 a0_3 l0_4 q48 q49 0
def impl_KeeperOk.l2 : Nat → (List S98) → (List Int) → (List S97) → Int → (List Int) → (List Int) → (List Int) → Int → Option (Bool)
 | 0, _, _, _, _, _, _, _, _ => none
 | k81 + 1, l0_0, l0_1, l0_2, a0_3, l0_4, q48, q49, p80 => if p80 < 3 then if 0 ≤ p80 then (if p80 < (q48.length : Int) then (if p80 < (l0_1.length : Int) then (if (rd q48 p80) = (wrap64 ((rd l0_1 p80) - 1)) then (if p80 < (q49.length : Int) then (if p80 < (l0_4.length : Int) then if (rd q49 p80) = (wrap64 ((rd l0_4 p80) - 1)) then impl_KeeperOk.l2 k81 l0_0 l0_1 l0_2 a0_3 l0_4 q48 q49 (wrap64 (p80 + 1)) else some false else none) else none) else some false) else none) else none) else none else impl_KeeperOk.l3 k81 l0_0 l0_1 l0_2 a0_3 l0_4 0
def impl_KeeperOk.l3 : Nat → (List S98) → (List Int) → (List S97) → Int → (List Int) → Int → Option (Bool)
 | 0, _, _, _, _, _, _ => none
 | k109 + 1, l0_0, l0_1, l0_2, a0_3, l0_4, p108 => if p108 < (l0_2.length : Int) then if 0 ≤ p108 then (impl_isPid.f ((rd_T97 l0_2 p108).f0)).bind fun t112 => (if t112 = true then ((impl_ItemOk.f ((rd_T97 l0_2 p108).f2.f0) ((rd_T97 l0_2 p108).f2.f1) ((rd_T97 l0_2 p108).f2.f2) ((rd_T97 l0_2 p108).f2.f3)).bind fun t115 => (if t115 = true then (if 0 ≤ ((rd_T97 l0_2 p108).f0) then (if ((rd_T97 l0_2 p108).f0) < (l0_1.length : Int) then (if ((rd_T97 l0_2 p108).f1) ≤ (rd l0_1 ((rd_T97 l0_2 p108).f0)) then some false else (if ((rd_T97 l0_2 p108).f1) > 1000000000 then some false else (if p108 ≤ (l0_2.length : Int) then ((impl_earlyAt.f k109 (l0_2.take p108.toNat) ((rd_T97 l0_2 p108).f0) ((rd_T97 l0_2 p108).f1)).bind fun t123 => if t123 ≥ 0 then some false else impl_KeeperOk.l3 k109 l0_0 l0_1 l0_2 a0_3 l0_4 (wrap64 (p108 + 1))) else none))) else none) else none) else some false)) else some false) else none else some true
end
def impl_KeeperOk.f (k : Nat) (l0_0 : List S98) (l0_1 : List Int) (l0_2 : List S97) (a0_3 : Int) (l0_4 : List Int) : Option (Bool) := if (l0_1.length : Int) = 3 then (if (l0_4.length : Int) = 3 then (if (l0_0.length : Int) > 200 then some false else ((impl_within.f a0_3 0 (l0_0.length : Int)).bind fun t4 => (if t4 = true then if (l0_2.length : Int) > 3 then some false else impl_KeeperOk.l0 k l0_0 l0_1 l0_2 a0_3 l0_4 0 else some false))) else some false) else some false
theorem impl_KeeperOk.ok {k : Nat} {l0_0 : List S98} {l0_1 : List Int} {l0_2 : List S97} {a0_3 : Int} {l0_4 : List Int} {r : Bool} (H : impl_KeeperOk.f k l0_0 l0_1 l0_2 a0_3 l0_4 = some r) : ACalls Try.prog 12 [] [.agg [.sl .o 6 (l0_0.map e98), .sl .o 1 (l0_1.map (eI .i64)), .sl .o 6 (l0_2.map e97), .lit (.int .i64 a0_3), .sl .o 1 (l0_4.map (eI .i64))]] [] (.lit (.bool r)) := by
 refine acalls (fn := Try.f12) (nt := 182) Try.func12 rfl rfl (Nat.le_of_ble_eq_true rfl) fun E hE => ?_
 rw [impl_KeeperOk.f] at H
 refine aw_grp1 ?_
 refine wk_start ?_
 refine kb g0 (bxA 0) ?_
 refine kv g0 (asg) ?_
 refine wk_end ?_
 refine ac_next ?_
 refine aw_grp1 ?_
 refine aw_grp1 ?_
 refine wk_start ?_
 refine kv g0 (faB 1 1) ?_
 refine kv g0 (ldB) ?_
 refine kv g0 (lnS lenE) ?_
 refine kv g0 (neq) ?_
 refine kv g0 (mv) ?_
 by_cases c1 : (l0_1.length : Int) = 3
 ·rw [if_pos c1] at H
  refine kv (g1 (eM c1)) (faB 4 4) ?_
  refine kv (g1 (eM c1)) (ldB) ?_
  refine kv (g1 (eM c1)) (lnS lenE) ?_
  refine kv (g1 (eM c1)) (neq) ?_
  refine kv g0 (pkF (eM c1)) ?_
  refine kv g0 (mv) ?_
  by_cases c2 : (l0_4.length : Int) = 3
  ·rw [if_pos c2] at H
   refine kv (g1 (eM c2)) (faB 0 0) ?_
   refine kv (g1 (eM c2)) (ldB) ?_
   refine kv (g1 (eM c2)) (lnS lenE) ?_
   refine kv (g1 (eM c2)) (gtr) ?_
   refine kv g0 (pkF (eM c2)) ?_
   refine kv g0 (mv) ?_
   by_cases c3 : (l0_0.length : Int) > 200
   ·rw [if_pos c3] at H
    refine kx (hF (decide_eq_true c3)) ?_
    refine kx (hF (decide_eq_true c3)) ?_
    refine kx (hF (decide_eq_true c3)) ?_
    refine kx (hF (decide_eq_true c3)) ?_
    refine kx (hF (decide_eq_true c3)) ?_
    refine kx (hF (decide_eq_true c3)) ?_
    refine kx (hF (decide_eq_true c3)) ?_
    refine kv g0 (pkT (decide_eq_true c3)) ?_
    refine kv g0 (mv) ?_
    refine kx (hF rfl) ?_
    refine kx (hF rfl) ?_
    refine kx (hF rfl) ?_
    refine kx (hF rfl) ?_
    refine kv g0 (pkT rfl) ?_
    refine wk_end ?_
    refine ac_next ?_
    refine aw_ifT ?_ rfl
    refine aw_grp1 ?_
    refine wk_start ?_
    refine kv g0 (asg) ?_
    refine wk_end ?_
    refine ac_next ?_
    refine aw_ret ?_
    refine ac_thenR ?_
    obtain rfl := Option.some.inj H
    exact acr hE [.tmp 2] (.tmp .nil) (.one _) [] 9999
   rw [if_neg c3] at H
   refine kv (g1 (decide_eq_false c3)) (faB 3 3) ?_
   refine kv (g1 (decide_eq_false c3)) (ldB) ?_
   refine kv (g1 (decide_eq_false c3)) (faB 0 0) ?_
   refine kv (g1 (decide_eq_false c3)) (ldB) ?_
   refine kv (g1 (decide_eq_false c3)) (lnS lenE) ?_
   obtain ⟨t4, A5, H⟩ := of_bind H
   refine kcS0 33 (.lit (.bool t4)) [] (g1 (decide_eq_false c3)) (cal (impl_within.ok A5) [] 9999 .n (hf := Try.func55)) rfl rfl ?_
   refine kv (g1 (decide_eq_false c3)) (not_) ?_
   refine kv g0 (pkF (decide_eq_false c3)) ?_
   refine kv g0 (mv) ?_
   by_cases c6 : t4 = true
   ·rw [if_pos c6] at H
    refine kv (g1 (nF c6)) (faB 2 2) ?_
    refine kv (g1 (nF c6)) (ldB) ?_
    refine kv (g1 (nF c6)) (lnS lenE) ?_
    refine kv (g1 (nF c6)) (gtr) ?_
    refine kv g0 (pkF (nF c6)) ?_
    refine wk_end ?_
    refine ac_next ?_
    by_cases c7 : (l0_2.length : Int) > 3
    ·rw [if_pos c7] at H
     refine aw_ifT ?_ (decide_eq_true c7)
     refine aw_grp1 ?_
     refine wk_start ?_
     refine kv g0 (asg) ?_
     refine wk_end ?_
     refine ac_next ?_
     refine aw_ret ?_
     refine ac_thenR ?_
     obtain rfl := Option.some.inj H
     exact acr hE [.tmp 2] (.tmp .nil) (.one _) [] 9999
    rw [if_neg c7] at H
    refine aw_ifF ?_ (decide_eq_false c7)
    refine aw_skip ?_
    refine ac_next ?_
    refine aw_grp1 ?_
    refine aw_grp1 ?_
    refine wk_start ?_
    refine kv g0 (mv) ?_
    refine wk_end ?_
    refine ac_next ?_
    refine aw_block ?_
    refine aw_loop1 (fun (k_ : Nat) (p17 : Int) => k_ ≤ k ∧ impl_KeeperOk.l0 k_ l0_0 l0_1 l0_2 a0_3 l0_4 p17 = some r) (fun (p17 : Int) => ⟨[(1, .box 0 0), (42, .lit (.int .i64 p17))], [(0, .box 29 [.sl .o 6 (l0_0.map e98), .sl .o 1 (l0_1.map (eI .i64)), .sl .o 6 (l0_2.map e97), .lit (.int .i64 a0_3), .sl .o 1 (l0_4.map (eI .i64))])]⟩) k 0 ⟨Nat.le_refl _, H⟩ (fun K_ h_ => acw hE [(0, 0)] 9999 h_) (fun _ => by intro h_; have h_ := h_.2; rw [impl_KeeperOk.l0.eq_1] at h_; cases h_) ?_
    intro k18 p17 hq_ K29 hK30
    have hk18 := hq_.1
    have H := hq_.2
    clear hq_
    rw [impl_KeeperOk.l0.eq_2] at H
    refine aw_grp1 ?_
    refine wk_start ?_
    refine kv g0 (lss) ?_
    refine wk_end ?_
    refine ac_next ?_
    refine aw_grp1 ?_
    by_cases c19 : p17 < 3
    ·rw [if_pos c19] at H
     refine aw_ifT ?_ (decide_eq_true c19)
     refine aw_skip ?_
     refine ac_next ?_
     refine aw_grp1 ?_
     refine aw_block ?_
     refine aw_grp1 ?_
     refine wk_start ?_
     refine kv g0 (mv) ?_
     refine kv g0 (asg) ?_
     refine wk_end ?_
     refine ac_next ?_
     refine aw_grp1 ?_
     refine wk_start ?_
     refine kv g0 (faB 1 1) ?_
     refine kv g0 (ldB) ?_
     refine kv g0 (mv) ?_
     obtain ⟨c20, H⟩ := of_if H
     obtain ⟨c21, H⟩ := of_if H
     refine kv g0 (ixS 3 (eI .i64 (rd l0_1 p17)) c20 (getE (z := (0 : Int)) c20 c21)) ?_
     refine kv g0 (ldR (.lit (.int .i64 (rd l0_1 p17)))) ?_
     obtain ⟨t22, A23, H⟩ := of_bind H
     refine kcS0 50 (.lit (.bool t22)) [] g0 (cal (impl_within.ok A23) [] 9999 .n (hf := Try.func55)) rfl rfl ?_
     refine kv g0 (not_) ?_
     refine kv g0 (mv) ?_
     by_cases c24 : t22 = true
     ·rw [if_pos c24] at H
      refine kv (g1 (nF c24)) (faB 4 4) ?_
      refine kv (g1 (nF c24)) (ldB) ?_
      refine kv (g1 (nF c24)) (mv) ?_
      obtain ⟨c25, H⟩ := of_if H
      refine kv (g1 (nF c24)) (ixS 3 (eI .i64 (rd l0_4 p17)) c20 (getE (z := (0 : Int)) c20 c25)) ?_
      refine kv (g1 (nF c24)) (ldR (.lit (.int .i64 (rd l0_4 p17)))) ?_
      refine kv (g1 (nF c24)) (faB 1 1) ?_
      refine kv (g1 (nF c24)) (ldB) ?_
      refine kv (g1 (nF c24)) (mv) ?_
      refine kv (g1 (nF c24)) (ixS 3 (eI .i64 (rd l0_1 p17)) c20 (getE (z := (0 : Int)) c20 c21)) ?_
      refine kv (g1 (nF c24)) (ldR (.lit (.int .i64 (rd l0_1 p17)))) ?_
      obtain ⟨t26, A27, H⟩ := of_bind H
      refine kcS0 63 (.lit (.bool t26)) [] (g1 (nF c24)) (cal (impl_within.ok A27) [] 9999 .n (hf := Try.func55)) rfl rfl ?_
      refine kv (g1 (nF c24)) (not_) ?_
      refine kv g0 (pkF (nF c24)) ?_
      refine wk_end_draw hM (by kernel_rfl) ?_
      refine ac_next ?_
      by_cases c28 : t26 = true
      ·rw [if_pos c28] at H
       refine aw_ifF ?_ (nF c28)
       refine aw_skip ?_
       refine ac_blkN ?_
       refine ac_next ?_
       refine wk_start ?_
       refine kv g0 (add6) ?_
       refine kv g0 (mv) ?_
       refine wk_end ?_
       refine ac_k ?_
       exact acw hE [(0, 0)] 9999 (hK30 k18 (wrap64 (p17 + 1)) (Nat.le_refl _) ⟨by omega, H⟩)
      rw [if_neg c28] at H
      refine aw_ifT ?_ (nT (bF c28))
      refine aw_grp1 ?_
      refine wk_start ?_
      refine kv g0 (asg) ?_
      refine wk_end ?_
      refine ac_next ?_
      refine aw_ret ?_
      refine ac_blkR ?_
      refine ac_thenR ?_
      refine ac_thenR ?_
      refine ac_blkR ?_
      refine ac_thenR ?_
      obtain rfl := Option.some.inj H
      exact acr hE [.tmp 2] (.tmp .nil) (.one _) [] 9999
     rw [if_neg c24] at H
     refine kx (hF (nT (bF c24))) ?_
     refine kx (hF (nT (bF c24))) ?_
     refine kx (hF (nT (bF c24))) ?_
     refine kx (hF (nT (bF c24))) ?_
     refine kx (hF (nT (bF c24))) ?_
     refine kx (hF (nT (bF c24))) ?_
     refine kx (hF (nT (bF c24))) ?_
     refine kx (hF (nT (bF c24))) ?_
     refine kx (hF (nT (bF c24))) ?_
     refine kx (hF (nT (bF c24))) ?_
     refine kx (hF (nT (bF c24))) ?_
     refine kx (hF (nT (bF c24))) ?_
     refine kv g0 (pkT (nT (bF c24))) ?_
     refine wk_end_draw hM (by kernel_rfl) ?_
     refine ac_next ?_
     refine aw_ifT ?_ rfl
     refine aw_grp1 ?_
     refine wk_start ?_
     refine kv g0 (asg) ?_
     refine wk_end ?_
     refine ac_next ?_
     refine aw_ret ?_
     refine ac_blkR ?_
     refine ac_thenR ?_
     refine ac_thenR ?_
     refine ac_blkR ?_
     refine ac_thenR ?_
     obtain rfl := Option.some.inj H
     exact acr hE [.tmp 2] (.tmp .nil) (.one _) [] 9999
    rw [if_neg c19] at H
    refine aw_ifF ?_ (decide_eq_false c19)
    refine aw_exit ?_
    refine ac_then ?_
    refine ac_then ?_
    refine ac_hit rfl ?_
    refine ac_next ?_
    refine aw_grp1 ?_
    refine wk_start ?_
    refine kb g0 (alc 1 [.int .i64 0, .int .i64 0, .int .i64 0] ((List.replicate 3 (0 : Int)).map (eI .i64))) ?_
    refine kb g0 (alc 2 [.int .i64 0, .int .i64 0, .int .i64 0] ((List.replicate 3 (0 : Int)).map (eI .i64))) ?_
    refine wk_end ?_
    refine ac_next ?_
    refine aw_grp1 ?_
    refine aw_grp1 ?_
    refine wk_start ?_
    refine kv g0 (faB 0 0) ?_
    refine kv g0 (ldB) ?_
    refine kv g0 (lnS lenE) ?_
    refine kv g0 (mv) ?_
    refine wk_end ?_
    refine ac_next ?_
    refine aw_block ?_
    refine aw_loop3 (fun (k_ : Nat) (q48 : List Int) (q49 : List Int) (p50 : Int) => k_ ≤ k18 ∧ impl_KeeperOk.l1 k_ l0_0 l0_1 l0_2 a0_3 l0_4 q48 q49 p50 = some r) (fun (q48 : List Int) (q49 : List Int) (p50 : Int) => ⟨[(1, .box 0 0), (4, .box 1 0), (5, .box 2 0), (68, .sl .o 6 (l0_0.map e98)), (69, .lit (.int .i64 (l0_0.length : Int))), (70, .lit (.int .i64 p50))], [(0, .box 29 [.sl .o 6 (l0_0.map e98), .sl .o 1 (l0_1.map (eI .i64)), .sl .o 6 (l0_2.map e97), .lit (.int .i64 a0_3), .sl .o 1 (l0_4.map (eI .i64))]), (1, .box 100 (q48.map (eI .i64))), (2, .box 100 (q49.map (eI .i64)))]⟩) k18 (List.replicate 3 (0 : Int)) (List.replicate 3 (0 : Int)) 0 ⟨Nat.le_refl _, H⟩ (fun K_ h_ => acw hE [(0, 0), (1, 1), (2, 2)] 9999 h_) (fun _ _ _ => by intro h_; have h_ := h_.2; rw [impl_KeeperOk.l1.eq_1] at h_; cases h_) ?_
    intro k51 q48 q49 p50 hq_ K70 hK71
    have hk51 := hq_.1
    have H := hq_.2
    clear hq_
    rw [impl_KeeperOk.l1.eq_2] at H
    refine aw_grp1 ?_
    refine wk_start ?_
    refine kv g0 (lss) ?_
    refine wk_end ?_
    refine ac_next ?_
    refine aw_grp1 ?_
    by_cases c52 : p50 < (l0_0.length : Int)
    ·rw [if_pos c52] at H
     refine aw_ifT ?_ (decide_eq_true c52)
     refine aw_skip ?_
     refine ac_next ?_
     refine aw_grp1 ?_
     refine aw_block ?_
     refine aw_grp1 ?_
     refine wk_start ?_
     refine kv g0 (mv) ?_
     obtain ⟨c53, H⟩ := of_if H
     refine kv g0 (ixS 98 (e98 (rd_T98 l0_0 p50)) c53 (getE (z := z98) c53 c52)) ?_
     refine kv g0 (ldRA 6 [.lit (.int .i64 ((rd_T98 l0_0 p50).f0)), .lit (.int .i64 ((rd_T98 l0_0 p50).f1)), .lit (.int .i64 ((rd_T98 l0_0 p50).f2.f0)), .lit (.int .i64 ((rd_T98 l0_0 p50).f2.f1)), .lit (.int .i64 ((rd_T98 l0_0 p50).f2.f2)), .lit (.int .i64 ((rd_T98 l0_0 p50).f2.f3))]) ?_
     refine kb g0 (alc 3 [.int .i64 0, .int .i64 0, .int .i64 0, .int .i64 0, .int .i64 0, .int .i64 0] [.lit (.int .i64 0), .lit (.int .i64 0), .lit (.int .i64 0), .lit (.int .i64 0), .lit (.int .i64 0), .lit (.int .i64 0)]) ?_
     refine kv g0 (asg) ?_
     refine ks g0 (stB 6 [.lit (.int .i64 ((rd_T98 l0_0 p50).f0)), .lit (.int .i64 ((rd_T98 l0_0 p50).f1)), .lit (.int .i64 ((rd_T98 l0_0 p50).f2.f0)), .lit (.int .i64 ((rd_T98 l0_0 p50).f2.f1)), .lit (.int .i64 ((rd_T98 l0_0 p50).f2.f2)), .lit (.int .i64 ((rd_T98 l0_0 p50).f2.f3))]) ?_
     refine wk_end ?_
     refine ac_next ?_
     refine aw_grp1 ?_
     refine aw_grp1 ?_
     refine wk_start ?_
     refine kv g0 (faB 0 0) ?_
     refine kv g0 (ldB) ?_
     obtain ⟨t54, A55, H⟩ := of_bind H
     refine kcS0 77 (.lit (.bool t54)) [] g0 (cal (impl_isPid.ok A55) [] 9999 .n (hf := Try.func56)) rfl rfl ?_
     refine kv g0 (not_) ?_
     refine kv g0 (mv) ?_
     by_cases c56 : t54 = true
     ·rw [if_pos c56] at H
      refine kv (g1 (nF c56)) (faB 2 2) ?_
      refine kv (g1 (nF c56)) (ldBA 4 [.lit (.int .i64 ((rd_T98 l0_0 p50).f2.f0)), .lit (.int .i64 ((rd_T98 l0_0 p50).f2.f1)), .lit (.int .i64 ((rd_T98 l0_0 p50).f2.f2)), .lit (.int .i64 ((rd_T98 l0_0 p50).f2.f3))]) ?_
      obtain ⟨t57, A58, H⟩ := of_bind H
      refine kcS0 82 (.lit (.bool t57)) [] (g1 (nF c56)) (cal (impl_ItemOk.ok A58) [] 9999 .n (hf := Try.func57)) rfl rfl ?_
      refine kv (g1 (nF c56)) (not_) ?_
      refine kv g0 (pkF (nF c56)) ?_
      refine wk_end ?_
      refine ac_next ?_
      by_cases c59 : t57 = true
      ·rw [if_pos c59] at H
       refine aw_ifF ?_ (nF c59)
       refine aw_skip ?_
       refine ac_next ?_
       refine aw_grp1 ?_
       refine wk_start ?_
       refine kv g0 (faB 0 0) ?_
       refine kv g0 (ldB) ?_
       obtain ⟨c60, H⟩ := of_if H
       obtain ⟨c61, H⟩ := of_if H
       obtain ⟨c62, H⟩ := of_if H
       refine kv g0 (ixX 3 c60 c61) ?_
       refine kv g0 (ldX (z := (0 : Int)) c60 c62 (.lit (.int .i64 (rd q48 ((rd_T98 l0_0 p50).f0)))) rfl) ?_
       refine kv g0 (add6) ?_
       refine kv g0 (ixX 3 c60 c61) ?_
       refine ks g0 (stX (e := wrap64 ((rd q48 ((rd_T98 l0_0 p50).f0)) + 1)) c60 c62 rfl) ?_
       refine wk_end ?_
       refine ac_next ?_
       refine aw_cut1 (J := fun K_ => ∀ (k_ : Nat) (q65 : List Int), k_ ≤ k51 → impl_KeeperOk.j0 k_ l0_0 l0_1 l0_2 a0_3 l0_4 q48 p50 q65 = some r → ACont E 182 ⟨[(1, .box 0 0), (4, .box 1 0), (5, .box 2 0), (7, .box 3 0), (68, .sl .o 6 (l0_0.map e98)), (69, .lit (.int .i64 (l0_0.length : Int))), (70, .lit (.int .i64 p50))], [(0, .box 29 [.sl .o 6 (l0_0.map e98), .sl .o 1 (l0_1.map (eI .i64)), .sl .o 6 (l0_2.map e97), .lit (.int .i64 a0_3), .sl .o 1 (l0_4.map (eI .i64))]), (1, .box 100 ((q48.set ((rd_T98 l0_0 p50).f0).toNat (wrap64 ((rd q48 ((rd_T98 l0_0 p50).f0)) + 1))).map (eI .i64))), (2, .box 100 (q65.map (eI .i64))), (3, .box 98 [.lit (.int .i64 ((rd_T98 l0_0 p50).f0)), .lit (.int .i64 ((rd_T98 l0_0 p50).f1)), .lit (.int .i64 ((rd_T98 l0_0 p50).f2.f0)), .lit (.int .i64 ((rd_T98 l0_0 p50).f2.f1)), .lit (.int .i64 ((rd_T98 l0_0 p50).f2.f2)), .lit (.int .i64 ((rd_T98 l0_0 p50).f2.f3))])]⟩ K_) ?_ ?_
       ·intro K_ hJ69
        refine aw_grp1 ?_
        refine wk_start ?_
        refine kv g0 (mv) ?_
        refine kv g0 (faB 3 3) ?_
        refine kv g0 (ldB) ?_
        refine kv g0 (lss) ?_
        refine wk_end ?_
        refine ac_next ?_
        by_cases c63 : p50 < a0_3
        ·rw [if_pos c63] at H
         refine aw_ifT ?_ (decide_eq_true c63)
         refine wk_start ?_
         refine kv g0 (faB 0 0) ?_
         refine kv g0 (ldB) ?_
         obtain ⟨c64, H⟩ := of_if H
         refine kv g0 (ixX 3 c60 c61) ?_
         refine kv g0 (ldX (z := (0 : Int)) c60 c64 (.lit (.int .i64 (rd q49 ((rd_T98 l0_0 p50).f0)))) rfl) ?_
         refine kv g0 (add6) ?_
         refine kv g0 (ixX 3 c60 c61) ?_
         refine ks g0 (stX (e := wrap64 ((rd q49 ((rd_T98 l0_0 p50).f0)) + 1)) c60 c64 rfl) ?_
         refine wk_end ?_
         refine ac_k ?_
         exact acw hE [(0, 0), (1, 1), (2, 2), (3, 3)] 9999 (hJ69 k51 (q49.set ((rd_T98 l0_0 p50).f0).toNat (wrap64 ((rd q49 ((rd_T98 l0_0 p50).f0)) + 1))) (Nat.le_refl _) H)
        rw [if_neg c63] at H
        refine aw_ifF ?_ (decide_eq_false c63)
        refine aw_skip ?_
        refine ac_k ?_
        exact acw hE [(0, 0), (1, 1), (2, 2), (3, 3)] 9999 (hJ69 k51 q49 (Nat.le_refl _) H)
       intro k_ q65 hk_ H
       rcases k_ with _ | k66
       ·rw [impl_KeeperOk.j0.eq_1] at H; cases H
       have hk66 : k66 ≤ k51 := by omega
       clear hk_
       rw [impl_KeeperOk.j0.eq_2] at H
       refine aw_grp1 ?_
       refine wk_start ?_
       refine kv g0 (faB 1 1) ?_
       refine kv g0 (ldB) ?_
       refine kv g0 (faB 0 0) ?_
       refine kv g0 (ldB) ?_
       obtain ⟨c67, H⟩ := of_if H
       refine kv g0 (ixX 3 c60 c61) ?_
       refine kv g0 (ldX (z := (0 : Int)) c60 c67 (.lit (.int .i64 (rd (q48.set ((rd_T98 l0_0 p50).f0).toNat (wrap64 ((rd q48 ((rd_T98 l0_0 p50).f0)) + 1))) ((rd_T98 l0_0 p50).f0)))) rfl) ?_
       refine kv g0 (neq) ?_
       refine wk_end_draw hM (by kernel_rfl) ?_
       refine ac_next ?_
       by_cases c68 : ((rd_T98 l0_0 p50).f1) = (rd (q48.set ((rd_T98 l0_0 p50).f0).toNat (wrap64 ((rd q48 ((rd_T98 l0_0 p50).f0)) + 1))) ((rd_T98 l0_0 p50).f0))
       ·rw [if_pos c68] at H
        refine aw_ifF ?_ (eM c68)
        refine aw_skip ?_
        refine ac_blkN ?_
        refine ac_next ?_
        refine wk_start ?_
        refine kv g0 (add6) ?_
        refine kv g0 (mv) ?_
        refine wk_end ?_
        refine ac_k ?_
        exact acw hE [(0, 0), (1, 1), (2, 2)] 9999 (hK71 k66 (q48.set ((rd_T98 l0_0 p50).f0).toNat (wrap64 ((rd q48 ((rd_T98 l0_0 p50).f0)) + 1))) q65 (wrap64 (p50 + 1)) (by omega) ⟨by omega, H⟩)
       rw [if_neg c68] at H
       refine aw_ifT ?_ (eN c68)
       refine aw_grp1 ?_
       refine wk_start ?_
       refine kv g0 (asg) ?_
       refine wk_end ?_
       refine ac_next ?_
       refine aw_ret ?_
       refine ac_blkR ?_
       refine ac_thenR ?_
       refine ac_thenR ?_
       refine ac_blkR ?_
       refine ac_thenR ?_
       obtain rfl := Option.some.inj H
       exact acr hE [.tmp 2] (.tmp .nil) (.one _) [] 9999
      rw [if_neg c59] at H
      refine aw_ifT ?_ (nT (bF c59))
      refine aw_grp1 ?_
      refine wk_start ?_
      refine kv g0 (asg) ?_
      refine wk_end ?_
      refine ac_next ?_
      refine aw_ret ?_
      refine ac_thenR ?_
      refine ac_blkR ?_
      refine ac_thenR ?_
      refine ac_thenR ?_
      refine ac_blkR ?_
      refine ac_thenR ?_
      obtain rfl := Option.some.inj H
      exact acr hE [.tmp 2] (.tmp .nil) (.one _) [] 9999
     rw [if_neg c56] at H
     refine kx (hF (nT (bF c56))) ?_
     refine kx (hF (nT (bF c56))) ?_
     refine kx (hF (nT (bF c56))) ?_
     refine kx (hF (nT (bF c56))) ?_
     refine kv g0 (pkT (nT (bF c56))) ?_
     refine wk_end ?_
     refine ac_next ?_
     refine aw_ifT ?_ rfl
     refine aw_grp1 ?_
     refine wk_start ?_
     refine kv g0 (asg) ?_
     refine wk_end ?_
     refine ac_next ?_
     refine aw_ret ?_
     refine ac_thenR ?_
     refine ac_blkR ?_
     refine ac_thenR ?_
     refine ac_thenR ?_
     refine ac_blkR ?_
     refine ac_thenR ?_
     obtain rfl := Option.some.inj H
     exact acr hE [.tmp 2] (.tmp .nil) (.one _) [] 9999
    rw [if_neg c52] at H
    refine aw_ifF ?_ (decide_eq_false c52)
    refine aw_exit ?_
    refine ac_then ?_
    refine ac_then ?_
    refine ac_hit rfl ?_
    refine ac_next ?_
    refine aw_grp1 ?_
    refine aw_grp1 ?_
    refine wk_start ?_
    refine kv g0 (mv) ?_
    refine wk_end ?_
    refine ac_next ?_
    refine aw_block ?_
    refine aw_loop1 (fun (k_ : Nat) (p80 : Int) => k_ ≤ k51 ∧ impl_KeeperOk.l2 k_ l0_0 l0_1 l0_2 a0_3 l0_4 q48 q49 p80 = some r) (fun (p80 : Int) => ⟨[(1, .box 0 0), (4, .box 1 0), (5, .box 2 0), (109, .lit (.int .i64 p80))], [(0, .box 29 [.sl .o 6 (l0_0.map e98), .sl .o 1 (l0_1.map (eI .i64)), .sl .o 6 (l0_2.map e97), .lit (.int .i64 a0_3), .sl .o 1 (l0_4.map (eI .i64))]), (1, .box 100 (q48.map (eI .i64))), (2, .box 100 (q49.map (eI .i64)))]⟩) k51 0 ⟨Nat.le_refl _, H⟩ (fun K_ h_ => acw hE [(0, 0), (1, 1), (2, 2)] 9999 h_) (fun _ => by intro h_; have h_ := h_.2; rw [impl_KeeperOk.l2.eq_1] at h_; cases h_) ?_
    intro k81 p80 hq_ K90 hK91
    have hk81 := hq_.1
    have H := hq_.2
    clear hq_
    rw [impl_KeeperOk.l2.eq_2] at H
    refine aw_grp1 ?_
    refine wk_start ?_
    refine kv g0 (lss) ?_
    refine wk_end ?_
    refine ac_next ?_
    refine aw_grp1 ?_
    by_cases c82 : p80 < 3
    ·rw [if_pos c82] at H
     refine aw_ifT ?_ (decide_eq_true c82)
     refine aw_skip ?_
     refine ac_next ?_
     refine aw_grp1 ?_
     refine aw_block ?_
     refine aw_grp1 ?_
     refine wk_start ?_
     refine kv g0 (mv) ?_
     refine kv g0 (asg) ?_
     refine wk_end ?_
     refine ac_next ?_
     refine aw_grp1 ?_
     refine wk_start ?_
     refine kv g0 (mv) ?_
     obtain ⟨c83, H⟩ := of_if H
     obtain ⟨c84, H⟩ := of_if H
     refine kv g0 (ixX 3 c83 c82) ?_
     refine kv g0 (ldX (z := (0 : Int)) c83 c84 (.lit (.int .i64 (rd q48 p80))) rfl) ?_
     refine kv g0 (faB 1 1) ?_
     refine kv g0 (ldB) ?_
     refine kv g0 (mv) ?_
     obtain ⟨c85, H⟩ := of_if H
     refine kv g0 (ixS 3 (eI .i64 (rd l0_1 p80)) c83 (getE (z := (0 : Int)) c83 c85)) ?_
     refine kv g0 (ldR (.lit (.int .i64 (rd l0_1 p80)))) ?_
     refine kv g0 (sub6) ?_
     refine kv g0 (neq) ?_
     refine kv g0 (mv) ?_
     by_cases c86 : (rd q48 p80) = (wrap64 ((rd l0_1 p80) - 1))
     ·rw [if_pos c86] at H
      refine kv (g1 (eM c86)) (mv) ?_
      obtain ⟨c87, H⟩ := of_if H
      refine kv (g1 (eM c86)) (ixX 3 c83 c82) ?_
      refine kv (g1 (eM c86)) (ldX (z := (0 : Int)) c83 c87 (.lit (.int .i64 (rd q49 p80))) rfl) ?_
      refine kv (g1 (eM c86)) (faB 4 4) ?_
      refine kv (g1 (eM c86)) (ldB) ?_
      refine kv (g1 (eM c86)) (mv) ?_
      obtain ⟨c88, H⟩ := of_if H
      refine kv (g1 (eM c86)) (ixS 3 (eI .i64 (rd l0_4 p80)) c83 (getE (z := (0 : Int)) c83 c88)) ?_
      refine kv (g1 (eM c86)) (ldR (.lit (.int .i64 (rd l0_4 p80)))) ?_
      refine kv (g1 (eM c86)) (sub6) ?_
      refine kv (g1 (eM c86)) (neq) ?_
      refine kv g0 (pkF (eM c86)) ?_
      refine wk_end_draw hM (by kernel_rfl) ?_
      refine ac_next ?_
      by_cases c89 : (rd q49 p80) = (wrap64 ((rd l0_4 p80) - 1))
      ·rw [if_pos c89] at H
       refine aw_ifF ?_ (eM c89)
       refine aw_skip ?_
       refine ac_blkN ?_
       refine ac_next ?_
       refine wk_start ?_
       refine kv g0 (add6) ?_
       refine kv g0 (mv) ?_
       refine wk_end ?_
       refine ac_k ?_
       exact acw hE [(0, 0), (1, 1), (2, 2)] 9999 (hK91 k81 (wrap64 (p80 + 1)) (Nat.le_refl _) ⟨by omega, H⟩)
      rw [if_neg c89] at H
      refine aw_ifT ?_ (eN c89)
      refine aw_grp1 ?_
      refine wk_start ?_
      refine kv g0 (asg) ?_
      refine wk_end ?_
      refine ac_next ?_
      refine aw_ret ?_
      refine ac_blkR ?_
      refine ac_thenR ?_
      refine ac_thenR ?_
      refine ac_blkR ?_
      refine ac_thenR ?_
      obtain rfl := Option.some.inj H
      exact acr hE [.tmp 2] (.tmp .nil) (.one _) [] 9999
     rw [if_neg c86] at H
     refine kx (hF (eN c86)) ?_
     refine kx (hF (eN c86)) ?_
     refine kx (hF (eN c86)) ?_
     refine kx (hF (eN c86)) ?_
     refine kx (hF (eN c86)) ?_
     refine kx (hF (eN c86)) ?_
     refine kx (hF (eN c86)) ?_
     refine kx (hF (eN c86)) ?_
     refine kx (hF (eN c86)) ?_
     refine kx (hF (eN c86)) ?_
     refine kv g0 (pkT (eN c86)) ?_
     refine wk_end_draw hM (by kernel_rfl) ?_
     refine ac_next ?_
     refine aw_ifT ?_ rfl
     refine aw_grp1 ?_
     refine wk_start ?_
     refine kv g0 (asg) ?_
     refine wk_end ?_
     refine ac_next ?_
     refine aw_ret ?_
     refine ac_blkR ?_
     refine ac_thenR ?_
     refine ac_thenR ?_
     refine ac_blkR ?_
     refine ac_thenR ?_
     obtain rfl := Option.some.inj H
     exact acr hE [.tmp 2] (.tmp .nil) (.one _) [] 9999
    rw [if_neg c82] at H
    refine aw_ifF ?_ (decide_eq_false c82)
    refine aw_exit ?_
    refine ac_then ?_
    refine ac_then ?_
    refine ac_hit rfl ?_
    refine ac_next ?_
    refine aw_grp1 ?_
    refine aw_grp1 ?_
    refine wk_start ?_
    refine kv g0 (faB 2 2) ?_
    refine kv g0 (ldB) ?_
    refine kv g0 (lnS lenE) ?_
    refine kv g0 (mv) ?_
    refine wk_end ?_
    refine ac_next ?_
    refine aw_block ?_
    refine aw_loop1 (fun (k_ : Nat) (p108 : Int) => k_ ≤ k81 ∧ impl_KeeperOk.l3 k_ l0_0 l0_1 l0_2 a0_3 l0_4 p108 = some r) (fun (p108 : Int) => ⟨[(1, .box 0 0), (136, .sl .o 6 (l0_2.map e97)), (137, .lit (.int .i64 (l0_2.length : Int))), (138, .lit (.int .i64 p108))], [(0, .box 29 [.sl .o 6 (l0_0.map e98), .sl .o 1 (l0_1.map (eI .i64)), .sl .o 6 (l0_2.map e97), .lit (.int .i64 a0_3), .sl .o 1 (l0_4.map (eI .i64))])]⟩) k81 0 ⟨Nat.le_refl _, H⟩ (fun K_ h_ => acw hE [(0, 0)] 9999 h_) (fun _ => by intro h_; have h_ := h_.2; rw [impl_KeeperOk.l3.eq_1] at h_; cases h_) ?_
    intro k109 p108 hq_ K126 hK127
    have hk109 := hq_.1
    have H := hq_.2
    clear hq_
    rw [impl_KeeperOk.l3.eq_2] at H
    refine aw_grp1 ?_
    refine wk_start ?_
    refine kv g0 (lss) ?_
    refine wk_end ?_
    refine ac_next ?_
    refine aw_grp1 ?_
    by_cases c110 : p108 < (l0_2.length : Int)
    ·rw [if_pos c110] at H
     refine aw_ifT ?_ (decide_eq_true c110)
     refine aw_skip ?_
     refine ac_next ?_
     refine aw_grp1 ?_
     refine aw_block ?_
     refine aw_grp1 ?_
     refine wk_start ?_
     refine kv g0 (mv) ?_
     obtain ⟨c111, H⟩ := of_if H
     refine kv g0 (ixS 97 (e97 (rd_T97 l0_2 p108)) c111 (getE (z := z97) c111 c110)) ?_
     refine kv g0 (ldRA 6 [.lit (.int .i64 ((rd_T97 l0_2 p108).f0)), .lit (.int .i64 ((rd_T97 l0_2 p108).f1)), .lit (.int .i64 ((rd_T97 l0_2 p108).f2.f0)), .lit (.int .i64 ((rd_T97 l0_2 p108).f2.f1)), .lit (.int .i64 ((rd_T97 l0_2 p108).f2.f2)), .lit (.int .i64 ((rd_T97 l0_2 p108).f2.f3))]) ?_
     refine kb g0 (alc 4 [.int .i64 0, .int .i64 0, .int .i64 0, .int .i64 0, .int .i64 0, .int .i64 0] [.lit (.int .i64 0), .lit (.int .i64 0), .lit (.int .i64 0), .lit (.int .i64 0), .lit (.int .i64 0), .lit (.int .i64 0)]) ?_
     refine kv g0 (asg) ?_
     refine ks g0 (stB 6 [.lit (.int .i64 ((rd_T97 l0_2 p108).f0)), .lit (.int .i64 ((rd_T97 l0_2 p108).f1)), .lit (.int .i64 ((rd_T97 l0_2 p108).f2.f0)), .lit (.int .i64 ((rd_T97 l0_2 p108).f2.f1)), .lit (.int .i64 ((rd_T97 l0_2 p108).f2.f2)), .lit (.int .i64 ((rd_T97 l0_2 p108).f2.f3))]) ?_
     refine wk_end ?_
     refine ac_next ?_
     refine aw_grp1 ?_
     refine wk_start ?_
     refine kv g0 (faB 0 0) ?_
     refine kv g0 (ldB) ?_
     obtain ⟨t112, A113, H⟩ := of_bind H
     refine kcS0 145 (.lit (.bool t112)) [] g0 (cal (impl_isPid.ok A113) [] 9999 .n (hf := Try.func56)) rfl rfl ?_
     refine kv g0 (not_) ?_
     refine kv g0 (mv) ?_
     by_cases c114 : t112 = true
     ·rw [if_pos c114] at H
      refine kv (g1 (nF c114)) (faB 2 2) ?_
      refine kv (g1 (nF c114)) (ldBA 4 [.lit (.int .i64 ((rd_T97 l0_2 p108).f2.f0)), .lit (.int .i64 ((rd_T97 l0_2 p108).f2.f1)), .lit (.int .i64 ((rd_T97 l0_2 p108).f2.f2)), .lit (.int .i64 ((rd_T97 l0_2 p108).f2.f3))]) ?_
      obtain ⟨t115, A116, H⟩ := of_bind H
      refine kcS0 150 (.lit (.bool t115)) [] (g1 (nF c114)) (cal (impl_ItemOk.ok A116) [] 9999 .n (hf := Try.func57)) rfl rfl ?_
      refine kv (g1 (nF c114)) (not_) ?_
      refine kv g0 (pkF (nF c114)) ?_
      refine kv g0 (mv) ?_
      by_cases c117 : t115 = true
      ·rw [if_pos c117] at H
       refine kv (g1 (nF c117)) (faB 1 1) ?_
       refine kv (g1 (nF c117)) (ldB) ?_
       refine kv (g1 (nF c117)) (faB 1 1) ?_
       refine kv (g1 (nF c117)) (ldB) ?_
       refine kv (g1 (nF c117)) (faB 0 0) ?_
       refine kv (g1 (nF c117)) (ldB) ?_
       obtain ⟨c118, H⟩ := of_if H
       obtain ⟨c119, H⟩ := of_if H
       refine kv (g1 (nF c117)) (ixS 3 (eI .i64 (rd l0_1 ((rd_T97 l0_2 p108).f0))) c118 (getE (z := (0 : Int)) c118 c119)) ?_
       refine kv (g1 (nF c117)) (ldR (.lit (.int .i64 (rd l0_1 ((rd_T97 l0_2 p108).f0))))) ?_
       refine kv (g1 (nF c117)) (leq) ?_
       refine kv g0 (pkF (nF c117)) ?_
       refine kv g0 (mv) ?_
       by_cases c120 : ((rd_T97 l0_2 p108).f1) ≤ (rd l0_1 ((rd_T97 l0_2 p108).f0))
       ·rw [if_pos c120] at H
        refine kx (hF (decide_eq_true c120)) ?_
        refine kx (hF (decide_eq_true c120)) ?_
        refine kx (hF (decide_eq_true c120)) ?_
        refine kv g0 (pkT (decide_eq_true c120)) ?_
        refine kv g0 (mv) ?_
        refine kx (hF rfl) ?_
        refine kx (hF rfl) ?_
        refine kx (hF rfl) ?_
        refine kx (hF rfl) ?_
        refine kx (hF rfl) ?_
        refine kx (hF rfl) ?_
        refine kx (hF rfl) ?_
        refine kx (hF rfl) ?_
        refine kx (hF rfl) ?_
        refine kx (hF rfl) ?_
        refine kv g0 (pkT rfl) ?_
        refine wk_end_draw hM (by kernel_rfl) ?_
        refine ac_next ?_
        refine aw_ifT ?_ rfl
        refine aw_grp1 ?_
        refine wk_start ?_
        refine kv g0 (asg) ?_
        refine wk_end ?_
        refine ac_next ?_
        refine aw_ret ?_
        refine ac_blkR ?_
        refine ac_thenR ?_
        refine ac_thenR ?_
        refine ac_blkR ?_
        refine ac_thenR ?_
        obtain rfl := Option.some.inj H
        exact acr hE [.tmp 2] (.tmp .nil) (.one _) [] 9999
       rw [if_neg c120] at H
       refine kv (g1 (decide_eq_false c120)) (faB 1 1) ?_
       refine kv (g1 (decide_eq_false c120)) (ldB) ?_
       refine kv (g1 (decide_eq_false c120)) (gtr) ?_
       refine kv g0 (pkF (decide_eq_false c120)) ?_
       refine kv g0 (mv) ?_
       by_cases c121 : ((rd_T97 l0_2 p108).f1) > 1000000000
       ·rw [if_pos c121] at H
        refine kx (hF (decide_eq_true c121)) ?_
        refine kx (hF (decide_eq_true c121)) ?_
        refine kx (hF (decide_eq_true c121)) ?_
        refine kx (hF (decide_eq_true c121)) ?_
        refine kx (hF (decide_eq_true c121)) ?_
        refine kx (hF (decide_eq_true c121)) ?_
        refine kx (hF (decide_eq_true c121)) ?_
        refine kx (hF (decide_eq_true c121)) ?_
        refine kx (hF (decide_eq_true c121)) ?_
        refine kx (hF (decide_eq_true c121)) ?_
        refine kv g0 (pkT (decide_eq_true c121)) ?_
        refine wk_end_draw hM (by kernel_rfl) ?_
        refine ac_next ?_
        refine aw_ifT ?_ rfl
        refine aw_grp1 ?_
        refine wk_start ?_
        refine kv g0 (asg) ?_
        refine wk_end ?_
        refine ac_next ?_
        refine aw_ret ?_
        refine ac_blkR ?_
        refine ac_thenR ?_
        refine ac_thenR ?_
        refine ac_blkR ?_
        refine ac_thenR ?_
        obtain rfl := Option.some.inj H
        exact acr hE [.tmp 2] (.tmp .nil) (.one _) [] 9999
       rw [if_neg c121] at H
       refine kv (g1 (decide_eq_false c121)) (faB 2 2) ?_
       refine kv (g1 (decide_eq_false c121)) (ldB) ?_
       refine kv (g1 (decide_eq_false c121)) (mv) ?_
       obtain ⟨c122, H⟩ := of_if H
       refine kv (g1 (decide_eq_false c121)) (slH 97 c111 c122) ?_
       refine kv (g1 (decide_eq_false c121)) (faB 0 0) ?_
       refine kv (g1 (decide_eq_false c121)) (ldB) ?_
       refine kv (g1 (decide_eq_false c121)) (faB 1 1) ?_
       refine kv (g1 (decide_eq_false c121)) (ldB) ?_
       obtain ⟨t123, A124, H⟩ := of_bind H
       refine kcS0 178 (.lit (.int .i64 t123)) [] (g1 (decide_eq_false c121)) (cal (impl_earlyAt.ok A124) [] 9999 .n (hf := Try.func54)) rfl rfl ?_
       refine kv (g1 (decide_eq_false c121)) (geq) ?_
       refine kv g0 (pkF (decide_eq_false c121)) ?_
       refine wk_end_draw hM (by kernel_rfl) ?_
       refine ac_next ?_
       by_cases c125 : t123 ≥ 0
       ·rw [if_pos c125] at H
        refine aw_ifT ?_ (decide_eq_true c125)
        refine aw_grp1 ?_
        refine wk_start ?_
        refine kv g0 (asg) ?_
        refine wk_end ?_
        refine ac_next ?_
        refine aw_ret ?_
        refine ac_blkR ?_
        refine ac_thenR ?_
        refine ac_thenR ?_
        refine ac_blkR ?_
        refine ac_thenR ?_
        obtain rfl := Option.some.inj H
        exact acr hE [.tmp 2] (.tmp .nil) (.one _) [] 9999
       rw [if_neg c125] at H
       refine aw_ifF ?_ (decide_eq_false c125)
       refine aw_skip ?_
       refine ac_blkN ?_
       refine ac_next ?_
       refine wk_start ?_
       refine kv g0 (add6) ?_
       refine kv g0 (mv) ?_
       refine wk_end ?_
       refine ac_k ?_
       exact acw hE [(0, 0)] 9999 (hK127 k109 (wrap64 (p108 + 1)) (Nat.le_refl _) ⟨by omega, H⟩)
      rw [if_neg c117] at H
      refine kx (hF (nT (bF c117))) ?_
      refine kx (hF (nT (bF c117))) ?_
      refine kx (hF (nT (bF c117))) ?_
      refine kx (hF (nT (bF c117))) ?_
      refine kx (hF (nT (bF c117))) ?_
      refine kx (hF (nT (bF c117))) ?_
      refine kx (hF (nT (bF c117))) ?_
      refine kx (hF (nT (bF c117))) ?_
      refine kx (hF (nT (bF c117))) ?_
      refine kv g0 (pkT (nT (bF c117))) ?_
      refine kv g0 (mv) ?_
      refine kx (hF rfl) ?_
      refine kx (hF rfl) ?_
      refine kx (hF rfl) ?_
      refine kv g0 (pkT rfl) ?_
      refine kv g0 (mv) ?_
      refine kx (hF rfl) ?_
      refine kx (hF rfl) ?_
      refine kx (hF rfl) ?_
      refine kx (hF rfl) ?_
      refine kx (hF rfl) ?_
      refine kx (hF rfl) ?_
      refine kx (hF rfl) ?_
      refine kx (hF rfl) ?_
      refine kx (hF rfl) ?_
      refine kx (hF rfl) ?_
      refine kv g0 (pkT rfl) ?_
      refine wk_end_draw hM (by kernel_rfl) ?_
      refine ac_next ?_
      refine aw_ifT ?_ rfl
      refine aw_grp1 ?_
      refine wk_start ?_
      refine kv g0 (asg) ?_
      refine wk_end ?_
      refine ac_next ?_
      refine aw_ret ?_
      refine ac_blkR ?_
      refine ac_thenR ?_
      refine ac_thenR ?_
      refine ac_blkR ?_
      refine ac_thenR ?_
      obtain rfl := Option.some.inj H
      exact acr hE [.tmp 2] (.tmp .nil) (.one _) [] 9999
     rw [if_neg c114] at H
     refine kx (hF (nT (bF c114))) ?_
     refine kx (hF (nT (bF c114))) ?_
     refine kx (hF (nT (bF c114))) ?_
     refine kx (hF (nT (bF c114))) ?_
     refine kv g0 (pkT (nT (bF c114))) ?_
     refine kv g0 (mv) ?_
     refine kx (hF rfl) ?_
     refine kx (hF rfl) ?_
     refine kx (hF rfl) ?_
     refine kx (hF rfl) ?_
     refine kx (hF rfl) ?_
     refine kx (hF rfl) ?_
     refine kx (hF rfl) ?_
     refine kx (hF rfl) ?_
     refine kx (hF rfl) ?_
     refine kv g0 (pkT rfl) ?_
     refine kv g0 (mv) ?_
     refine kx (hF rfl) ?_
     refine kx (hF rfl) ?_
     refine kx (hF rfl) ?_
     refine kv g0 (pkT rfl) ?_
     refine kv g0 (mv) ?_
     refine kx (hF rfl) ?_
     refine kx (hF rfl) ?_
     refine kx (hF rfl) ?_
     refine kx (hF rfl) ?_
     refine kx (hF rfl) ?_
     refine kx (hF rfl) ?_
     refine kx (hF rfl) ?_
     refine kx (hF rfl) ?_
     refine kx (hF rfl) ?_
     refine kx (hF rfl) ?_
     refine kv g0 (pkT rfl) ?_
     refine wk_end_draw hM (by kernel_rfl) ?_
     refine ac_next ?_
     refine aw_ifT ?_ rfl
     refine aw_grp1 ?_
     refine wk_start ?_
     refine kv g0 (asg) ?_
     refine wk_end ?_
     refine ac_next ?_
     refine aw_ret ?_
     refine ac_blkR ?_
     refine ac_thenR ?_
     refine ac_thenR ?_
     refine ac_blkR ?_
     refine ac_thenR ?_
     obtain rfl := Option.some.inj H
     exact acr hE [.tmp 2] (.tmp .nil) (.one _) [] 9999
    rw [if_neg c110] at H
    refine aw_ifF ?_ (decide_eq_false c110)
    refine aw_exit ?_
    refine ac_then ?_
    refine ac_then ?_
    refine ac_hit rfl ?_
    refine ac_next ?_
    refine aw_grp1 ?_
    refine wk_start ?_
    refine kv g0 (asg) ?_
    refine wk_end ?_
    refine ac_next ?_
    refine aw_ret ?_
    obtain rfl := Option.some.inj H
    exact acr hE [.tmp 2] (.tmp .nil) (.one _) [] 9999
   rw [if_neg c6] at H
   refine kx (hF (nT (bF c6))) ?_
   refine kx (hF (nT (bF c6))) ?_
   refine kx (hF (nT (bF c6))) ?_
   refine kx (hF (nT (bF c6))) ?_
   refine kv g0 (pkT (nT (bF c6))) ?_
   refine wk_end ?_
   refine ac_next ?_
   refine aw_ifT ?_ rfl
   refine aw_grp1 ?_
   refine wk_start ?_
   refine kv g0 (asg) ?_
   refine wk_end ?_
   refine ac_next ?_
   refine aw_ret ?_
   refine ac_thenR ?_
   obtain rfl := Option.some.inj H
   exact acr hE [.tmp 2] (.tmp .nil) (.one _) [] 9999
  rw [if_neg c2] at H
  refine kx (hF (eN c2)) ?_
  refine kx (hF (eN c2)) ?_
  refine kx (hF (eN c2)) ?_
  refine kx (hF (eN c2)) ?_
  refine kv g0 (pkT (eN c2)) ?_
  refine kv g0 (mv) ?_
  refine kx (hF rfl) ?_
  refine kx (hF rfl) ?_
  refine kx (hF rfl) ?_
  refine kx (hF rfl) ?_
  refine kx (hF rfl) ?_
  refine kx (hF rfl) ?_
  refine kx (hF rfl) ?_
  refine kv g0 (pkT rfl) ?_
  refine kv g0 (mv) ?_
  refine kx (hF rfl) ?_
  refine kx (hF rfl) ?_
  refine kx (hF rfl) ?_
  refine kx (hF rfl) ?_
  refine kv g0 (pkT rfl) ?_
  refine wk_end ?_
  refine ac_next ?_
  refine aw_ifT ?_ rfl
  refine aw_grp1 ?_
  refine wk_start ?_
  refine kv g0 (asg) ?_
  refine wk_end ?_
  refine ac_next ?_
  refine aw_ret ?_
  refine ac_thenR ?_
  obtain rfl := Option.some.inj H
  exact acr hE [.tmp 2] (.tmp .nil) (.one _) [] 9999
 rw [if_neg c1] at H
 refine kx (hF (eN c1)) ?_
 refine kx (hF (eN c1)) ?_
 refine kx (hF (eN c1)) ?_
 refine kx (hF (eN c1)) ?_
 refine kv g0 (pkT (eN c1)) ?_
 refine kv g0 (mv) ?_
 refine kx (hF rfl) ?_
 refine kx (hF rfl) ?_
 refine kx (hF rfl) ?_
 refine kx (hF rfl) ?_
 refine kv g0 (pkT rfl) ?_
 refine kv g0 (mv) ?_
 refine kx (hF rfl) ?_
 refine kx (hF rfl) ?_
 refine kx (hF rfl) ?_
 refine kx (hF rfl) ?_
 refine kx (hF rfl) ?_
 refine kx (hF rfl) ?_
 refine kx (hF rfl) ?_
 refine kv g0 (pkT rfl) ?_
 refine kv g0 (mv) ?_
 refine kx (hF rfl) ?_
 refine kx (hF rfl) ?_
 refine kx (hF rfl) ?_
 refine kx (hF rfl) ?_
 refine kv g0 (pkT rfl) ?_
 refine wk_end ?_
 refine ac_next ?_
 refine aw_ifT ?_ rfl
 refine aw_grp1 ?_
 refine wk_start ?_
 refine kv g0 (asg) ?_
 refine wk_end ?_
 refine ac_next ?_
 refine aw_ret ?_
 refine ac_thenR ?_
 obtain rfl := Option.some.inj H
 exact acr hE [.tmp 2] (.tmp .nil) (.one _) [] 9999
/-! impl_LogRight -/
def impl_LogRight.l0 : Nat → (List (List (List S212))) → (List S164) → (List S75) → (List S98) → (List Int) → (List S97) → Int → (List Int) → (List S169) → Int → (List Int) → (List S160) → Int → Option (Bool)
 | 0, _, _, _, _, _, _, _, _, _, _, _, _, _ => none
 | k10 + 1, l0_0, l0_1, l0_2, l0_3, l0_4, l0_5, a0_6, l0_7, l0_8, a0_9, l0_10, l0_11, p9 => if p9 < 3 then (impl_EntriesOf.f k10 l0_3 l0_4 l0_5 a0_6 l0_7 p9).bind fun t12 => ((impl_FiledOf.f k10 l0_0 l0_1 l0_2 l0_3 l0_4 l0_5 a0_6 l0_7 l0_8 a0_9 l0_10 l0_11 p9).bind fun t14 => ((impl_Fits.f k10 t12 t14).bind fun t16 => if t16 = true then impl_LogRight.l0 k10 l0_0 l0_1 l0_2 l0_3 l0_4 l0_5 a0_6 l0_7 l0_8 a0_9 l0_10 l0_11 (wrap64 (p9 + 1)) else some false)) else (impl_KeeperOk.f k10 l0_3 l0_4 l0_5 a0_6 l0_7).bind fun t21 => some t21
def impl_LogRight.f (k : Nat) (l0_0 : List (List (List S212))) (l0_1 : List S164) (l0_2 : List S75) (l0_3 : List S98) (l0_4 : List Int) (l0_5 : List S97) (a0_6 : Int) (l0_7 : List Int) (l0_8 : List S169) (a0_9 : Int) (l0_10 : List Int) (l0_11 : List S160) : Option (Bool) := impl_LogRight.l0 k l0_0 l0_1 l0_2 l0_3 l0_4 l0_5 a0_6 l0_7 l0_8 a0_9 l0_10 l0_11 0
theorem impl_LogRight.ok {k : Nat} {l0_0 : List (List (List S212))} {l0_1 : List S164} {l0_2 : List S75} {l0_3 : List S98} {l0_4 : List Int} {l0_5 : List S97} {a0_6 : Int} {l0_7 : List Int} {l0_8 : List S169} {a0_9 : Int} {l0_10 : List Int} {l0_11 : List S160} {r : Bool} (H : impl_LogRight.f k l0_0 l0_1 l0_2 l0_3 l0_4 l0_5 a0_6 l0_7 l0_8 a0_9 l0_10 l0_11 = some r) : ACalls Try.prog 33 [] [.agg [.sl .o 1 (l0_0.map (eL 1 (eL 4 (e212)))), .sl .o 4 (l0_1.map e164), .sl .o 5 (l0_2.map e75), .sl .o 6 (l0_3.map e98), .sl .o 1 (l0_4.map (eI .i64)), .sl .o 6 (l0_5.map e97), .lit (.int .i64 a0_6), .sl .o 1 (l0_7.map (eI .i64)), .sl .o 3 (l0_8.map e169), .lit (.int .i64 a0_9), .sl .o 1 (l0_10.map (eI .i64)), .sl .o 4 (l0_11.map e160)]] [] (.lit (.bool r)) := by
 refine acalls (fn := Try.f33) (nt := 20) Try.func33 rfl rfl (Nat.le_of_ble_eq_true rfl) fun E hE => ?_
 rw [impl_LogRight.f] at H
 refine aw_grp1 ?_
 refine wk_start ?_
 refine kb g0 (bxA 0) ?_
 refine kv g0 (asg) ?_
 refine wk_end ?_
 refine ac_next ?_
 refine aw_grp1 ?_
 refine aw_grp1 ?_
 refine wk_start ?_
 refine kv g0 (mv) ?_
 refine wk_end ?_
 refine ac_next ?_
 refine aw_block ?_
 refine aw_loop1 (fun (k_ : Nat) (p9 : Int) => k_ ≤ k ∧ impl_LogRight.l0 k_ l0_0 l0_1 l0_2 l0_3 l0_4 l0_5 a0_6 l0_7 l0_8 a0_9 l0_10 l0_11 p9 = some r) (fun (p9 : Int) => ⟨[(1, .box 0 0), (4, .lit (.int .i64 p9))], [(0, .box 70 [.sl .o 1 (l0_0.map (eL 1 (eL 4 (e212)))), .sl .o 4 (l0_1.map e164), .sl .o 5 (l0_2.map e75), .sl .o 6 (l0_3.map e98), .sl .o 1 (l0_4.map (eI .i64)), .sl .o 6 (l0_5.map e97), .lit (.int .i64 a0_6), .sl .o 1 (l0_7.map (eI .i64)), .sl .o 3 (l0_8.map e169), .lit (.int .i64 a0_9), .sl .o 1 (l0_10.map (eI .i64)), .sl .o 4 (l0_11.map e160)])]⟩) k 0 ⟨Nat.le_refl _, H⟩ (fun K_ h_ => acw hE [(0, 0)] 9999 h_) (fun _ => by intro h_; have h_ := h_.2; rw [impl_LogRight.l0.eq_1] at h_; cases h_) ?_
 intro k10 p9 hq_ K19 hK20
 have hk10 := hq_.1
 have H := hq_.2
 clear hq_
 rw [impl_LogRight.l0.eq_2] at H
 refine aw_grp1 ?_
 refine wk_start ?_
 refine kv g0 (lss) ?_
 refine wk_end ?_
 refine ac_next ?_
 refine aw_grp1 ?_
 by_cases c11 : p9 < 3
 ·rw [if_pos c11] at H
  refine aw_ifT ?_ (decide_eq_true c11)
  refine aw_skip ?_
  refine ac_next ?_
  refine aw_grp1 ?_
  refine aw_block ?_
  refine aw_grp1 ?_
  refine wk_start ?_
  refine kv g0 (mv) ?_
  refine kv g0 (asg) ?_
  refine wk_end ?_
  refine ac_next ?_
  refine aw_grp1 ?_
  refine wk_start ?_
  refine kv g0 (faB 3 3) ?_
  refine kv g0 (ldBA 5 [.sl .o 6 (l0_3.map e98), .sl .o 1 (l0_4.map (eI .i64)), .sl .o 6 (l0_5.map e97), .lit (.int .i64 a0_6), .sl .o 1 (l0_7.map (eI .i64))]) ?_
  refine kv g0 (mv) ?_
  obtain ⟨t12, A13, H⟩ := of_bind H
  refine kcS1 10 (.row 1) [(1, .row 34 4 (t12.map e34))] g0 (cal (impl_EntriesOf.ok A13) [1] 9999 .n (hf := Try.func13)) rfl rfl ?_
  refine kv g0 (ldBA 12 [.sl .o 1 (l0_0.map (eL 1 (eL 4 (e212)))), .sl .o 4 (l0_1.map e164), .sl .o 5 (l0_2.map e75), .sl .o 6 (l0_3.map e98), .sl .o 1 (l0_4.map (eI .i64)), .sl .o 6 (l0_5.map e97), .lit (.int .i64 a0_6), .sl .o 1 (l0_7.map (eI .i64)), .sl .o 3 (l0_8.map e169), .lit (.int .i64 a0_9), .sl .o 1 (l0_10.map (eI .i64)), .sl .o 4 (l0_11.map e160)]) ?_
  refine kv g0 (mv) ?_
  obtain ⟨t14, A15, H⟩ := of_bind H
  refine kcS1 13 (.row 2) [(2, .row 160 4 (t14.map e160))] g0 (cal (impl_FiledOf.ok A15) [2] 9999 .n (hf := Try.func87)) rfl rfl ?_
  obtain ⟨t16, A17, H⟩ := of_bind H
  refine kcS0 14 (.lit (.bool t16)) [] g0 (cal (impl_Fits.ok A17) [] 9999 .n (hf := Try.func86)) rfl rfl ?_
  refine kv g0 (not_) ?_
  refine wk_end_draw hM (by kernel_rfl) ?_
  refine ac_next ?_
  by_cases c18 : t16 = true
  ·rw [if_pos c18] at H
   refine aw_ifF ?_ (nF c18)
   refine aw_skip ?_
   refine ac_blkN ?_
   refine ac_next ?_
   refine wk_start ?_
   refine kv g0 (add6) ?_
   refine kv g0 (mv) ?_
   refine wk_end ?_
   refine ac_k ?_
   exact acw hE [(0, 0)] 9999 (hK20 k10 (wrap64 (p9 + 1)) (Nat.le_refl _) ⟨by omega, H⟩)
  rw [if_neg c18] at H
  refine aw_ifT ?_ (nT (bF c18))
  refine aw_grp1 ?_
  refine wk_start ?_
  refine kv g0 (asg) ?_
  refine wk_end ?_
  refine ac_next ?_
  refine aw_ret ?_
  refine ac_blkR ?_
  refine ac_thenR ?_
  refine ac_thenR ?_
  refine ac_blkR ?_
  refine ac_thenR ?_
  obtain rfl := Option.some.inj H
  exact acr hE [.tmp 2] (.tmp .nil) (.one _) [] 9999
 rw [if_neg c11] at H
 refine aw_ifF ?_ (decide_eq_false c11)
 refine aw_exit ?_
 refine ac_then ?_
 refine ac_then ?_
 refine ac_hit rfl ?_
 refine ac_next ?_
 refine aw_grp1 ?_
 refine wk_start ?_
 refine kv g0 (faB 3 3) ?_
 refine kv g0 (ldBA 5 [.sl .o 6 (l0_3.map e98), .sl .o 1 (l0_4.map (eI .i64)), .sl .o 6 (l0_5.map e97), .lit (.int .i64 a0_6), .sl .o 1 (l0_7.map (eI .i64))]) ?_
 obtain ⟨t21, A22, H⟩ := of_bind H
 refine kcS0 19 (.lit (.bool t21)) [] g0 (cal (impl_KeeperOk.ok A22) [] 9999 .n (hf := Try.func12)) rfl rfl ?_
 refine kv g0 (asg) ?_
 refine wk_end ?_
 refine ac_next ?_
 refine aw_ret ?_
 obtain rfl := Option.some.inj H
 exact acr hE [.tmp 2] (.tmp .nil) (.one _) [] 9999
/-! laws_eqIns -/
def laws_eqIns.f (a0_0 : Int) (a0_1 : Int) (a0_2 : Int) (a0_3 : Int) (a1_0 : Int) (a1_1 : Int) (a1_2 : Int) (a1_3 : Int) : Option (Bool) := if a0_0 = a1_0 then if a0_1 = a1_1 then if a0_2 = a1_2 then if a0_3 = a1_3 then some true else some false else some false else some false else some false
theorem laws_eqIns.ok {a0_0 : Int} {a0_1 : Int} {a0_2 : Int} {a0_3 : Int} {a1_0 : Int} {a1_1 : Int} {a1_2 : Int} {a1_3 : Int} {r : Bool} (H : laws_eqIns.f a0_0 a0_1 a0_2 a0_3 a1_0 a1_1 a1_2 a1_3 = some r) : ACalls Try.prog 172 [] [.agg [.lit (.int .i64 a0_0), .lit (.int .i64 a0_1), .lit (.int .i64 a0_2), .lit (.int .i64 a0_3)], .agg [.lit (.int .i64 a1_0), .lit (.int .i64 a1_1), .lit (.int .i64 a1_2), .lit (.int .i64 a1_3)]] [] (.lit (.bool r)) := by
 refine acalls (fn := Try.f172) (nt := 25) Try.func172 rfl rfl (Nat.le_of_ble_eq_true rfl) fun E hE => ?_
 rw [laws_eqIns.f] at H
 refine aw_grp1 ?_
 refine wk_start ?_
 refine kb g0 (bxA 0) ?_
 refine kb g0 (bxA 1) ?_
 refine kv g0 (asg) ?_
 refine wk_end ?_
 refine ac_next ?_
 refine aw_grp1 ?_
 refine aw_grp1 ?_
 refine wk_start ?_
 refine kv g0 (faB 0 0) ?_
 refine kv g0 (ldB) ?_
 refine kv g0 (faB 0 0) ?_
 refine kv g0 (ldB) ?_
 refine kv g0 (neq) ?_
 refine wk_end ?_
 refine ac_next ?_
 by_cases c1 : a0_0 = a1_0
 ·rw [if_pos c1] at H
  refine aw_ifF ?_ (eM c1)
  refine aw_skip ?_
  refine ac_next ?_
  refine aw_grp1 ?_
  refine aw_grp1 ?_
  refine wk_start ?_
  refine kv g0 (faB 1 1) ?_
  refine kv g0 (ldB) ?_
  refine kv g0 (faB 1 1) ?_
  refine kv g0 (ldB) ?_
  refine kv g0 (neq) ?_
  refine wk_end ?_
  refine ac_next ?_
  by_cases c2 : a0_1 = a1_1
  ·rw [if_pos c2] at H
   refine aw_ifF ?_ (eM c2)
   refine aw_skip ?_
   refine ac_next ?_
   refine aw_grp1 ?_
   refine aw_grp1 ?_
   refine wk_start ?_
   refine kv g0 (faB 2 2) ?_
   refine kv g0 (ldB) ?_
   refine kv g0 (faB 2 2) ?_
   refine kv g0 (ldB) ?_
   refine kv g0 (neq) ?_
   refine wk_end ?_
   refine ac_next ?_
   by_cases c3 : a0_2 = a1_2
   ·rw [if_pos c3] at H
    refine aw_ifF ?_ (eM c3)
    refine aw_skip ?_
    refine ac_next ?_
    refine aw_grp1 ?_
    refine aw_grp1 ?_
    refine wk_start ?_
    refine kv g0 (faB 3 3) ?_
    refine kv g0 (ldB) ?_
    refine kv g0 (faB 3 3) ?_
    refine kv g0 (ldB) ?_
    refine kv g0 (neq) ?_
    refine wk_end ?_
    refine ac_next ?_
    by_cases c4 : a0_3 = a1_3
    ·rw [if_pos c4] at H
     refine aw_ifF ?_ (eM c4)
     refine aw_skip ?_
     refine ac_next ?_
     refine aw_grp1 ?_
     refine wk_start ?_
     refine kv g0 (asg) ?_
     refine wk_end ?_
     refine ac_next ?_
     refine aw_ret ?_
     obtain rfl := Option.some.inj H
     exact acr hE [.tmp 4] (.tmp .nil) (.one _) [] 9999
    rw [if_neg c4] at H
    refine aw_ifT ?_ (eN c4)
    refine aw_grp1 ?_
    refine wk_start ?_
    refine kv g0 (asg) ?_
    refine wk_end ?_
    refine ac_next ?_
    refine aw_ret ?_
    refine ac_thenR ?_
    obtain rfl := Option.some.inj H
    exact acr hE [.tmp 4] (.tmp .nil) (.one _) [] 9999
   rw [if_neg c3] at H
   refine aw_ifT ?_ (eN c3)
   refine aw_grp1 ?_
   refine wk_start ?_
   refine kv g0 (asg) ?_
   refine wk_end ?_
   refine ac_next ?_
   refine aw_ret ?_
   refine ac_thenR ?_
   obtain rfl := Option.some.inj H
   exact acr hE [.tmp 4] (.tmp .nil) (.one _) [] 9999
  rw [if_neg c2] at H
  refine aw_ifT ?_ (eN c2)
  refine aw_grp1 ?_
  refine wk_start ?_
  refine kv g0 (asg) ?_
  refine wk_end ?_
  refine ac_next ?_
  refine aw_ret ?_
  refine ac_thenR ?_
  obtain rfl := Option.some.inj H
  exact acr hE [.tmp 4] (.tmp .nil) (.one _) [] 9999
 rw [if_neg c1] at H
 refine aw_ifT ?_ (eN c1)
 refine aw_grp1 ?_
 refine wk_start ?_
 refine kv g0 (asg) ?_
 refine wk_end ?_
 refine ac_next ?_
 refine aw_ret ?_
 refine ac_thenR ?_
 obtain rfl := Option.some.inj H
 exact acr hE [.tmp 4] (.tmp .nil) (.one _) [] 9999
/-! laws_eqInsS -/
def laws_eqInsS.l0 : Nat → (List S212) → (List S212) → Int → Option (Bool)
 | 0, _, _, _ => none
 | k9 + 1, l0, l1, p8 => if p8 < (l0.length : Int) then if 0 ≤ p8 then (if p8 < (l1.length : Int) then ((laws_eqIns.f ((rd_T212 l0 p8).f0) ((rd_T212 l0 p8).f1) ((rd_T212 l0 p8).f2) ((rd_T212 l0 p8).f3) ((rd_T212 l1 p8).f0) ((rd_T212 l1 p8).f1) ((rd_T212 l1 p8).f2) ((rd_T212 l1 p8).f3)).bind fun t13 => if t13 = true then laws_eqInsS.l0 k9 l0 l1 (wrap64 (p8 + 1)) else some false) else none) else none else some true
def laws_eqInsS.f (k : Nat) (l0 : List S212) (l1 : List S212) : Option (Bool) := if (l0.length : Int) = (l1.length : Int) then laws_eqInsS.l0 k l0 l1 0 else some false
theorem laws_eqInsS.ok {k : Nat} {l0 : List S212} {l1 : List S212} {r : Bool} (H : laws_eqInsS.f k l0 l1 = some r) : ACalls Try.prog 156 [] [.sl .o 4 (l0.map e212), .sl .o 4 (l1.map e212)] [] (.lit (.bool r)) := by
 refine acalls (fn := Try.f156) (nt := 27) Try.func156 rfl rfl (Nat.le_of_ble_eq_true rfl) fun E hE => ?_
 rw [laws_eqInsS.f] at H
 refine aw_grp1 ?_
 refine wk_start ?_
 refine kv g0 (asg) ?_
 refine wk_end ?_
 refine ac_next ?_
 refine aw_grp1 ?_
 refine aw_grp1 ?_
 refine wk_start ?_
 refine kv g0 (mv) ?_
 refine kv g0 (lnS lenE) ?_
 refine kv g0 (mv) ?_
 refine kv g0 (lnS lenE) ?_
 refine kv g0 (neq) ?_
 refine wk_end ?_
 refine ac_next ?_
 by_cases c1 : (l0.length : Int) = (l1.length : Int)
 ·rw [if_pos c1] at H
  refine aw_ifF ?_ (eM c1)
  refine aw_skip ?_
  refine ac_next ?_
  refine aw_grp1 ?_
  refine aw_grp1 ?_
  refine wk_start ?_
  refine kv g0 (asg) ?_
  refine wk_end ?_
  refine ac_next ?_
  refine aw_block ?_
  refine aw_loop1 (fun (k_ : Nat) (p8 : Int) => k_ ≤ k ∧ laws_eqInsS.l0 k_ l0 l1 p8 = some r) (fun (p8 : Int) => ⟨[(0, .sl .o 4 (l0.map e212)), (1, .sl .o 4 (l1.map e212)), (5, .lit (.int .i64 p8))], []⟩) k 0 ⟨Nat.le_refl _, H⟩ (fun K_ h_ => acw hE [] 9999 h_) (fun _ => by intro h_; have h_ := h_.2; rw [laws_eqInsS.l0.eq_1] at h_; cases h_) ?_
  intro k9 p8 hq_ K16 hK17
  have hk9 := hq_.1
  have H := hq_.2
  clear hq_
  rw [laws_eqInsS.l0.eq_2] at H
  refine aw_grp1 ?_
  refine aw_grp1 ?_
  refine wk_start ?_
  refine kv g0 (mv) ?_
  refine kv g0 (mv) ?_
  refine kv g0 (lnS lenE) ?_
  refine kv g0 (lss) ?_
  refine wk_end ?_
  refine ac_next ?_
  by_cases c10 : p8 < (l0.length : Int)
  ·rw [if_pos c10] at H
   refine aw_ifT ?_ (decide_eq_true c10)
   refine aw_skip ?_
   refine ac_next ?_
   refine aw_grp1 ?_
   refine aw_block ?_
   refine aw_grp1 ?_
   refine wk_start ?_
   refine kv g0 (mv) ?_
   refine kv g0 (mv) ?_
   obtain ⟨c11, H⟩ := of_if H
   refine kv g0 (ixS 212 (e212 (rd_T212 l0 p8)) c11 (getE (z := z212) c11 c10)) ?_
   refine kv g0 (ldRA 4 [.lit (.int .i64 ((rd_T212 l0 p8).f0)), .lit (.int .i64 ((rd_T212 l0 p8).f1)), .lit (.int .i64 ((rd_T212 l0 p8).f2)), .lit (.int .i64 ((rd_T212 l0 p8).f3))]) ?_
   refine kv g0 (mv) ?_
   refine kv g0 (mv) ?_
   obtain ⟨c12, H⟩ := of_if H
   refine kv g0 (ixS 212 (e212 (rd_T212 l1 p8)) c11 (getE (z := z212) c11 c12)) ?_
   refine kv g0 (ldRA 4 [.lit (.int .i64 ((rd_T212 l1 p8).f0)), .lit (.int .i64 ((rd_T212 l1 p8).f1)), .lit (.int .i64 ((rd_T212 l1 p8).f2)), .lit (.int .i64 ((rd_T212 l1 p8).f3))]) ?_
   obtain ⟨t13, A14, H⟩ := of_bind H
   refine kcS0 25 (.lit (.bool t13)) [] g0 (cal (laws_eqIns.ok A14) [] 9999 .n (hf := Try.func172)) rfl rfl ?_
   refine kv g0 (not_) ?_
   refine wk_end_draw hM (by kernel_rfl) ?_
   refine ac_next ?_
   by_cases c15 : t13 = true
   ·rw [if_pos c15] at H
    refine aw_ifF ?_ (nF c15)
    refine aw_skip ?_
    refine ac_blkN ?_
    refine ac_next ?_
    refine wk_start ?_
    refine kv g0 (mv) ?_
    refine kv g0 (add6) ?_
    refine kv g0 (asg) ?_
    refine wk_end ?_
    refine ac_k ?_
    exact acw hE [] 9999 (hK17 k9 (wrap64 (p8 + 1)) (Nat.le_refl _) ⟨by omega, H⟩)
   rw [if_neg c15] at H
   refine aw_ifT ?_ (nT (bF c15))
   refine aw_grp1 ?_
   refine wk_start ?_
   refine kv g0 (asg) ?_
   refine wk_end ?_
   refine ac_next ?_
   refine aw_ret ?_
   refine ac_blkR ?_
   refine ac_thenR ?_
   refine ac_thenR ?_
   refine ac_blkR ?_
   refine ac_thenR ?_
   obtain rfl := Option.some.inj H
   exact acr hE [.tmp 4] (.tmp .nil) (.one _) [] 9999
  rw [if_neg c10] at H
  refine aw_ifF ?_ (decide_eq_false c10)
  refine aw_exit ?_
  refine ac_then ?_
  refine ac_then ?_
  refine ac_hit rfl ?_
  refine ac_next ?_
  refine aw_grp1 ?_
  refine wk_start ?_
  refine kv g0 (asg) ?_
  refine wk_end ?_
  refine ac_next ?_
  refine aw_ret ?_
  obtain rfl := Option.some.inj H
  exact acr hE [.tmp 4] (.tmp .nil) (.one _) [] 9999
 rw [if_neg c1] at H
 refine aw_ifT ?_ (eN c1)
 refine aw_grp1 ?_
 refine wk_start ?_
 refine kv g0 (asg) ?_
 refine wk_end ?_
 refine ac_next ?_
 refine aw_ret ?_
 refine ac_thenR ?_
 obtain rfl := Option.some.inj H
 exact acr hE [.tmp 4] (.tmp .nil) (.one _) [] 9999
/-! laws_eqInsSS -/
def laws_eqInsSS.l0 : Nat → (List (List S212)) → (List (List S212)) → Int → Option (Bool)
 | 0, _, _, _ => none
 | k9 + 1, l0, l1, p8 => if p8 < (l0.length : Int) then if 0 ≤ p8 then (if p8 < (l1.length : Int) then ((laws_eqInsS.f k9 (rdOf ([] : List S212) l0 p8) (rdOf ([] : List S212) l1 p8)).bind fun t13 => if t13 = true then laws_eqInsSS.l0 k9 l0 l1 (wrap64 (p8 + 1)) else some false) else none) else none else some true
def laws_eqInsSS.f (k : Nat) (l0 : List (List S212)) (l1 : List (List S212)) : Option (Bool) := if (l0.length : Int) = (l1.length : Int) then laws_eqInsSS.l0 k l0 l1 0 else some false
theorem laws_eqInsSS.ok {k : Nat} {l0 : List (List S212)} {l1 : List (List S212)} {r : Bool} (H : laws_eqInsSS.f k l0 l1 = some r) : ACalls Try.prog 132 [] [.sl .o 1 (l0.map (eL 4 (e212))), .sl .o 1 (l1.map (eL 4 (e212)))] [] (.lit (.bool r)) := by
 refine acalls (fn := Try.f132) (nt := 27) Try.func132 rfl rfl (Nat.le_of_ble_eq_true rfl) fun E hE => ?_
 rw [laws_eqInsSS.f] at H
 refine aw_grp1 ?_
 refine wk_start ?_
 refine kv g0 (asg) ?_
 refine wk_end ?_
 refine ac_next ?_
 refine aw_grp1 ?_
 refine aw_grp1 ?_
 refine wk_start ?_
 refine kv g0 (mv) ?_
 refine kv g0 (lnS lenE) ?_
 refine kv g0 (mv) ?_
 refine kv g0 (lnS lenE) ?_
 refine kv g0 (neq) ?_
 refine wk_end ?_
 refine ac_next ?_
 by_cases c1 : (l0.length : Int) = (l1.length : Int)
 ·rw [if_pos c1] at H
  refine aw_ifF ?_ (eM c1)
  refine aw_skip ?_
  refine ac_next ?_
  refine aw_grp1 ?_
  refine aw_grp1 ?_
  refine wk_start ?_
  refine kv g0 (asg) ?_
  refine wk_end ?_
  refine ac_next ?_
  refine aw_block ?_
  refine aw_loop1 (fun (k_ : Nat) (p8 : Int) => k_ ≤ k ∧ laws_eqInsSS.l0 k_ l0 l1 p8 = some r) (fun (p8 : Int) => ⟨[(0, .sl .o 1 (l0.map (eL 4 (e212)))), (1, .sl .o 1 (l1.map (eL 4 (e212)))), (5, .lit (.int .i64 p8))], []⟩) k 0 ⟨Nat.le_refl _, H⟩ (fun K_ h_ => acw hE [] 9999 h_) (fun _ => by intro h_; have h_ := h_.2; rw [laws_eqInsSS.l0.eq_1] at h_; cases h_) ?_
  intro k9 p8 hq_ K16 hK17
  have hk9 := hq_.1
  have H := hq_.2
  clear hq_
  rw [laws_eqInsSS.l0.eq_2] at H
  refine aw_grp1 ?_
  refine aw_grp1 ?_
  refine wk_start ?_
  refine kv g0 (mv) ?_
  refine kv g0 (mv) ?_
  refine kv g0 (lnS lenE) ?_
  refine kv g0 (lss) ?_
  refine wk_end ?_
  refine ac_next ?_
  by_cases c10 : p8 < (l0.length : Int)
  ·rw [if_pos c10] at H
   refine aw_ifT ?_ (decide_eq_true c10)
   refine aw_skip ?_
   refine ac_next ?_
   refine aw_grp1 ?_
   refine aw_block ?_
   refine aw_grp1 ?_
   refine wk_start ?_
   refine kv g0 (mv) ?_
   refine kv g0 (mv) ?_
   obtain ⟨c11, H⟩ := of_if H
   refine kv g0 (ixS 190 (eL 4 (e212) (rdOf ([] : List S212) l0 p8)) c11 (getE (z := ([] : List S212)) c11 c10)) ?_
   refine kv g0 (ldR (.sl .o 4 ((rdOf ([] : List S212) l0 p8).map e212))) ?_
   refine kv g0 (mv) ?_
   refine kv g0 (mv) ?_
   obtain ⟨c12, H⟩ := of_if H
   refine kv g0 (ixS 190 (eL 4 (e212) (rdOf ([] : List S212) l1 p8)) c11 (getE (z := ([] : List S212)) c11 c12)) ?_
   refine kv g0 (ldR (.sl .o 4 ((rdOf ([] : List S212) l1 p8).map e212))) ?_
   obtain ⟨t13, A14, H⟩ := of_bind H
   refine kcS0 25 (.lit (.bool t13)) [] g0 (cal (laws_eqInsS.ok A14) [] 9999 .n (hf := Try.func156)) rfl rfl ?_
   refine kv g0 (not_) ?_
   refine wk_end_draw hM (by kernel_rfl) ?_
   refine ac_next ?_
   by_cases c15 : t13 = true
   ·rw [if_pos c15] at H
    refine aw_ifF ?_ (nF c15)
    refine aw_skip ?_
    refine ac_blkN ?_
    refine ac_next ?_
    refine wk_start ?_
    refine kv g0 (mv) ?_
    refine kv g0 (add6) ?_
    refine kv g0 (asg) ?_
    refine wk_end ?_
    refine ac_k ?_
    exact acw hE [] 9999 (hK17 k9 (wrap64 (p8 + 1)) (Nat.le_refl _) ⟨by omega, H⟩)
   rw [if_neg c15] at H
   refine aw_ifT ?_ (nT (bF c15))
   refine aw_grp1 ?_
   refine wk_start ?_
   refine kv g0 (asg) ?_
   refine wk_end ?_
   refine ac_next ?_
   refine aw_ret ?_
   refine ac_blkR ?_
   refine ac_thenR ?_
   refine ac_thenR ?_
   refine ac_blkR ?_
   refine ac_thenR ?_
   obtain rfl := Option.some.inj H
   exact acr hE [.tmp 4] (.tmp .nil) (.one _) [] 9999
  rw [if_neg c10] at H
  refine aw_ifF ?_ (decide_eq_false c10)
  refine aw_exit ?_
  refine ac_then ?_
  refine ac_then ?_
  refine ac_hit rfl ?_
  refine ac_next ?_
  refine aw_grp1 ?_
  refine wk_start ?_
  refine kv g0 (asg) ?_
  refine wk_end ?_
  refine ac_next ?_
  refine aw_ret ?_
  obtain rfl := Option.some.inj H
  exact acr hE [.tmp 4] (.tmp .nil) (.one _) [] 9999
 rw [if_neg c1] at H
 refine aw_ifT ?_ (eN c1)
 refine aw_grp1 ?_
 refine wk_start ?_
 refine kv g0 (asg) ?_
 refine wk_end ?_
 refine ac_next ?_
 refine aw_ret ?_
 refine ac_thenR ?_
 obtain rfl := Option.some.inj H
 exact acr hE [.tmp 4] (.tmp .nil) (.one _) [] 9999
/-! laws_eqInsSSS -/
def laws_eqInsSSS.l0 : Nat → (List (List (List S212))) → (List (List (List S212))) → Int → Option (Bool)
 | 0, _, _, _ => none
 | k9 + 1, l0, l1, p8 => if p8 < (l0.length : Int) then if 0 ≤ p8 then (if p8 < (l1.length : Int) then ((laws_eqInsSS.f k9 (rdOf ([] : List (List S212)) l0 p8) (rdOf ([] : List (List S212)) l1 p8)).bind fun t13 => if t13 = true then laws_eqInsSSS.l0 k9 l0 l1 (wrap64 (p8 + 1)) else some false) else none) else none else some true
def laws_eqInsSSS.f (k : Nat) (l0 : List (List (List S212))) (l1 : List (List (List S212))) : Option (Bool) := if (l0.length : Int) = (l1.length : Int) then laws_eqInsSSS.l0 k l0 l1 0 else some false
theorem laws_eqInsSSS.ok {k : Nat} {l0 : List (List (List S212))} {l1 : List (List (List S212))} {r : Bool} (H : laws_eqInsSSS.f k l0 l1 = some r) : ACalls Try.prog 88 [] [.sl .o 1 (l0.map (eL 1 (eL 4 (e212)))), .sl .o 1 (l1.map (eL 1 (eL 4 (e212))))] [] (.lit (.bool r)) := by
 refine acalls (fn := Try.f88) (nt := 27) Try.func88 rfl rfl (Nat.le_of_ble_eq_true rfl) fun E hE => ?_
 rw [laws_eqInsSSS.f] at H
 refine aw_grp1 ?_
 refine wk_start ?_
 refine kv g0 (asg) ?_
 refine wk_end ?_
 refine ac_next ?_
 refine aw_grp1 ?_
 refine aw_grp1 ?_
 refine wk_start ?_
 refine kv g0 (mv) ?_
 refine kv g0 (lnS lenE) ?_
 refine kv g0 (mv) ?_
 refine kv g0 (lnS lenE) ?_
 refine kv g0 (neq) ?_
 refine wk_end ?_
 refine ac_next ?_
 by_cases c1 : (l0.length : Int) = (l1.length : Int)
 ·rw [if_pos c1] at H
  refine aw_ifF ?_ (eM c1)
  refine aw_skip ?_
  refine ac_next ?_
  refine aw_grp1 ?_
  refine aw_grp1 ?_
  refine wk_start ?_
  refine kv g0 (asg) ?_
  refine wk_end ?_
  refine ac_next ?_
  refine aw_block ?_
  refine aw_loop1 (fun (k_ : Nat) (p8 : Int) => k_ ≤ k ∧ laws_eqInsSSS.l0 k_ l0 l1 p8 = some r) (fun (p8 : Int) => ⟨[(0, .sl .o 1 (l0.map (eL 1 (eL 4 (e212))))), (1, .sl .o 1 (l1.map (eL 1 (eL 4 (e212))))), (5, .lit (.int .i64 p8))], []⟩) k 0 ⟨Nat.le_refl _, H⟩ (fun K_ h_ => acw hE [] 9999 h_) (fun _ => by intro h_; have h_ := h_.2; rw [laws_eqInsSSS.l0.eq_1] at h_; cases h_) ?_
  intro k9 p8 hq_ K16 hK17
  have hk9 := hq_.1
  have H := hq_.2
  clear hq_
  rw [laws_eqInsSSS.l0.eq_2] at H
  refine aw_grp1 ?_
  refine aw_grp1 ?_
  refine wk_start ?_
  refine kv g0 (mv) ?_
  refine kv g0 (mv) ?_
  refine kv g0 (lnS lenE) ?_
  refine kv g0 (lss) ?_
  refine wk_end ?_
  refine ac_next ?_
  by_cases c10 : p8 < (l0.length : Int)
  ·rw [if_pos c10] at H
   refine aw_ifT ?_ (decide_eq_true c10)
   refine aw_skip ?_
   refine ac_next ?_
   refine aw_grp1 ?_
   refine aw_block ?_
   refine aw_grp1 ?_
   refine wk_start ?_
   refine kv g0 (mv) ?_
   refine kv g0 (mv) ?_
   obtain ⟨c11, H⟩ := of_if H
   refine kv g0 (ixS 161 (eL 1 (eL 4 (e212)) (rdOf ([] : List (List S212)) l0 p8)) c11 (getE (z := ([] : List (List S212))) c11 c10)) ?_
   refine kv g0 (ldR (.sl .o 1 ((rdOf ([] : List (List S212)) l0 p8).map (eL 4 (e212))))) ?_
   refine kv g0 (mv) ?_
   refine kv g0 (mv) ?_
   obtain ⟨c12, H⟩ := of_if H
   refine kv g0 (ixS 161 (eL 1 (eL 4 (e212)) (rdOf ([] : List (List S212)) l1 p8)) c11 (getE (z := ([] : List (List S212))) c11 c12)) ?_
   refine kv g0 (ldR (.sl .o 1 ((rdOf ([] : List (List S212)) l1 p8).map (eL 4 (e212))))) ?_
   obtain ⟨t13, A14, H⟩ := of_bind H
   refine kcS0 25 (.lit (.bool t13)) [] g0 (cal (laws_eqInsSS.ok A14) [] 9999 .n (hf := Try.func132)) rfl rfl ?_
   refine kv g0 (not_) ?_
   refine wk_end_draw hM (by kernel_rfl) ?_
   refine ac_next ?_
   by_cases c15 : t13 = true
   ·rw [if_pos c15] at H
    refine aw_ifF ?_ (nF c15)
    refine aw_skip ?_
    refine ac_blkN ?_
    refine ac_next ?_
    refine wk_start ?_
    refine kv g0 (mv) ?_
    refine kv g0 (add6) ?_
    refine kv g0 (asg) ?_
    refine wk_end ?_
    refine ac_k ?_
    exact acw hE [] 9999 (hK17 k9 (wrap64 (p8 + 1)) (Nat.le_refl _) ⟨by omega, H⟩)
   rw [if_neg c15] at H
   refine aw_ifT ?_ (nT (bF c15))
   refine aw_grp1 ?_
   refine wk_start ?_
   refine kv g0 (asg) ?_
   refine wk_end ?_
   refine ac_next ?_
   refine aw_ret ?_
   refine ac_blkR ?_
   refine ac_thenR ?_
   refine ac_thenR ?_
   refine ac_blkR ?_
   refine ac_thenR ?_
   obtain rfl := Option.some.inj H
   exact acr hE [.tmp 4] (.tmp .nil) (.one _) [] 9999
  rw [if_neg c10] at H
  refine aw_ifF ?_ (decide_eq_false c10)
  refine aw_exit ?_
  refine ac_then ?_
  refine ac_then ?_
  refine ac_hit rfl ?_
  refine ac_next ?_
  refine aw_grp1 ?_
  refine wk_start ?_
  refine kv g0 (asg) ?_
  refine wk_end ?_
  refine ac_next ?_
  refine aw_ret ?_
  obtain rfl := Option.some.inj H
  exact acr hE [.tmp 4] (.tmp .nil) (.one _) [] 9999
 rw [if_neg c1] at H
 refine aw_ifT ?_ (eN c1)
 refine aw_grp1 ?_
 refine wk_start ?_
 refine kv g0 (asg) ?_
 refine wk_end ?_
 refine ac_next ?_
 refine aw_ret ?_
 refine ac_thenR ?_
 obtain rfl := Option.some.inj H
 exact acr hE [.tmp 4] (.tmp .nil) (.one _) [] 9999
/-! laws_eqItem -/
def laws_eqItem.f (a0_0 : Int) (a0_1 : Int) (a0_2 : Int) (a0_3 : Int) (a1_0 : Int) (a1_1 : Int) (a1_2 : Int) (a1_3 : Int) : Option (Bool) := if a0_0 = a1_0 then if a0_1 = a1_1 then if a0_2 = a1_2 then if a0_3 = a1_3 then some true else some false else some false else some false else some false
theorem laws_eqItem.ok {a0_0 : Int} {a0_1 : Int} {a0_2 : Int} {a0_3 : Int} {a1_0 : Int} {a1_1 : Int} {a1_2 : Int} {a1_3 : Int} {r : Bool} (H : laws_eqItem.f a0_0 a0_1 a0_2 a0_3 a1_0 a1_1 a1_2 a1_3 = some r) : ACalls Try.prog 173 [] [.agg [.lit (.int .i64 a0_0), .lit (.int .i64 a0_1), .lit (.int .i64 a0_2), .lit (.int .i64 a0_3)], .agg [.lit (.int .i64 a1_0), .lit (.int .i64 a1_1), .lit (.int .i64 a1_2), .lit (.int .i64 a1_3)]] [] (.lit (.bool r)) := by
 refine acalls (fn := Try.f173) (nt := 25) Try.func173 rfl rfl (Nat.le_of_ble_eq_true rfl) fun E hE => ?_
 rw [laws_eqItem.f] at H
 refine aw_grp1 ?_
 refine wk_start ?_
 refine kb g0 (bxA 0) ?_
 refine kb g0 (bxA 1) ?_
 refine kv g0 (asg) ?_
 refine wk_end ?_
 refine ac_next ?_
 refine aw_grp1 ?_
 refine aw_grp1 ?_
 refine wk_start ?_
 refine kv g0 (faB 0 0) ?_
 refine kv g0 (ldB) ?_
 refine kv g0 (faB 0 0) ?_
 refine kv g0 (ldB) ?_
 refine kv g0 (neq) ?_
 refine wk_end ?_
 refine ac_next ?_
 by_cases c1 : a0_0 = a1_0
 ·rw [if_pos c1] at H
  refine aw_ifF ?_ (eM c1)
  refine aw_skip ?_
  refine ac_next ?_
  refine aw_grp1 ?_
  refine aw_grp1 ?_
  refine wk_start ?_
  refine kv g0 (faB 1 1) ?_
  refine kv g0 (ldB) ?_
  refine kv g0 (faB 1 1) ?_
  refine kv g0 (ldB) ?_
  refine kv g0 (neq) ?_
  refine wk_end ?_
  refine ac_next ?_
  by_cases c2 : a0_1 = a1_1
  ·rw [if_pos c2] at H
   refine aw_ifF ?_ (eM c2)
   refine aw_skip ?_
   refine ac_next ?_
   refine aw_grp1 ?_
   refine aw_grp1 ?_
   refine wk_start ?_
   refine kv g0 (faB 2 2) ?_
   refine kv g0 (ldB) ?_
   refine kv g0 (faB 2 2) ?_
   refine kv g0 (ldB) ?_
   refine kv g0 (neq) ?_
   refine wk_end ?_
   refine ac_next ?_
   by_cases c3 : a0_2 = a1_2
   ·rw [if_pos c3] at H
    refine aw_ifF ?_ (eM c3)
    refine aw_skip ?_
    refine ac_next ?_
    refine aw_grp1 ?_
    refine aw_grp1 ?_
    refine wk_start ?_
    refine kv g0 (faB 3 3) ?_
    refine kv g0 (ldB) ?_
    refine kv g0 (faB 3 3) ?_
    refine kv g0 (ldB) ?_
    refine kv g0 (neq) ?_
    refine wk_end ?_
    refine ac_next ?_
    by_cases c4 : a0_3 = a1_3
    ·rw [if_pos c4] at H
     refine aw_ifF ?_ (eM c4)
     refine aw_skip ?_
     refine ac_next ?_
     refine aw_grp1 ?_
     refine wk_start ?_
     refine kv g0 (asg) ?_
     refine wk_end ?_
     refine ac_next ?_
     refine aw_ret ?_
     obtain rfl := Option.some.inj H
     exact acr hE [.tmp 4] (.tmp .nil) (.one _) [] 9999
    rw [if_neg c4] at H
    refine aw_ifT ?_ (eN c4)
    refine aw_grp1 ?_
    refine wk_start ?_
    refine kv g0 (asg) ?_
    refine wk_end ?_
    refine ac_next ?_
    refine aw_ret ?_
    refine ac_thenR ?_
    obtain rfl := Option.some.inj H
    exact acr hE [.tmp 4] (.tmp .nil) (.one _) [] 9999
   rw [if_neg c3] at H
   refine aw_ifT ?_ (eN c3)
   refine aw_grp1 ?_
   refine wk_start ?_
   refine kv g0 (asg) ?_
   refine wk_end ?_
   refine ac_next ?_
   refine aw_ret ?_
   refine ac_thenR ?_
   obtain rfl := Option.some.inj H
   exact acr hE [.tmp 4] (.tmp .nil) (.one _) [] 9999
  rw [if_neg c2] at H
  refine aw_ifT ?_ (eN c2)
  refine aw_grp1 ?_
  refine wk_start ?_
  refine kv g0 (asg) ?_
  refine wk_end ?_
  refine ac_next ?_
  refine aw_ret ?_
  refine ac_thenR ?_
  obtain rfl := Option.some.inj H
  exact acr hE [.tmp 4] (.tmp .nil) (.one _) [] 9999
 rw [if_neg c1] at H
 refine aw_ifT ?_ (eN c1)
 refine aw_grp1 ?_
 refine wk_start ?_
 refine kv g0 (asg) ?_
 refine wk_end ?_
 refine ac_next ?_
 refine aw_ret ?_
 refine ac_thenR ?_
 obtain rfl := Option.some.inj H
 exact acr hE [.tmp 4] (.tmp .nil) (.one _) [] 9999
/-! laws_eqItemS -/
def laws_eqItemS.l0 : Nat → (List S34) → (List S34) → Int → Option (Bool)
 | 0, _, _, _ => none
 | k9 + 1, l0, l1, p8 => if p8 < (l0.length : Int) then if 0 ≤ p8 then (if p8 < (l1.length : Int) then ((laws_eqItem.f ((rd_T34 l0 p8).f0) ((rd_T34 l0 p8).f1) ((rd_T34 l0 p8).f2) ((rd_T34 l0 p8).f3) ((rd_T34 l1 p8).f0) ((rd_T34 l1 p8).f1) ((rd_T34 l1 p8).f2) ((rd_T34 l1 p8).f3)).bind fun t13 => if t13 = true then laws_eqItemS.l0 k9 l0 l1 (wrap64 (p8 + 1)) else some false) else none) else none else some true
def laws_eqItemS.f (k : Nat) (l0 : List S34) (l1 : List S34) : Option (Bool) := if (l0.length : Int) = (l1.length : Int) then laws_eqItemS.l0 k l0 l1 0 else some false
theorem laws_eqItemS.ok {k : Nat} {l0 : List S34} {l1 : List S34} {r : Bool} (H : laws_eqItemS.f k l0 l1 = some r) : ACalls Try.prog 157 [] [.sl .o 4 (l0.map e34), .sl .o 4 (l1.map e34)] [] (.lit (.bool r)) := by
 refine acalls (fn := Try.f157) (nt := 27) Try.func157 rfl rfl (Nat.le_of_ble_eq_true rfl) fun E hE => ?_
 rw [laws_eqItemS.f] at H
 refine aw_grp1 ?_
 refine wk_start ?_
 refine kv g0 (asg) ?_
 refine wk_end ?_
 refine ac_next ?_
 refine aw_grp1 ?_
 refine aw_grp1 ?_
 refine wk_start ?_
 refine kv g0 (mv) ?_
 refine kv g0 (lnS lenE) ?_
 refine kv g0 (mv) ?_
 refine kv g0 (lnS lenE) ?_
 refine kv g0 (neq) ?_
 refine wk_end ?_
 refine ac_next ?_
 by_cases c1 : (l0.length : Int) = (l1.length : Int)
 ·rw [if_pos c1] at H
  refine aw_ifF ?_ (eM c1)
  refine aw_skip ?_
  refine ac_next ?_
  refine aw_grp1 ?_
  refine aw_grp1 ?_
  refine wk_start ?_
  refine kv g0 (asg) ?_
  refine wk_end ?_
  refine ac_next ?_
  refine aw_block ?_
  refine aw_loop1 (fun (k_ : Nat) (p8 : Int) => k_ ≤ k ∧ laws_eqItemS.l0 k_ l0 l1 p8 = some r) (fun (p8 : Int) => ⟨[(0, .sl .o 4 (l0.map e34)), (1, .sl .o 4 (l1.map e34)), (5, .lit (.int .i64 p8))], []⟩) k 0 ⟨Nat.le_refl _, H⟩ (fun K_ h_ => acw hE [] 9999 h_) (fun _ => by intro h_; have h_ := h_.2; rw [laws_eqItemS.l0.eq_1] at h_; cases h_) ?_
  intro k9 p8 hq_ K16 hK17
  have hk9 := hq_.1
  have H := hq_.2
  clear hq_
  rw [laws_eqItemS.l0.eq_2] at H
  refine aw_grp1 ?_
  refine aw_grp1 ?_
  refine wk_start ?_
  refine kv g0 (mv) ?_
  refine kv g0 (mv) ?_
  refine kv g0 (lnS lenE) ?_
  refine kv g0 (lss) ?_
  refine wk_end ?_
  refine ac_next ?_
  by_cases c10 : p8 < (l0.length : Int)
  ·rw [if_pos c10] at H
   refine aw_ifT ?_ (decide_eq_true c10)
   refine aw_skip ?_
   refine ac_next ?_
   refine aw_grp1 ?_
   refine aw_block ?_
   refine aw_grp1 ?_
   refine wk_start ?_
   refine kv g0 (mv) ?_
   refine kv g0 (mv) ?_
   obtain ⟨c11, H⟩ := of_if H
   refine kv g0 (ixS 34 (e34 (rd_T34 l0 p8)) c11 (getE (z := z34) c11 c10)) ?_
   refine kv g0 (ldRA 4 [.lit (.int .i64 ((rd_T34 l0 p8).f0)), .lit (.int .i64 ((rd_T34 l0 p8).f1)), .lit (.int .i64 ((rd_T34 l0 p8).f2)), .lit (.int .i64 ((rd_T34 l0 p8).f3))]) ?_
   refine kv g0 (mv) ?_
   refine kv g0 (mv) ?_
   obtain ⟨c12, H⟩ := of_if H
   refine kv g0 (ixS 34 (e34 (rd_T34 l1 p8)) c11 (getE (z := z34) c11 c12)) ?_
   refine kv g0 (ldRA 4 [.lit (.int .i64 ((rd_T34 l1 p8).f0)), .lit (.int .i64 ((rd_T34 l1 p8).f1)), .lit (.int .i64 ((rd_T34 l1 p8).f2)), .lit (.int .i64 ((rd_T34 l1 p8).f3))]) ?_
   obtain ⟨t13, A14, H⟩ := of_bind H
   refine kcS0 25 (.lit (.bool t13)) [] g0 (cal (laws_eqItem.ok A14) [] 9999 .n (hf := Try.func173)) rfl rfl ?_
   refine kv g0 (not_) ?_
   refine wk_end_draw hM (by kernel_rfl) ?_
   refine ac_next ?_
   by_cases c15 : t13 = true
   ·rw [if_pos c15] at H
    refine aw_ifF ?_ (nF c15)
    refine aw_skip ?_
    refine ac_blkN ?_
    refine ac_next ?_
    refine wk_start ?_
    refine kv g0 (mv) ?_
    refine kv g0 (add6) ?_
    refine kv g0 (asg) ?_
    refine wk_end ?_
    refine ac_k ?_
    exact acw hE [] 9999 (hK17 k9 (wrap64 (p8 + 1)) (Nat.le_refl _) ⟨by omega, H⟩)
   rw [if_neg c15] at H
   refine aw_ifT ?_ (nT (bF c15))
   refine aw_grp1 ?_
   refine wk_start ?_
   refine kv g0 (asg) ?_
   refine wk_end ?_
   refine ac_next ?_
   refine aw_ret ?_
   refine ac_blkR ?_
   refine ac_thenR ?_
   refine ac_thenR ?_
   refine ac_blkR ?_
   refine ac_thenR ?_
   obtain rfl := Option.some.inj H
   exact acr hE [.tmp 4] (.tmp .nil) (.one _) [] 9999
  rw [if_neg c10] at H
  refine aw_ifF ?_ (decide_eq_false c10)
  refine aw_exit ?_
  refine ac_then ?_
  refine ac_then ?_
  refine ac_hit rfl ?_
  refine ac_next ?_
  refine aw_grp1 ?_
  refine wk_start ?_
  refine kv g0 (asg) ?_
  refine wk_end ?_
  refine ac_next ?_
  refine aw_ret ?_
  obtain rfl := Option.some.inj H
  exact acr hE [.tmp 4] (.tmp .nil) (.one _) [] 9999
 rw [if_neg c1] at H
 refine aw_ifT ?_ (eN c1)
 refine aw_grp1 ?_
 refine wk_start ?_
 refine kv g0 (asg) ?_
 refine wk_end ?_
 refine ac_next ?_
 refine aw_ret ?_
 refine ac_thenR ?_
 obtain rfl := Option.some.inj H
 exact acr hE [.tmp 4] (.tmp .nil) (.one _) [] 9999
/-! laws_eqRing -/
def laws_eqRing.f (k : Nat) (l0_0 : List S34) (a0_1 : Int) (a0_2 : Int) (a0_3 : Int) (l1_0 : List S34) (a1_1 : Int) (a1_2 : Int) (a1_3 : Int) : Option (Bool) := (laws_eqItemS.f k l0_0 l1_0).bind fun t1 => if t1 = true then if a0_1 = a1_1 then if a0_2 = a1_2 then if a0_3 = a1_3 then some true else some false else some false else some false else some false
theorem laws_eqRing.ok {k : Nat} {l0_0 : List S34} {a0_1 : Int} {a0_2 : Int} {a0_3 : Int} {l1_0 : List S34} {a1_1 : Int} {a1_2 : Int} {a1_3 : Int} {r : Bool} (H : laws_eqRing.f k l0_0 a0_1 a0_2 a0_3 l1_0 a1_1 a1_2 a1_3 = some r) : ACalls Try.prog 133 [] [.agg [.sl .o 4 (l0_0.map e34), .lit (.int .i64 a0_1), .lit (.int .i64 a0_2), .lit (.int .i64 a0_3)], .agg [.sl .o 4 (l1_0.map e34), .lit (.int .i64 a1_1), .lit (.int .i64 a1_2), .lit (.int .i64 a1_3)]] [] (.lit (.bool r)) := by
 refine acalls (fn := Try.f133) (nt := 26) Try.func133 rfl rfl (Nat.le_of_ble_eq_true rfl) fun E hE => ?_
 rw [laws_eqRing.f] at H
 refine aw_grp1 ?_
 refine wk_start ?_
 refine kb g0 (bxA 0) ?_
 refine kb g0 (bxA 1) ?_
 refine kv g0 (asg) ?_
 refine wk_end ?_
 refine ac_next ?_
 refine aw_grp1 ?_
 refine aw_grp1 ?_
 refine wk_start ?_
 refine kv g0 (faB 0 0) ?_
 refine kv g0 (ldB) ?_
 refine kv g0 (faB 0 0) ?_
 refine kv g0 (ldB) ?_
 obtain ⟨t1, A2, H⟩ := of_bind H
 refine kcS0 9 (.lit (.bool t1)) [] g0 (cal (laws_eqItemS.ok A2) [] 9999 .n (hf := Try.func157)) rfl rfl ?_
 refine kv g0 (not_) ?_
 refine wk_end ?_
 refine ac_next ?_
 by_cases c3 : t1 = true
 ·rw [if_pos c3] at H
  refine aw_ifF ?_ (nF c3)
  refine aw_skip ?_
  refine ac_next ?_
  refine aw_grp1 ?_
  refine aw_grp1 ?_
  refine wk_start ?_
  refine kv g0 (faB 1 1) ?_
  refine kv g0 (ldB) ?_
  refine kv g0 (faB 1 1) ?_
  refine kv g0 (ldB) ?_
  refine kv g0 (neq) ?_
  refine wk_end ?_
  refine ac_next ?_
  by_cases c4 : a0_1 = a1_1
  ·rw [if_pos c4] at H
   refine aw_ifF ?_ (eM c4)
   refine aw_skip ?_
   refine ac_next ?_
   refine aw_grp1 ?_
   refine aw_grp1 ?_
   refine wk_start ?_
   refine kv g0 (faB 2 2) ?_
   refine kv g0 (ldB) ?_
   refine kv g0 (faB 2 2) ?_
   refine kv g0 (ldB) ?_
   refine kv g0 (neq) ?_
   refine wk_end ?_
   refine ac_next ?_
   by_cases c5 : a0_2 = a1_2
   ·rw [if_pos c5] at H
    refine aw_ifF ?_ (eM c5)
    refine aw_skip ?_
    refine ac_next ?_
    refine aw_grp1 ?_
    refine aw_grp1 ?_
    refine wk_start ?_
    refine kv g0 (faB 3 3) ?_
    refine kv g0 (ldB) ?_
    refine kv g0 (faB 3 3) ?_
    refine kv g0 (ldB) ?_
    refine kv g0 (neq) ?_
    refine wk_end ?_
    refine ac_next ?_
    by_cases c6 : a0_3 = a1_3
    ·rw [if_pos c6] at H
     refine aw_ifF ?_ (eM c6)
     refine aw_skip ?_
     refine ac_next ?_
     refine aw_grp1 ?_
     refine wk_start ?_
     refine kv g0 (asg) ?_
     refine wk_end ?_
     refine ac_next ?_
     refine aw_ret ?_
     obtain rfl := Option.some.inj H
     exact acr hE [.tmp 4] (.tmp .nil) (.one _) [] 9999
    rw [if_neg c6] at H
    refine aw_ifT ?_ (eN c6)
    refine aw_grp1 ?_
    refine wk_start ?_
    refine kv g0 (asg) ?_
    refine wk_end ?_
    refine ac_next ?_
    refine aw_ret ?_
    refine ac_thenR ?_
    obtain rfl := Option.some.inj H
    exact acr hE [.tmp 4] (.tmp .nil) (.one _) [] 9999
   rw [if_neg c5] at H
   refine aw_ifT ?_ (eN c5)
   refine aw_grp1 ?_
   refine wk_start ?_
   refine kv g0 (asg) ?_
   refine wk_end ?_
   refine ac_next ?_
   refine aw_ret ?_
   refine ac_thenR ?_
   obtain rfl := Option.some.inj H
   exact acr hE [.tmp 4] (.tmp .nil) (.one _) [] 9999
  rw [if_neg c4] at H
  refine aw_ifT ?_ (eN c4)
  refine aw_grp1 ?_
  refine wk_start ?_
  refine kv g0 (asg) ?_
  refine wk_end ?_
  refine ac_next ?_
  refine aw_ret ?_
  refine ac_thenR ?_
  obtain rfl := Option.some.inj H
  exact acr hE [.tmp 4] (.tmp .nil) (.one _) [] 9999
 rw [if_neg c3] at H
 refine aw_ifT ?_ (nT (bF c3))
 refine aw_grp1 ?_
 refine wk_start ?_
 refine kv g0 (asg) ?_
 refine wk_end ?_
 refine ac_next ?_
 refine aw_ret ?_
 refine ac_thenR ?_
 obtain rfl := Option.some.inj H
 exact acr hE [.tmp 4] (.tmp .nil) (.one _) [] 9999
/-! laws_eqRingS -/
def laws_eqRingS.l0 : Nat → (List S164) → (List S164) → Int → Option (Bool)
 | 0, _, _, _ => none
 | k9 + 1, l0, l1, p8 => if p8 < (l0.length : Int) then if 0 ≤ p8 then (if p8 < (l1.length : Int) then ((laws_eqRing.f k9 ((rd_T164 l0 p8).f0) ((rd_T164 l0 p8).f1) ((rd_T164 l0 p8).f2) ((rd_T164 l0 p8).f3) ((rd_T164 l1 p8).f0) ((rd_T164 l1 p8).f1) ((rd_T164 l1 p8).f2) ((rd_T164 l1 p8).f3)).bind fun t13 => if t13 = true then laws_eqRingS.l0 k9 l0 l1 (wrap64 (p8 + 1)) else some false) else none) else none else some true
def laws_eqRingS.f (k : Nat) (l0 : List S164) (l1 : List S164) : Option (Bool) := if (l0.length : Int) = (l1.length : Int) then laws_eqRingS.l0 k l0 l1 0 else some false
theorem laws_eqRingS.ok {k : Nat} {l0 : List S164} {l1 : List S164} {r : Bool} (H : laws_eqRingS.f k l0 l1 = some r) : ACalls Try.prog 89 [] [.sl .o 4 (l0.map e164), .sl .o 4 (l1.map e164)] [] (.lit (.bool r)) := by
 refine acalls (fn := Try.f89) (nt := 27) Try.func89 rfl rfl (Nat.le_of_ble_eq_true rfl) fun E hE => ?_
 rw [laws_eqRingS.f] at H
 refine aw_grp1 ?_
 refine wk_start ?_
 refine kv g0 (asg) ?_
 refine wk_end ?_
 refine ac_next ?_
 refine aw_grp1 ?_
 refine aw_grp1 ?_
 refine wk_start ?_
 refine kv g0 (mv) ?_
 refine kv g0 (lnS lenE) ?_
 refine kv g0 (mv) ?_
 refine kv g0 (lnS lenE) ?_
 refine kv g0 (neq) ?_
 refine wk_end ?_
 refine ac_next ?_
 by_cases c1 : (l0.length : Int) = (l1.length : Int)
 ·rw [if_pos c1] at H
  refine aw_ifF ?_ (eM c1)
  refine aw_skip ?_
  refine ac_next ?_
  refine aw_grp1 ?_
  refine aw_grp1 ?_
  refine wk_start ?_
  refine kv g0 (asg) ?_
  refine wk_end ?_
  refine ac_next ?_
  refine aw_block ?_
  refine aw_loop1 (fun (k_ : Nat) (p8 : Int) => k_ ≤ k ∧ laws_eqRingS.l0 k_ l0 l1 p8 = some r) (fun (p8 : Int) => ⟨[(0, .sl .o 4 (l0.map e164)), (1, .sl .o 4 (l1.map e164)), (5, .lit (.int .i64 p8))], []⟩) k 0 ⟨Nat.le_refl _, H⟩ (fun K_ h_ => acw hE [] 9999 h_) (fun _ => by intro h_; have h_ := h_.2; rw [laws_eqRingS.l0.eq_1] at h_; cases h_) ?_
  intro k9 p8 hq_ K16 hK17
  have hk9 := hq_.1
  have H := hq_.2
  clear hq_
  rw [laws_eqRingS.l0.eq_2] at H
  refine aw_grp1 ?_
  refine aw_grp1 ?_
  refine wk_start ?_
  refine kv g0 (mv) ?_
  refine kv g0 (mv) ?_
  refine kv g0 (lnS lenE) ?_
  refine kv g0 (lss) ?_
  refine wk_end ?_
  refine ac_next ?_
  by_cases c10 : p8 < (l0.length : Int)
  ·rw [if_pos c10] at H
   refine aw_ifT ?_ (decide_eq_true c10)
   refine aw_skip ?_
   refine ac_next ?_
   refine aw_grp1 ?_
   refine aw_block ?_
   refine aw_grp1 ?_
   refine wk_start ?_
   refine kv g0 (mv) ?_
   refine kv g0 (mv) ?_
   obtain ⟨c11, H⟩ := of_if H
   refine kv g0 (ixS 164 (e164 (rd_T164 l0 p8)) c11 (getE (z := z164) c11 c10)) ?_
   refine kv g0 (ldRA 4 [.sl .o 4 (((rd_T164 l0 p8).f0).map e34), .lit (.int .i64 ((rd_T164 l0 p8).f1)), .lit (.int .i64 ((rd_T164 l0 p8).f2)), .lit (.int .i64 ((rd_T164 l0 p8).f3))]) ?_
   refine kv g0 (mv) ?_
   refine kv g0 (mv) ?_
   obtain ⟨c12, H⟩ := of_if H
   refine kv g0 (ixS 164 (e164 (rd_T164 l1 p8)) c11 (getE (z := z164) c11 c12)) ?_
   refine kv g0 (ldRA 4 [.sl .o 4 (((rd_T164 l1 p8).f0).map e34), .lit (.int .i64 ((rd_T164 l1 p8).f1)), .lit (.int .i64 ((rd_T164 l1 p8).f2)), .lit (.int .i64 ((rd_T164 l1 p8).f3))]) ?_
   obtain ⟨t13, A14, H⟩ := of_bind H
   refine kcS0 25 (.lit (.bool t13)) [] g0 (cal (laws_eqRing.ok A14) [] 9999 .n (hf := Try.func133)) rfl rfl ?_
   refine kv g0 (not_) ?_
   refine wk_end_draw hM (by kernel_rfl) ?_
   refine ac_next ?_
   by_cases c15 : t13 = true
   ·rw [if_pos c15] at H
    refine aw_ifF ?_ (nF c15)
    refine aw_skip ?_
    refine ac_blkN ?_
    refine ac_next ?_
    refine wk_start ?_
    refine kv g0 (mv) ?_
    refine kv g0 (add6) ?_
    refine kv g0 (asg) ?_
    refine wk_end ?_
    refine ac_k ?_
    exact acw hE [] 9999 (hK17 k9 (wrap64 (p8 + 1)) (Nat.le_refl _) ⟨by omega, H⟩)
   rw [if_neg c15] at H
   refine aw_ifT ?_ (nT (bF c15))
   refine aw_grp1 ?_
   refine wk_start ?_
   refine kv g0 (asg) ?_
   refine wk_end ?_
   refine ac_next ?_
   refine aw_ret ?_
   refine ac_blkR ?_
   refine ac_thenR ?_
   refine ac_thenR ?_
   refine ac_blkR ?_
   refine ac_thenR ?_
   obtain rfl := Option.some.inj H
   exact acr hE [.tmp 4] (.tmp .nil) (.one _) [] 9999
  rw [if_neg c10] at H
  refine aw_ifF ?_ (decide_eq_false c10)
  refine aw_exit ?_
  refine ac_then ?_
  refine ac_then ?_
  refine ac_hit rfl ?_
  refine ac_next ?_
  refine aw_grp1 ?_
  refine wk_start ?_
  refine kv g0 (asg) ?_
  refine wk_end ?_
  refine ac_next ?_
  refine aw_ret ?_
  obtain rfl := Option.some.inj H
  exact acr hE [.tmp 4] (.tmp .nil) (.one _) [] 9999
 rw [if_neg c1] at H
 refine aw_ifT ?_ (eN c1)
 refine aw_grp1 ?_
 refine wk_start ?_
 refine kv g0 (asg) ?_
 refine wk_end ?_
 refine ac_next ?_
 refine aw_ret ?_
 refine ac_thenR ?_
 obtain rfl := Option.some.inj H
 exact acr hE [.tmp 4] (.tmp .nil) (.one _) [] 9999
/-! laws_eqSender -/
def laws_eqSender.f (k : Nat) (a0_0 : Int) (a0_1 : Int) (l0_2 : List S34) (a0_3 : Int) (a0_4 : Int) (a1_0 : Int) (a1_1 : Int) (l1_2 : List S34) (a1_3 : Int) (a1_4 : Int) : Option (Bool) := if a0_0 = a1_0 then if a0_1 = a1_1 then (laws_eqItemS.f k l0_2 l1_2).bind fun t3 => if t3 = true then if a0_3 = a1_3 then if a0_4 = a1_4 then some true else some false else some false else some false else some false else some false
theorem laws_eqSender.ok {k : Nat} {a0_0 : Int} {a0_1 : Int} {l0_2 : List S34} {a0_3 : Int} {a0_4 : Int} {a1_0 : Int} {a1_1 : Int} {l1_2 : List S34} {a1_3 : Int} {a1_4 : Int} {r : Bool} (H : laws_eqSender.f k a0_0 a0_1 l0_2 a0_3 a0_4 a1_0 a1_1 l1_2 a1_3 a1_4 = some r) : ACalls Try.prog 134 [] [.agg [.lit (.int .i64 a0_0), .lit (.int .i64 a0_1), .sl .o 4 (l0_2.map e34), .lit (.int .i64 a0_3), .lit (.int .i64 a0_4)], .agg [.lit (.int .i64 a1_0), .lit (.int .i64 a1_1), .sl .o 4 (l1_2.map e34), .lit (.int .i64 a1_3), .lit (.int .i64 a1_4)]] [] (.lit (.bool r)) := by
 refine acalls (fn := Try.f134) (nt := 31) Try.func134 rfl rfl (Nat.le_of_ble_eq_true rfl) fun E hE => ?_
 rw [laws_eqSender.f] at H
 refine aw_grp1 ?_
 refine wk_start ?_
 refine kb g0 (bxA 0) ?_
 refine kb g0 (bxA 1) ?_
 refine kv g0 (asg) ?_
 refine wk_end ?_
 refine ac_next ?_
 refine aw_grp1 ?_
 refine aw_grp1 ?_
 refine wk_start ?_
 refine kv g0 (faB 0 0) ?_
 refine kv g0 (ldB) ?_
 refine kv g0 (faB 0 0) ?_
 refine kv g0 (ldB) ?_
 refine kv g0 (neq) ?_
 refine wk_end ?_
 refine ac_next ?_
 by_cases c1 : a0_0 = a1_0
 ·rw [if_pos c1] at H
  refine aw_ifF ?_ (eM c1)
  refine aw_skip ?_
  refine ac_next ?_
  refine aw_grp1 ?_
  refine aw_grp1 ?_
  refine wk_start ?_
  refine kv g0 (faB 1 1) ?_
  refine kv g0 (ldB) ?_
  refine kv g0 (faB 1 1) ?_
  refine kv g0 (ldB) ?_
  refine kv g0 (neq) ?_
  refine wk_end ?_
  refine ac_next ?_
  by_cases c2 : a0_1 = a1_1
  ·rw [if_pos c2] at H
   refine aw_ifF ?_ (eM c2)
   refine aw_skip ?_
   refine ac_next ?_
   refine aw_grp1 ?_
   refine aw_grp1 ?_
   refine wk_start ?_
   refine kv g0 (faB 2 2) ?_
   refine kv g0 (ldB) ?_
   refine kv g0 (faB 2 2) ?_
   refine kv g0 (ldB) ?_
   obtain ⟨t3, A4, H⟩ := of_bind H
   refine kcS0 19 (.lit (.bool t3)) [] g0 (cal (laws_eqItemS.ok A4) [] 9999 .n (hf := Try.func157)) rfl rfl ?_
   refine kv g0 (not_) ?_
   refine wk_end ?_
   refine ac_next ?_
   by_cases c5 : t3 = true
   ·rw [if_pos c5] at H
    refine aw_ifF ?_ (nF c5)
    refine aw_skip ?_
    refine ac_next ?_
    refine aw_grp1 ?_
    refine aw_grp1 ?_
    refine wk_start ?_
    refine kv g0 (faB 3 3) ?_
    refine kv g0 (ldB) ?_
    refine kv g0 (faB 3 3) ?_
    refine kv g0 (ldB) ?_
    refine kv g0 (neq) ?_
    refine wk_end ?_
    refine ac_next ?_
    by_cases c6 : a0_3 = a1_3
    ·rw [if_pos c6] at H
     refine aw_ifF ?_ (eM c6)
     refine aw_skip ?_
     refine ac_next ?_
     refine aw_grp1 ?_
     refine aw_grp1 ?_
     refine wk_start ?_
     refine kv g0 (faB 4 4) ?_
     refine kv g0 (ldB) ?_
     refine kv g0 (faB 4 4) ?_
     refine kv g0 (ldB) ?_
     refine kv g0 (neq) ?_
     refine wk_end ?_
     refine ac_next ?_
     by_cases c7 : a0_4 = a1_4
     ·rw [if_pos c7] at H
      refine aw_ifF ?_ (eM c7)
      refine aw_skip ?_
      refine ac_next ?_
      refine aw_grp1 ?_
      refine wk_start ?_
      refine kv g0 (asg) ?_
      refine wk_end ?_
      refine ac_next ?_
      refine aw_ret ?_
      obtain rfl := Option.some.inj H
      exact acr hE [.tmp 4] (.tmp .nil) (.one _) [] 9999
     rw [if_neg c7] at H
     refine aw_ifT ?_ (eN c7)
     refine aw_grp1 ?_
     refine wk_start ?_
     refine kv g0 (asg) ?_
     refine wk_end ?_
     refine ac_next ?_
     refine aw_ret ?_
     refine ac_thenR ?_
     obtain rfl := Option.some.inj H
     exact acr hE [.tmp 4] (.tmp .nil) (.one _) [] 9999
    rw [if_neg c6] at H
    refine aw_ifT ?_ (eN c6)
    refine aw_grp1 ?_
    refine wk_start ?_
    refine kv g0 (asg) ?_
    refine wk_end ?_
    refine ac_next ?_
    refine aw_ret ?_
    refine ac_thenR ?_
    obtain rfl := Option.some.inj H
    exact acr hE [.tmp 4] (.tmp .nil) (.one _) [] 9999
   rw [if_neg c5] at H
   refine aw_ifT ?_ (nT (bF c5))
   refine aw_grp1 ?_
   refine wk_start ?_
   refine kv g0 (asg) ?_
   refine wk_end ?_
   refine ac_next ?_
   refine aw_ret ?_
   refine ac_thenR ?_
   obtain rfl := Option.some.inj H
   exact acr hE [.tmp 4] (.tmp .nil) (.one _) [] 9999
  rw [if_neg c2] at H
  refine aw_ifT ?_ (eN c2)
  refine aw_grp1 ?_
  refine wk_start ?_
  refine kv g0 (asg) ?_
  refine wk_end ?_
  refine ac_next ?_
  refine aw_ret ?_
  refine ac_thenR ?_
  obtain rfl := Option.some.inj H
  exact acr hE [.tmp 4] (.tmp .nil) (.one _) [] 9999
 rw [if_neg c1] at H
 refine aw_ifT ?_ (eN c1)
 refine aw_grp1 ?_
 refine wk_start ?_
 refine kv g0 (asg) ?_
 refine wk_end ?_
 refine ac_next ?_
 refine aw_ret ?_
 refine ac_thenR ?_
 obtain rfl := Option.some.inj H
 exact acr hE [.tmp 4] (.tmp .nil) (.one _) [] 9999
/-! laws_eqSenderS -/
def laws_eqSenderS.l0 : Nat → (List S75) → (List S75) → Int → Option (Bool)
 | 0, _, _, _ => none
 | k9 + 1, l0, l1, p8 => if p8 < (l0.length : Int) then if 0 ≤ p8 then (if p8 < (l1.length : Int) then ((laws_eqSender.f k9 ((rd_T75 l0 p8).f0) ((rd_T75 l0 p8).f1) ((rd_T75 l0 p8).f2) ((rd_T75 l0 p8).f3) ((rd_T75 l0 p8).f4) ((rd_T75 l1 p8).f0) ((rd_T75 l1 p8).f1) ((rd_T75 l1 p8).f2) ((rd_T75 l1 p8).f3) ((rd_T75 l1 p8).f4)).bind fun t13 => if t13 = true then laws_eqSenderS.l0 k9 l0 l1 (wrap64 (p8 + 1)) else some false) else none) else none else some true
def laws_eqSenderS.f (k : Nat) (l0 : List S75) (l1 : List S75) : Option (Bool) := if (l0.length : Int) = (l1.length : Int) then laws_eqSenderS.l0 k l0 l1 0 else some false
theorem laws_eqSenderS.ok {k : Nat} {l0 : List S75} {l1 : List S75} {r : Bool} (H : laws_eqSenderS.f k l0 l1 = some r) : ACalls Try.prog 90 [] [.sl .o 5 (l0.map e75), .sl .o 5 (l1.map e75)] [] (.lit (.bool r)) := by
 refine acalls (fn := Try.f90) (nt := 27) Try.func90 rfl rfl (Nat.le_of_ble_eq_true rfl) fun E hE => ?_
 rw [laws_eqSenderS.f] at H
 refine aw_grp1 ?_
 refine wk_start ?_
 refine kv g0 (asg) ?_
 refine wk_end ?_
 refine ac_next ?_
 refine aw_grp1 ?_
 refine aw_grp1 ?_
 refine wk_start ?_
 refine kv g0 (mv) ?_
 refine kv g0 (lnS lenE) ?_
 refine kv g0 (mv) ?_
 refine kv g0 (lnS lenE) ?_
 refine kv g0 (neq) ?_
 refine wk_end ?_
 refine ac_next ?_
 by_cases c1 : (l0.length : Int) = (l1.length : Int)
 ·rw [if_pos c1] at H
  refine aw_ifF ?_ (eM c1)
  refine aw_skip ?_
  refine ac_next ?_
  refine aw_grp1 ?_
  refine aw_grp1 ?_
  refine wk_start ?_
  refine kv g0 (asg) ?_
  refine wk_end ?_
  refine ac_next ?_
  refine aw_block ?_
  refine aw_loop1 (fun (k_ : Nat) (p8 : Int) => k_ ≤ k ∧ laws_eqSenderS.l0 k_ l0 l1 p8 = some r) (fun (p8 : Int) => ⟨[(0, .sl .o 5 (l0.map e75)), (1, .sl .o 5 (l1.map e75)), (5, .lit (.int .i64 p8))], []⟩) k 0 ⟨Nat.le_refl _, H⟩ (fun K_ h_ => acw hE [] 9999 h_) (fun _ => by intro h_; have h_ := h_.2; rw [laws_eqSenderS.l0.eq_1] at h_; cases h_) ?_
  intro k9 p8 hq_ K16 hK17
  have hk9 := hq_.1
  have H := hq_.2
  clear hq_
  rw [laws_eqSenderS.l0.eq_2] at H
  refine aw_grp1 ?_
  refine aw_grp1 ?_
  refine wk_start ?_
  refine kv g0 (mv) ?_
  refine kv g0 (mv) ?_
  refine kv g0 (lnS lenE) ?_
  refine kv g0 (lss) ?_
  refine wk_end ?_
  refine ac_next ?_
  by_cases c10 : p8 < (l0.length : Int)
  ·rw [if_pos c10] at H
   refine aw_ifT ?_ (decide_eq_true c10)
   refine aw_skip ?_
   refine ac_next ?_
   refine aw_grp1 ?_
   refine aw_block ?_
   refine aw_grp1 ?_
   refine wk_start ?_
   refine kv g0 (mv) ?_
   refine kv g0 (mv) ?_
   obtain ⟨c11, H⟩ := of_if H
   refine kv g0 (ixS 75 (e75 (rd_T75 l0 p8)) c11 (getE (z := z75) c11 c10)) ?_
   refine kv g0 (ldRA 5 [.lit (.int .i64 ((rd_T75 l0 p8).f0)), .lit (.int .i64 ((rd_T75 l0 p8).f1)), .sl .o 4 (((rd_T75 l0 p8).f2).map e34), .lit (.int .i64 ((rd_T75 l0 p8).f3)), .lit (.int .i64 ((rd_T75 l0 p8).f4))]) ?_
   refine kv g0 (mv) ?_
   refine kv g0 (mv) ?_
   obtain ⟨c12, H⟩ := of_if H
   refine kv g0 (ixS 75 (e75 (rd_T75 l1 p8)) c11 (getE (z := z75) c11 c12)) ?_
   refine kv g0 (ldRA 5 [.lit (.int .i64 ((rd_T75 l1 p8).f0)), .lit (.int .i64 ((rd_T75 l1 p8).f1)), .sl .o 4 (((rd_T75 l1 p8).f2).map e34), .lit (.int .i64 ((rd_T75 l1 p8).f3)), .lit (.int .i64 ((rd_T75 l1 p8).f4))]) ?_
   obtain ⟨t13, A14, H⟩ := of_bind H
   refine kcS0 25 (.lit (.bool t13)) [] g0 (cal (laws_eqSender.ok A14) [] 9999 .n (hf := Try.func134)) rfl rfl ?_
   refine kv g0 (not_) ?_
   refine wk_end_draw hM (by kernel_rfl) ?_
   refine ac_next ?_
   by_cases c15 : t13 = true
   ·rw [if_pos c15] at H
    refine aw_ifF ?_ (nF c15)
    refine aw_skip ?_
    refine ac_blkN ?_
    refine ac_next ?_
    refine wk_start ?_
    refine kv g0 (mv) ?_
    refine kv g0 (add6) ?_
    refine kv g0 (asg) ?_
    refine wk_end ?_
    refine ac_k ?_
    exact acw hE [] 9999 (hK17 k9 (wrap64 (p8 + 1)) (Nat.le_refl _) ⟨by omega, H⟩)
   rw [if_neg c15] at H
   refine aw_ifT ?_ (nT (bF c15))
   refine aw_grp1 ?_
   refine wk_start ?_
   refine kv g0 (asg) ?_
   refine wk_end ?_
   refine ac_next ?_
   refine aw_ret ?_
   refine ac_blkR ?_
   refine ac_thenR ?_
   refine ac_thenR ?_
   refine ac_blkR ?_
   refine ac_thenR ?_
   obtain rfl := Option.some.inj H
   exact acr hE [.tmp 4] (.tmp .nil) (.one _) [] 9999
  rw [if_neg c10] at H
  refine aw_ifF ?_ (decide_eq_false c10)
  refine aw_exit ?_
  refine ac_then ?_
  refine ac_then ?_
  refine ac_hit rfl ?_
  refine ac_next ?_
  refine aw_grp1 ?_
  refine wk_start ?_
  refine kv g0 (asg) ?_
  refine wk_end ?_
  refine ac_next ?_
  refine aw_ret ?_
  obtain rfl := Option.some.inj H
  exact acr hE [.tmp 4] (.tmp .nil) (.one _) [] 9999
 rw [if_neg c1] at H
 refine aw_ifT ?_ (eN c1)
 refine aw_grp1 ?_
 refine wk_start ?_
 refine kv g0 (asg) ?_
 refine wk_end ?_
 refine ac_next ?_
 refine aw_ret ?_
 refine ac_thenR ?_
 obtain rfl := Option.some.inj H
 exact acr hE [.tmp 4] (.tmp .nil) (.one _) [] 9999
/-! laws_eqEntry -/
def laws_eqEntry.f (a0_0 : Int) (a0_1 : Int) (a0_2 : Int) (a0_3 : Int) (a0_4 : Int) (a0_5 : Int) (a1_0 : Int) (a1_1 : Int) (a1_2 : Int) (a1_3 : Int) (a1_4 : Int) (a1_5 : Int) : Option (Bool) := if a0_0 = a1_0 then if a0_1 = a1_1 then (laws_eqItem.f a0_2 a0_3 a0_4 a0_5 a1_2 a1_3 a1_4 a1_5).bind fun t3 => if t3 = true then some true else some false else some false else some false
theorem laws_eqEntry.ok {a0_0 : Int} {a0_1 : Int} {a0_2 : Int} {a0_3 : Int} {a0_4 : Int} {a0_5 : Int} {a1_0 : Int} {a1_1 : Int} {a1_2 : Int} {a1_3 : Int} {a1_4 : Int} {a1_5 : Int} {r : Bool} (H : laws_eqEntry.f a0_0 a0_1 a0_2 a0_3 a0_4 a0_5 a1_0 a1_1 a1_2 a1_3 a1_4 a1_5 = some r) : ACalls Try.prog 158 [] [.agg [.lit (.int .i64 a0_0), .lit (.int .i64 a0_1), .lit (.int .i64 a0_2), .lit (.int .i64 a0_3), .lit (.int .i64 a0_4), .lit (.int .i64 a0_5)], .agg [.lit (.int .i64 a1_0), .lit (.int .i64 a1_1), .lit (.int .i64 a1_2), .lit (.int .i64 a1_3), .lit (.int .i64 a1_4), .lit (.int .i64 a1_5)]] [] (.lit (.bool r)) := by
 refine acalls (fn := Try.f158) (nt := 21) Try.func158 rfl rfl (Nat.le_of_ble_eq_true rfl) fun E hE => ?_
 rw [laws_eqEntry.f] at H
 refine aw_grp1 ?_
 refine wk_start ?_
 refine kb g0 (bxA 0) ?_
 refine kb g0 (bxA 1) ?_
 refine kv g0 (asg) ?_
 refine wk_end ?_
 refine ac_next ?_
 refine aw_grp1 ?_
 refine aw_grp1 ?_
 refine wk_start ?_
 refine kv g0 (faB 0 0) ?_
 refine kv g0 (ldB) ?_
 refine kv g0 (faB 0 0) ?_
 refine kv g0 (ldB) ?_
 refine kv g0 (neq) ?_
 refine wk_end ?_
 refine ac_next ?_
 by_cases c1 : a0_0 = a1_0
 ·rw [if_pos c1] at H
  refine aw_ifF ?_ (eM c1)
  refine aw_skip ?_
  refine ac_next ?_
  refine aw_grp1 ?_
  refine aw_grp1 ?_
  refine wk_start ?_
  refine kv g0 (faB 1 1) ?_
  refine kv g0 (ldB) ?_
  refine kv g0 (faB 1 1) ?_
  refine kv g0 (ldB) ?_
  refine kv g0 (neq) ?_
  refine wk_end ?_
  refine ac_next ?_
  by_cases c2 : a0_1 = a1_1
  ·rw [if_pos c2] at H
   refine aw_ifF ?_ (eM c2)
   refine aw_skip ?_
   refine ac_next ?_
   refine aw_grp1 ?_
   refine aw_grp1 ?_
   refine wk_start ?_
   refine kv g0 (faB 2 2) ?_
   refine kv g0 (ldBA 4 [.lit (.int .i64 a0_2), .lit (.int .i64 a0_3), .lit (.int .i64 a0_4), .lit (.int .i64 a0_5)]) ?_
   refine kv g0 (faB 2 2) ?_
   refine kv g0 (ldBA 4 [.lit (.int .i64 a1_2), .lit (.int .i64 a1_3), .lit (.int .i64 a1_4), .lit (.int .i64 a1_5)]) ?_
   obtain ⟨t3, A4, H⟩ := of_bind H
   refine kcS0 19 (.lit (.bool t3)) [] g0 (cal (laws_eqItem.ok A4) [] 9999 .n (hf := Try.func173)) rfl rfl ?_
   refine kv g0 (not_) ?_
   refine wk_end ?_
   refine ac_next ?_
   by_cases c5 : t3 = true
   ·rw [if_pos c5] at H
    refine aw_ifF ?_ (nF c5)
    refine aw_skip ?_
    refine ac_next ?_
    refine aw_grp1 ?_
    refine wk_start ?_
    refine kv g0 (asg) ?_
    refine wk_end ?_
    refine ac_next ?_
    refine aw_ret ?_
    obtain rfl := Option.some.inj H
    exact acr hE [.tmp 4] (.tmp .nil) (.one _) [] 9999
   rw [if_neg c5] at H
   refine aw_ifT ?_ (nT (bF c5))
   refine aw_grp1 ?_
   refine wk_start ?_
   refine kv g0 (asg) ?_
   refine wk_end ?_
   refine ac_next ?_
   refine aw_ret ?_
   refine ac_thenR ?_
   obtain rfl := Option.some.inj H
   exact acr hE [.tmp 4] (.tmp .nil) (.one _) [] 9999
  rw [if_neg c2] at H
  refine aw_ifT ?_ (eN c2)
  refine aw_grp1 ?_
  refine wk_start ?_
  refine kv g0 (asg) ?_
  refine wk_end ?_
  refine ac_next ?_
  refine aw_ret ?_
  refine ac_thenR ?_
  obtain rfl := Option.some.inj H
  exact acr hE [.tmp 4] (.tmp .nil) (.one _) [] 9999
 rw [if_neg c1] at H
 refine aw_ifT ?_ (eN c1)
 refine aw_grp1 ?_
 refine wk_start ?_
 refine kv g0 (asg) ?_
 refine wk_end ?_
 refine ac_next ?_
 refine aw_ret ?_
 refine ac_thenR ?_
 obtain rfl := Option.some.inj H
 exact acr hE [.tmp 4] (.tmp .nil) (.one _) [] 9999
/-! laws_eqEntryS -/
def laws_eqEntryS.l0 : Nat → (List S98) → (List S98) → Int → Option (Bool)
 | 0, _, _, _ => none
 | k9 + 1, l0, l1, p8 => if p8 < (l0.length : Int) then if 0 ≤ p8 then (if p8 < (l1.length : Int) then ((laws_eqEntry.f ((rd_T98 l0 p8).f0) ((rd_T98 l0 p8).f1) ((rd_T98 l0 p8).f2.f0) ((rd_T98 l0 p8).f2.f1) ((rd_T98 l0 p8).f2.f2) ((rd_T98 l0 p8).f2.f3) ((rd_T98 l1 p8).f0) ((rd_T98 l1 p8).f1) ((rd_T98 l1 p8).f2.f0) ((rd_T98 l1 p8).f2.f1) ((rd_T98 l1 p8).f2.f2) ((rd_T98 l1 p8).f2.f3)).bind fun t13 => if t13 = true then laws_eqEntryS.l0 k9 l0 l1 (wrap64 (p8 + 1)) else some false) else none) else none else some true
def laws_eqEntryS.f (k : Nat) (l0 : List S98) (l1 : List S98) : Option (Bool) := if (l0.length : Int) = (l1.length : Int) then laws_eqEntryS.l0 k l0 l1 0 else some false
theorem laws_eqEntryS.ok {k : Nat} {l0 : List S98} {l1 : List S98} {r : Bool} (H : laws_eqEntryS.f k l0 l1 = some r) : ACalls Try.prog 135 [] [.sl .o 6 (l0.map e98), .sl .o 6 (l1.map e98)] [] (.lit (.bool r)) := by
 refine acalls (fn := Try.f135) (nt := 27) Try.func135 rfl rfl (Nat.le_of_ble_eq_true rfl) fun E hE => ?_
 rw [laws_eqEntryS.f] at H
 refine aw_grp1 ?_
 refine wk_start ?_
 refine kv g0 (asg) ?_
 refine wk_end ?_
 refine ac_next ?_
 refine aw_grp1 ?_
 refine aw_grp1 ?_
 refine wk_start ?_
 refine kv g0 (mv) ?_
 refine kv g0 (lnS lenE) ?_
 refine kv g0 (mv) ?_
 refine kv g0 (lnS lenE) ?_
 refine kv g0 (neq) ?_
 refine wk_end ?_
 refine ac_next ?_
 by_cases c1 : (l0.length : Int) = (l1.length : Int)
 ·rw [if_pos c1] at H
  refine aw_ifF ?_ (eM c1)
  refine aw_skip ?_
  refine ac_next ?_
  refine aw_grp1 ?_
  refine aw_grp1 ?_
  refine wk_start ?_
  refine kv g0 (asg) ?_
  refine wk_end ?_
  refine ac_next ?_
  refine aw_block ?_
  refine aw_loop1 (fun (k_ : Nat) (p8 : Int) => k_ ≤ k ∧ laws_eqEntryS.l0 k_ l0 l1 p8 = some r) (fun (p8 : Int) => ⟨[(0, .sl .o 6 (l0.map e98)), (1, .sl .o 6 (l1.map e98)), (5, .lit (.int .i64 p8))], []⟩) k 0 ⟨Nat.le_refl _, H⟩ (fun K_ h_ => acw hE [] 9999 h_) (fun _ => by intro h_; have h_ := h_.2; rw [laws_eqEntryS.l0.eq_1] at h_; cases h_) ?_
  intro k9 p8 hq_ K16 hK17
  have hk9 := hq_.1
  have H := hq_.2
  clear hq_
  rw [laws_eqEntryS.l0.eq_2] at H
  refine aw_grp1 ?_
  refine aw_grp1 ?_
  refine wk_start ?_
  refine kv g0 (mv) ?_
  refine kv g0 (mv) ?_
  refine kv g0 (lnS lenE) ?_
  refine kv g0 (lss) ?_
  refine wk_end ?_
  refine ac_next ?_
  by_cases c10 : p8 < (l0.length : Int)
  ·rw [if_pos c10] at H
   refine aw_ifT ?_ (decide_eq_true c10)
   refine aw_skip ?_
   refine ac_next ?_
   refine aw_grp1 ?_
   refine aw_block ?_
   refine aw_grp1 ?_
   refine wk_start ?_
   refine kv g0 (mv) ?_
   refine kv g0 (mv) ?_
   obtain ⟨c11, H⟩ := of_if H
   refine kv g0 (ixS 98 (e98 (rd_T98 l0 p8)) c11 (getE (z := z98) c11 c10)) ?_
   refine kv g0 (ldRA 6 [.lit (.int .i64 ((rd_T98 l0 p8).f0)), .lit (.int .i64 ((rd_T98 l0 p8).f1)), .lit (.int .i64 ((rd_T98 l0 p8).f2.f0)), .lit (.int .i64 ((rd_T98 l0 p8).f2.f1)), .lit (.int .i64 ((rd_T98 l0 p8).f2.f2)), .lit (.int .i64 ((rd_T98 l0 p8).f2.f3))]) ?_
   refine kv g0 (mv) ?_
   refine kv g0 (mv) ?_
   obtain ⟨c12, H⟩ := of_if H
   refine kv g0 (ixS 98 (e98 (rd_T98 l1 p8)) c11 (getE (z := z98) c11 c12)) ?_
   refine kv g0 (ldRA 6 [.lit (.int .i64 ((rd_T98 l1 p8).f0)), .lit (.int .i64 ((rd_T98 l1 p8).f1)), .lit (.int .i64 ((rd_T98 l1 p8).f2.f0)), .lit (.int .i64 ((rd_T98 l1 p8).f2.f1)), .lit (.int .i64 ((rd_T98 l1 p8).f2.f2)), .lit (.int .i64 ((rd_T98 l1 p8).f2.f3))]) ?_
   obtain ⟨t13, A14, H⟩ := of_bind H
   refine kcS0 25 (.lit (.bool t13)) [] g0 (cal (laws_eqEntry.ok A14) [] 9999 .n (hf := Try.func158)) rfl rfl ?_
   refine kv g0 (not_) ?_
   refine wk_end_draw hM (by kernel_rfl) ?_
   refine ac_next ?_
   by_cases c15 : t13 = true
   ·rw [if_pos c15] at H
    refine aw_ifF ?_ (nF c15)
    refine aw_skip ?_
    refine ac_blkN ?_
    refine ac_next ?_
    refine wk_start ?_
    refine kv g0 (mv) ?_
    refine kv g0 (add6) ?_
    refine kv g0 (asg) ?_
    refine wk_end ?_
    refine ac_k ?_
    exact acw hE [] 9999 (hK17 k9 (wrap64 (p8 + 1)) (Nat.le_refl _) ⟨by omega, H⟩)
   rw [if_neg c15] at H
   refine aw_ifT ?_ (nT (bF c15))
   refine aw_grp1 ?_
   refine wk_start ?_
   refine kv g0 (asg) ?_
   refine wk_end ?_
   refine ac_next ?_
   refine aw_ret ?_
   refine ac_blkR ?_
   refine ac_thenR ?_
   refine ac_thenR ?_
   refine ac_blkR ?_
   refine ac_thenR ?_
   obtain rfl := Option.some.inj H
   exact acr hE [.tmp 4] (.tmp .nil) (.one _) [] 9999
  rw [if_neg c10] at H
  refine aw_ifF ?_ (decide_eq_false c10)
  refine aw_exit ?_
  refine ac_then ?_
  refine ac_then ?_
  refine ac_hit rfl ?_
  refine ac_next ?_
  refine aw_grp1 ?_
  refine wk_start ?_
  refine kv g0 (asg) ?_
  refine wk_end ?_
  refine ac_next ?_
  refine aw_ret ?_
  obtain rfl := Option.some.inj H
  exact acr hE [.tmp 4] (.tmp .nil) (.one _) [] 9999
 rw [if_neg c1] at H
 refine aw_ifT ?_ (eN c1)
 refine aw_grp1 ?_
 refine wk_start ?_
 refine kv g0 (asg) ?_
 refine wk_end ?_
 refine ac_next ?_
 refine aw_ret ?_
 refine ac_thenR ?_
 obtain rfl := Option.some.inj H
 exact acr hE [.tmp 4] (.tmp .nil) (.one _) [] 9999
/-! laws_eqIntS -/
def laws_eqIntS.l0 : Nat → (List Int) → (List Int) → Int → Option (Bool)
 | 0, _, _, _ => none
 | k7 + 1, l0, l1, p6 => if p6 < (l0.length : Int) then if 0 ≤ p6 then (if p6 < (l1.length : Int) then if (rd l0 p6) = (rd l1 p6) then laws_eqIntS.l0 k7 l0 l1 (wrap64 (p6 + 1)) else some false else none) else none else some true
def laws_eqIntS.f (k : Nat) (l0 : List Int) (l1 : List Int) : Option (Bool) := if (l0.length : Int) = (l1.length : Int) then laws_eqIntS.l0 k l0 l1 0 else some false
theorem laws_eqIntS.ok {k : Nat} {l0 : List Int} {l1 : List Int} {r : Bool} (H : laws_eqIntS.f k l0 l1 = some r) : ACalls Try.prog 93 [] [.sl .o 1 (l0.map (eI .i64)), .sl .o 1 (l1.map (eI .i64))] [] (.lit (.bool r)) := by
 refine acalls (fn := Try.f93) (nt := 26) Try.func93 rfl rfl (Nat.le_of_ble_eq_true rfl) fun E hE => ?_
 rw [laws_eqIntS.f] at H
 refine aw_grp1 ?_
 refine wk_start ?_
 refine kv g0 (asg) ?_
 refine wk_end ?_
 refine ac_next ?_
 refine aw_grp1 ?_
 refine aw_grp1 ?_
 refine wk_start ?_
 refine kv g0 (mv) ?_
 refine kv g0 (lnS lenE) ?_
 refine kv g0 (mv) ?_
 refine kv g0 (lnS lenE) ?_
 refine kv g0 (neq) ?_
 refine wk_end ?_
 refine ac_next ?_
 by_cases c1 : (l0.length : Int) = (l1.length : Int)
 ·rw [if_pos c1] at H
  refine aw_ifF ?_ (eM c1)
  refine aw_skip ?_
  refine ac_next ?_
  refine aw_grp1 ?_
  refine aw_grp1 ?_
  refine wk_start ?_
  refine kv g0 (asg) ?_
  refine wk_end ?_
  refine ac_next ?_
  refine aw_block ?_
  refine aw_loop1 (fun (k_ : Nat) (p6 : Int) => k_ ≤ k ∧ laws_eqIntS.l0 k_ l0 l1 p6 = some r) (fun (p6 : Int) => ⟨[(0, .sl .o 1 (l0.map (eI .i64))), (1, .sl .o 1 (l1.map (eI .i64))), (5, .lit (.int .i64 p6))], []⟩) k 0 ⟨Nat.le_refl _, H⟩ (fun K_ h_ => acw hE [] 9999 h_) (fun _ => by intro h_; have h_ := h_.2; rw [laws_eqIntS.l0.eq_1] at h_; cases h_) ?_
  intro k7 p6 hq_ K12 hK13
  have hk7 := hq_.1
  have H := hq_.2
  clear hq_
  rw [laws_eqIntS.l0.eq_2] at H
  refine aw_grp1 ?_
  refine aw_grp1 ?_
  refine wk_start ?_
  refine kv g0 (mv) ?_
  refine kv g0 (mv) ?_
  refine kv g0 (lnS lenE) ?_
  refine kv g0 (lss) ?_
  refine wk_end ?_
  refine ac_next ?_
  by_cases c8 : p6 < (l0.length : Int)
  ·rw [if_pos c8] at H
   refine aw_ifT ?_ (decide_eq_true c8)
   refine aw_skip ?_
   refine ac_next ?_
   refine aw_grp1 ?_
   refine aw_block ?_
   refine aw_grp1 ?_
   refine wk_start ?_
   refine kv g0 (mv) ?_
   refine kv g0 (mv) ?_
   obtain ⟨c9, H⟩ := of_if H
   refine kv g0 (ixS 3 (eI .i64 (rd l0 p6)) c9 (getE (z := (0 : Int)) c9 c8)) ?_
   refine kv g0 (ldR (.lit (.int .i64 (rd l0 p6)))) ?_
   refine kv g0 (mv) ?_
   refine kv g0 (mv) ?_
   obtain ⟨c10, H⟩ := of_if H
   refine kv g0 (ixS 3 (eI .i64 (rd l1 p6)) c9 (getE (z := (0 : Int)) c9 c10)) ?_
   refine kv g0 (ldR (.lit (.int .i64 (rd l1 p6)))) ?_
   refine kv g0 (neq) ?_
   refine wk_end_draw hM (by kernel_rfl) ?_
   refine ac_next ?_
   by_cases c11 : (rd l0 p6) = (rd l1 p6)
   ·rw [if_pos c11] at H
    refine aw_ifF ?_ (eM c11)
    refine aw_skip ?_
    refine ac_blkN ?_
    refine ac_next ?_
    refine wk_start ?_
    refine kv g0 (mv) ?_
    refine kv g0 (add6) ?_
    refine kv g0 (asg) ?_
    refine wk_end ?_
    refine ac_k ?_
    exact acw hE [] 9999 (hK13 k7 (wrap64 (p6 + 1)) (Nat.le_refl _) ⟨by omega, H⟩)
   rw [if_neg c11] at H
   refine aw_ifT ?_ (eN c11)
   refine aw_grp1 ?_
   refine wk_start ?_
   refine kv g0 (asg) ?_
   refine wk_end ?_
   refine ac_next ?_
   refine aw_ret ?_
   refine ac_blkR ?_
   refine ac_thenR ?_
   refine ac_thenR ?_
   refine ac_blkR ?_
   refine ac_thenR ?_
   obtain rfl := Option.some.inj H
   exact acr hE [.tmp 4] (.tmp .nil) (.one _) [] 9999
  rw [if_neg c8] at H
  refine aw_ifF ?_ (decide_eq_false c8)
  refine aw_exit ?_
  refine ac_then ?_
  refine ac_then ?_
  refine ac_hit rfl ?_
  refine ac_next ?_
  refine aw_grp1 ?_
  refine wk_start ?_
  refine kv g0 (asg) ?_
  refine wk_end ?_
  refine ac_next ?_
  refine aw_ret ?_
  obtain rfl := Option.some.inj H
  exact acr hE [.tmp 4] (.tmp .nil) (.one _) [] 9999
 rw [if_neg c1] at H
 refine aw_ifT ?_ (eN c1)
 refine aw_grp1 ?_
 refine wk_start ?_
 refine kv g0 (asg) ?_
 refine wk_end ?_
 refine ac_next ?_
 refine aw_ret ?_
 refine ac_thenR ?_
 obtain rfl := Option.some.inj H
 exact acr hE [.tmp 4] (.tmp .nil) (.one _) [] 9999
/-! laws_eqEarly -/
def laws_eqEarly.f (a0_0 : Int) (a0_1 : Int) (a0_2 : Int) (a0_3 : Int) (a0_4 : Int) (a0_5 : Int) (a1_0 : Int) (a1_1 : Int) (a1_2 : Int) (a1_3 : Int) (a1_4 : Int) (a1_5 : Int) : Option (Bool) := if a0_0 = a1_0 then if a0_1 = a1_1 then (laws_eqItem.f a0_2 a0_3 a0_4 a0_5 a1_2 a1_3 a1_4 a1_5).bind fun t3 => if t3 = true then some true else some false else some false else some false
theorem laws_eqEarly.ok {a0_0 : Int} {a0_1 : Int} {a0_2 : Int} {a0_3 : Int} {a0_4 : Int} {a0_5 : Int} {a1_0 : Int} {a1_1 : Int} {a1_2 : Int} {a1_3 : Int} {a1_4 : Int} {a1_5 : Int} {r : Bool} (H : laws_eqEarly.f a0_0 a0_1 a0_2 a0_3 a0_4 a0_5 a1_0 a1_1 a1_2 a1_3 a1_4 a1_5 = some r) : ACalls Try.prog 159 [] [.agg [.lit (.int .i64 a0_0), .lit (.int .i64 a0_1), .lit (.int .i64 a0_2), .lit (.int .i64 a0_3), .lit (.int .i64 a0_4), .lit (.int .i64 a0_5)], .agg [.lit (.int .i64 a1_0), .lit (.int .i64 a1_1), .lit (.int .i64 a1_2), .lit (.int .i64 a1_3), .lit (.int .i64 a1_4), .lit (.int .i64 a1_5)]] [] (.lit (.bool r)) := by
 refine acalls (fn := Try.f159) (nt := 21) Try.func159 rfl rfl (Nat.le_of_ble_eq_true rfl) fun E hE => ?_
 rw [laws_eqEarly.f] at H
 refine aw_grp1 ?_
 refine wk_start ?_
 refine kb g0 (bxA 0) ?_
 refine kb g0 (bxA 1) ?_
 refine kv g0 (asg) ?_
 refine wk_end ?_
 refine ac_next ?_
 refine aw_grp1 ?_
 refine aw_grp1 ?_
 refine wk_start ?_
 refine kv g0 (faB 0 0) ?_
 refine kv g0 (ldB) ?_
 refine kv g0 (faB 0 0) ?_
 refine kv g0 (ldB) ?_
 refine kv g0 (neq) ?_
 refine wk_end ?_
 refine ac_next ?_
 by_cases c1 : a0_0 = a1_0
 ·rw [if_pos c1] at H
  refine aw_ifF ?_ (eM c1)
  refine aw_skip ?_
  refine ac_next ?_
  refine aw_grp1 ?_
  refine aw_grp1 ?_
  refine wk_start ?_
  refine kv g0 (faB 1 1) ?_
  refine kv g0 (ldB) ?_
  refine kv g0 (faB 1 1) ?_
  refine kv g0 (ldB) ?_
  refine kv g0 (neq) ?_
  refine wk_end ?_
  refine ac_next ?_
  by_cases c2 : a0_1 = a1_1
  ·rw [if_pos c2] at H
   refine aw_ifF ?_ (eM c2)
   refine aw_skip ?_
   refine ac_next ?_
   refine aw_grp1 ?_
   refine aw_grp1 ?_
   refine wk_start ?_
   refine kv g0 (faB 2 2) ?_
   refine kv g0 (ldBA 4 [.lit (.int .i64 a0_2), .lit (.int .i64 a0_3), .lit (.int .i64 a0_4), .lit (.int .i64 a0_5)]) ?_
   refine kv g0 (faB 2 2) ?_
   refine kv g0 (ldBA 4 [.lit (.int .i64 a1_2), .lit (.int .i64 a1_3), .lit (.int .i64 a1_4), .lit (.int .i64 a1_5)]) ?_
   obtain ⟨t3, A4, H⟩ := of_bind H
   refine kcS0 19 (.lit (.bool t3)) [] g0 (cal (laws_eqItem.ok A4) [] 9999 .n (hf := Try.func173)) rfl rfl ?_
   refine kv g0 (not_) ?_
   refine wk_end ?_
   refine ac_next ?_
   by_cases c5 : t3 = true
   ·rw [if_pos c5] at H
    refine aw_ifF ?_ (nF c5)
    refine aw_skip ?_
    refine ac_next ?_
    refine aw_grp1 ?_
    refine wk_start ?_
    refine kv g0 (asg) ?_
    refine wk_end ?_
    refine ac_next ?_
    refine aw_ret ?_
    obtain rfl := Option.some.inj H
    exact acr hE [.tmp 4] (.tmp .nil) (.one _) [] 9999
   rw [if_neg c5] at H
   refine aw_ifT ?_ (nT (bF c5))
   refine aw_grp1 ?_
   refine wk_start ?_
   refine kv g0 (asg) ?_
   refine wk_end ?_
   refine ac_next ?_
   refine aw_ret ?_
   refine ac_thenR ?_
   obtain rfl := Option.some.inj H
   exact acr hE [.tmp 4] (.tmp .nil) (.one _) [] 9999
  rw [if_neg c2] at H
  refine aw_ifT ?_ (eN c2)
  refine aw_grp1 ?_
  refine wk_start ?_
  refine kv g0 (asg) ?_
  refine wk_end ?_
  refine ac_next ?_
  refine aw_ret ?_
  refine ac_thenR ?_
  obtain rfl := Option.some.inj H
  exact acr hE [.tmp 4] (.tmp .nil) (.one _) [] 9999
 rw [if_neg c1] at H
 refine aw_ifT ?_ (eN c1)
 refine aw_grp1 ?_
 refine wk_start ?_
 refine kv g0 (asg) ?_
 refine wk_end ?_
 refine ac_next ?_
 refine aw_ret ?_
 refine ac_thenR ?_
 obtain rfl := Option.some.inj H
 exact acr hE [.tmp 4] (.tmp .nil) (.one _) [] 9999
/-! laws_eqEarlyS -/
def laws_eqEarlyS.l0 : Nat → (List S97) → (List S97) → Int → Option (Bool)
 | 0, _, _, _ => none
 | k9 + 1, l0, l1, p8 => if p8 < (l0.length : Int) then if 0 ≤ p8 then (if p8 < (l1.length : Int) then ((laws_eqEarly.f ((rd_T97 l0 p8).f0) ((rd_T97 l0 p8).f1) ((rd_T97 l0 p8).f2.f0) ((rd_T97 l0 p8).f2.f1) ((rd_T97 l0 p8).f2.f2) ((rd_T97 l0 p8).f2.f3) ((rd_T97 l1 p8).f0) ((rd_T97 l1 p8).f1) ((rd_T97 l1 p8).f2.f0) ((rd_T97 l1 p8).f2.f1) ((rd_T97 l1 p8).f2.f2) ((rd_T97 l1 p8).f2.f3)).bind fun t13 => if t13 = true then laws_eqEarlyS.l0 k9 l0 l1 (wrap64 (p8 + 1)) else some false) else none) else none else some true
def laws_eqEarlyS.f (k : Nat) (l0 : List S97) (l1 : List S97) : Option (Bool) := if (l0.length : Int) = (l1.length : Int) then laws_eqEarlyS.l0 k l0 l1 0 else some false
theorem laws_eqEarlyS.ok {k : Nat} {l0 : List S97} {l1 : List S97} {r : Bool} (H : laws_eqEarlyS.f k l0 l1 = some r) : ACalls Try.prog 136 [] [.sl .o 6 (l0.map e97), .sl .o 6 (l1.map e97)] [] (.lit (.bool r)) := by
 refine acalls (fn := Try.f136) (nt := 27) Try.func136 rfl rfl (Nat.le_of_ble_eq_true rfl) fun E hE => ?_
 rw [laws_eqEarlyS.f] at H
 refine aw_grp1 ?_
 refine wk_start ?_
 refine kv g0 (asg) ?_
 refine wk_end ?_
 refine ac_next ?_
 refine aw_grp1 ?_
 refine aw_grp1 ?_
 refine wk_start ?_
 refine kv g0 (mv) ?_
 refine kv g0 (lnS lenE) ?_
 refine kv g0 (mv) ?_
 refine kv g0 (lnS lenE) ?_
 refine kv g0 (neq) ?_
 refine wk_end ?_
 refine ac_next ?_
 by_cases c1 : (l0.length : Int) = (l1.length : Int)
 ·rw [if_pos c1] at H
  refine aw_ifF ?_ (eM c1)
  refine aw_skip ?_
  refine ac_next ?_
  refine aw_grp1 ?_
  refine aw_grp1 ?_
  refine wk_start ?_
  refine kv g0 (asg) ?_
  refine wk_end ?_
  refine ac_next ?_
  refine aw_block ?_
  refine aw_loop1 (fun (k_ : Nat) (p8 : Int) => k_ ≤ k ∧ laws_eqEarlyS.l0 k_ l0 l1 p8 = some r) (fun (p8 : Int) => ⟨[(0, .sl .o 6 (l0.map e97)), (1, .sl .o 6 (l1.map e97)), (5, .lit (.int .i64 p8))], []⟩) k 0 ⟨Nat.le_refl _, H⟩ (fun K_ h_ => acw hE [] 9999 h_) (fun _ => by intro h_; have h_ := h_.2; rw [laws_eqEarlyS.l0.eq_1] at h_; cases h_) ?_
  intro k9 p8 hq_ K16 hK17
  have hk9 := hq_.1
  have H := hq_.2
  clear hq_
  rw [laws_eqEarlyS.l0.eq_2] at H
  refine aw_grp1 ?_
  refine aw_grp1 ?_
  refine wk_start ?_
  refine kv g0 (mv) ?_
  refine kv g0 (mv) ?_
  refine kv g0 (lnS lenE) ?_
  refine kv g0 (lss) ?_
  refine wk_end ?_
  refine ac_next ?_
  by_cases c10 : p8 < (l0.length : Int)
  ·rw [if_pos c10] at H
   refine aw_ifT ?_ (decide_eq_true c10)
   refine aw_skip ?_
   refine ac_next ?_
   refine aw_grp1 ?_
   refine aw_block ?_
   refine aw_grp1 ?_
   refine wk_start ?_
   refine kv g0 (mv) ?_
   refine kv g0 (mv) ?_
   obtain ⟨c11, H⟩ := of_if H
   refine kv g0 (ixS 97 (e97 (rd_T97 l0 p8)) c11 (getE (z := z97) c11 c10)) ?_
   refine kv g0 (ldRA 6 [.lit (.int .i64 ((rd_T97 l0 p8).f0)), .lit (.int .i64 ((rd_T97 l0 p8).f1)), .lit (.int .i64 ((rd_T97 l0 p8).f2.f0)), .lit (.int .i64 ((rd_T97 l0 p8).f2.f1)), .lit (.int .i64 ((rd_T97 l0 p8).f2.f2)), .lit (.int .i64 ((rd_T97 l0 p8).f2.f3))]) ?_
   refine kv g0 (mv) ?_
   refine kv g0 (mv) ?_
   obtain ⟨c12, H⟩ := of_if H
   refine kv g0 (ixS 97 (e97 (rd_T97 l1 p8)) c11 (getE (z := z97) c11 c12)) ?_
   refine kv g0 (ldRA 6 [.lit (.int .i64 ((rd_T97 l1 p8).f0)), .lit (.int .i64 ((rd_T97 l1 p8).f1)), .lit (.int .i64 ((rd_T97 l1 p8).f2.f0)), .lit (.int .i64 ((rd_T97 l1 p8).f2.f1)), .lit (.int .i64 ((rd_T97 l1 p8).f2.f2)), .lit (.int .i64 ((rd_T97 l1 p8).f2.f3))]) ?_
   obtain ⟨t13, A14, H⟩ := of_bind H
   refine kcS0 25 (.lit (.bool t13)) [] g0 (cal (laws_eqEarly.ok A14) [] 9999 .n (hf := Try.func159)) rfl rfl ?_
   refine kv g0 (not_) ?_
   refine wk_end_draw hM (by kernel_rfl) ?_
   refine ac_next ?_
   by_cases c15 : t13 = true
   ·rw [if_pos c15] at H
    refine aw_ifF ?_ (nF c15)
    refine aw_skip ?_
    refine ac_blkN ?_
    refine ac_next ?_
    refine wk_start ?_
    refine kv g0 (mv) ?_
    refine kv g0 (add6) ?_
    refine kv g0 (asg) ?_
    refine wk_end ?_
    refine ac_k ?_
    exact acw hE [] 9999 (hK17 k9 (wrap64 (p8 + 1)) (Nat.le_refl _) ⟨by omega, H⟩)
   rw [if_neg c15] at H
   refine aw_ifT ?_ (nT (bF c15))
   refine aw_grp1 ?_
   refine wk_start ?_
   refine kv g0 (asg) ?_
   refine wk_end ?_
   refine ac_next ?_
   refine aw_ret ?_
   refine ac_blkR ?_
   refine ac_thenR ?_
   refine ac_thenR ?_
   refine ac_blkR ?_
   refine ac_thenR ?_
   obtain rfl := Option.some.inj H
   exact acr hE [.tmp 4] (.tmp .nil) (.one _) [] 9999
  rw [if_neg c10] at H
  refine aw_ifF ?_ (decide_eq_false c10)
  refine aw_exit ?_
  refine ac_then ?_
  refine ac_then ?_
  refine ac_hit rfl ?_
  refine ac_next ?_
  refine aw_grp1 ?_
  refine wk_start ?_
  refine kv g0 (asg) ?_
  refine wk_end ?_
  refine ac_next ?_
  refine aw_ret ?_
  obtain rfl := Option.some.inj H
  exact acr hE [.tmp 4] (.tmp .nil) (.one _) [] 9999
 rw [if_neg c1] at H
 refine aw_ifT ?_ (eN c1)
 refine aw_grp1 ?_
 refine wk_start ?_
 refine kv g0 (asg) ?_
 refine wk_end ?_
 refine ac_next ?_
 refine aw_ret ?_
 refine ac_thenR ?_
 obtain rfl := Option.some.inj H
 exact acr hE [.tmp 4] (.tmp .nil) (.one _) [] 9999
/-! laws_eqKeeper -/
def laws_eqKeeper.f (k : Nat) (l0_0 : List S98) (l0_1 : List Int) (l0_2 : List S97) (a0_3 : Int) (l0_4 : List Int) (l1_0 : List S98) (l1_1 : List Int) (l1_2 : List S97) (a1_3 : Int) (l1_4 : List Int) : Option (Bool) := (laws_eqEntryS.f k l0_0 l1_0).bind fun t1 => if t1 = true then (laws_eqIntS.f k l0_1 l1_1).bind fun t4 => if t4 = true then (laws_eqEarlyS.f k l0_2 l1_2).bind fun t7 => if t7 = true then if a0_3 = a1_3 then (laws_eqIntS.f k l0_4 l1_4).bind fun t11 => if t11 = true then some true else some false else some false else some false else some false else some false
theorem laws_eqKeeper.ok {k : Nat} {l0_0 : List S98} {l0_1 : List Int} {l0_2 : List S97} {a0_3 : Int} {l0_4 : List Int} {l1_0 : List S98} {l1_1 : List Int} {l1_2 : List S97} {a1_3 : Int} {l1_4 : List Int} {r : Bool} (H : laws_eqKeeper.f k l0_0 l0_1 l0_2 a0_3 l0_4 l1_0 l1_1 l1_2 a1_3 l1_4 = some r) : ACalls Try.prog 91 [] [.agg [.sl .o 6 (l0_0.map e98), .sl .o 1 (l0_1.map (eI .i64)), .sl .o 6 (l0_2.map e97), .lit (.int .i64 a0_3), .sl .o 1 (l0_4.map (eI .i64))], .agg [.sl .o 6 (l1_0.map e98), .sl .o 1 (l1_1.map (eI .i64)), .sl .o 6 (l1_2.map e97), .lit (.int .i64 a1_3), .sl .o 1 (l1_4.map (eI .i64))]] [] (.lit (.bool r)) := by
 refine acalls (fn := Try.f91) (nt := 34) Try.func91 rfl rfl (Nat.le_of_ble_eq_true rfl) fun E hE => ?_
 rw [laws_eqKeeper.f] at H
 refine aw_grp1 ?_
 refine wk_start ?_
 refine kb g0 (bxA 0) ?_
 refine kb g0 (bxA 1) ?_
 refine kv g0 (asg) ?_
 refine wk_end ?_
 refine ac_next ?_
 refine aw_grp1 ?_
 refine aw_grp1 ?_
 refine wk_start ?_
 refine kv g0 (faB 0 0) ?_
 refine kv g0 (ldB) ?_
 refine kv g0 (faB 0 0) ?_
 refine kv g0 (ldB) ?_
 obtain ⟨t1, A2, H⟩ := of_bind H
 refine kcS0 9 (.lit (.bool t1)) [] g0 (cal (laws_eqEntryS.ok A2) [] 9999 .n (hf := Try.func135)) rfl rfl ?_
 refine kv g0 (not_) ?_
 refine wk_end ?_
 refine ac_next ?_
 by_cases c3 : t1 = true
 ·rw [if_pos c3] at H
  refine aw_ifF ?_ (nF c3)
  refine aw_skip ?_
  refine ac_next ?_
  refine aw_grp1 ?_
  refine aw_grp1 ?_
  refine wk_start ?_
  refine kv g0 (faB 1 1) ?_
  refine kv g0 (ldB) ?_
  refine kv g0 (faB 1 1) ?_
  refine kv g0 (ldB) ?_
  obtain ⟨t4, A5, H⟩ := of_bind H
  refine kcS0 15 (.lit (.bool t4)) [] g0 (cal (laws_eqIntS.ok A5) [] 9999 .n (hf := Try.func93)) rfl rfl ?_
  refine kv g0 (not_) ?_
  refine wk_end ?_
  refine ac_next ?_
  by_cases c6 : t4 = true
  ·rw [if_pos c6] at H
   refine aw_ifF ?_ (nF c6)
   refine aw_skip ?_
   refine ac_next ?_
   refine aw_grp1 ?_
   refine aw_grp1 ?_
   refine wk_start ?_
   refine kv g0 (faB 2 2) ?_
   refine kv g0 (ldB) ?_
   refine kv g0 (faB 2 2) ?_
   refine kv g0 (ldB) ?_
   obtain ⟨t7, A8, H⟩ := of_bind H
   refine kcS0 21 (.lit (.bool t7)) [] g0 (cal (laws_eqEarlyS.ok A8) [] 9999 .n (hf := Try.func136)) rfl rfl ?_
   refine kv g0 (not_) ?_
   refine wk_end ?_
   refine ac_next ?_
   by_cases c9 : t7 = true
   ·rw [if_pos c9] at H
    refine aw_ifF ?_ (nF c9)
    refine aw_skip ?_
    refine ac_next ?_
    refine aw_grp1 ?_
    refine aw_grp1 ?_
    refine wk_start ?_
    refine kv g0 (faB 3 3) ?_
    refine kv g0 (ldB) ?_
    refine kv g0 (faB 3 3) ?_
    refine kv g0 (ldB) ?_
    refine kv g0 (neq) ?_
    refine wk_end ?_
    refine ac_next ?_
    by_cases c10 : a0_3 = a1_3
    ·rw [if_pos c10] at H
     refine aw_ifF ?_ (eM c10)
     refine aw_skip ?_
     refine ac_next ?_
     refine aw_grp1 ?_
     refine aw_grp1 ?_
     refine wk_start ?_
     refine kv g0 (faB 4 4) ?_
     refine kv g0 (ldB) ?_
     refine kv g0 (faB 4 4) ?_
     refine kv g0 (ldB) ?_
     obtain ⟨t11, A12, H⟩ := of_bind H
     refine kcS0 32 (.lit (.bool t11)) [] g0 (cal (laws_eqIntS.ok A12) [] 9999 .n (hf := Try.func93)) rfl rfl ?_
     refine kv g0 (not_) ?_
     refine wk_end ?_
     refine ac_next ?_
     by_cases c13 : t11 = true
     ·rw [if_pos c13] at H
      refine aw_ifF ?_ (nF c13)
      refine aw_skip ?_
      refine ac_next ?_
      refine aw_grp1 ?_
      refine wk_start ?_
      refine kv g0 (asg) ?_
      refine wk_end ?_
      refine ac_next ?_
      refine aw_ret ?_
      obtain rfl := Option.some.inj H
      exact acr hE [.tmp 4] (.tmp .nil) (.one _) [] 9999
     rw [if_neg c13] at H
     refine aw_ifT ?_ (nT (bF c13))
     refine aw_grp1 ?_
     refine wk_start ?_
     refine kv g0 (asg) ?_
     refine wk_end ?_
     refine ac_next ?_
     refine aw_ret ?_
     refine ac_thenR ?_
     obtain rfl := Option.some.inj H
     exact acr hE [.tmp 4] (.tmp .nil) (.one _) [] 9999
    rw [if_neg c10] at H
    refine aw_ifT ?_ (eN c10)
    refine aw_grp1 ?_
    refine wk_start ?_
    refine kv g0 (asg) ?_
    refine wk_end ?_
    refine ac_next ?_
    refine aw_ret ?_
    refine ac_thenR ?_
    obtain rfl := Option.some.inj H
    exact acr hE [.tmp 4] (.tmp .nil) (.one _) [] 9999
   rw [if_neg c9] at H
   refine aw_ifT ?_ (nT (bF c9))
   refine aw_grp1 ?_
   refine wk_start ?_
   refine kv g0 (asg) ?_
   refine wk_end ?_
   refine ac_next ?_
   refine aw_ret ?_
   refine ac_thenR ?_
   obtain rfl := Option.some.inj H
   exact acr hE [.tmp 4] (.tmp .nil) (.one _) [] 9999
  rw [if_neg c6] at H
  refine aw_ifT ?_ (nT (bF c6))
  refine aw_grp1 ?_
  refine wk_start ?_
  refine kv g0 (asg) ?_
  refine wk_end ?_
  refine ac_next ?_
  refine aw_ret ?_
  refine ac_thenR ?_
  obtain rfl := Option.some.inj H
  exact acr hE [.tmp 4] (.tmp .nil) (.one _) [] 9999
 rw [if_neg c3] at H
 refine aw_ifT ?_ (nT (bF c3))
 refine aw_grp1 ?_
 refine wk_start ?_
 refine kv g0 (asg) ?_
 refine wk_end ?_
 refine ac_next ?_
 refine aw_ret ?_
 refine ac_thenR ?_
 obtain rfl := Option.some.inj H
 exact acr hE [.tmp 4] (.tmp .nil) (.one _) [] 9999
/-! laws_eqLetter -/
def laws_eqLetter.f (a0_0 : Bool) (a0_1 : ByteArray) (a0_2 : Bool) (a1_0 : Bool) (a1_1 : ByteArray) (a1_2 : Bool) : Option (Bool) := if a0_0 = a1_0 then if (a0_1.toList == a1_1.toList) = true then if a0_2 = a1_2 then some true else some false else some false else some false
theorem laws_eqLetter.ok {a0_0 : Bool} {a0_1 : ByteArray} {a0_2 : Bool} {a1_0 : Bool} {a1_1 : ByteArray} {a1_2 : Bool} {r : Bool} (H : laws_eqLetter.f a0_0 a0_1 a0_2 a1_0 a1_1 a1_2 = some r) : ACalls Try.prog 137 [] [.agg [.lit (.bool a0_0), .lit (.string a0_1), .lit (.bool a0_2)], .agg [.lit (.bool a1_0), .lit (.string a1_1), .lit (.bool a1_2)]] [] (.lit (.bool r)) := by
 refine acalls (fn := Try.f137) (nt := 20) Try.func137 rfl rfl (Nat.le_of_ble_eq_true rfl) fun E hE => ?_
 rw [laws_eqLetter.f] at H
 refine aw_grp1 ?_
 refine wk_start ?_
 refine kb g0 (bxA 0) ?_
 refine kb g0 (bxA 1) ?_
 refine kv g0 (asg) ?_
 refine wk_end ?_
 refine ac_next ?_
 refine aw_grp1 ?_
 refine aw_grp1 ?_
 refine wk_start ?_
 refine kv g0 (faB 0 0) ?_
 refine kv g0 (ldB) ?_
 refine kv g0 (faB 0 0) ?_
 refine kv g0 (ldB) ?_
 refine kv g0 (bne) ?_
 refine wk_end ?_
 refine ac_next ?_
 by_cases c1 : a0_0 = a1_0
 ·rw [if_pos c1] at H
  refine aw_ifF ?_ (nF (eTb c1))
  refine aw_skip ?_
  refine ac_next ?_
  refine aw_grp1 ?_
  refine aw_grp1 ?_
  refine wk_start ?_
  refine kv g0 (faB 1 1) ?_
  refine kv g0 (ldB) ?_
  refine kv g0 (faB 1 1) ?_
  refine kv g0 (ldB) ?_
  refine kv g0 (sne) ?_
  refine wk_end ?_
  refine ac_next ?_
  by_cases c2 : (a0_1.toList == a1_1.toList) = true
  ·rw [if_pos c2] at H
   refine aw_ifF ?_ (nF c2)
   refine aw_skip ?_
   refine ac_next ?_
   refine aw_grp1 ?_
   refine aw_grp1 ?_
   refine wk_start ?_
   refine kv g0 (faB 2 2) ?_
   refine kv g0 (ldB) ?_
   refine kv g0 (faB 2 2) ?_
   refine kv g0 (ldB) ?_
   refine kv g0 (bne) ?_
   refine wk_end ?_
   refine ac_next ?_
   by_cases c3 : a0_2 = a1_2
   ·rw [if_pos c3] at H
    refine aw_ifF ?_ (nF (eTb c3))
    refine aw_skip ?_
    refine ac_next ?_
    refine aw_grp1 ?_
    refine wk_start ?_
    refine kv g0 (asg) ?_
    refine wk_end ?_
    refine ac_next ?_
    refine aw_ret ?_
    obtain rfl := Option.some.inj H
    exact acr hE [.tmp 4] (.tmp .nil) (.one _) [] 9999
   rw [if_neg c3] at H
   refine aw_ifT ?_ (nT (eFb c3))
   refine aw_grp1 ?_
   refine wk_start ?_
   refine kv g0 (asg) ?_
   refine wk_end ?_
   refine ac_next ?_
   refine aw_ret ?_
   refine ac_thenR ?_
   obtain rfl := Option.some.inj H
   exact acr hE [.tmp 4] (.tmp .nil) (.one _) [] 9999
  rw [if_neg c2] at H
  refine aw_ifT ?_ (nT (bF c2))
  refine aw_grp1 ?_
  refine wk_start ?_
  refine kv g0 (asg) ?_
  refine wk_end ?_
  refine ac_next ?_
  refine aw_ret ?_
  refine ac_thenR ?_
  obtain rfl := Option.some.inj H
  exact acr hE [.tmp 4] (.tmp .nil) (.one _) [] 9999
 rw [if_neg c1] at H
 refine aw_ifT ?_ (nT (eFb c1))
 refine aw_grp1 ?_
 refine wk_start ?_
 refine kv g0 (asg) ?_
 refine wk_end ?_
 refine ac_next ?_
 refine aw_ret ?_
 refine ac_thenR ?_
 obtain rfl := Option.some.inj H
 exact acr hE [.tmp 4] (.tmp .nil) (.one _) [] 9999
/-! laws_eqLetterS -/
def laws_eqLetterS.l0 : Nat → (List S169) → (List S169) → Int → Option (Bool)
 | 0, _, _, _ => none
 | k9 + 1, l0, l1, p8 => if p8 < (l0.length : Int) then if 0 ≤ p8 then (if p8 < (l1.length : Int) then ((laws_eqLetter.f ((rd_T169 l0 p8).f0) ((rd_T169 l0 p8).f1) ((rd_T169 l0 p8).f2) ((rd_T169 l1 p8).f0) ((rd_T169 l1 p8).f1) ((rd_T169 l1 p8).f2)).bind fun t13 => if t13 = true then laws_eqLetterS.l0 k9 l0 l1 (wrap64 (p8 + 1)) else some false) else none) else none else some true
def laws_eqLetterS.f (k : Nat) (l0 : List S169) (l1 : List S169) : Option (Bool) := if (l0.length : Int) = (l1.length : Int) then laws_eqLetterS.l0 k l0 l1 0 else some false
theorem laws_eqLetterS.ok {k : Nat} {l0 : List S169} {l1 : List S169} {r : Bool} (H : laws_eqLetterS.f k l0 l1 = some r) : ACalls Try.prog 92 [] [.sl .o 3 (l0.map e169), .sl .o 3 (l1.map e169)] [] (.lit (.bool r)) := by
 refine acalls (fn := Try.f92) (nt := 27) Try.func92 rfl rfl (Nat.le_of_ble_eq_true rfl) fun E hE => ?_
 rw [laws_eqLetterS.f] at H
 refine aw_grp1 ?_
 refine wk_start ?_
 refine kv g0 (asg) ?_
 refine wk_end ?_
 refine ac_next ?_
 refine aw_grp1 ?_
 refine aw_grp1 ?_
 refine wk_start ?_
 refine kv g0 (mv) ?_
 refine kv g0 (lnS lenE) ?_
 refine kv g0 (mv) ?_
 refine kv g0 (lnS lenE) ?_
 refine kv g0 (neq) ?_
 refine wk_end ?_
 refine ac_next ?_
 by_cases c1 : (l0.length : Int) = (l1.length : Int)
 ·rw [if_pos c1] at H
  refine aw_ifF ?_ (eM c1)
  refine aw_skip ?_
  refine ac_next ?_
  refine aw_grp1 ?_
  refine aw_grp1 ?_
  refine wk_start ?_
  refine kv g0 (asg) ?_
  refine wk_end ?_
  refine ac_next ?_
  refine aw_block ?_
  refine aw_loop1 (fun (k_ : Nat) (p8 : Int) => k_ ≤ k ∧ laws_eqLetterS.l0 k_ l0 l1 p8 = some r) (fun (p8 : Int) => ⟨[(0, .sl .o 3 (l0.map e169)), (1, .sl .o 3 (l1.map e169)), (5, .lit (.int .i64 p8))], []⟩) k 0 ⟨Nat.le_refl _, H⟩ (fun K_ h_ => acw hE [] 9999 h_) (fun _ => by intro h_; have h_ := h_.2; rw [laws_eqLetterS.l0.eq_1] at h_; cases h_) ?_
  intro k9 p8 hq_ K16 hK17
  have hk9 := hq_.1
  have H := hq_.2
  clear hq_
  rw [laws_eqLetterS.l0.eq_2] at H
  refine aw_grp1 ?_
  refine aw_grp1 ?_
  refine wk_start ?_
  refine kv g0 (mv) ?_
  refine kv g0 (mv) ?_
  refine kv g0 (lnS lenE) ?_
  refine kv g0 (lss) ?_
  refine wk_end ?_
  refine ac_next ?_
  by_cases c10 : p8 < (l0.length : Int)
  ·rw [if_pos c10] at H
   refine aw_ifT ?_ (decide_eq_true c10)
   refine aw_skip ?_
   refine ac_next ?_
   refine aw_grp1 ?_
   refine aw_block ?_
   refine aw_grp1 ?_
   refine wk_start ?_
   refine kv g0 (mv) ?_
   refine kv g0 (mv) ?_
   obtain ⟨c11, H⟩ := of_if H
   refine kv g0 (ixS 169 (e169 (rd_T169 l0 p8)) c11 (getE (z := z169) c11 c10)) ?_
   refine kv g0 (ldRA 3 [.lit (.bool ((rd_T169 l0 p8).f0)), .lit (.string ((rd_T169 l0 p8).f1)), .lit (.bool ((rd_T169 l0 p8).f2))]) ?_
   refine kv g0 (mv) ?_
   refine kv g0 (mv) ?_
   obtain ⟨c12, H⟩ := of_if H
   refine kv g0 (ixS 169 (e169 (rd_T169 l1 p8)) c11 (getE (z := z169) c11 c12)) ?_
   refine kv g0 (ldRA 3 [.lit (.bool ((rd_T169 l1 p8).f0)), .lit (.string ((rd_T169 l1 p8).f1)), .lit (.bool ((rd_T169 l1 p8).f2))]) ?_
   obtain ⟨t13, A14, H⟩ := of_bind H
   refine kcS0 25 (.lit (.bool t13)) [] g0 (cal (laws_eqLetter.ok A14) [] 9999 .n (hf := Try.func137)) rfl rfl ?_
   refine kv g0 (not_) ?_
   refine wk_end_draw hM (by kernel_rfl) ?_
   refine ac_next ?_
   by_cases c15 : t13 = true
   ·rw [if_pos c15] at H
    refine aw_ifF ?_ (nF c15)
    refine aw_skip ?_
    refine ac_blkN ?_
    refine ac_next ?_
    refine wk_start ?_
    refine kv g0 (mv) ?_
    refine kv g0 (add6) ?_
    refine kv g0 (asg) ?_
    refine wk_end ?_
    refine ac_k ?_
    exact acw hE [] 9999 (hK17 k9 (wrap64 (p8 + 1)) (Nat.le_refl _) ⟨by omega, H⟩)
   rw [if_neg c15] at H
   refine aw_ifT ?_ (nT (bF c15))
   refine aw_grp1 ?_
   refine wk_start ?_
   refine kv g0 (asg) ?_
   refine wk_end ?_
   refine ac_next ?_
   refine aw_ret ?_
   refine ac_blkR ?_
   refine ac_thenR ?_
   refine ac_thenR ?_
   refine ac_blkR ?_
   refine ac_thenR ?_
   obtain rfl := Option.some.inj H
   exact acr hE [.tmp 4] (.tmp .nil) (.one _) [] 9999
  rw [if_neg c10] at H
  refine aw_ifF ?_ (decide_eq_false c10)
  refine aw_exit ?_
  refine ac_then ?_
  refine ac_then ?_
  refine ac_hit rfl ?_
  refine ac_next ?_
  refine aw_grp1 ?_
  refine wk_start ?_
  refine kv g0 (asg) ?_
  refine wk_end ?_
  refine ac_next ?_
  refine aw_ret ?_
  obtain rfl := Option.some.inj H
  exact acr hE [.tmp 4] (.tmp .nil) (.one _) [] 9999
 rw [if_neg c1] at H
 refine aw_ifT ?_ (eN c1)
 refine aw_grp1 ?_
 refine wk_start ?_
 refine kv g0 (asg) ?_
 refine wk_end ?_
 refine ac_next ?_
 refine aw_ret ?_
 refine ac_thenR ?_
 obtain rfl := Option.some.inj H
 exact acr hE [.tmp 4] (.tmp .nil) (.one _) [] 9999
/-! laws_eqSeen -/
def laws_eqSeen.f (a0_0 : Int) (a0_1 : Int) (a0_2 : Int) (a0_3 : Bool) (a1_0 : Int) (a1_1 : Int) (a1_2 : Int) (a1_3 : Bool) : Option (Bool) := if a0_0 = a1_0 then if a0_1 = a1_1 then if a0_2 = a1_2 then if a0_3 = a1_3 then some true else some false else some false else some false else some false
theorem laws_eqSeen.ok {a0_0 : Int} {a0_1 : Int} {a0_2 : Int} {a0_3 : Bool} {a1_0 : Int} {a1_1 : Int} {a1_2 : Int} {a1_3 : Bool} {r : Bool} (H : laws_eqSeen.f a0_0 a0_1 a0_2 a0_3 a1_0 a1_1 a1_2 a1_3 = some r) : ACalls Try.prog 138 [] [.agg [.lit (.int .i64 a0_0), .lit (.int .i64 a0_1), .lit (.int .i64 a0_2), .lit (.bool a0_3)], .agg [.lit (.int .i64 a1_0), .lit (.int .i64 a1_1), .lit (.int .i64 a1_2), .lit (.bool a1_3)]] [] (.lit (.bool r)) := by
 refine acalls (fn := Try.f138) (nt := 25) Try.func138 rfl rfl (Nat.le_of_ble_eq_true rfl) fun E hE => ?_
 rw [laws_eqSeen.f] at H
 refine aw_grp1 ?_
 refine wk_start ?_
 refine kb g0 (bxA 0) ?_
 refine kb g0 (bxA 1) ?_
 refine kv g0 (asg) ?_
 refine wk_end ?_
 refine ac_next ?_
 refine aw_grp1 ?_
 refine aw_grp1 ?_
 refine wk_start ?_
 refine kv g0 (faB 0 0) ?_
 refine kv g0 (ldB) ?_
 refine kv g0 (faB 0 0) ?_
 refine kv g0 (ldB) ?_
 refine kv g0 (neq) ?_
 refine wk_end ?_
 refine ac_next ?_
 by_cases c1 : a0_0 = a1_0
 ·rw [if_pos c1] at H
  refine aw_ifF ?_ (eM c1)
  refine aw_skip ?_
  refine ac_next ?_
  refine aw_grp1 ?_
  refine aw_grp1 ?_
  refine wk_start ?_
  refine kv g0 (faB 1 1) ?_
  refine kv g0 (ldB) ?_
  refine kv g0 (faB 1 1) ?_
  refine kv g0 (ldB) ?_
  refine kv g0 (neq) ?_
  refine wk_end ?_
  refine ac_next ?_
  by_cases c2 : a0_1 = a1_1
  ·rw [if_pos c2] at H
   refine aw_ifF ?_ (eM c2)
   refine aw_skip ?_
   refine ac_next ?_
   refine aw_grp1 ?_
   refine aw_grp1 ?_
   refine wk_start ?_
   refine kv g0 (faB 2 2) ?_
   refine kv g0 (ldB) ?_
   refine kv g0 (faB 2 2) ?_
   refine kv g0 (ldB) ?_
   refine kv g0 (neq) ?_
   refine wk_end ?_
   refine ac_next ?_
   by_cases c3 : a0_2 = a1_2
   ·rw [if_pos c3] at H
    refine aw_ifF ?_ (eM c3)
    refine aw_skip ?_
    refine ac_next ?_
    refine aw_grp1 ?_
    refine aw_grp1 ?_
    refine wk_start ?_
    refine kv g0 (faB 3 3) ?_
    refine kv g0 (ldB) ?_
    refine kv g0 (faB 3 3) ?_
    refine kv g0 (ldB) ?_
    refine kv g0 (bne) ?_
    refine wk_end ?_
    refine ac_next ?_
    by_cases c4 : a0_3 = a1_3
    ·rw [if_pos c4] at H
     refine aw_ifF ?_ (nF (eTb c4))
     refine aw_skip ?_
     refine ac_next ?_
     refine aw_grp1 ?_
     refine wk_start ?_
     refine kv g0 (asg) ?_
     refine wk_end ?_
     refine ac_next ?_
     refine aw_ret ?_
     obtain rfl := Option.some.inj H
     exact acr hE [.tmp 4] (.tmp .nil) (.one _) [] 9999
    rw [if_neg c4] at H
    refine aw_ifT ?_ (nT (eFb c4))
    refine aw_grp1 ?_
    refine wk_start ?_
    refine kv g0 (asg) ?_
    refine wk_end ?_
    refine ac_next ?_
    refine aw_ret ?_
    refine ac_thenR ?_
    obtain rfl := Option.some.inj H
    exact acr hE [.tmp 4] (.tmp .nil) (.one _) [] 9999
   rw [if_neg c3] at H
   refine aw_ifT ?_ (eN c3)
   refine aw_grp1 ?_
   refine wk_start ?_
   refine kv g0 (asg) ?_
   refine wk_end ?_
   refine ac_next ?_
   refine aw_ret ?_
   refine ac_thenR ?_
   obtain rfl := Option.some.inj H
   exact acr hE [.tmp 4] (.tmp .nil) (.one _) [] 9999
  rw [if_neg c2] at H
  refine aw_ifT ?_ (eN c2)
  refine aw_grp1 ?_
  refine wk_start ?_
  refine kv g0 (asg) ?_
  refine wk_end ?_
  refine ac_next ?_
  refine aw_ret ?_
  refine ac_thenR ?_
  obtain rfl := Option.some.inj H
  exact acr hE [.tmp 4] (.tmp .nil) (.one _) [] 9999
 rw [if_neg c1] at H
 refine aw_ifT ?_ (eN c1)
 refine aw_grp1 ?_
 refine wk_start ?_
 refine kv g0 (asg) ?_
 refine wk_end ?_
 refine ac_next ?_
 refine aw_ret ?_
 refine ac_thenR ?_
 obtain rfl := Option.some.inj H
 exact acr hE [.tmp 4] (.tmp .nil) (.one _) [] 9999
/-! laws_eqSeenS -/
def laws_eqSeenS.l0 : Nat → (List S160) → (List S160) → Int → Option (Bool)
 | 0, _, _, _ => none
 | k9 + 1, l0, l1, p8 => if p8 < (l0.length : Int) then if 0 ≤ p8 then (if p8 < (l1.length : Int) then ((laws_eqSeen.f ((rd_T160 l0 p8).f0) ((rd_T160 l0 p8).f1) ((rd_T160 l0 p8).f2) ((rd_T160 l0 p8).f3) ((rd_T160 l1 p8).f0) ((rd_T160 l1 p8).f1) ((rd_T160 l1 p8).f2) ((rd_T160 l1 p8).f3)).bind fun t13 => if t13 = true then laws_eqSeenS.l0 k9 l0 l1 (wrap64 (p8 + 1)) else some false) else none) else none else some true
def laws_eqSeenS.f (k : Nat) (l0 : List S160) (l1 : List S160) : Option (Bool) := if (l0.length : Int) = (l1.length : Int) then laws_eqSeenS.l0 k l0 l1 0 else some false
theorem laws_eqSeenS.ok {k : Nat} {l0 : List S160} {l1 : List S160} {r : Bool} (H : laws_eqSeenS.f k l0 l1 = some r) : ACalls Try.prog 94 [] [.sl .o 4 (l0.map e160), .sl .o 4 (l1.map e160)] [] (.lit (.bool r)) := by
 refine acalls (fn := Try.f94) (nt := 27) Try.func94 rfl rfl (Nat.le_of_ble_eq_true rfl) fun E hE => ?_
 rw [laws_eqSeenS.f] at H
 refine aw_grp1 ?_
 refine wk_start ?_
 refine kv g0 (asg) ?_
 refine wk_end ?_
 refine ac_next ?_
 refine aw_grp1 ?_
 refine aw_grp1 ?_
 refine wk_start ?_
 refine kv g0 (mv) ?_
 refine kv g0 (lnS lenE) ?_
 refine kv g0 (mv) ?_
 refine kv g0 (lnS lenE) ?_
 refine kv g0 (neq) ?_
 refine wk_end ?_
 refine ac_next ?_
 by_cases c1 : (l0.length : Int) = (l1.length : Int)
 ·rw [if_pos c1] at H
  refine aw_ifF ?_ (eM c1)
  refine aw_skip ?_
  refine ac_next ?_
  refine aw_grp1 ?_
  refine aw_grp1 ?_
  refine wk_start ?_
  refine kv g0 (asg) ?_
  refine wk_end ?_
  refine ac_next ?_
  refine aw_block ?_
  refine aw_loop1 (fun (k_ : Nat) (p8 : Int) => k_ ≤ k ∧ laws_eqSeenS.l0 k_ l0 l1 p8 = some r) (fun (p8 : Int) => ⟨[(0, .sl .o 4 (l0.map e160)), (1, .sl .o 4 (l1.map e160)), (5, .lit (.int .i64 p8))], []⟩) k 0 ⟨Nat.le_refl _, H⟩ (fun K_ h_ => acw hE [] 9999 h_) (fun _ => by intro h_; have h_ := h_.2; rw [laws_eqSeenS.l0.eq_1] at h_; cases h_) ?_
  intro k9 p8 hq_ K16 hK17
  have hk9 := hq_.1
  have H := hq_.2
  clear hq_
  rw [laws_eqSeenS.l0.eq_2] at H
  refine aw_grp1 ?_
  refine aw_grp1 ?_
  refine wk_start ?_
  refine kv g0 (mv) ?_
  refine kv g0 (mv) ?_
  refine kv g0 (lnS lenE) ?_
  refine kv g0 (lss) ?_
  refine wk_end ?_
  refine ac_next ?_
  by_cases c10 : p8 < (l0.length : Int)
  ·rw [if_pos c10] at H
   refine aw_ifT ?_ (decide_eq_true c10)
   refine aw_skip ?_
   refine ac_next ?_
   refine aw_grp1 ?_
   refine aw_block ?_
   refine aw_grp1 ?_
   refine wk_start ?_
   refine kv g0 (mv) ?_
   refine kv g0 (mv) ?_
   obtain ⟨c11, H⟩ := of_if H
   refine kv g0 (ixS 160 (e160 (rd_T160 l0 p8)) c11 (getE (z := z160) c11 c10)) ?_
   refine kv g0 (ldRA 4 [.lit (.int .i64 ((rd_T160 l0 p8).f0)), .lit (.int .i64 ((rd_T160 l0 p8).f1)), .lit (.int .i64 ((rd_T160 l0 p8).f2)), .lit (.bool ((rd_T160 l0 p8).f3))]) ?_
   refine kv g0 (mv) ?_
   refine kv g0 (mv) ?_
   obtain ⟨c12, H⟩ := of_if H
   refine kv g0 (ixS 160 (e160 (rd_T160 l1 p8)) c11 (getE (z := z160) c11 c12)) ?_
   refine kv g0 (ldRA 4 [.lit (.int .i64 ((rd_T160 l1 p8).f0)), .lit (.int .i64 ((rd_T160 l1 p8).f1)), .lit (.int .i64 ((rd_T160 l1 p8).f2)), .lit (.bool ((rd_T160 l1 p8).f3))]) ?_
   obtain ⟨t13, A14, H⟩ := of_bind H
   refine kcS0 25 (.lit (.bool t13)) [] g0 (cal (laws_eqSeen.ok A14) [] 9999 .n (hf := Try.func138)) rfl rfl ?_
   refine kv g0 (not_) ?_
   refine wk_end_draw hM (by kernel_rfl) ?_
   refine ac_next ?_
   by_cases c15 : t13 = true
   ·rw [if_pos c15] at H
    refine aw_ifF ?_ (nF c15)
    refine aw_skip ?_
    refine ac_blkN ?_
    refine ac_next ?_
    refine wk_start ?_
    refine kv g0 (mv) ?_
    refine kv g0 (add6) ?_
    refine kv g0 (asg) ?_
    refine wk_end ?_
    refine ac_k ?_
    exact acw hE [] 9999 (hK17 k9 (wrap64 (p8 + 1)) (Nat.le_refl _) ⟨by omega, H⟩)
   rw [if_neg c15] at H
   refine aw_ifT ?_ (nT (bF c15))
   refine aw_grp1 ?_
   refine wk_start ?_
   refine kv g0 (asg) ?_
   refine wk_end ?_
   refine ac_next ?_
   refine aw_ret ?_
   refine ac_blkR ?_
   refine ac_thenR ?_
   refine ac_thenR ?_
   refine ac_blkR ?_
   refine ac_thenR ?_
   obtain rfl := Option.some.inj H
   exact acr hE [.tmp 4] (.tmp .nil) (.one _) [] 9999
  rw [if_neg c10] at H
  refine aw_ifF ?_ (decide_eq_false c10)
  refine aw_exit ?_
  refine ac_then ?_
  refine ac_then ?_
  refine ac_hit rfl ?_
  refine ac_next ?_
  refine aw_grp1 ?_
  refine wk_start ?_
  refine kv g0 (asg) ?_
  refine wk_end ?_
  refine ac_next ?_
  refine aw_ret ?_
  obtain rfl := Option.some.inj H
  exact acr hE [.tmp 4] (.tmp .nil) (.one _) [] 9999
 rw [if_neg c1] at H
 refine aw_ifT ?_ (eN c1)
 refine aw_grp1 ?_
 refine wk_start ?_
 refine kv g0 (asg) ?_
 refine wk_end ?_
 refine ac_next ?_
 refine aw_ret ?_
 refine ac_thenR ?_
 obtain rfl := Option.some.inj H
 exact acr hE [.tmp 4] (.tmp .nil) (.one _) [] 9999
end Go.Proofs.Ytfeaemlakniijaa.PFnExactLogRight
