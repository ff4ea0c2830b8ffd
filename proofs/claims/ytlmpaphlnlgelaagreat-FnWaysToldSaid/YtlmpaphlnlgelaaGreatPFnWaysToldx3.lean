import Derived.Test.YtlmpaphlnlgelaaGreatPFnWaysToldx2
set_option linter.unusedVariables false
set_option linter.unusedSimpArgs false
set_option maxRecDepth 100000
namespace Go.Proofs.YtlmpaphlnlgelaaGreat.PFnWaysTold
open Go Go.RowKit Go.Proofs.YtlmpaphlnlgelaaGreatA
/-! spec_l11Line -/
def spec_l11Line.j0 : Nat → (List S94) → Int → Option (Bool)
 | 0, _, _ => none
 | k24 + 1, l0, a1 => if ((rd_T94 l0 a1).f1.f0) = 7 then (if (((rd_T94 l0 a1).f3).toList == ByteArray.empty.toList) = true then ((spec_l11At.f k24 l0 ((rd_T94 l0 a1).f2)).bind fun t27 => some (decide (t27 > a1))) else some false) else (spec_l06Ask.f ((rd_T94 l0 a1).f1.f0)).bind fun t29 => if t29 = true then ((spec_l11At.f k24 l0 ((rd_T94 l0 a1).f2)).bind fun t32 => (if t32 > a1 then ((spec_l11At.f k24 l0 ((rd_T94 l0 a1).f3)).bind fun t35 => some (decide (t35 > a1))) else some false)) else if (((rd_T94 l0 a1).f2).toList == ByteArray.empty.toList) = true then some (((rd_T94 l0 a1).f3).toList == ByteArray.empty.toList) else some false
def spec_l11Line.f (k : Nat) (l0 : List S94) (a1 : Int) : Option (Bool) := if 0 ≤ a1 then (if a1 < (l0.length : Int) then (spec_l11Place.f ((rd_T94 l0 a1).f0) ((rd_T94 l0 a1).f1.f0) ((rd_T94 l0 a1).f1.f1) ((rd_T94 l0 a1).f1.f2) ((rd_T94 l0 a1).f1.f3) ((rd_T94 l0 a1).f2) ((rd_T94 l0 a1).f3)).bind fun t3 => if t3 = true then ((spec_l01In.f (((rd_T94 l0 a1).f0).size : Int) 1 12).bind fun t6 => (if t6 = true then (if (((rd_T94 l0 a1).f2).toList == ByteArray.empty.toList) = true then (if (((rd_T94 l0 a1).f3).toList == ByteArray.empty.toList) = true then ((spec_l11At.f k l0 ((rd_T94 l0 a1).f0)).bind fun t11 => some (t11 == a1)) else some false) else some false) else some false)) else if (((rd_T94 l0 a1).f0).toList == ByteArray.empty.toList) = true then (if ((rd_T94 l0 a1).f1.f2) = 0 then (if ((rd_T94 l0 a1).f1.f3) = 0 then (if ((rd_T94 l0 a1).f1.f0) = 7 then (if ((rd_T94 l0 a1).f1.f1) = 0 then ((spec_InsOk.f k ((rd_T94 l0 a1).f1.f0) ((rd_T94 l0 a1).f1.f1) ((rd_T94 l0 a1).f1.f2) ((rd_T94 l0 a1).f1.f3)).bind fun t18 => if t18 = true then spec_l11Line.j0 k l0 a1 else some false) else some false) else ((spec_InsOk.f k ((rd_T94 l0 a1).f1.f0) ((rd_T94 l0 a1).f1.f1) ((rd_T94 l0 a1).f1.f2) ((rd_T94 l0 a1).f1.f3)).bind fun t20 => if t20 = true then spec_l11Line.j0 k l0 a1 else some false)) else some false) else some false) else some false else none) else none
theorem spec_l11Line.ok {k : Nat} {l0 : List S94} {a1 : Int} {r : Bool} (H : spec_l11Line.f k l0 a1 = some r) : ACalls Tryz.prog 104 [] [.sl .o 7 (l0.map e94), .lit (.int .i64 a1)] [] (.lit (.bool r)) := by
 refine acalls (fn := Tryz.f104) (nt := 104) Tryz.func104 rfl rfl (Nat.le_of_ble_eq_true rfl) fun E hE => ?_
 rw [spec_l11Line.f] at H
 refine aw_grp1 ?_
 refine wk_start ?_
 refine kv g0 (asg) ?_
 refine wk_end ?_
 refine ac_next ?_
 refine aw_grp1 ?_
 refine wk_start ?_
 refine kv g0 (mv) ?_
 refine kv g0 (mv) ?_
 obtain ⟨c1, H⟩ := of_if H
 obtain ⟨c2, H⟩ := of_if H
 refine kv g0 (ixS 94 (e94 (rd_T94 l0 a1)) c1 (getE (z := z94) c1 c2)) ?_
 refine kv g0 (ldRA 7 [.lit (.string ((rd_T94 l0 a1).f0)), .lit (.int .i64 ((rd_T94 l0 a1).f1.f0)), .lit (.int .i64 ((rd_T94 l0 a1).f1.f1)), .lit (.int .i64 ((rd_T94 l0 a1).f1.f2)), .lit (.int .i64 ((rd_T94 l0 a1).f1.f3)), .lit (.string ((rd_T94 l0 a1).f2)), .lit (.string ((rd_T94 l0 a1).f3))]) ?_
 refine kb g0 (alc 0 [.string .empty, .int .i64 0, .int .i64 0, .int .i64 0, .int .i64 0, .string .empty, .string .empty] [.lit (.string ByteArray.empty), .lit (.int .i64 0), .lit (.int .i64 0), .lit (.int .i64 0), .lit (.int .i64 0), .lit (.string ByteArray.empty), .lit (.string ByteArray.empty)]) ?_
 refine ks g0 (stB 7 [.lit (.string ((rd_T94 l0 a1).f0)), .lit (.int .i64 ((rd_T94 l0 a1).f1.f0)), .lit (.int .i64 ((rd_T94 l0 a1).f1.f1)), .lit (.int .i64 ((rd_T94 l0 a1).f1.f2)), .lit (.int .i64 ((rd_T94 l0 a1).f1.f3)), .lit (.string ((rd_T94 l0 a1).f2)), .lit (.string ((rd_T94 l0 a1).f3))]) ?_
 refine wk_end ?_
 refine ac_next ?_
 refine aw_grp1 ?_
 refine aw_grp1 ?_
 refine wk_start ?_
 refine kv g0 (ldBA 7 [.lit (.string ((rd_T94 l0 a1).f0)), .lit (.int .i64 ((rd_T94 l0 a1).f1.f0)), .lit (.int .i64 ((rd_T94 l0 a1).f1.f1)), .lit (.int .i64 ((rd_T94 l0 a1).f1.f2)), .lit (.int .i64 ((rd_T94 l0 a1).f1.f3)), .lit (.string ((rd_T94 l0 a1).f2)), .lit (.string ((rd_T94 l0 a1).f3))]) ?_
 obtain ⟨t3, A4, H⟩ := of_bind H
 refine kcS0 12 (.lit (.bool t3)) [] g0 (cal (spec_l11Place.ok A4) [] 9999 .n (hf := Tryz.func98)) rfl rfl ?_
 refine wk_end ?_
 refine ac_next ?_
 by_cases c5 : t3 = true
 ·rw [if_pos c5] at H
  refine aw_ifT ?_ c5
  refine aw_grp1 ?_
  refine wk_start ?_
  refine kv g0 (faB 0 0) ?_
  refine kv g0 (ldB) ?_
  refine kv g0 (lnT) ?_
  obtain ⟨t6, A7, H⟩ := of_bind H
  refine kcS0 16 (.lit (.bool t6)) [] g0 (cal (spec_l01In.ok A7) [] 9999 .n (hf := Tryz.func28)) rfl rfl ?_
  refine kv g0 (mv) ?_
  by_cases c8 : t6 = true
  ·rw [if_pos c8] at H
   refine kv (g1 c8) (faB 5 5) ?_
   refine kv (g1 c8) (ldB) ?_
   refine kv (g1 c8) (seq) ?_
   refine kv g0 (pkT c8) ?_
   refine kv g0 (mv) ?_
   by_cases c9 : (((rd_T94 l0 a1).f2).toList == ByteArray.empty.toList) = true
   ·rw [if_pos c9] at H
    refine kv (g1 c9) (faB 6 6) ?_
    refine kv (g1 c9) (ldB) ?_
    refine kv (g1 c9) (seq) ?_
    refine kv g0 (pkT c9) ?_
    refine kv g0 (mv) ?_
    by_cases c10 : (((rd_T94 l0 a1).f3).toList == ByteArray.empty.toList) = true
    ·rw [if_pos c10] at H
     refine kv (g1 c10) (mv) ?_
     refine kv (g1 c10) (faB 0 0) ?_
     refine kv (g1 c10) (ldB) ?_
     obtain ⟨t11, A12, H⟩ := of_bind H
     refine kcS0 31 (.lit (.int .i64 t11)) [] (g1 c10) (cal (spec_l11At.ok A12) [] 9999 .n (hf := Tryz.func99)) rfl rfl ?_
     refine kv (g1 c10) (mv) ?_
     refine kv (g1 c10) (eql) ?_
     refine kv g0 (pkT c10) ?_
     refine kv g0 (asg) ?_
     refine wk_end ?_
     refine ac_next ?_
     refine aw_ret ?_
     refine ac_thenR ?_
     obtain rfl := Option.some.inj H
     exact acr hE [.tmp 4] (.tmp .nil) (.one _) [] 9999
    rw [if_neg c10] at H
    refine kx (hT (bF c10)) ?_
    refine kx (hT (bF c10)) ?_
    refine kx (hT (bF c10)) ?_
    refine kx (hT (bF c10)) ?_
    refine kx (hT (bF c10)) ?_
    refine kx (hT (bF c10)) ?_
    refine kv g0 (pkF (bF c10)) ?_
    refine kv g0 (asg) ?_
    refine wk_end ?_
    refine ac_next ?_
    refine aw_ret ?_
    refine ac_thenR ?_
    obtain rfl := Option.some.inj H
    exact acr hE [.tmp 4] (.tmp .nil) (.one _) [] 9999
   rw [if_neg c9] at H
   refine kx (hT (bF c9)) ?_
   refine kx (hT (bF c9)) ?_
   refine kx (hT (bF c9)) ?_
   refine kv g0 (pkF (bF c9)) ?_
   refine kv g0 (mv) ?_
   refine kx (hT rfl) ?_
   refine kx (hT rfl) ?_
   refine kx (hT rfl) ?_
   refine kx (hT rfl) ?_
   refine kx (hT rfl) ?_
   refine kx (hT rfl) ?_
   refine kv g0 (pkF rfl) ?_
   refine kv g0 (asg) ?_
   refine wk_end ?_
   refine ac_next ?_
   refine aw_ret ?_
   refine ac_thenR ?_
   obtain rfl := Option.some.inj H
   exact acr hE [.tmp 4] (.tmp .nil) (.one _) [] 9999
  rw [if_neg c8] at H
  refine kx (hT (bF c8)) ?_
  refine kx (hT (bF c8)) ?_
  refine kx (hT (bF c8)) ?_
  refine kv g0 (pkF (bF c8)) ?_
  refine kv g0 (mv) ?_
  refine kx (hT rfl) ?_
  refine kx (hT rfl) ?_
  refine kx (hT rfl) ?_
  refine kv g0 (pkF rfl) ?_
  refine kv g0 (mv) ?_
  refine kx (hT rfl) ?_
  refine kx (hT rfl) ?_
  refine kx (hT rfl) ?_
  refine kx (hT rfl) ?_
  refine kx (hT rfl) ?_
  refine kx (hT rfl) ?_
  refine kv g0 (pkF rfl) ?_
  refine kv g0 (asg) ?_
  refine wk_end ?_
  refine ac_next ?_
  refine aw_ret ?_
  refine ac_thenR ?_
  obtain rfl := Option.some.inj H
  exact acr hE [.tmp 4] (.tmp .nil) (.one _) [] 9999
 rw [if_neg c5] at H
 refine aw_ifF ?_ (bF c5)
 refine aw_skip ?_
 refine ac_next ?_
 refine aw_grp1 ?_
 refine wk_start ?_
 refine kv g0 (faB 1 1) ?_
 refine kv g0 (ldBA 4 [.lit (.int .i64 ((rd_T94 l0 a1).f1.f0)), .lit (.int .i64 ((rd_T94 l0 a1).f1.f1)), .lit (.int .i64 ((rd_T94 l0 a1).f1.f2)), .lit (.int .i64 ((rd_T94 l0 a1).f1.f3))]) ?_
 refine kb g0 (alc 1 [.int .i64 0, .int .i64 0, .int .i64 0, .int .i64 0] [.lit (.int .i64 0), .lit (.int .i64 0), .lit (.int .i64 0), .lit (.int .i64 0)]) ?_
 refine ks g0 (stB 4 [.lit (.int .i64 ((rd_T94 l0 a1).f1.f0)), .lit (.int .i64 ((rd_T94 l0 a1).f1.f1)), .lit (.int .i64 ((rd_T94 l0 a1).f1.f2)), .lit (.int .i64 ((rd_T94 l0 a1).f1.f3))]) ?_
 refine wk_end ?_
 refine ac_next ?_
 refine aw_cut1 (J := fun K_ => ∀ (k_ : Nat), k_ ≤ k → spec_l11Line.j0 k_ l0 a1  = some r → ACont E 104 ⟨[(0, .sl .o 7 (l0.map e94)), (1, .lit (.int .i64 a1)), (5, .box 0 0), (6, .box 1 0)], [(0, .box 94 [.lit (.string ((rd_T94 l0 a1).f0)), .lit (.int .i64 ((rd_T94 l0 a1).f1.f0)), .lit (.int .i64 ((rd_T94 l0 a1).f1.f1)), .lit (.int .i64 ((rd_T94 l0 a1).f1.f2)), .lit (.int .i64 ((rd_T94 l0 a1).f1.f3)), .lit (.string ((rd_T94 l0 a1).f2)), .lit (.string ((rd_T94 l0 a1).f3))]), (1, .box 41 [.lit (.int .i64 ((rd_T94 l0 a1).f1.f0)), .lit (.int .i64 ((rd_T94 l0 a1).f1.f1)), .lit (.int .i64 ((rd_T94 l0 a1).f1.f2)), .lit (.int .i64 ((rd_T94 l0 a1).f1.f3))])]⟩ K_) ?_ ?_
 ·intro K_ hJ38
  refine aw_grp1 ?_
  refine wk_start ?_
  refine kv g0 (faB 0 0) ?_
  refine kv g0 (ldB) ?_
  refine kv g0 (sne) ?_
  refine kv g0 (mv) ?_
  by_cases c13 : (((rd_T94 l0 a1).f0).toList == ByteArray.empty.toList) = true
  ·rw [if_pos c13] at H
   refine kv (g1 (nF c13)) (faB 2 2) ?_
   refine kv (g1 (nF c13)) (ldB) ?_
   refine kv (g1 (nF c13)) (neq) ?_
   refine kv g0 (pkF (nF c13)) ?_
   refine kv g0 (mv) ?_
   by_cases c14 : ((rd_T94 l0 a1).f1.f2) = 0
   ·rw [if_pos c14] at H
    refine kv (g1 (eM c14)) (faB 3 3) ?_
    refine kv (g1 (eM c14)) (ldB) ?_
    refine kv (g1 (eM c14)) (neq) ?_
    refine kv g0 (pkF (eM c14)) ?_
    refine kv g0 (mv) ?_
    by_cases c15 : ((rd_T94 l0 a1).f1.f3) = 0
    ·rw [if_pos c15] at H
     refine kv (g1 (eM c15)) (faB 0 0) ?_
     refine kv (g1 (eM c15)) (ldB) ?_
     refine kv (g1 (eM c15)) (eql) ?_
     refine kv (g1 (eM c15)) (mv) ?_
     by_cases c16 : ((rd_T94 l0 a1).f1.f0) = 7
     ·rw [if_pos c16] at H
      refine kv (g1 (eT c16)) (faB 1 1) ?_
      refine kv (g1 (eT c16)) (ldB) ?_
      refine kv (g1 (eT c16)) (neq) ?_
      refine kv (g1 (eM c15)) (pkT (eT c16)) ?_
      refine kv g0 (pkF (eM c15)) ?_
      refine kv g0 (mv) ?_
      by_cases c17 : ((rd_T94 l0 a1).f1.f1) = 0
      ·rw [if_pos c17] at H
       refine kv (g1 (eM c17)) (ldBA 4 [.lit (.int .i64 ((rd_T94 l0 a1).f1.f0)), .lit (.int .i64 ((rd_T94 l0 a1).f1.f1)), .lit (.int .i64 ((rd_T94 l0 a1).f1.f2)), .lit (.int .i64 ((rd_T94 l0 a1).f1.f3))]) ?_
       obtain ⟨t18, A19, H⟩ := of_bind H
       refine kcS0 62 (.lit (.bool t18)) [] (g1 (eM c17)) (cal (spec_InsOk.ok A19) [] 9999 .n (hf := Tryz.func44)) rfl rfl ?_
       refine kv (g1 (eM c17)) (not_) ?_
       refine kv g0 (pkF (eM c17)) ?_
       refine wk_end ?_
       refine ac_next ?_
       by_cases c22 : t18 = true
       ·rw [if_pos c22] at H
        refine aw_ifF ?_ (nF c22)
        refine aw_skip ?_
        refine ac_k ?_
        exact acw hE [(0, 0), (1, 1)] 9999 (hJ38 k (Nat.le_refl _) H)
       rw [if_neg c22] at H
       refine aw_ifT ?_ (nT (bF c22))
       refine aw_grp1 ?_
       refine wk_start ?_
       refine kv g0 (asg) ?_
       refine wk_end ?_
       refine ac_next ?_
       refine aw_ret ?_
       refine ac_thenR ?_
       obtain rfl := Option.some.inj H
       exact acr hE [.tmp 4] (.tmp .nil) (.one _) [] 9999
      rw [if_neg c17] at H
      refine kx (hF (eN c17)) ?_
      refine kx (hF (eN c17)) ?_
      refine kx (hF (eN c17)) ?_
      refine kv g0 (pkT (eN c17)) ?_
      refine wk_end ?_
      refine ac_next ?_
      refine aw_ifT ?_ rfl
      refine aw_grp1 ?_
      refine wk_start ?_
      refine kv g0 (asg) ?_
      refine wk_end ?_
      refine ac_next ?_
      refine aw_ret ?_
      refine ac_thenR ?_
      obtain rfl := Option.some.inj H
      exact acr hE [.tmp 4] (.tmp .nil) (.one _) [] 9999
     rw [if_neg c16] at H
     refine kx (hT (eF c16)) ?_
     refine kx (hT (eF c16)) ?_
     refine kx (hT (eF c16)) ?_
     refine kv (g1 (eM c15)) (pkF (eF c16)) ?_
     refine kv g0 (pkF (eM c15)) ?_
     refine kv g0 (mv) ?_
     refine kv (g1 rfl) (ldBA 4 [.lit (.int .i64 ((rd_T94 l0 a1).f1.f0)), .lit (.int .i64 ((rd_T94 l0 a1).f1.f1)), .lit (.int .i64 ((rd_T94 l0 a1).f1.f2)), .lit (.int .i64 ((rd_T94 l0 a1).f1.f3))]) ?_
     obtain ⟨t20, A21, H⟩ := of_bind H
     refine kcS0 62 (.lit (.bool t20)) [] (g1 rfl) (cal (spec_InsOk.ok A21) [] 9999 .n (hf := Tryz.func44)) rfl rfl ?_
     refine kv (g1 rfl) (not_) ?_
     refine kv g0 (pkF rfl) ?_
     refine wk_end ?_
     refine ac_next ?_
     by_cases c23 : t20 = true
     ·rw [if_pos c23] at H
      refine aw_ifF ?_ (nF c23)
      refine aw_skip ?_
      refine ac_k ?_
      exact acw hE [(0, 0), (1, 1)] 9999 (hJ38 k (Nat.le_refl _) H)
     rw [if_neg c23] at H
     refine aw_ifT ?_ (nT (bF c23))
     refine aw_grp1 ?_
     refine wk_start ?_
     refine kv g0 (asg) ?_
     refine wk_end ?_
     refine ac_next ?_
     refine aw_ret ?_
     refine ac_thenR ?_
     obtain rfl := Option.some.inj H
     exact acr hE [.tmp 4] (.tmp .nil) (.one _) [] 9999
    rw [if_neg c15] at H
    refine kx (hF (eN c15)) ?_
    refine kx (hF (eN c15)) ?_
    refine kx (hF (eN c15)) ?_
    refine ku (neT (hF (eN c15))) ?_
    refine ku neU ?_
    refine ku neU ?_
    refine ku neU ?_
    refine kx (hF (eN c15)) ?_
    refine kv g0 (pkT (eN c15)) ?_
    refine kv g0 (mv) ?_
    refine kx (hF rfl) ?_
    refine kx (hF rfl) ?_
    refine kx (hF rfl) ?_
    refine kv g0 (pkT rfl) ?_
    refine wk_end ?_
    refine ac_next ?_
    refine aw_ifT ?_ rfl
    refine aw_grp1 ?_
    refine wk_start ?_
    refine kv g0 (asg) ?_
    refine wk_end ?_
    refine ac_next ?_
    refine aw_ret ?_
    refine ac_thenR ?_
    obtain rfl := Option.some.inj H
    exact acr hE [.tmp 4] (.tmp .nil) (.one _) [] 9999
   rw [if_neg c14] at H
   refine kx (hF (eN c14)) ?_
   refine kx (hF (eN c14)) ?_
   refine kx (hF (eN c14)) ?_
   refine kv g0 (pkT (eN c14)) ?_
   refine kv g0 (mv) ?_
   refine kx (hF rfl) ?_
   refine kx (hF rfl) ?_
   refine kx (hF rfl) ?_
   refine ku (neT (hF rfl)) ?_
   refine ku neU ?_
   refine ku neU ?_
   refine ku neU ?_
   refine kx (hF rfl) ?_
   refine kv g0 (pkT rfl) ?_
   refine kv g0 (mv) ?_
   refine kx (hF rfl) ?_
   refine kx (hF rfl) ?_
   refine kx (hF rfl) ?_
   refine kv g0 (pkT rfl) ?_
   refine wk_end ?_
   refine ac_next ?_
   refine aw_ifT ?_ rfl
   refine aw_grp1 ?_
   refine wk_start ?_
   refine kv g0 (asg) ?_
   refine wk_end ?_
   refine ac_next ?_
   refine aw_ret ?_
   refine ac_thenR ?_
   obtain rfl := Option.some.inj H
   exact acr hE [.tmp 4] (.tmp .nil) (.one _) [] 9999
  rw [if_neg c13] at H
  refine kx (hF (nT (bF c13))) ?_
  refine kx (hF (nT (bF c13))) ?_
  refine kx (hF (nT (bF c13))) ?_
  refine kv g0 (pkT (nT (bF c13))) ?_
  refine kv g0 (mv) ?_
  refine kx (hF rfl) ?_
  refine kx (hF rfl) ?_
  refine kx (hF rfl) ?_
  refine kv g0 (pkT rfl) ?_
  refine kv g0 (mv) ?_
  refine kx (hF rfl) ?_
  refine kx (hF rfl) ?_
  refine kx (hF rfl) ?_
  refine ku (neT (hF rfl)) ?_
  refine ku neU ?_
  refine ku neU ?_
  refine ku neU ?_
  refine kx (hF rfl) ?_
  refine kv g0 (pkT rfl) ?_
  refine kv g0 (mv) ?_
  refine kx (hF rfl) ?_
  refine kx (hF rfl) ?_
  refine kx (hF rfl) ?_
  refine kv g0 (pkT rfl) ?_
  refine wk_end ?_
  refine ac_next ?_
  refine aw_ifT ?_ rfl
  refine aw_grp1 ?_
  refine wk_start ?_
  refine kv g0 (asg) ?_
  refine wk_end ?_
  refine ac_next ?_
  refine aw_ret ?_
  refine ac_thenR ?_
  obtain rfl := Option.some.inj H
  exact acr hE [.tmp 4] (.tmp .nil) (.one _) [] 9999
 intro k_  hk_ H
 rcases k_ with _ | k24
 ·rw [spec_l11Line.j0.eq_1] at H; cases H
 have hk24 : k24 ≤ k := by omega
 clear hk_
 rw [spec_l11Line.j0.eq_2] at H
 refine aw_grp1 ?_
 refine aw_grp1 ?_
 refine wk_start ?_
 refine kv g0 (faB 0 0) ?_
 refine kv g0 (ldB) ?_
 refine kv g0 (eql) ?_
 refine wk_end ?_
 refine ac_next ?_
 by_cases c25 : ((rd_T94 l0 a1).f1.f0) = 7
 ·rw [if_pos c25] at H
  refine aw_ifT ?_ (eT c25)
  refine aw_grp1 ?_
  refine wk_start ?_
  refine kv g0 (faB 6 6) ?_
  refine kv g0 (ldB) ?_
  refine kv g0 (seq) ?_
  refine kv g0 (mv) ?_
  by_cases c26 : (((rd_T94 l0 a1).f3).toList == ByteArray.empty.toList) = true
  ·rw [if_pos c26] at H
   refine kv (g1 c26) (mv) ?_
   refine kv (g1 c26) (faB 5 5) ?_
   refine kv (g1 c26) (ldB) ?_
   obtain ⟨t27, A28, H⟩ := of_bind H
   refine kcS0 75 (.lit (.int .i64 t27)) [] (g1 c26) (cal (spec_l11At.ok A28) [] 9999 .n (hf := Tryz.func99)) rfl rfl ?_
   refine kv (g1 c26) (mv) ?_
   refine kv (g1 c26) (gtr) ?_
   refine kv g0 (pkT c26) ?_
   refine kv g0 (asg) ?_
   refine wk_end ?_
   refine ac_next ?_
   refine aw_ret ?_
   refine ac_thenR ?_
   obtain rfl := Option.some.inj H
   exact acr hE [.tmp 4] (.tmp .nil) (.one _) [] 9999
  rw [if_neg c26] at H
  refine kx (hT (bF c26)) ?_
  refine kx (hT (bF c26)) ?_
  refine kx (hT (bF c26)) ?_
  refine kx (hT (bF c26)) ?_
  refine kx (hT (bF c26)) ?_
  refine kx (hT (bF c26)) ?_
  refine kv g0 (pkF (bF c26)) ?_
  refine kv g0 (asg) ?_
  refine wk_end ?_
  refine ac_next ?_
  refine aw_ret ?_
  refine ac_thenR ?_
  obtain rfl := Option.some.inj H
  exact acr hE [.tmp 4] (.tmp .nil) (.one _) [] 9999
 rw [if_neg c25] at H
 refine aw_ifF ?_ (eF c25)
 refine aw_skip ?_
 refine ac_next ?_
 refine aw_grp1 ?_
 refine aw_grp1 ?_
 refine wk_start ?_
 refine kv g0 (faB 0 0) ?_
 refine kv g0 (ldB) ?_
 obtain ⟨t29, A30, H⟩ := of_bind H
 refine kcS0 81 (.lit (.bool t29)) [] g0 (cal (spec_l06Ask.ok A30) [] 9999 .n (hf := Tryz.func46)) rfl rfl ?_
 refine wk_end ?_
 refine ac_next ?_
 by_cases c31 : t29 = true
 ·rw [if_pos c31] at H
  refine aw_ifT ?_ c31
  refine aw_grp1 ?_
  refine wk_start ?_
  refine kv g0 (mv) ?_
  refine kv g0 (faB 5 5) ?_
  refine kv g0 (ldB) ?_
  obtain ⟨t32, A33, H⟩ := of_bind H
  refine kcS0 85 (.lit (.int .i64 t32)) [] g0 (cal (spec_l11At.ok A33) [] 9999 .n (hf := Tryz.func99)) rfl rfl ?_
  refine kv g0 (mv) ?_
  refine kv g0 (gtr) ?_
  refine kv g0 (mv) ?_
  by_cases c34 : t32 > a1
  ·rw [if_pos c34] at H
   refine kv (g1 (decide_eq_true c34)) (mv) ?_
   refine kv (g1 (decide_eq_true c34)) (faB 6 6) ?_
   refine kv (g1 (decide_eq_true c34)) (ldB) ?_
   obtain ⟨t35, A36, H⟩ := of_bind H
   refine kcS0 92 (.lit (.int .i64 t35)) [] (g1 (decide_eq_true c34)) (cal (spec_l11At.ok A36) [] 9999 .n (hf := Tryz.func99)) rfl rfl ?_
   refine kv (g1 (decide_eq_true c34)) (mv) ?_
   refine kv (g1 (decide_eq_true c34)) (gtr) ?_
   refine kv g0 (pkT (decide_eq_true c34)) ?_
   refine kv g0 (asg) ?_
   refine wk_end ?_
   refine ac_next ?_
   refine aw_ret ?_
   refine ac_thenR ?_
   obtain rfl := Option.some.inj H
   exact acr hE [.tmp 4] (.tmp .nil) (.one _) [] 9999
  rw [if_neg c34] at H
  refine kx (hT (decide_eq_false c34)) ?_
  refine kx (hT (decide_eq_false c34)) ?_
  refine kx (hT (decide_eq_false c34)) ?_
  refine kx (hT (decide_eq_false c34)) ?_
  refine kx (hT (decide_eq_false c34)) ?_
  refine kx (hT (decide_eq_false c34)) ?_
  refine kv g0 (pkF (decide_eq_false c34)) ?_
  refine kv g0 (asg) ?_
  refine wk_end ?_
  refine ac_next ?_
  refine aw_ret ?_
  refine ac_thenR ?_
  obtain rfl := Option.some.inj H
  exact acr hE [.tmp 4] (.tmp .nil) (.one _) [] 9999
 rw [if_neg c31] at H
 refine aw_ifF ?_ (bF c31)
 refine aw_skip ?_
 refine ac_next ?_
 refine aw_grp1 ?_
 refine wk_start ?_
 refine kv g0 (faB 5 5) ?_
 refine kv g0 (ldB) ?_
 refine kv g0 (seq) ?_
 refine kv g0 (mv) ?_
 by_cases c37 : (((rd_T94 l0 a1).f2).toList == ByteArray.empty.toList) = true
 ·rw [if_pos c37] at H
  refine kv (g1 c37) (faB 6 6) ?_
  refine kv (g1 c37) (ldB) ?_
  refine kv (g1 c37) (seq) ?_
  refine kv g0 (pkT c37) ?_
  refine kv g0 (asg) ?_
  refine wk_end ?_
  refine ac_next ?_
  refine aw_ret ?_
  obtain rfl := Option.some.inj H
  exact acr hE [.tmp 4] (.tmp .nil) (.one _) [] 9999
 rw [if_neg c37] at H
 refine kx (hT (bF c37)) ?_
 refine kx (hT (bF c37)) ?_
 refine kx (hT (bF c37)) ?_
 refine kv g0 (pkF (bF c37)) ?_
 refine kv g0 (asg) ?_
 refine wk_end ?_
 refine ac_next ?_
 refine aw_ret ?_
 obtain rfl := Option.some.inj H
 exact acr hE [.tmp 4] (.tmp .nil) (.one _) [] 9999
/-! spec_LinesOk -/
def spec_LinesOk.l0 : Nat → (List S94) → Int → Option (Bool)
 | 0, _, _ => none
 | k13 + 1, l0, p12 => if p12 < (l0.length : Int) then (spec_l11Line.f k13 l0 p12).bind fun t15 => if t15 = true then spec_LinesOk.l0 k13 l0 (wrap64 (p12 + 1)) else some false else some true
def spec_LinesOk.f (k : Nat) (l0 : List S94) : Option (Bool) := (spec_l01In.f (l0.length : Int) 1 600).bind fun t1 => (if t1 = true then (if 0 ≤ (wrap64 ((l0.length : Int) - 1)) then (if (wrap64 ((l0.length : Int) - 1)) < (l0.length : Int) then if ((rd_T94 l0 (wrap64 ((l0.length : Int) - 1))).f1.f0) = 8 then spec_LinesOk.l0 k l0 0 else some false else none) else none) else some false)
theorem spec_LinesOk.ok {k : Nat} {l0 : List S94} {r : Bool} (H : spec_LinesOk.f k l0 = some r) : ACalls Tryz.prog 97 [] [.sl .o 7 (l0.map e94)] [] (.lit (.bool r)) := by
 refine acalls (fn := Tryz.f97) (nt := 29) Tryz.func97 rfl rfl (Nat.le_of_ble_eq_true rfl) fun E hE => ?_
 rw [spec_LinesOk.f] at H
 refine aw_grp1 ?_
 refine wk_start ?_
 refine kv g0 (asg) ?_
 refine wk_end ?_
 refine ac_next ?_
 refine aw_grp1 ?_
 refine aw_grp1 ?_
 refine wk_start ?_
 refine kv g0 (mv) ?_
 refine kv g0 (lnS lenE) ?_
 obtain ⟨t1, A2, H⟩ := of_bind H
 refine kcS0 6 (.lit (.bool t1)) [] g0 (cal (spec_l01In.ok A2) [] 9999 .n (hf := Tryz.func28)) rfl rfl ?_
 refine kv g0 (not_) ?_
 refine kv g0 (mv) ?_
 by_cases c3 : t1 = true
 ·rw [if_pos c3] at H
  refine kv (g1 (nF c3)) (mv) ?_
  refine kv (g1 (nF c3)) (mv) ?_
  refine kv (g1 (nF c3)) (lnS lenE) ?_
  refine kv (g1 (nF c3)) (sub6) ?_
  obtain ⟨c4, H⟩ := of_if H
  obtain ⟨c5, H⟩ := of_if H
  refine kv (g1 (nF c3)) (ixS 94 (e94 (rd_T94 l0 (wrap64 ((l0.length : Int) - 1)))) c4 (getE (z := z94) c4 c5)) ?_
  refine kv (g1 (nF c3)) (faR 1 1) ?_
  refine kv (g1 (nF c3)) (faR 0 1) ?_
  refine kv (g1 (nF c3)) (ldR (.lit (.int .i64 ((rd_T94 l0 (wrap64 ((l0.length : Int) - 1))).f1.f0)))) ?_
  refine kv (g1 (nF c3)) (neq) ?_
  refine kv g0 (pkF (nF c3)) ?_
  refine wk_end ?_
  refine ac_next ?_
  by_cases c6 : ((rd_T94 l0 (wrap64 ((l0.length : Int) - 1))).f1.f0) = 8
  ·rw [if_pos c6] at H
   refine aw_ifF ?_ (eM c6)
   refine aw_skip ?_
   refine ac_next ?_
   refine aw_grp1 ?_
   refine aw_grp1 ?_
   refine wk_start ?_
   refine kv g0 (asg) ?_
   refine wk_end ?_
   refine ac_next ?_
   refine aw_block ?_
   refine aw_loop1 (fun (k_ : Nat) (p12 : Int) => k_ ≤ k ∧ spec_LinesOk.l0 k_ l0 p12 = some r) (fun (p12 : Int) => ⟨[(0, .sl .o 7 (l0.map e94)), (3, .lit (.int .i64 p12))], []⟩) k 0 ⟨Nat.le_refl _, H⟩ (fun K_ h_ => acw hE [] 9999 h_) (fun _ => by intro h_; have h_ := h_.2; rw [spec_LinesOk.l0.eq_1] at h_; cases h_) ?_
   intro k13 p12 hq_ K18 hK19
   have hk13 := hq_.1
   have H := hq_.2
   clear hq_
   rw [spec_LinesOk.l0.eq_2] at H
   refine aw_grp1 ?_
   refine aw_grp1 ?_
   refine wk_start ?_
   refine kv g0 (mv) ?_
   refine kv g0 (mv) ?_
   refine kv g0 (lnS lenE) ?_
   refine kv g0 (lss) ?_
   refine wk_end ?_
   refine ac_next ?_
   by_cases c14 : p12 < (l0.length : Int)
   ·rw [if_pos c14] at H
    refine aw_ifT ?_ (decide_eq_true c14)
    refine aw_skip ?_
    refine ac_next ?_
    refine aw_grp1 ?_
    refine aw_block ?_
    refine aw_grp1 ?_
    refine wk_start ?_
    refine kv g0 (mv) ?_
    refine kv g0 (mv) ?_
    obtain ⟨t15, A16, H⟩ := of_bind H
    refine kcS0 27 (.lit (.bool t15)) [] g0 (cal (spec_l11Line.ok A16) [] 9999 .n (hf := Tryz.func104)) rfl rfl ?_
    refine kv g0 (not_) ?_
    refine wk_end ?_
    refine ac_next ?_
    by_cases c17 : t15 = true
    ·rw [if_pos c17] at H
     refine aw_ifF ?_ (nF c17)
     refine aw_skip ?_
     refine ac_blkN ?_
     refine ac_next ?_
     refine wk_start ?_
     refine kv g0 (mv) ?_
     refine kv g0 (add6) ?_
     refine kv g0 (asg) ?_
     refine wk_end ?_
     refine ac_k ?_
     exact acw hE [] 9999 (hK19 k13 (wrap64 (p12 + 1)) (Nat.le_refl _) ⟨by omega, H⟩)
    rw [if_neg c17] at H
    refine aw_ifT ?_ (nT (bF c17))
    refine aw_grp1 ?_
    refine wk_start ?_
    refine kv g0 (asg) ?_
    refine wk_end ?_
    refine ac_next ?_
    refine aw_ret ?_
    refine ac_blkR ?_
    refine ac_thenR ?_
    refine ac_thenR ?_
    refine ac_blkR ?_
    refine ac_thenR ?_
    obtain rfl := Option.some.inj H
    exact acr hE [.tmp 2] (.tmp .nil) (.one _) [] 9999
   rw [if_neg c14] at H
   refine aw_ifF ?_ (decide_eq_false c14)
   refine aw_exit ?_
   refine ac_then ?_
   refine ac_then ?_
   refine ac_hit rfl ?_
   refine ac_next ?_
   refine aw_grp1 ?_
   refine wk_start ?_
   refine kv g0 (asg) ?_
   refine wk_end ?_
   refine ac_next ?_
   refine aw_ret ?_
   obtain rfl := Option.some.inj H
   exact acr hE [.tmp 2] (.tmp .nil) (.one _) [] 9999
  rw [if_neg c6] at H
  refine aw_ifT ?_ (eN c6)
  refine aw_grp1 ?_
  refine wk_start ?_
  refine kv g0 (asg) ?_
  refine wk_end ?_
  refine ac_next ?_
  refine aw_ret ?_
  refine ac_thenR ?_
  obtain rfl := Option.some.inj H
  exact acr hE [.tmp 2] (.tmp .nil) (.one _) [] 9999
 rw [if_neg c3] at H
 refine kx (hF (nT (bF c3))) ?_
 refine kx (hF (nT (bF c3))) ?_
 refine kx (hF (nT (bF c3))) ?_
 refine kx (hF (nT (bF c3))) ?_
 refine kx (hF (nT (bF c3))) ?_
 refine kx (hF (nT (bF c3))) ?_
 refine kx (hF (nT (bF c3))) ?_
 refine kx (hF (nT (bF c3))) ?_
 refine kx (hF (nT (bF c3))) ?_
 refine kv g0 (pkT (nT (bF c3))) ?_
 refine wk_end ?_
 refine ac_next ?_
 refine aw_ifT ?_ rfl
 refine aw_grp1 ?_
 refine wk_start ?_
 refine kv g0 (asg) ?_
 refine wk_end ?_
 refine ac_next ?_
 refine aw_ret ?_
 refine ac_thenR ?_
 obtain rfl := Option.some.inj H
 exact acr hE [.tmp 2] (.tmp .nil) (.one _) [] 9999
/-! spec_l11Ways -/
mutual
def spec_l11Ways.j1 : Nat → (List S94) → (List Int) → (List Int) → Int → Int → Int → Option ((List Int) × (List Int))
 | 0, _, _, _, _, _, _ => none
 | k33 + 1, l0, q17, q18, p19, p26, p32 => if q17.length + ([p26] : List Int).length < 17592186044416 then if q18.length + ([p32] : List Int).length < 17592186044416 then spec_l11Ways.l0 k33 l0 (q17 ++ ([p26] : List Int)) (q18 ++ ([p32] : List Int)) (wrap64 (p19 + 1)) else none else none
def spec_l11Ways.j0 : Nat → (List S94) → (List Int) → (List Int) → Int → Int → Option ((List Int) × (List Int))
 | 0, _, _, _, _, _ => none
 | k27 + 1, l0, q17, q18, p19, p26 => if 0 ≤ p19 then if (((rd_T94 l0 p19).f3).toList == ByteArray.empty.toList) = true then spec_l11Ways.j1 k27 l0 q17 q18 p19 p26 (-1) else ((spec_l11At.f k27 l0 ((rd_T94 l0 p19).f3)).bind fun t30 => spec_l11Ways.j1 k27 l0 q17 q18 p19 p26 t30) else none
def spec_l11Ways.l0 : Nat → (List S94) → (List Int) → (List Int) → Int → Option ((List Int) × (List Int))
 | 0, _, _, _, _ => none
 | k20 + 1, l0, q17, q18, p19 => if p19 < (l0.length : Int) then if 0 ≤ p19 then if (((rd_T94 l0 p19).f2).toList == ByteArray.empty.toList) = true then spec_l11Ways.j0 k20 l0 q17 q18 p19 (-1) else ((spec_l11At.f k20 l0 ((rd_T94 l0 p19).f2)).bind fun t24 => spec_l11Ways.j0 k20 l0 q17 q18 p19 t24) else none else some (q17, q18)
end
def spec_l11Ways.f (k : Nat) (l0 : List S94) : Option ((List Int) × (List Int)) := spec_l11Ways.l0 k l0 ([] : List Int) ([] : List Int) 0
theorem spec_l11Ways.ok {k : Nat} {l0 : List S94} {r : (List Int) × (List Int)} (H : spec_l11Ways.f k l0 = some r) : ACalls Tryz.prog 85 [] [.sl .o 7 (l0.map e94)] [(0, .row 3 1 (r.1.map (eI .i64))), (1, .row 3 1 (r.2.map (eI .i64)))] (.tup [.row 0, .row 1]) := by
 refine acalls (fn := Tryz.f85) (nt := 53) Tryz.func85 rfl rfl (Nat.le_of_ble_eq_true rfl) fun E hE => ?_
 rw [spec_l11Ways.f] at H
 refine aw_grp1 ?_
 refine wk_start ?_
 refine kv g0 (asg) ?_
 refine kv g0 (asg) ?_
 refine wk_end ?_
 refine ac_next ?_
 refine aw_grp1 ?_
 refine wk_start ?_
 refine kb g0 (bsl 0 3 1 [.int .i64 0] (([] : List Int).map (eI .i64))) ?_
 refine kv g0 (asg) ?_
 refine wk_end ?_
 refine ac_next ?_
 refine aw_grp1 ?_
 refine wk_start ?_
 refine kb g0 (bsl 1 3 1 [.int .i64 0] (([] : List Int).map (eI .i64))) ?_
 refine kv g0 (asg) ?_
 refine wk_end ?_
 refine ac_next ?_
 refine aw_grp1 ?_
 refine aw_grp1 ?_
 refine wk_start ?_
 refine kv g0 (asg) ?_
 refine wk_end ?_
 refine ac_next ?_
 refine aw_block ?_
 refine aw_loop3 (fun (k_ : Nat) (q17 : List Int) (q18 : List Int) (p19 : Int) => k_ ≤ k ∧ spec_l11Ways.l0 k_ l0 q17 q18 p19 = some r) (fun (q17 : List Int) (q18 : List Int) (p19 : Int) => ⟨[(0, .sl .o 7 (l0.map e94)), (4, .row 0), (5, .row 1), (6, .lit (.int .i64 p19))], [(0, .row 3 1 (q17.map (eI .i64))), (1, .row 3 1 (q18.map (eI .i64)))]⟩) k ([] : List Int) ([] : List Int) 0 ⟨Nat.le_refl _, H⟩ (fun K_ h_ => acw hE [(0, 0), (1, 1)] 9999 h_) (fun _ _ _ => by intro h_; have h_ := h_.2; rw [spec_l11Ways.l0.eq_1] at h_; cases h_) ?_
 intro k20 q17 q18 p19 hq_ K38 hK39
 have hk20 := hq_.1
 have H := hq_.2
 clear hq_
 rw [spec_l11Ways.l0.eq_2] at H
 refine aw_grp1 ?_
 refine aw_grp1 ?_
 refine wk_start ?_
 refine kv g0 (mv) ?_
 refine kv g0 (mv) ?_
 refine kv g0 (lnS lenE) ?_
 refine kv g0 (lss) ?_
 refine wk_end ?_
 refine ac_next ?_
 by_cases c21 : p19 < (l0.length : Int)
 ·rw [if_pos c21] at H
  refine aw_ifT ?_ (decide_eq_true c21)
  refine aw_skip ?_
  refine ac_next ?_
  refine aw_grp1 ?_
  refine aw_block ?_
  refine aw_grp1 ?_
  refine wk_start ?_
  refine kv g0 (asg) ?_
  refine wk_end ?_
  refine ac_next ?_
  refine aw_grp1 ?_
  refine wk_start ?_
  refine kv g0 (asg) ?_
  refine wk_end ?_
  refine ac_next ?_
  refine aw_cut1 (J := fun K_ => ∀ (k_ : Nat) (p26 : Int), k_ ≤ k20 → spec_l11Ways.j0 k_ l0 q17 q18 p19 p26 = some r → ACont E 53 ⟨[(0, .sl .o 7 (l0.map e94)), (4, .row 0), (5, .row 1), (6, .lit (.int .i64 p19)), (7, .lit (.int .i64 p26)), (8, .lit (.int .i64 (-1)))], [(0, .row 3 1 (q17.map (eI .i64))), (1, .row 3 1 (q18.map (eI .i64)))]⟩ K_) ?_ ?_
  ·intro K_ hJ37
   refine aw_grp1 ?_
   refine wk_start ?_
   refine kv g0 (mv) ?_
   refine kv g0 (mv) ?_
   obtain ⟨c22, H⟩ := of_if H
   refine kv g0 (ixS 94 (e94 (rd_T94 l0 p19)) c22 (getE (z := z94) c22 c21)) ?_
   refine kv g0 (faR 5 5) ?_
   refine kv g0 (ldR (.lit (.string ((rd_T94 l0 p19).f2)))) ?_
   refine kv g0 (sne) ?_
   refine wk_end ?_
   refine ac_next ?_
   by_cases c23 : (((rd_T94 l0 p19).f2).toList == ByteArray.empty.toList) = true
   ·rw [if_pos c23] at H
    refine aw_ifF ?_ (nF c23)
    refine aw_skip ?_
    refine ac_k ?_
    exact acw hE [(0, 0), (1, 1)] 9999 (hJ37 k20 (-1) (Nat.le_refl _) H)
   rw [if_neg c23] at H
   refine aw_ifT ?_ (nT (bF c23))
   refine wk_start ?_
   refine kv g0 (mv) ?_
   refine kv g0 (mv) ?_
   refine kv g0 (mv) ?_
   refine kv g0 (ixS 94 (e94 (rd_T94 l0 p19)) c22 (getE (z := z94) c22 c21)) ?_
   refine kv g0 (faR 5 5) ?_
   refine kv g0 (ldR (.lit (.string ((rd_T94 l0 p19).f2)))) ?_
   obtain ⟨t24, A25, H⟩ := of_bind H
   refine kcS0 29 (.lit (.int .i64 t24)) [] g0 (cal (spec_l11At.ok A25) [] 9999 .n (hf := Tryz.func99)) rfl rfl ?_
   refine kv g0 (asg) ?_
   refine wk_end ?_
   refine ac_k ?_
   exact acw hE [(0, 0), (1, 1)] 9999 (hJ37 k20 t24 (Nat.le_refl _) H)
  intro k_ p26 hk_ H
  rcases k_ with _ | k27
  ·rw [spec_l11Ways.j0.eq_1] at H; cases H
  have hk27 : k27 ≤ k20 := by omega
  clear hk_
  rw [spec_l11Ways.j0.eq_2] at H
  refine aw_cut1 (J := fun K_ => ∀ (k_ : Nat) (p32 : Int), k_ ≤ k27 → spec_l11Ways.j1 k_ l0 q17 q18 p19 p26 p32 = some r → ACont E 53 ⟨[(0, .sl .o 7 (l0.map e94)), (4, .row 0), (5, .row 1), (6, .lit (.int .i64 p19)), (7, .lit (.int .i64 p26)), (8, .lit (.int .i64 p32))], [(0, .row 3 1 (q17.map (eI .i64))), (1, .row 3 1 (q18.map (eI .i64)))]⟩ K_) ?_ ?_
  ·intro K_ hJ36
   refine aw_grp1 ?_
   refine wk_start ?_
   refine kv g0 (mv) ?_
   refine kv g0 (mv) ?_
   obtain ⟨c28, H⟩ := of_if H
   refine kv g0 (ixS 94 (e94 (rd_T94 l0 p19)) c28 (getE (z := z94) c28 c21)) ?_
   refine kv g0 (faR 6 6) ?_
   refine kv g0 (ldR (.lit (.string ((rd_T94 l0 p19).f3)))) ?_
   refine kv g0 (sne) ?_
   refine wk_end ?_
   refine ac_next ?_
   by_cases c29 : (((rd_T94 l0 p19).f3).toList == ByteArray.empty.toList) = true
   ·rw [if_pos c29] at H
    refine aw_ifF ?_ (nF c29)
    refine aw_skip ?_
    refine ac_k ?_
    exact acw hE [(0, 0), (1, 1)] 9999 (hJ36 k27 (-1) (Nat.le_refl _) H)
   rw [if_neg c29] at H
   refine aw_ifT ?_ (nT (bF c29))
   refine wk_start ?_
   refine kv g0 (mv) ?_
   refine kv g0 (mv) ?_
   refine kv g0 (mv) ?_
   refine kv g0 (ixS 94 (e94 (rd_T94 l0 p19)) c28 (getE (z := z94) c28 c21)) ?_
   refine kv g0 (faR 6 6) ?_
   refine kv g0 (ldR (.lit (.string ((rd_T94 l0 p19).f3)))) ?_
   obtain ⟨t30, A31, H⟩ := of_bind H
   refine kcS0 42 (.lit (.int .i64 t30)) [] g0 (cal (spec_l11At.ok A31) [] 9999 .n (hf := Tryz.func99)) rfl rfl ?_
   refine kv g0 (asg) ?_
   refine wk_end ?_
   refine ac_k ?_
   exact acw hE [(0, 0), (1, 1)] 9999 (hJ36 k27 t30 (Nat.le_refl _) H)
  intro k_ p32 hk_ H
  rcases k_ with _ | k33
  ·rw [spec_l11Ways.j1.eq_1] at H; cases H
  have hk33 : k33 ≤ k27 := by omega
  clear hk_
  rw [spec_l11Ways.j1.eq_2] at H
  refine aw_grp1 ?_
  refine wk_start ?_
  refine kv g0 (mv) ?_
  refine kv g0 (mv) ?_
  refine kb g0 (bsl 2 3 1 [.int .i64 0] (([p26] : List Int).map (eI .i64))) ?_
  obtain ⟨c34, H⟩ := of_if H
  refine kc g0 (apR 3 3 1 8 [.int .i64 0] ((q17 ++ ([p26] : List Int)).map (eI .i64)) (.row rfl) (apb c34 rfl) appE) ?_
  refine kv g0 (asg) ?_
  refine wk_end ?_
  refine ac_next ?_
  refine wk_start ?_
  refine kv g0 (mv) ?_
  refine kv g0 (mv) ?_
  refine kb g0 (bsl 4 3 1 [.int .i64 0] (([p32] : List Int).map (eI .i64))) ?_
  obtain ⟨c35, H⟩ := of_if H
  refine kc g0 (apR 5 3 1 8 [.int .i64 0] ((q18 ++ ([p32] : List Int)).map (eI .i64)) (.row rfl) (apb c35 rfl) appE) ?_
  refine kv g0 (asg) ?_
  refine wk_end ?_
  refine ac_blkN ?_
  refine ac_next ?_
  refine wk_start ?_
  refine kv g0 (mv) ?_
  refine kv g0 (add6) ?_
  refine kv g0 (asg) ?_
  refine wk_end ?_
  refine ac_k ?_
  exact acw hE [(0, 3), (1, 5)] 9999 (hK39 k33 (q17 ++ ([p26] : List Int)) (q18 ++ ([p32] : List Int)) (wrap64 (p19 + 1)) (by omega) ⟨by omega, H⟩)
 rw [if_neg c21] at H
 refine aw_ifF ?_ (decide_eq_false c21)
 refine aw_exit ?_
 refine ac_then ?_
 refine ac_then ?_
 refine ac_hit rfl ?_
 refine ac_next ?_
 refine aw_grp1 ?_
 refine wk_start ?_
 refine kv g0 (mv) ?_
 refine kv g0 (mv) ?_
 refine kv g0 (asg) ?_
 refine kv g0 (asg) ?_
 refine wk_end ?_
 refine ac_next ?_
 refine aw_ret ?_
 obtain rfl := Option.some.inj H
 exact acr hE [.tmp 2, .tmp 3] (.tmp (.tmp .nil)) (.many _ _ _) [(0, 0), (1, 1)] 9999
/-! spec_l11Begins -/
def spec_l11Begins.l0 : Nat → (List Int) → (List Int) → Int → Int → Option ((List Int))
 | 0, _, _, _, _ => none
 | k7 + 1, l0, q4, p5, p6 => if p6 < (l0.length : Int) then if q4.length + ([p5] : List Int).length < 17592186044416 then if 0 ≤ p6 then spec_l11Begins.l0 k7 l0 (q4 ++ ([p5] : List Int)) (wrap64 (p5 + (rd l0 p6))) (wrap64 (p6 + 1)) else none else none else some q4
def spec_l11Begins.f (k : Nat) (l0 : List Int) : Option ((List Int)) := spec_l11Begins.l0 k l0 ([] : List Int) 0 0
theorem spec_l11Begins.ok {k : Nat} {l0 : List Int} {r : (List Int)} (H : spec_l11Begins.f k l0 = some r) : ACalls Tryz.prog 86 [] [.sl .o 1 (l0.map (eI .i64))] [(0, .row 3 1 (r.map (eI .i64)))] (.row 0) := by
 refine acalls (fn := Tryz.f86) (nt := 24) Tryz.func86 rfl rfl (Nat.le_of_ble_eq_true rfl) fun E hE => ?_
 rw [spec_l11Begins.f] at H
 refine aw_grp1 ?_
 refine wk_start ?_
 refine kv g0 (asg) ?_
 refine wk_end ?_
 refine ac_next ?_
 refine aw_grp1 ?_
 refine wk_start ?_
 refine kb g0 (bsl 0 3 1 [.int .i64 0] (([] : List Int).map (eI .i64))) ?_
 refine kv g0 (asg) ?_
 refine wk_end ?_
 refine ac_next ?_
 refine aw_grp1 ?_
 refine wk_start ?_
 refine kv g0 (asg) ?_
 refine wk_end ?_
 refine ac_next ?_
 refine aw_grp1 ?_
 refine aw_grp1 ?_
 refine wk_start ?_
 refine kv g0 (asg) ?_
 refine wk_end ?_
 refine ac_next ?_
 refine aw_block ?_
 refine aw_loop3 (fun (k_ : Nat) (q4 : List Int) (p5 : Int) (p6 : Int) => k_ ≤ k ∧ spec_l11Begins.l0 k_ l0 q4 p5 p6 = some r) (fun (q4 : List Int) (p5 : Int) (p6 : Int) => ⟨[(0, .sl .o 1 (l0.map (eI .i64))), (3, .row 0), (4, .lit (.int .i64 p5)), (5, .lit (.int .i64 p6))], [(0, .row 3 1 (q4.map (eI .i64)))]⟩) k ([] : List Int) 0 0 ⟨Nat.le_refl _, H⟩ (fun K_ h_ => acw hE [(0, 0)] 9999 h_) (fun _ _ _ => by intro h_; have h_ := h_.2; rw [spec_l11Begins.l0.eq_1] at h_; cases h_) ?_
 intro k7 q4 p5 p6 hq_ K11 hK12
 have hk7 := hq_.1
 have H := hq_.2
 clear hq_
 rw [spec_l11Begins.l0.eq_2] at H
 refine aw_grp1 ?_
 refine aw_grp1 ?_
 refine wk_start ?_
 refine kv g0 (mv) ?_
 refine kv g0 (mv) ?_
 refine kv g0 (lnS lenE) ?_
 refine kv g0 (lss) ?_
 refine wk_end ?_
 refine ac_next ?_
 by_cases c8 : p6 < (l0.length : Int)
 ·rw [if_pos c8] at H
  refine aw_ifT ?_ (decide_eq_true c8)
  refine aw_skip ?_
  refine ac_next ?_
  refine aw_grp1 ?_
  refine aw_block ?_
  refine aw_grp1 ?_
  refine wk_start ?_
  refine kv g0 (mv) ?_
  refine kv g0 (mv) ?_
  refine kb g0 (bsl 1 3 1 [.int .i64 0] (([p5] : List Int).map (eI .i64))) ?_
  obtain ⟨c9, H⟩ := of_if H
  refine kc g0 (apR 2 3 1 8 [.int .i64 0] ((q4 ++ ([p5] : List Int)).map (eI .i64)) (.row rfl) (apb c9 rfl) appE) ?_
  refine kv g0 (asg) ?_
  refine wk_end ?_
  refine ac_next ?_
  refine wk_start ?_
  refine kv g0 (mv) ?_
  refine kv g0 (mv) ?_
  refine kv g0 (mv) ?_
  obtain ⟨c10, H⟩ := of_if H
  refine kv g0 (ixS 3 (eI .i64 (rd l0 p6)) c10 (getE (z := (0 : Int)) c10 c8)) ?_
  refine kv g0 (ldR (.lit (.int .i64 (rd l0 p6)))) ?_
  refine kv g0 (add6) ?_
  refine kv g0 (asg) ?_
  refine wk_end ?_
  refine ac_blkN ?_
  refine ac_next ?_
  refine wk_start ?_
  refine kv g0 (mv) ?_
  refine kv g0 (add6) ?_
  refine kv g0 (asg) ?_
  refine wk_end ?_
  refine ac_k ?_
  exact acw hE [(0, 2)] 9999 (hK12 k7 (q4 ++ ([p5] : List Int)) (wrap64 (p5 + (rd l0 p6))) (wrap64 (p6 + 1)) (Nat.le_refl _) ⟨by omega, H⟩)
 rw [if_neg c8] at H
 refine aw_ifF ?_ (decide_eq_false c8)
 refine aw_exit ?_
 refine ac_then ?_
 refine ac_then ?_
 refine ac_hit rfl ?_
 refine ac_next ?_
 refine aw_grp1 ?_
 refine wk_start ?_
 refine kv g0 (mv) ?_
 refine kv g0 (asg) ?_
 refine wk_end ?_
 refine ac_next ?_
 refine aw_ret ?_
 obtain rfl := Option.some.inj H
 exact acr hE [.tmp 2] (.tmp .nil) (.one _) [(0, 0)] 9999
/-! spec_Sizes -/
mutual
def spec_Sizes.l0 : Nat → (List S94) → (List Int) → Int → Option ((List Int))
 | 0, _, _, _ => none
 | k13 + 1, l0, q11, p12 => if p12 < (l0.length : Int) then if 0 ≤ p12 then ((spec_l11Place.f ((rd_T94 l0 p12).f0) ((rd_T94 l0 p12).f1.f0) ((rd_T94 l0 p12).f1.f1) ((rd_T94 l0 p12).f1.f2) ((rd_T94 l0 p12).f1.f3) ((rd_T94 l0 p12).f2) ((rd_T94 l0 p12).f3)).bind fun t16 => if t16 = true then if q11.length + ([0] : List Int).length < 17592186044416 then spec_Sizes.l0 k13 l0 (q11 ++ ([0] : List Int)) (wrap64 (p12 + 1)) else none else if q11.length + ([1] : List Int).length < 17592186044416 then spec_Sizes.l0 k13 l0 (q11 ++ ([1] : List Int)) (wrap64 (p12 + 1)) else none) else none else (spec_l11Ways.f k13 l0).bind fun t23 => spec_Sizes.l2 k13 l0 t23 q11 0
def spec_Sizes.j0 : Nat → (List S94) → ((List Int) × (List Int)) → Int → ((List Int)) → Int → (List Int) → Bool → Option ((List Int))
 | 0, _, _, _, _, _, _, _ => none
 | k124 + 1, l0, t23, p77, t80, p104, q122, p123 => spec_Sizes.l1 k124 l0 t23 p77 t80 q122 p123 (wrap64 (p104 + 1))
def spec_Sizes.l1 : Nat → (List S94) → ((List Int) × (List Int)) → Int → ((List Int)) → (List Int) → Bool → Int → Option ((List Int))
 | 0, _, _, _, _, _, _, _ => none
 | k105 + 1, l0, t23, p77, t80, q102, p103, p104 => if p104 < (l0.length : Int) then if 0 ≤ p104 then ((spec_l06Ask.f ((rd_T94 l0 p104).f1.f0)).bind fun t108 => (if t108 = true then (if p104 < (q102.length : Int) then if (rd q102 p104) = 3 then spec_Sizes.j0 k105 l0 t23 p77 t80 p104 q102 p103 else if p104 < (t23.1.length : Int) then (if 0 ≤ (rd t23.1 p104) then (if (rd t23.1 p104) < (t80.length : Int) then (if p104 < (t80.length : Int) then (if (wrap64 ((wrap64 ((rd t80 (rd t23.1 p104)) - (rd t80 p104))) - 1)) > 15 then spec_Sizes.j0 k105 l0 t23 p77 t80 p104 (q102.set p104.toNat 3) true else (if p104 < (t23.2.length : Int) then (if 0 ≤ (rd t23.2 p104) then (if (rd t23.2 p104) < (t80.length : Int) then if (wrap64 ((wrap64 ((rd t80 (rd t23.2 p104)) - (rd t80 p104))) - 1)) > 15 then spec_Sizes.j0 k105 l0 t23 p77 t80 p104 (q102.set p104.toNat 3) true else spec_Sizes.j0 k105 l0 t23 p77 t80 p104 q102 p103 else none) else none) else none)) else none) else none) else none) else none else none) else spec_Sizes.j0 k105 l0 t23 p77 t80 p104 q102 p103)) else none else if p103 = true then spec_Sizes.l2 k105 l0 t23 q102 (wrap64 (p77 + 1)) else some q102
def spec_Sizes.l2 : Nat → (List S94) → ((List Int) × (List Int)) → (List Int) → Int → Option ((List Int))
 | 0, _, _, _, _ => none
 | k78 + 1, l0, t23, q76, p77 => if p77 ≤ (l0.length : Int) then (spec_l11Begins.f k78 q76).bind fun t80 => spec_Sizes.l1 k78 l0 t23 p77 t80 q76 false 0 else some q76
end
def spec_Sizes.f (k : Nat) (l0 : List S94) : Option ((List Int)) := (spec_LinesOk.f k l0).bind fun t1 => if t1 = true then spec_Sizes.l0 k l0 ([] : List Int) 0 else some ([] : List Int)
theorem spec_Sizes.ok {k : Nat} {l0 : List S94} {r : (List Int)} (H : spec_Sizes.f k l0 = some r) : ACalls Tryz.prog 84 [] [.sl .o 7 (l0.map e94)] [(0, .row 3 1 (r.map (eI .i64)))] (.row 0) := by
 refine acalls (fn := Tryz.f84) (nt := 102) Tryz.func84 rfl rfl (Nat.le_of_ble_eq_true rfl) fun E hE => ?_
 rw [spec_Sizes.f] at H
 refine aw_grp1 ?_
 refine wk_start ?_
 refine kv g0 (asg) ?_
 refine wk_end ?_
 refine ac_next ?_
 refine aw_grp1 ?_
 refine wk_start ?_
 refine kb g0 (bsl 0 3 1 [.int .i64 0] (([] : List Int).map (eI .i64))) ?_
 refine kv g0 (asg) ?_
 refine wk_end ?_
 refine ac_next ?_
 refine aw_grp1 ?_
 refine aw_grp1 ?_
 refine wk_start ?_
 refine kv g0 (mv) ?_
 obtain ⟨t1, A2, H⟩ := of_bind H
 refine kcS0 14 (.lit (.bool t1)) [] g0 (cal (spec_LinesOk.ok A2) [] 9999 .n (hf := Tryz.func97)) rfl rfl ?_
 refine kv g0 (not_) ?_
 refine wk_end ?_
 refine ac_next ?_
 by_cases c3 : t1 = true
 ·rw [if_pos c3] at H
  refine aw_ifF ?_ (nF c3)
  refine aw_skip ?_
  refine ac_next ?_
  refine aw_grp1 ?_
  refine aw_grp1 ?_
  refine wk_start ?_
  refine kv g0 (asg) ?_
  refine wk_end ?_
  refine ac_next ?_
  refine aw_block ?_
  refine aw_loop2 (fun (k_ : Nat) (q11 : List Int) (p12 : Int) => k_ ≤ k ∧ spec_Sizes.l0 k_ l0 q11 p12 = some r) (fun (q11 : List Int) (p12 : Int) => ⟨[(0, .sl .o 7 (l0.map e94)), (3, .row 0), (4, .lit (.int .i64 p12))], [(0, .row 3 1 (q11.map (eI .i64)))]⟩) k ([] : List Int) 0 ⟨Nat.le_refl _, H⟩ (fun K_ h_ => acw hE [(0, 0)] 9999 h_) (fun _ _ => by intro h_; have h_ := h_.2; rw [spec_Sizes.l0.eq_1] at h_; cases h_) ?_
  intro k13 q11 p12 hq_ K21 hK22
  have hk13 := hq_.1
  have H := hq_.2
  clear hq_
  rw [spec_Sizes.l0.eq_2] at H
  refine aw_grp1 ?_
  refine aw_grp1 ?_
  refine wk_start ?_
  refine kv g0 (mv) ?_
  refine kv g0 (mv) ?_
  refine kv g0 (lnS lenE) ?_
  refine kv g0 (lss) ?_
  refine wk_end ?_
  refine ac_next ?_
  by_cases c14 : p12 < (l0.length : Int)
  ·rw [if_pos c14] at H
   refine aw_ifT ?_ (decide_eq_true c14)
   refine aw_skip ?_
   refine ac_next ?_
   refine aw_grp1 ?_
   refine aw_block ?_
   refine aw_grp1 ?_
   refine wk_start ?_
   refine kv g0 (asg) ?_
   refine wk_end ?_
   refine ac_next ?_
   refine aw_grp1 ?_
   refine aw_grp1 ?_
   refine wk_start ?_
   refine kv g0 (mv) ?_
   refine kv g0 (mv) ?_
   obtain ⟨c15, H⟩ := of_if H
   refine kv g0 (ixS 94 (e94 (rd_T94 l0 p12)) c15 (getE (z := z94) c15 c14)) ?_
   refine kv g0 (ldRA 7 [.lit (.string ((rd_T94 l0 p12).f0)), .lit (.int .i64 ((rd_T94 l0 p12).f1.f0)), .lit (.int .i64 ((rd_T94 l0 p12).f1.f1)), .lit (.int .i64 ((rd_T94 l0 p12).f1.f2)), .lit (.int .i64 ((rd_T94 l0 p12).f1.f3)), .lit (.string ((rd_T94 l0 p12).f2)), .lit (.string ((rd_T94 l0 p12).f3))]) ?_
   obtain ⟨t16, A17, H⟩ := of_bind H
   refine kcS0 27 (.lit (.bool t16)) [] g0 (cal (spec_l11Place.ok A17) [] 9999 .n (hf := Tryz.func98)) rfl rfl ?_
   refine wk_end ?_
   refine ac_next ?_
   by_cases c18 : t16 = true
   ·rw [if_pos c18] at H
    refine aw_ifT ?_ c18
    refine wk_start ?_
    refine kv g0 (asg) ?_
    refine wk_end ?_
    refine ac_next ?_
    refine wk_start ?_
    refine kv g0 (mv) ?_
    refine kv g0 (mv) ?_
    refine kb g0 (bsl 1 3 1 [.int .i64 0] (([0] : List Int).map (eI .i64))) ?_
    obtain ⟨c19, H⟩ := of_if H
    refine kc g0 (apR 2 3 1 8 [.int .i64 0] ((q11 ++ ([0] : List Int)).map (eI .i64)) (.row rfl) (apb c19 rfl) appE) ?_
    refine kv g0 (asg) ?_
    refine wk_end ?_
    refine ac_blkN ?_
    refine ac_next ?_
    refine wk_start ?_
    refine kv g0 (mv) ?_
    refine kv g0 (add6) ?_
    refine kv g0 (asg) ?_
    refine wk_end ?_
    refine ac_k ?_
    exact acw hE [(0, 2)] 9999 (hK22 k13 (q11 ++ ([0] : List Int)) (wrap64 (p12 + 1)) (Nat.le_refl _) ⟨by omega, H⟩)
   rw [if_neg c18] at H
   refine aw_ifF ?_ (bF c18)
   refine aw_skip ?_
   refine ac_next ?_
   refine wk_start ?_
   refine kv g0 (mv) ?_
   refine kv g0 (mv) ?_
   refine kb g0 (bsl 3 3 1 [.int .i64 0] (([1] : List Int).map (eI .i64))) ?_
   obtain ⟨c20, H⟩ := of_if H
   refine kc g0 (apR 4 3 1 8 [.int .i64 0] ((q11 ++ ([1] : List Int)).map (eI .i64)) (.row rfl) (apb c20 rfl) appE) ?_
   refine kv g0 (asg) ?_
   refine wk_end ?_
   refine ac_blkN ?_
   refine ac_next ?_
   refine wk_start ?_
   refine kv g0 (mv) ?_
   refine kv g0 (add6) ?_
   refine kv g0 (asg) ?_
   refine wk_end ?_
   refine ac_k ?_
   exact acw hE [(0, 4)] 9999 (hK22 k13 (q11 ++ ([1] : List Int)) (wrap64 (p12 + 1)) (Nat.le_refl _) ⟨by omega, H⟩)
  rw [if_neg c14] at H
  refine aw_ifF ?_ (decide_eq_false c14)
  refine aw_exit ?_
  refine ac_then ?_
  refine ac_then ?_
  refine ac_hit rfl ?_
  refine ac_next ?_
  refine aw_grp1 ?_
  refine wk_start ?_
  refine kv g0 (mv) ?_
  obtain ⟨t23, A24, H⟩ := of_bind H
  refine kcS2 34 (.tup [.row 5, .row 6]) [(5, .row 3 1 (t23.1.map (eI .i64))), (6, .row 3 1 (t23.2.map (eI .i64)))] g0 (cal (spec_l11Ways.ok A24) [5, 6] 9999 .n (hf := Tryz.func85)) rfl rfl ?_
  refine kv g0 (mv) ?_
  refine kv g0 (ext) ?_
  refine kv g0 (ext) ?_
  refine kv g0 (asg) ?_
  refine kv g0 (asg) ?_
  refine wk_end ?_
  refine ac_next ?_
  refine aw_grp1 ?_
  refine aw_grp1 ?_
  refine wk_start ?_
  refine kv g0 (asg) ?_
  refine wk_end ?_
  refine ac_next ?_
  refine aw_block ?_
  refine aw_loop2 (fun (k_ : Nat) (q76 : List Int) (p77 : Int) => k_ ≤ k13 ∧ spec_Sizes.l2 k_ l0 t23 q76 p77 = some r) (fun (q76 : List Int) (p77 : Int) => ⟨[(0, .sl .o 7 (l0.map e94)), (3, .row 0), (6, .row 5), (7, .row 6), (8, .lit (.int .i64 p77))], [(0, .row 3 1 (q76.map (eI .i64))), (5, .row 3 1 (t23.1.map (eI .i64))), (6, .row 3 1 (t23.2.map (eI .i64)))]⟩) k13 q11 0 ⟨Nat.le_refl _, H⟩ (fun K_ h_ => acw hE [(0, 0), (5, 5), (6, 6)] 9999 h_) (fun _ _ => by intro h_; have h_ := h_.2; rw [spec_Sizes.l2.eq_1] at h_; cases h_) ?_
  intro k78 q76 p77 hq_ K129 hK130
  have hk78 := hq_.1
  have H := hq_.2
  clear hq_
  rw [spec_Sizes.l2.eq_2] at H
  refine aw_grp1 ?_
  refine aw_grp1 ?_
  refine wk_start ?_
  refine kv g0 (mv) ?_
  refine kv g0 (mv) ?_
  refine kv g0 (lnS lenE) ?_
  refine kv g0 (leq) ?_
  refine wk_end ?_
  refine ac_next ?_
  by_cases c79 : p77 ≤ (l0.length : Int)
  ·rw [if_pos c79] at H
   refine aw_ifT ?_ (decide_eq_true c79)
   refine aw_skip ?_
   refine ac_next ?_
   refine aw_grp1 ?_
   refine aw_block ?_
   refine aw_grp1 ?_
   refine wk_start ?_
   refine kv g0 (mv) ?_
   obtain ⟨t80, A81, H⟩ := of_bind H
   refine kcS1 44 (.row 7) [(7, .row 3 1 (t80.map (eI .i64)))] g0 (cal (spec_l11Begins.ok A81) [7] 9999 .n (hf := Tryz.func86)) rfl rfl ?_
   refine kv g0 (asg) ?_
   refine wk_end ?_
   refine ac_next ?_
   refine aw_grp1 ?_
   refine wk_start ?_
   refine kv g0 (asg) ?_
   refine wk_end ?_
   refine ac_next ?_
   refine aw_grp1 ?_
   refine aw_grp1 ?_
   refine wk_start ?_
   refine kv g0 (asg) ?_
   refine wk_end ?_
   refine ac_next ?_
   refine aw_block ?_
   refine aw_loop3 (fun (k_ : Nat) (q102 : List Int) (p103 : Bool) (p104 : Int) => k_ ≤ k78 ∧ spec_Sizes.l1 k_ l0 t23 p77 t80 q102 p103 p104 = some r) (fun (q102 : List Int) (p103 : Bool) (p104 : Int) => ⟨[(0, .sl .o 7 (l0.map e94)), (3, .row 0), (6, .row 5), (7, .row 6), (8, .lit (.int .i64 p77)), (9, .row 7), (10, .lit (.bool p103)), (11, .lit (.int .i64 p104))], [(0, .row 3 1 (q102.map (eI .i64))), (5, .row 3 1 (t23.1.map (eI .i64))), (6, .row 3 1 (t23.2.map (eI .i64))), (7, .row 3 1 (t80.map (eI .i64)))]⟩) k78 q76 false 0 ⟨Nat.le_refl _, H⟩ (fun K_ h_ => acw hE [(0, 0), (5, 5), (6, 6), (7, 7)] 9999 h_) (fun _ _ _ => by intro h_; have h_ := h_.2; rw [spec_Sizes.l1.eq_1] at h_; cases h_) ?_
   intro k105 q102 p103 p104 hq_ K126 hK127
   have hk105 := hq_.1
   have H := hq_.2
   clear hq_
   rw [spec_Sizes.l1.eq_2] at H
   refine aw_grp1 ?_
   refine aw_grp1 ?_
   refine wk_start ?_
   refine kv g0 (mv) ?_
   refine kv g0 (mv) ?_
   refine kv g0 (lnS lenE) ?_
   refine kv g0 (lss) ?_
   refine wk_end ?_
   refine ac_next ?_
   by_cases c106 : p104 < (l0.length : Int)
   ·rw [if_pos c106] at H
    refine aw_ifT ?_ (decide_eq_true c106)
    refine aw_skip ?_
    refine ac_next ?_
    refine aw_cut1 (J := fun K_ => ∀ (k_ : Nat) (q122 : List Int) (p123 : Bool), k_ ≤ k105 → spec_Sizes.j0 k_ l0 t23 p77 t80 p104 q122 p123 = some r → ACont E 102 ⟨[(0, .sl .o 7 (l0.map e94)), (3, .row 0), (6, .row 5), (7, .row 6), (8, .lit (.int .i64 p77)), (9, .row 7), (10, .lit (.bool p123)), (11, .lit (.int .i64 p104))], [(0, .row 3 1 (q122.map (eI .i64))), (5, .row 3 1 (t23.1.map (eI .i64))), (6, .row 3 1 (t23.2.map (eI .i64))), (7, .row 3 1 (t80.map (eI .i64)))]⟩ K_) ?_ ?_
    ·intro K_ hJ125
     refine aw_block ?_
     refine aw_grp1 ?_
     refine aw_grp1 ?_
     refine wk_start ?_
     refine kv g0 (mv) ?_
     refine kv g0 (mv) ?_
     obtain ⟨c107, H⟩ := of_if H
     refine kv g0 (ixS 94 (e94 (rd_T94 l0 p104)) c107 (getE (z := z94) c107 c106)) ?_
     refine kv g0 (faR 1 1) ?_
     refine kv g0 (faR 0 1) ?_
     refine kv g0 (ldR (.lit (.int .i64 ((rd_T94 l0 p104).f1.f0)))) ?_
     obtain ⟨t108, A109, H⟩ := of_bind H
     refine kcS0 57 (.lit (.bool t108)) [] g0 (cal (spec_l06Ask.ok A109) [] 9999 .n (hf := Tryz.func46)) rfl rfl ?_
     refine kv g0 (not_) ?_
     refine kv g0 (mv) ?_
     by_cases c110 : t108 = true
     ·rw [if_pos c110] at H
      refine kv (g1 (nF c110)) (mv) ?_
      refine kv (g1 (nF c110)) (mv) ?_
      obtain ⟨c111, H⟩ := of_if H
      refine kv (g1 (nF c110)) (ixR 3 c107 (ltE c111)) ?_
      refine kv (g1 (nF c110)) (ldE (eI .i64 (rd q102 p104)) (.lit (.int .i64 (rd q102 p104))) (getE (z := (0 : Int)) c107 c111)) ?_
      refine kv (g1 (nF c110)) (eql) ?_
      refine kv g0 (pkF (nF c110)) ?_
      refine wk_end ?_
      refine ac_next ?_
      by_cases c112 : (rd q102 p104) = 3
      ·rw [if_pos c112] at H
       refine aw_ifT ?_ (eT c112)
       refine aw_exit ?_
       refine ac_then ?_
       refine ac_hit rfl ?_
       refine ac_k ?_
       exact acw hE [(0, 0), (5, 5), (6, 6), (7, 7)] 9999 (hJ125 k105 q102 p103 (Nat.le_refl _) H)
      rw [if_neg c112] at H
      refine aw_ifF ?_ (eF c112)
      refine aw_skip ?_
      refine ac_next ?_
      refine aw_grp1 ?_
      refine wk_start ?_
      refine kv g0 (mv) ?_
      refine kv g0 (mv) ?_
      refine kv g0 (mv) ?_
      obtain ⟨c113, H⟩ := of_if H
      refine kv g0 (ixR 3 c107 (ltE c113)) ?_
      refine kv g0 (ldE (eI .i64 (rd t23.1 p104)) (.lit (.int .i64 (rd t23.1 p104))) (getE (z := (0 : Int)) c107 c113)) ?_
      obtain ⟨c114, H⟩ := of_if H
      obtain ⟨c115, H⟩ := of_if H
      refine kv g0 (ixR 3 c114 (ltE c115)) ?_
      refine kv g0 (ldE (eI .i64 (rd t80 (rd t23.1 p104))) (.lit (.int .i64 (rd t80 (rd t23.1 p104)))) (getE (z := (0 : Int)) c114 c115)) ?_
      refine kv g0 (mv) ?_
      refine kv g0 (mv) ?_
      obtain ⟨c116, H⟩ := of_if H
      refine kv g0 (ixR 3 c107 (ltE c116)) ?_
      refine kv g0 (ldE (eI .i64 (rd t80 p104)) (.lit (.int .i64 (rd t80 p104))) (getE (z := (0 : Int)) c107 c116)) ?_
      refine kv g0 (sub6) ?_
      refine kv g0 (sub6) ?_
      refine kv g0 (gtr) ?_
      refine kv g0 (mv) ?_
      by_cases c117 : (wrap64 ((wrap64 ((rd t80 (rd t23.1 p104)) - (rd t80 p104))) - 1)) > 15
      ·rw [if_pos c117] at H
       refine kx (hF (decide_eq_true c117)) ?_
       refine kx (hF (decide_eq_true c117)) ?_
       refine kx (hF (decide_eq_true c117)) ?_
       refine kx (hF (decide_eq_true c117)) ?_
       refine kx (hF (decide_eq_true c117)) ?_
       refine kx (hF (decide_eq_true c117)) ?_
       refine kx (hF (decide_eq_true c117)) ?_
       refine kx (hF (decide_eq_true c117)) ?_
       refine kx (hF (decide_eq_true c117)) ?_
       refine kx (hF (decide_eq_true c117)) ?_
       refine kx (hF (decide_eq_true c117)) ?_
       refine kx (hF (decide_eq_true c117)) ?_
       refine kx (hF (decide_eq_true c117)) ?_
       refine kx (hF (decide_eq_true c117)) ?_
       refine kv g0 (pkT (decide_eq_true c117)) ?_
       refine wk_end_draw hM (by kernel_rfl) ?_
       refine ac_next ?_
       refine aw_ifT ?_ rfl
       refine aw_grp1 ?_
       refine wk_start ?_
       refine kv g0 (mv) ?_
       refine kv g0 (mv) ?_
       refine kv g0 (ixR 3 c107 (ltE c111)) ?_
       refine ks g0 (stE 1 (eI .i64 3) ((q102.set p104.toNat 3).map (eI .i64)) (getE (z := (0 : Int)) c107 c111) setE) ?_
       refine wk_end ?_
       refine ac_next ?_
       refine wk_start ?_
       refine kv g0 (asg) ?_
       refine wk_end ?_
       refine ac_blkN ?_
       refine ac_k ?_
       exact acw hE [(0, 0), (5, 5), (6, 6), (7, 7)] 9999 (hJ125 k105 (q102.set p104.toNat 3) true (Nat.le_refl _) H)
      rw [if_neg c117] at H
      refine kv (g1 (decide_eq_false c117)) (mv) ?_
      refine kv (g1 (decide_eq_false c117)) (mv) ?_
      refine kv (g1 (decide_eq_false c117)) (mv) ?_
      obtain ⟨c118, H⟩ := of_if H
      refine kv (g1 (decide_eq_false c117)) (ixR 3 c107 (ltE c118)) ?_
      refine kv (g1 (decide_eq_false c117)) (ldE (eI .i64 (rd t23.2 p104)) (.lit (.int .i64 (rd t23.2 p104))) (getE (z := (0 : Int)) c107 c118)) ?_
      obtain ⟨c119, H⟩ := of_if H
      obtain ⟨c120, H⟩ := of_if H
      refine kv (g1 (decide_eq_false c117)) (ixR 3 c119 (ltE c120)) ?_
      refine kv (g1 (decide_eq_false c117)) (ldE (eI .i64 (rd t80 (rd t23.2 p104))) (.lit (.int .i64 (rd t80 (rd t23.2 p104)))) (getE (z := (0 : Int)) c119 c120)) ?_
      refine kv (g1 (decide_eq_false c117)) (mv) ?_
      refine kv (g1 (decide_eq_false c117)) (mv) ?_
      refine kv (g1 (decide_eq_false c117)) (ixR 3 c107 (ltE c116)) ?_
      refine kv (g1 (decide_eq_false c117)) (ldE (eI .i64 (rd t80 p104)) (.lit (.int .i64 (rd t80 p104))) (getE (z := (0 : Int)) c107 c116)) ?_
      refine kv (g1 (decide_eq_false c117)) (sub6) ?_
      refine kv (g1 (decide_eq_false c117)) (sub6) ?_
      refine kv (g1 (decide_eq_false c117)) (gtr) ?_
      refine kv g0 (pkF (decide_eq_false c117)) ?_
      refine wk_end_draw hM (by kernel_rfl) ?_
      refine ac_next ?_
      by_cases c121 : (wrap64 ((wrap64 ((rd t80 (rd t23.2 p104)) - (rd t80 p104))) - 1)) > 15
      ·rw [if_pos c121] at H
       refine aw_ifT ?_ (decide_eq_true c121)
       refine aw_grp1 ?_
       refine wk_start ?_
       refine kv g0 (mv) ?_
       refine kv g0 (mv) ?_
       refine kv g0 (ixR 3 c107 (ltE c111)) ?_
       refine ks g0 (stE 1 (eI .i64 3) ((q102.set p104.toNat 3).map (eI .i64)) (getE (z := (0 : Int)) c107 c111) setE) ?_
       refine wk_end ?_
       refine ac_next ?_
       refine wk_start ?_
       refine kv g0 (asg) ?_
       refine wk_end ?_
       refine ac_blkN ?_
       refine ac_k ?_
       exact acw hE [(0, 0), (5, 5), (6, 6), (7, 7)] 9999 (hJ125 k105 (q102.set p104.toNat 3) true (Nat.le_refl _) H)
      rw [if_neg c121] at H
      refine aw_ifF ?_ (decide_eq_false c121)
      refine aw_skip ?_
      refine ac_blkN ?_
      refine ac_k ?_
      exact acw hE [(0, 0), (5, 5), (6, 6), (7, 7)] 9999 (hJ125 k105 q102 p103 (Nat.le_refl _) H)
     rw [if_neg c110] at H
     refine kx (hF (nT (bF c110))) ?_
     refine kx (hF (nT (bF c110))) ?_
     refine kx (hF (nT (bF c110))) ?_
     refine kx (hF (nT (bF c110))) ?_
     refine kx (hF (nT (bF c110))) ?_
     refine kv g0 (pkT (nT (bF c110))) ?_
     refine wk_end ?_
     refine ac_next ?_
     refine aw_ifT ?_ rfl
     refine aw_exit ?_
     refine ac_then ?_
     refine ac_hit rfl ?_
     refine ac_k ?_
     exact acw hE [(0, 0), (5, 5), (6, 6), (7, 7)] 9999 (hJ125 k105 q102 p103 (Nat.le_refl _) H)
    intro k_ q122 p123 hk_ H
    rcases k_ with _ | k124
    ·rw [spec_Sizes.j0.eq_1] at H; cases H
    have hk124 : k124 ≤ k105 := by omega
    clear hk_
    rw [spec_Sizes.j0.eq_2] at H
    refine wk_start ?_
    refine kv g0 (mv) ?_
    refine kv g0 (add6) ?_
    refine kv g0 (asg) ?_
    refine wk_end ?_
    refine ac_k ?_
    exact acw hE [(0, 0), (5, 5), (6, 6), (7, 7)] 9999 (hK127 k124 q122 p123 (wrap64 (p104 + 1)) (by omega) ⟨by omega, H⟩)
   rw [if_neg c106] at H
   refine aw_ifF ?_ (decide_eq_false c106)
   refine aw_exit ?_
   refine ac_then ?_
   refine ac_then ?_
   refine ac_hit rfl ?_
   refine ac_next ?_
   refine aw_grp1 ?_
   refine wk_start ?_
   refine kv g0 (mv) ?_
   refine kv g0 (not_) ?_
   refine wk_end ?_
   refine ac_next ?_
   by_cases c128 : p103 = true
   ·rw [if_pos c128] at H
    refine aw_ifF ?_ (nF c128)
    refine aw_skip ?_
    refine ac_blkN ?_
    refine ac_next ?_
    refine wk_start ?_
    refine kv g0 (mv) ?_
    refine kv g0 (add6) ?_
    refine kv g0 (asg) ?_
    refine wk_end ?_
    refine ac_k ?_
    exact acw hE [(0, 0), (5, 5), (6, 6)] 9999 (hK130 k105 q102 (wrap64 (p77 + 1)) (by omega) ⟨by omega, H⟩)
   rw [if_neg c128] at H
   refine aw_ifT ?_ (nT (bF c128))
   refine aw_exit ?_
   refine ac_miss rfl ?_
   refine ac_then ?_
   refine ac_then ?_
   refine ac_hit rfl ?_
   refine ac_next ?_
   refine aw_grp1 ?_
   refine wk_start ?_
   refine kv g0 (mv) ?_
   refine kv g0 (asg) ?_
   refine wk_end ?_
   refine ac_next ?_
   refine aw_ret ?_
   obtain rfl := Option.some.inj H
   exact acr hE [.tmp 2] (.tmp .nil) (.one _) [(0, 0)] 9999
  rw [if_neg c79] at H
  refine aw_ifF ?_ (decide_eq_false c79)
  refine aw_exit ?_
  refine ac_then ?_
  refine ac_then ?_
  refine ac_hit rfl ?_
  refine ac_next ?_
  refine aw_grp1 ?_
  refine wk_start ?_
  refine kv g0 (mv) ?_
  refine kv g0 (asg) ?_
  refine wk_end ?_
  refine ac_next ?_
  refine aw_ret ?_
  obtain rfl := Option.some.inj H
  exact acr hE [.tmp 2] (.tmp .nil) (.one _) [(0, 0)] 9999
 rw [if_neg c3] at H
 refine aw_ifT ?_ (nT (bF c3))
 refine aw_grp1 ?_
 refine wk_start ?_
 refine kv g0 (mv) ?_
 refine kv g0 (asg) ?_
 refine wk_end ?_
 refine ac_next ?_
 refine aw_ret ?_
 refine ac_thenR ?_
 obtain rfl := Option.some.inj H
 exact acr hE [.tmp 2] (.tmp .nil) (.one _) [(0, 0)] 9999
/-! spec_Layout -/
mutual
def spec_Layout.j0 : Nat → (List S94) → ((List Int)) → ((List Int) × (List Int)) → ((List Int)) → (List S41) → Int → Int → Int → Int → Option ((List S41) × Bool)
 | 0, _, _, _, _, _, _, _, _, _ => none
 | k76 + 1, l0, t1, t4, t6, q42, p43, p73, p74, p75 => if q42.length + ([(⟨(rd_T94 l0 p43).f1.f0, p73, p74, p75⟩ : S41)] : List S41).length < 4398046511104 then spec_Layout.l0 k76 l0 t1 t4 t6 (q42 ++ ([(⟨(rd_T94 l0 p43).f1.f0, p73, p74, p75⟩ : S41)] : List S41)) (wrap64 (p43 + 1)) else none
def spec_Layout.l0 : Nat → (List S94) → ((List Int)) → ((List Int) × (List Int)) → ((List Int)) → (List S41) → Int → Option ((List S41) × Bool)
 | 0, _, _, _, _, _, _ => none
 | k44 + 1, l0, t1, t4, t6, q42, p43 => if p43 < (l0.length : Int) then if 0 ≤ p43 then if p43 < (t1.length : Int) then if (rd t1 p43) = 0 then spec_Layout.l0 k44 l0 t1 t4 t6 q42 (wrap64 (p43 + 1)) else if (rd t1 p43) = 3 then if p43 < (t4.1.length : Int) then (if 0 ≤ (rd t4.1 p43) then (if (rd t4.1 p43) < (t6.length : Int) then (if p43 < (t6.length : Int) then (if p43 < (t4.2.length : Int) then (if 0 ≤ (rd t4.2 p43) then (if (rd t4.2 p43) < (t6.length : Int) then (if q42.length + ([(⟨(rd_T94 l0 p43).f1.f0, (rd_T94 l0 p43).f1.f1, (rd_T94 l0 p43).f1.f2, 1⟩ : S41), (⟨7, wrap64 ((wrap64 ((rd t6 (rd t4.1 p43)) - (rd t6 p43))) - 2), 0, 0⟩ : S41), (⟨7, wrap64 ((wrap64 ((rd t6 (rd t4.2 p43)) - (rd t6 p43))) - 3), 0, 0⟩ : S41)] : List S41).length < 4398046511104 then spec_Layout.l0 k44 l0 t1 t4 t6 (q42 ++ ([(⟨(rd_T94 l0 p43).f1.f0, (rd_T94 l0 p43).f1.f1, (rd_T94 l0 p43).f1.f2, 1⟩ : S41), (⟨7, wrap64 ((wrap64 ((rd t6 (rd t4.1 p43)) - (rd t6 p43))) - 2), 0, 0⟩ : S41), (⟨7, wrap64 ((wrap64 ((rd t6 (rd t4.2 p43)) - (rd t6 p43))) - 3), 0, 0⟩ : S41)] : List S41)) (wrap64 (p43 + 1)) else none) else none) else none) else none) else none) else none) else none) else none else if ((rd_T94 l0 p43).f1.f0) = 7 then (if p43 < (t4.1.length : Int) then (if 0 ≤ (rd t4.1 p43) then (if (rd t4.1 p43) < (t6.length : Int) then (if p43 < (t6.length : Int) then spec_Layout.j0 k44 l0 t1 t4 t6 q42 p43 (wrap64 ((wrap64 ((rd t6 (rd t4.1 p43)) - (rd t6 p43))) - 1)) ((rd_T94 l0 p43).f1.f2) ((rd_T94 l0 p43).f1.f3) else none) else none) else none) else none) else ((spec_l06Ask.f ((rd_T94 l0 p43).f1.f0)).bind fun t63 => if t63 = true then (if p43 < (t4.1.length : Int) then (if 0 ≤ (rd t4.1 p43) then (if (rd t4.1 p43) < (t6.length : Int) then (if p43 < (t6.length : Int) then if p43 < (t4.2.length : Int) then (if 0 ≤ (rd t4.2 p43) then (if (rd t4.2 p43) < (t6.length : Int) then spec_Layout.j0 k44 l0 t1 t4 t6 q42 p43 ((rd_T94 l0 p43).f1.f1) (wrap64 ((wrap64 ((rd t6 (rd t4.1 p43)) - (rd t6 p43))) - 1)) (wrap64 ((wrap64 ((rd t6 (rd t4.2 p43)) - (rd t6 p43))) - 1)) else none) else none) else none else none) else none) else none) else none) else spec_Layout.j0 k44 l0 t1 t4 t6 q42 p43 ((rd_T94 l0 p43).f1.f1) ((rd_T94 l0 p43).f1.f2) ((rd_T94 l0 p43).f1.f3)) else none else none else if (q42.length : Int) > 400 then some (([] : List S41), false) else some (q42, true)
end
def spec_Layout.f (k : Nat) (l0 : List S94) : Option ((List S41) × Bool) := (spec_Sizes.f k l0).bind fun t1 => if (t1.length : Int) = 0 then some (([] : List S41), false) else (spec_l11Ways.f k l0).bind fun t4 => (spec_l11Begins.f k t1).bind fun t6 => spec_Layout.l0 k l0 t1 t4 t6 ([] : List S41) 0
theorem spec_Layout.ok {k : Nat} {l0 : List S94} {r : (List S41) × Bool} (H : spec_Layout.f k l0 = some r) : ACalls Tryz.prog 64 [] [.sl .o 7 (l0.map e94)] [(0, .row 41 4 (r.1.map e41))] (.tup [.row 0, .lit (.bool r.2)]) := by
 refine acalls (fn := Tryz.f64) (nt := 142) Tryz.func64 rfl rfl (Nat.le_of_ble_eq_true rfl) fun E hE => ?_
 rw [spec_Layout.f] at H
 refine aw_grp1 ?_
 refine wk_start ?_
 refine kv g0 (asg) ?_
 refine kv g0 (asg) ?_
 refine wk_end ?_
 refine ac_next ?_
 refine aw_grp1 ?_
 refine wk_start ?_
 refine kb g0 (bsl 0 41 4 [.int .i64 0, .int .i64 0, .int .i64 0, .int .i64 0] (([] : List S41).map e41)) ?_
 refine kv g0 (asg) ?_
 refine wk_end ?_
 refine ac_next ?_
 refine aw_grp1 ?_
 refine wk_start ?_
 refine kv g0 (mv) ?_
 obtain ⟨t1, A2, H⟩ := of_bind H
 refine kcS1 14 (.row 1) [(1, .row 3 1 (t1.map (eI .i64)))] g0 (cal (spec_Sizes.ok A2) [1] 9999 .n (hf := Tryz.func84)) rfl rfl ?_
 refine kv g0 (asg) ?_
 refine wk_end ?_
 refine ac_next ?_
 refine aw_grp1 ?_
 refine aw_grp1 ?_
 refine wk_start ?_
 refine kv g0 (mv) ?_
 refine kv g0 (lnR lenE) ?_
 refine kv g0 (eql) ?_
 refine wk_end ?_
 refine ac_next ?_
 by_cases c3 : (t1.length : Int) = 0
 ·rw [if_pos c3] at H
  refine aw_ifT ?_ (eT c3)
  refine aw_grp1 ?_
  refine wk_start ?_
  refine kv g0 (mv) ?_
  refine kv g0 (asg) ?_
  refine kv g0 (asg) ?_
  refine wk_end ?_
  refine ac_next ?_
  refine aw_ret ?_
  refine ac_thenR ?_
  obtain rfl := Option.some.inj H
  exact acr hE [.tmp 2, .tmp 3] (.tmp (.tmp .nil)) (.many _ _ _) [(0, 0)] 9999
 rw [if_neg c3] at H
 refine aw_ifF ?_ (eF c3)
 refine aw_skip ?_
 refine ac_next ?_
 refine aw_grp1 ?_
 refine wk_start ?_
 refine kv g0 (mv) ?_
 obtain ⟨t4, A5, H⟩ := of_bind H
 refine kcS2 21 (.tup [.row 2, .row 3]) [(2, .row 3 1 (t4.1.map (eI .i64))), (3, .row 3 1 (t4.2.map (eI .i64)))] g0 (cal (spec_l11Ways.ok A5) [2, 3] 9999 .n (hf := Tryz.func85)) rfl rfl ?_
 refine kv g0 (mv) ?_
 refine kv g0 (ext) ?_
 refine kv g0 (ext) ?_
 refine kv g0 (asg) ?_
 refine kv g0 (asg) ?_
 refine wk_end ?_
 refine ac_next ?_
 refine aw_grp1 ?_
 refine wk_start ?_
 refine kv g0 (mv) ?_
 obtain ⟨t6, A7, H⟩ := of_bind H
 refine kcS1 25 (.row 4) [(4, .row 3 1 (t6.map (eI .i64)))] g0 (cal (spec_l11Begins.ok A7) [4] 9999 .n (hf := Tryz.func86)) rfl rfl ?_
 refine kv g0 (asg) ?_
 refine wk_end ?_
 refine ac_next ?_
 refine aw_grp1 ?_
 refine wk_start ?_
 refine kb g0 (bsl 5 41 4 [.int .i64 0, .int .i64 0, .int .i64 0, .int .i64 0] (([] : List S41).map e41)) ?_
 refine kv g0 (asg) ?_
 refine wk_end ?_
 refine ac_next ?_
 refine aw_grp1 ?_
 refine aw_grp1 ?_
 refine wk_start ?_
 refine kv g0 (asg) ?_
 refine wk_end ?_
 refine ac_next ?_
 refine aw_block ?_
 refine aw_loop2 (fun (k_ : Nat) (q42 : List S41) (p43 : Int) => k_ ≤ k ∧ spec_Layout.l0 k_ l0 t1 t4 t6 q42 p43 = some r) (fun (q42 : List S41) (p43 : Int) => ⟨[(0, .sl .o 7 (l0.map e94)), (4, .row 0), (5, .row 1), (6, .row 2), (7, .row 3), (8, .row 4), (9, .row 5), (10, .lit (.int .i64 p43))], [(0, .row 41 4 (([] : List S41).map e41)), (1, .row 3 1 (t1.map (eI .i64))), (2, .row 3 1 (t4.1.map (eI .i64))), (3, .row 3 1 (t4.2.map (eI .i64))), (4, .row 3 1 (t6.map (eI .i64))), (5, .row 41 4 (q42.map e41))]⟩) k ([] : List S41) 0 ⟨Nat.le_refl _, H⟩ (fun K_ h_ => acw hE [(0, 0), (1, 1), (2, 2), (3, 3), (4, 4), (5, 5)] 9999 h_) (fun _ _ => by intro h_; have h_ := h_.2; rw [spec_Layout.l0.eq_1] at h_; cases h_) ?_
 intro k44 q42 p43 hq_ K79 hK80
 have hk44 := hq_.1
 have H := hq_.2
 clear hq_
 rw [spec_Layout.l0.eq_2] at H
 refine aw_grp1 ?_
 refine aw_grp1 ?_
 refine wk_start ?_
 refine kv g0 (mv) ?_
 refine kv g0 (mv) ?_
 refine kv g0 (lnS lenE) ?_
 refine kv g0 (lss) ?_
 refine wk_end ?_
 refine ac_next ?_
 by_cases c45 : p43 < (l0.length : Int)
 ·rw [if_pos c45] at H
  refine aw_ifT ?_ (decide_eq_true c45)
  refine aw_skip ?_
  refine ac_next ?_
  refine aw_grp1 ?_
  refine aw_block ?_
  refine aw_grp1 ?_
  refine wk_start ?_
  refine kv g0 (mv) ?_
  refine kv g0 (mv) ?_
  obtain ⟨c46, H⟩ := of_if H
  refine kv g0 (ixS 94 (e94 (rd_T94 l0 p43)) c46 (getE (z := z94) c46 c45)) ?_
  refine kv g0 (faR 1 1) ?_
  refine kv g0 (ldRA 4 [.lit (.int .i64 ((rd_T94 l0 p43).f1.f0)), .lit (.int .i64 ((rd_T94 l0 p43).f1.f1)), .lit (.int .i64 ((rd_T94 l0 p43).f1.f2)), .lit (.int .i64 ((rd_T94 l0 p43).f1.f3))]) ?_
  refine kb g0 (alc 6 [.int .i64 0, .int .i64 0, .int .i64 0, .int .i64 0] [.lit (.int .i64 0), .lit (.int .i64 0), .lit (.int .i64 0), .lit (.int .i64 0)]) ?_
  refine ks g0 (stB 4 [.lit (.int .i64 ((rd_T94 l0 p43).f1.f0)), .lit (.int .i64 ((rd_T94 l0 p43).f1.f1)), .lit (.int .i64 ((rd_T94 l0 p43).f1.f2)), .lit (.int .i64 ((rd_T94 l0 p43).f1.f3))]) ?_
  refine wk_end ?_
  refine ac_next ?_
  refine aw_cut1 (J := fun K_ => ∀ (k_ : Nat) (p73 : Int) (p74 : Int) (p75 : Int), k_ ≤ k44 → spec_Layout.j0 k_ l0 t1 t4 t6 q42 p43 p73 p74 p75 = some r → ACont E 142 ⟨[(0, .sl .o 7 (l0.map e94)), (4, .row 0), (5, .row 1), (6, .row 2), (7, .row 3), (8, .row 4), (9, .row 5), (10, .lit (.int .i64 p43)), (11, .box 6 0)], [(0, .row 41 4 (([] : List S41).map e41)), (1, .row 3 1 (t1.map (eI .i64))), (2, .row 3 1 (t4.1.map (eI .i64))), (3, .row 3 1 (t4.2.map (eI .i64))), (4, .row 3 1 (t6.map (eI .i64))), (5, .row 41 4 (q42.map e41)), (6, .box 41 [.lit (.int .i64 ((rd_T94 l0 p43).f1.f0)), .lit (.int .i64 p73), .lit (.int .i64 p74), .lit (.int .i64 p75)])]⟩ K_) ?_ ?_
  ·intro K_ hJ78
   refine aw_block ?_
   refine aw_grp1 ?_
   refine wk_start ?_
   refine kv g0 (mv) ?_
   refine kv g0 (mv) ?_
   obtain ⟨c47, H⟩ := of_if H
   refine kv g0 (ixR 3 c46 (ltE c47)) ?_
   refine kv g0 (ldE (eI .i64 (rd t1 p43)) (.lit (.int .i64 (rd t1 p43))) (getE (z := (0 : Int)) c46 c47)) ?_
   refine kv g0 (eql) ?_
   refine kv g0 (asg) ?_
   refine wk_end ?_
   refine ac_next ?_
   by_cases c48 : (rd t1 p43) = 0
   ·rw [if_pos c48] at H
    refine aw_ifT ?_ (eT c48)
    refine aw_exit ?_
    refine ac_miss rfl ?_
    refine ac_then ?_
    refine ac_hit rfl ?_
    refine ac_next ?_
    refine wk_start ?_
    refine kv g0 (mv) ?_
    refine kv g0 (add6) ?_
    refine kv g0 (asg) ?_
    refine wk_end ?_
    refine ac_k ?_
    exact acw hE [(0, 0), (1, 1), (2, 2), (3, 3), (4, 4), (5, 5)] 9999 (hK80 k44 q42 (wrap64 (p43 + 1)) (Nat.le_refl _) ⟨by omega, H⟩)
   rw [if_neg c48] at H
   refine aw_ifF ?_ (eF c48)
   refine aw_grp1 ?_
   refine wk_start ?_
   refine kv g0 (mv) ?_
   refine kv g0 (mv) ?_
   refine kv g0 (ixR 3 c46 (ltE c47)) ?_
   refine kv g0 (ldE (eI .i64 (rd t1 p43)) (.lit (.int .i64 (rd t1 p43))) (getE (z := (0 : Int)) c46 c47)) ?_
   refine kv g0 (eql) ?_
   refine kv g0 (asg) ?_
   refine wk_end ?_
   refine ac_next ?_
   by_cases c49 : (rd t1 p43) = 3
   ·rw [if_pos c49] at H
    refine aw_ifT ?_ (eT c49)
    refine aw_grp1 ?_
    refine wk_start ?_
    refine kv g0 (faB 3 3) ?_
    refine ks g0 (stB 1 [.lit (.int .i64 ((rd_T94 l0 p43).f1.f0)), .lit (.int .i64 ((rd_T94 l0 p43).f1.f1)), .lit (.int .i64 ((rd_T94 l0 p43).f1.f2)), .lit (.int .i64 1)]) ?_
    refine wk_end ?_
    refine ac_next ?_
    refine aw_grp1 ?_
    refine wk_start ?_
    refine kv g0 (mv) ?_
    refine kv g0 (ldBA 4 [.lit (.int .i64 ((rd_T94 l0 p43).f1.f0)), .lit (.int .i64 ((rd_T94 l0 p43).f1.f1)), .lit (.int .i64 ((rd_T94 l0 p43).f1.f2)), .lit (.int .i64 1)]) ?_
    refine kv g0 (mv) ?_
    refine kv g0 (mv) ?_
    refine kv g0 (mv) ?_
    obtain ⟨c50, H⟩ := of_if H
    refine kv g0 (ixR 3 c46 (ltE c50)) ?_
    refine kv g0 (ldE (eI .i64 (rd t4.1 p43)) (.lit (.int .i64 (rd t4.1 p43))) (getE (z := (0 : Int)) c46 c50)) ?_
    obtain ⟨c51, H⟩ := of_if H
    obtain ⟨c52, H⟩ := of_if H
    refine kv g0 (ixR 3 c51 (ltE c52)) ?_
    refine kv g0 (ldE (eI .i64 (rd t6 (rd t4.1 p43))) (.lit (.int .i64 (rd t6 (rd t4.1 p43)))) (getE (z := (0 : Int)) c51 c52)) ?_
    refine kv g0 (mv) ?_
    refine kv g0 (mv) ?_
    obtain ⟨c53, H⟩ := of_if H
    refine kv g0 (ixR 3 c46 (ltE c53)) ?_
    refine kv g0 (ldE (eI .i64 (rd t6 p43)) (.lit (.int .i64 (rd t6 p43))) (getE (z := (0 : Int)) c46 c53)) ?_
    refine kv g0 (sub6) ?_
    refine kv g0 (sub6) ?_
    refine kv g0 (bld [(0, 1), (1, 1), (2, 1), (3, 1)] [.int .i64 0, .int .i64 0, .int .i64 0, .int .i64 0] [.lit (.int .i64 7), .lit (.int .i64 (wrap64 ((wrap64 ((rd t6 (rd t4.1 p43)) - (rd t6 p43))) - 2))), .lit (.int .i64 0), .lit (.int .i64 0)]) ?_
    refine kv g0 (mv) ?_
    refine kv g0 (mv) ?_
    refine kv g0 (mv) ?_
    obtain ⟨c54, H⟩ := of_if H
    refine kv g0 (ixR 3 c46 (ltE c54)) ?_
    refine kv g0 (ldE (eI .i64 (rd t4.2 p43)) (.lit (.int .i64 (rd t4.2 p43))) (getE (z := (0 : Int)) c46 c54)) ?_
    obtain ⟨c55, H⟩ := of_if H
    obtain ⟨c56, H⟩ := of_if H
    refine kv g0 (ixR 3 c55 (ltE c56)) ?_
    refine kv g0 (ldE (eI .i64 (rd t6 (rd t4.2 p43))) (.lit (.int .i64 (rd t6 (rd t4.2 p43)))) (getE (z := (0 : Int)) c55 c56)) ?_
    refine kv g0 (mv) ?_
    refine kv g0 (mv) ?_
    refine kv g0 (ixR 3 c46 (ltE c53)) ?_
    refine kv g0 (ldE (eI .i64 (rd t6 p43)) (.lit (.int .i64 (rd t6 p43))) (getE (z := (0 : Int)) c46 c53)) ?_
    refine kv g0 (sub6) ?_
    refine kv g0 (sub6) ?_
    refine kv g0 (bld [(0, 1), (1, 1), (2, 1), (3, 1)] [.int .i64 0, .int .i64 0, .int .i64 0, .int .i64 0] [.lit (.int .i64 7), .lit (.int .i64 (wrap64 ((wrap64 ((rd t6 (rd t4.2 p43)) - (rd t6 p43))) - 3))), .lit (.int .i64 0), .lit (.int .i64 0)]) ?_
    refine kb g0 (bsl 7 41 4 [.int .i64 0, .int .i64 0, .int .i64 0, .int .i64 0] (([(⟨(rd_T94 l0 p43).f1.f0, (rd_T94 l0 p43).f1.f1, (rd_T94 l0 p43).f1.f2, 1⟩ : S41), (⟨7, wrap64 ((wrap64 ((rd t6 (rd t4.1 p43)) - (rd t6 p43))) - 2), 0, 0⟩ : S41), (⟨7, wrap64 ((wrap64 ((rd t6 (rd t4.2 p43)) - (rd t6 p43))) - 3), 0, 0⟩ : S41)] : List S41).map e41)) ?_
    obtain ⟨c57, H⟩ := of_if H
    refine kc g0 (apR 8 41 4 32 [.int .i64 0, .int .i64 0, .int .i64 0, .int .i64 0] ((q42 ++ ([(⟨(rd_T94 l0 p43).f1.f0, (rd_T94 l0 p43).f1.f1, (rd_T94 l0 p43).f1.f2, 1⟩ : S41), (⟨7, wrap64 ((wrap64 ((rd t6 (rd t4.1 p43)) - (rd t6 p43))) - 2), 0, 0⟩ : S41), (⟨7, wrap64 ((wrap64 ((rd t6 (rd t4.2 p43)) - (rd t6 p43))) - 3), 0, 0⟩ : S41)] : List S41)).map e41) (.row rfl) (apb c57 rfl) appE) ?_
    refine kv g0 (asg) ?_
    refine wk_end_draw hM (by kernel_rfl) ?_
    refine ac_next ?_
    refine aw_exit ?_
    refine ac_miss rfl ?_
    refine ac_then ?_
    refine ac_hit rfl ?_
    refine ac_next ?_
    refine wk_start ?_
    refine kv g0 (mv) ?_
    refine kv g0 (add6) ?_
    refine kv g0 (asg) ?_
    refine wk_end ?_
    refine ac_k ?_
    exact acw hE [(0, 0), (1, 1), (2, 2), (3, 3), (4, 4), (5, 8)] 9999 (hK80 k44 (q42 ++ ([(⟨(rd_T94 l0 p43).f1.f0, (rd_T94 l0 p43).f1.f1, (rd_T94 l0 p43).f1.f2, 1⟩ : S41), (⟨7, wrap64 ((wrap64 ((rd t6 (rd t4.1 p43)) - (rd t6 p43))) - 2), 0, 0⟩ : S41), (⟨7, wrap64 ((wrap64 ((rd t6 (rd t4.2 p43)) - (rd t6 p43))) - 3), 0, 0⟩ : S41)] : List S41)) (wrap64 (p43 + 1)) (Nat.le_refl _) ⟨by omega, H⟩)
   rw [if_neg c49] at H
   refine aw_ifF ?_ (eF c49)
   refine aw_grp1 ?_
   refine wk_start ?_
   refine kv g0 (faB 0 0) ?_
   refine kv g0 (ldB) ?_
   refine kv g0 (eql) ?_
   refine kv g0 (asg) ?_
   refine wk_end ?_
   refine ac_next ?_
   by_cases c58 : ((rd_T94 l0 p43).f1.f0) = 7
   ·rw [if_pos c58] at H
    refine aw_ifT ?_ (eT c58)
    refine wk_start ?_
    refine kv g0 (mv) ?_
    refine kv g0 (mv) ?_
    refine kv g0 (mv) ?_
    obtain ⟨c59, H⟩ := of_if H
    refine kv g0 (ixR 3 c46 (ltE c59)) ?_
    refine kv g0 (ldE (eI .i64 (rd t4.1 p43)) (.lit (.int .i64 (rd t4.1 p43))) (getE (z := (0 : Int)) c46 c59)) ?_
    obtain ⟨c60, H⟩ := of_if H
    obtain ⟨c61, H⟩ := of_if H
    refine kv g0 (ixR 3 c60 (ltE c61)) ?_
    refine kv g0 (ldE (eI .i64 (rd t6 (rd t4.1 p43))) (.lit (.int .i64 (rd t6 (rd t4.1 p43)))) (getE (z := (0 : Int)) c60 c61)) ?_
    refine kv g0 (mv) ?_
    refine kv g0 (mv) ?_
    obtain ⟨c62, H⟩ := of_if H
    refine kv g0 (ixR 3 c46 (ltE c62)) ?_
    refine kv g0 (ldE (eI .i64 (rd t6 p43)) (.lit (.int .i64 (rd t6 p43))) (getE (z := (0 : Int)) c46 c62)) ?_
    refine kv g0 (sub6) ?_
    refine kv g0 (sub6) ?_
    refine kv g0 (faB 1 1) ?_
    refine ks g0 (stB 1 [.lit (.int .i64 ((rd_T94 l0 p43).f1.f0)), .lit (.int .i64 (wrap64 ((wrap64 ((rd t6 (rd t4.1 p43)) - (rd t6 p43))) - 1))), .lit (.int .i64 ((rd_T94 l0 p43).f1.f2)), .lit (.int .i64 ((rd_T94 l0 p43).f1.f3))]) ?_
    refine wk_end_draw hM (by kernel_rfl) ?_
    refine ac_blkN ?_
    refine ac_k ?_
    exact acw hE [(0, 0), (1, 1), (2, 2), (3, 3), (4, 4), (5, 5), (6, 6)] 9999 (hJ78 k44 (wrap64 ((wrap64 ((rd t6 (rd t4.1 p43)) - (rd t6 p43))) - 1)) ((rd_T94 l0 p43).f1.f2) ((rd_T94 l0 p43).f1.f3) (Nat.le_refl _) H)
   rw [if_neg c58] at H
   refine aw_ifF ?_ (eF c58)
   refine aw_grp1 ?_
   refine wk_start ?_
   refine kv g0 (faB 0 0) ?_
   refine kv g0 (ldB) ?_
   obtain ⟨t63, A64, H⟩ := of_bind H
   refine kcS0 104 (.lit (.bool t63)) [] g0 (cal (spec_l06Ask.ok A64) [] 9999 .n (hf := Tryz.func46)) rfl rfl ?_
   refine kv g0 (asg) ?_
   refine wk_end ?_
   refine ac_next ?_
   by_cases c65 : t63 = true
   ·rw [if_pos c65] at H
    refine aw_ifT ?_ c65
    refine aw_grp1 ?_
    refine wk_start ?_
    refine kv g0 (mv) ?_
    refine kv g0 (mv) ?_
    refine kv g0 (mv) ?_
    obtain ⟨c66, H⟩ := of_if H
    refine kv g0 (ixR 3 c46 (ltE c66)) ?_
    refine kv g0 (ldE (eI .i64 (rd t4.1 p43)) (.lit (.int .i64 (rd t4.1 p43))) (getE (z := (0 : Int)) c46 c66)) ?_
    obtain ⟨c67, H⟩ := of_if H
    obtain ⟨c68, H⟩ := of_if H
    refine kv g0 (ixR 3 c67 (ltE c68)) ?_
    refine kv g0 (ldE (eI .i64 (rd t6 (rd t4.1 p43))) (.lit (.int .i64 (rd t6 (rd t4.1 p43)))) (getE (z := (0 : Int)) c67 c68)) ?_
    refine kv g0 (mv) ?_
    refine kv g0 (mv) ?_
    obtain ⟨c69, H⟩ := of_if H
    refine kv g0 (ixR 3 c46 (ltE c69)) ?_
    refine kv g0 (ldE (eI .i64 (rd t6 p43)) (.lit (.int .i64 (rd t6 p43))) (getE (z := (0 : Int)) c46 c69)) ?_
    refine kv g0 (sub6) ?_
    refine kv g0 (sub6) ?_
    refine kv g0 (faB 2 2) ?_
    refine ks g0 (stB 1 [.lit (.int .i64 ((rd_T94 l0 p43).f1.f0)), .lit (.int .i64 ((rd_T94 l0 p43).f1.f1)), .lit (.int .i64 (wrap64 ((wrap64 ((rd t6 (rd t4.1 p43)) - (rd t6 p43))) - 1))), .lit (.int .i64 ((rd_T94 l0 p43).f1.f3))]) ?_
    refine wk_end_draw hM (by kernel_rfl) ?_
    refine ac_next ?_
    refine wk_start ?_
    refine kv g0 (mv) ?_
    refine kv g0 (mv) ?_
    refine kv g0 (mv) ?_
    obtain ⟨c70, H⟩ := of_if H
    refine kv g0 (ixR 3 c46 (ltE c70)) ?_
    refine kv g0 (ldE (eI .i64 (rd t4.2 p43)) (.lit (.int .i64 (rd t4.2 p43))) (getE (z := (0 : Int)) c46 c70)) ?_
    obtain ⟨c71, H⟩ := of_if H
    obtain ⟨c72, H⟩ := of_if H
    refine kv g0 (ixR 3 c71 (ltE c72)) ?_
    refine kv g0 (ldE (eI .i64 (rd t6 (rd t4.2 p43))) (.lit (.int .i64 (rd t6 (rd t4.2 p43)))) (getE (z := (0 : Int)) c71 c72)) ?_
    refine kv g0 (mv) ?_
    refine kv g0 (mv) ?_
    refine kv g0 (ixR 3 c46 (ltE c69)) ?_
    refine kv g0 (ldE (eI .i64 (rd t6 p43)) (.lit (.int .i64 (rd t6 p43))) (getE (z := (0 : Int)) c46 c69)) ?_
    refine kv g0 (sub6) ?_
    refine kv g0 (sub6) ?_
    refine kv g0 (faB 3 3) ?_
    refine ks g0 (stB 1 [.lit (.int .i64 ((rd_T94 l0 p43).f1.f0)), .lit (.int .i64 ((rd_T94 l0 p43).f1.f1)), .lit (.int .i64 (wrap64 ((wrap64 ((rd t6 (rd t4.1 p43)) - (rd t6 p43))) - 1))), .lit (.int .i64 (wrap64 ((wrap64 ((rd t6 (rd t4.2 p43)) - (rd t6 p43))) - 1)))]) ?_
    refine wk_end_draw hM (by kernel_rfl) ?_
    refine ac_blkN ?_
    refine ac_k ?_
    exact acw hE [(0, 0), (1, 1), (2, 2), (3, 3), (4, 4), (5, 5), (6, 6)] 9999 (hJ78 k44 ((rd_T94 l0 p43).f1.f1) (wrap64 ((wrap64 ((rd t6 (rd t4.1 p43)) - (rd t6 p43))) - 1)) (wrap64 ((wrap64 ((rd t6 (rd t4.2 p43)) - (rd t6 p43))) - 1)) (Nat.le_refl _) H)
   rw [if_neg c65] at H
   refine aw_ifF ?_ (bF c65)
   refine aw_skip ?_
   refine ac_blkN ?_
   refine ac_k ?_
   exact acw hE [(0, 0), (1, 1), (2, 2), (3, 3), (4, 4), (5, 5), (6, 6)] 9999 (hJ78 k44 ((rd_T94 l0 p43).f1.f1) ((rd_T94 l0 p43).f1.f2) ((rd_T94 l0 p43).f1.f3) (Nat.le_refl _) H)
  intro k_ p73 p74 p75 hk_ H
  rcases k_ with _ | k76
  ·rw [spec_Layout.j0.eq_1] at H; cases H
  have hk76 : k76 ≤ k44 := by omega
  clear hk_
  rw [spec_Layout.j0.eq_2] at H
  refine wk_start ?_
  refine kv g0 (mv) ?_
  refine kv g0 (ldBA 4 [.lit (.int .i64 ((rd_T94 l0 p43).f1.f0)), .lit (.int .i64 p73), .lit (.int .i64 p74), .lit (.int .i64 p75)]) ?_
  refine kb g0 (bsl 9 41 4 [.int .i64 0, .int .i64 0, .int .i64 0, .int .i64 0] (([(⟨(rd_T94 l0 p43).f1.f0, p73, p74, p75⟩ : S41)] : List S41).map e41)) ?_
  obtain ⟨c77, H⟩ := of_if H
  refine kc g0 (apR 10 41 4 32 [.int .i64 0, .int .i64 0, .int .i64 0, .int .i64 0] ((q42 ++ ([(⟨(rd_T94 l0 p43).f1.f0, p73, p74, p75⟩ : S41)] : List S41)).map e41) (.row rfl) (apb c77 rfl) appE) ?_
  refine kv g0 (asg) ?_
  refine wk_end ?_
  refine ac_blkN ?_
  refine ac_next ?_
  refine wk_start ?_
  refine kv g0 (mv) ?_
  refine kv g0 (add6) ?_
  refine kv g0 (asg) ?_
  refine wk_end ?_
  refine ac_k ?_
  exact acw hE [(0, 0), (1, 1), (2, 2), (3, 3), (4, 4), (5, 10)] 9999 (hK80 k76 (q42 ++ ([(⟨(rd_T94 l0 p43).f1.f0, p73, p74, p75⟩ : S41)] : List S41)) (wrap64 (p43 + 1)) (by omega) ⟨by omega, H⟩)
 rw [if_neg c45] at H
 refine aw_ifF ?_ (decide_eq_false c45)
 refine aw_exit ?_
 refine ac_then ?_
 refine ac_then ?_
 refine ac_hit rfl ?_
 refine ac_next ?_
 refine aw_grp1 ?_
 refine aw_grp1 ?_
 refine wk_start ?_
 refine kv g0 (mv) ?_
 refine kv g0 (lnR lenE) ?_
 refine kv g0 (gtr) ?_
 refine wk_end ?_
 refine ac_next ?_
 by_cases c81 : (q42.length : Int) > 400
 ·rw [if_pos c81] at H
  refine aw_ifT ?_ (decide_eq_true c81)
  refine aw_grp1 ?_
  refine wk_start ?_
  refine kv g0 (mv) ?_
  refine kv g0 (asg) ?_
  refine kv g0 (asg) ?_
  refine wk_end ?_
  refine ac_next ?_
  refine aw_ret ?_
  refine ac_thenR ?_
  obtain rfl := Option.some.inj H
  exact acr hE [.tmp 2, .tmp 3] (.tmp (.tmp .nil)) (.many _ _ _) [(0, 0)] 9999
 rw [if_neg c81] at H
 refine aw_ifF ?_ (decide_eq_false c81)
 refine aw_skip ?_
 refine ac_next ?_
 refine aw_grp1 ?_
 refine wk_start ?_
 refine kv g0 (mv) ?_
 refine kv g0 (asg) ?_
 refine kv g0 (asg) ?_
 refine wk_end ?_
 refine ac_next ?_
 refine aw_ret ?_
 obtain rfl := Option.some.inj H
 exact acr hE [.tmp 2, .tmp 3] (.tmp (.tmp .nil)) (.many _ _ _) [(0, 5)] 9999
/-! spec_Compile -/
def spec_Compile.f (k : Nat) (a0_0 : Int) (a0_1 : Int) (a0_2 : Int) (l0_3 : List S77) : Option ((List S41) × Int) := (spec_PolicyOk.f k a0_0 a0_1 a0_2 l0_3).bind fun t1 => if t1 = true then (spec_PolicyLines.f k a0_0 a0_1 a0_2 l0_3).bind fun t4 => if (t4.length : Int) > 600 then some (([] : List S41), 2) else (spec_Layout.f k t4).bind fun t7 => if t7.2 = true then some (t7.1, 0) else some (([] : List S41), 2) else some (([] : List S41), 1)
theorem spec_Compile.ok {k : Nat} {a0_0 : Int} {a0_1 : Int} {a0_2 : Int} {l0_3 : List S77} {r : (List S41) × Int} (H : spec_Compile.f k a0_0 a0_1 a0_2 l0_3 = some r) : ACalls Tryz.prog 55 [] [.agg [.lit (.int .i64 a0_0), .lit (.int .i64 a0_1), .lit (.int .i64 a0_2), .sl .o 4 (l0_3.map e77)]] [(0, .row 41 4 (r.1.map e41))] (.tup [.row 0, .lit (.int .i64 r.2)]) := by
 refine acalls (fn := Tryz.f55) (nt := 26) Tryz.func55 rfl rfl (Nat.le_of_ble_eq_true rfl) fun E hE => ?_
 rw [spec_Compile.f] at H
 refine aw_grp1 ?_
 refine wk_start ?_
 refine kb g0 (bxA 0) ?_
 refine kv g0 (asg) ?_
 refine kv g0 (asg) ?_
 refine wk_end ?_
 refine ac_next ?_
 refine aw_grp1 ?_
 refine aw_grp1 ?_
 refine wk_start ?_
 refine kv g0 (ldBA 4 [.lit (.int .i64 a0_0), .lit (.int .i64 a0_1), .lit (.int .i64 a0_2), .sl .o 4 (l0_3.map e77)]) ?_
 obtain ⟨t1, A2, H⟩ := of_bind H
 refine kcS0 8 (.lit (.bool t1)) [] g0 (cal (spec_PolicyOk.ok A2) [] 9999 .n (hf := Tryz.func62)) rfl rfl ?_
 refine kv g0 (not_) ?_
 refine wk_end ?_
 refine ac_next ?_
 by_cases c3 : t1 = true
 ·rw [if_pos c3] at H
  refine aw_ifF ?_ (nF c3)
  refine aw_skip ?_
  refine ac_next ?_
  refine aw_grp1 ?_
  refine wk_start ?_
  refine kv g0 (ldBA 4 [.lit (.int .i64 a0_0), .lit (.int .i64 a0_1), .lit (.int .i64 a0_2), .sl .o 4 (l0_3.map e77)]) ?_
  obtain ⟨t4, A5, H⟩ := of_bind H
  refine kcS1 12 (.row 2) [(2, .row 94 7 (t4.map e94))] g0 (cal (spec_PolicyLines.ok A5) [2] 9999 .n (hf := Tryz.func63)) rfl rfl ?_
  refine kv g0 (asg) ?_
  refine wk_end ?_
  refine ac_next ?_
  refine aw_grp1 ?_
  refine aw_grp1 ?_
  refine wk_start ?_
  refine kv g0 (mv) ?_
  refine kv g0 (lnR lenE) ?_
  refine kv g0 (gtr) ?_
  refine wk_end ?_
  refine ac_next ?_
  by_cases c6 : (t4.length : Int) > 600
  ·rw [if_pos c6] at H
   refine aw_ifT ?_ (decide_eq_true c6)
   refine aw_grp1 ?_
   refine wk_start ?_
   refine kb g0 (bsl 3 41 4 [.int .i64 0, .int .i64 0, .int .i64 0, .int .i64 0] (([] : List S41).map e41)) ?_
   refine kv g0 (asg) ?_
   refine kv g0 (asg) ?_
   refine wk_end ?_
   refine ac_next ?_
   refine aw_ret ?_
   refine ac_thenR ?_
   obtain rfl := Option.some.inj H
   exact acr hE [.tmp 2, .tmp 3] (.tmp (.tmp .nil)) (.many _ _ _) [(0, 3)] 9999
  rw [if_neg c6] at H
  refine aw_ifF ?_ (decide_eq_false c6)
  refine aw_skip ?_
  refine ac_next ?_
  refine aw_grp1 ?_
  refine wk_start ?_
  refine kv g0 (mv) ?_
  obtain ⟨t7, A8, H⟩ := of_bind H
  refine kcS1 19 (.tup [.row 4, .lit (.bool t7.2)]) [(4, .row 41 4 (t7.1.map e41))] g0 (cal (spec_Layout.ok A8) [4] 9999 .n (hf := Tryz.func64)) rfl rfl ?_
  refine kv g0 (mv) ?_
  refine kv g0 (ext) ?_
  refine kv g0 (ext) ?_
  refine kv g0 (asg) ?_
  refine kv g0 (asg) ?_
  refine wk_end ?_
  refine ac_next ?_
  refine aw_grp1 ?_
  refine aw_grp1 ?_
  refine wk_start ?_
  refine kv g0 (mv) ?_
  refine kv g0 (not_) ?_
  refine wk_end ?_
  refine ac_next ?_
  by_cases c9 : t7.2 = true
  ·rw [if_pos c9] at H
   refine aw_ifF ?_ (nF c9)
   refine aw_skip ?_
   refine ac_next ?_
   refine aw_grp1 ?_
   refine wk_start ?_
   refine kv g0 (mv) ?_
   refine kv g0 (asg) ?_
   refine kv g0 (asg) ?_
   refine wk_end ?_
   refine ac_next ?_
   refine aw_ret ?_
   obtain rfl := Option.some.inj H
   exact acr hE [.tmp 2, .tmp 3] (.tmp (.tmp .nil)) (.many _ _ _) [(0, 4)] 9999
  rw [if_neg c9] at H
  refine aw_ifT ?_ (nT (bF c9))
  refine aw_grp1 ?_
  refine wk_start ?_
  refine kb g0 (bsl 5 41 4 [.int .i64 0, .int .i64 0, .int .i64 0, .int .i64 0] (([] : List S41).map e41)) ?_
  refine kv g0 (asg) ?_
  refine kv g0 (asg) ?_
  refine wk_end ?_
  refine ac_next ?_
  refine aw_ret ?_
  refine ac_thenR ?_
  obtain rfl := Option.some.inj H
  exact acr hE [.tmp 2, .tmp 3] (.tmp (.tmp .nil)) (.many _ _ _) [(0, 5)] 9999
 rw [if_neg c3] at H
 refine aw_ifT ?_ (nT (bF c3))
 refine aw_grp1 ?_
 refine wk_start ?_
 refine kb g0 (bsl 1 41 4 [.int .i64 0, .int .i64 0, .int .i64 0, .int .i64 0] (([] : List S41).map e41)) ?_
 refine kv g0 (asg) ?_
 refine kv g0 (asg) ?_
 refine wk_end ?_
 refine ac_next ?_
 refine aw_ret ?_
 refine ac_thenR ?_
 obtain rfl := Option.some.inj H
 exact acr hE [.tmp 2, .tmp 3] (.tmp (.tmp .nil)) (.many _ _ _) [(0, 1)] 9999
/-! spec_l14Program -/
def spec_l14Program.f (k : Nat) (l0_0 : List Int) (a0_1 : Int) (a0_2 : Int) : Option ((List S41) × (List Int) × Int × Int) := (spec_l01Once.f l0_0 a0_1 a0_2 3).bind fun t1 => if t1.1 = true then ((spec_l06Any.f k t1.2.1 t1.2.2.1 t1.2.2.2).bind fun t4 => some (t4.1, t4.2.1, t4.2.2.1, t4.2.2.2)) else (spec_l09Policy.f k t1.2.1 t1.2.2.1 t1.2.2.2).bind fun t6 => ((spec_Compile.f k t6.1 t6.2.1 t6.2.2.1 t6.2.2.2.1).bind fun t8 => some (t8.1, t6.2.2.2.2.1, t6.2.2.2.2.2.1, t6.2.2.2.2.2.2))
theorem spec_l14Program.ok {k : Nat} {l0_0 : List Int} {a0_1 : Int} {a0_2 : Int} {r : (List S41) × (List Int) × Int × Int} (H : spec_l14Program.f k l0_0 a0_1 a0_2 = some r) : ACalls Tryz.prog 40 [(0, .box 45 [.sl .u 1 (l0_0.map (eI .u8)), .lit (.int .i64 a0_1), .lit (.int .i64 a0_2)])] [.box 0 0] [(0, .box 45 [.sl .u 1 (r.2.1.map (eI .u8)), .lit (.int .i64 r.2.2.1), .lit (.int .i64 r.2.2.2)]), (1, .row 41 4 (r.1.map e41))] (.row 1) := by
 refine acalls (fn := Tryz.f40) (nt := 16) Tryz.func40 rfl rfl (Nat.le_of_ble_eq_true rfl) fun E hE => ?_
 rw [spec_l14Program.f] at H
 refine aw_grp1 ?_
 refine wk_start ?_
 refine kv g0 (asg) ?_
 refine wk_end ?_
 refine ac_next ?_
 refine aw_grp1 ?_
 refine aw_grp1 ?_
 refine wk_start ?_
 refine kv g0 (mv) ?_
 obtain ⟨t1, A2, H⟩ := of_bind H
 refine kcS1 6 (.lit (.bool t1.1)) [(0, .box 45 [.sl .u 1 (t1.2.1.map (eI .u8)), .lit (.int .i64 t1.2.2.1), .lit (.int .i64 t1.2.2.2)])] g0 (cal (spec_l01Once.ok A2) [0] 9999 .u (hf := Tryz.func39)) rfl rfl ?_
 refine wk_end ?_
 refine ac_next ?_
 by_cases c3 : t1.1 = true
 ·rw [if_pos c3] at H
  refine aw_ifT ?_ c3
  refine aw_grp1 ?_
  refine wk_start ?_
  refine kv g0 (mv) ?_
  obtain ⟨t4, A5, H⟩ := of_bind H
  refine kcS2 8 (.row 1) [(0, .box 45 [.sl .u 1 (t4.2.1.map (eI .u8)), .lit (.int .i64 t4.2.2.1), .lit (.int .i64 t4.2.2.2)]), (1, .row 41 4 (t4.1.map e41))] g0 (cal (spec_l06Any.ok A5) [0, 1] 9999 .u (hf := Tryz.func22)) rfl rfl ?_
  refine kv g0 (asg) ?_
  refine wk_end ?_
  refine ac_next ?_
  refine aw_ret ?_
  refine ac_thenR ?_
  obtain rfl := Option.some.inj H
  exact acr hE [.tmp 2] (.tmp .nil) (.one _) [(0, 0), (1, 1)] 9999
 rw [if_neg c3] at H
 refine aw_ifF ?_ (bF c3)
 refine aw_skip ?_
 refine ac_next ?_
 refine aw_grp1 ?_
 refine wk_start ?_
 refine kv g0 (mv) ?_
 obtain ⟨t6, A7, H⟩ := of_bind H
 refine kcS2 11 (.agg [.lit (.int .i64 t6.1), .lit (.int .i64 t6.2.1), .lit (.int .i64 t6.2.2.1), .row 2]) [(0, .box 45 [.sl .u 1 (t6.2.2.2.2.1.map (eI .u8)), .lit (.int .i64 t6.2.2.2.2.2.1), .lit (.int .i64 t6.2.2.2.2.2.2)]), (2, .row 77 4 (t6.2.2.2.1.map e77))] g0 (cal (spec_l09Policy.ok A7) [0, 2] 9999 .u (hf := Tryz.func56)) rfl rfl ?_
 obtain ⟨t8, A9, H⟩ := of_bind H
 refine kcS1 12 (.tup [.row 3, .lit (.int .i64 t8.2)]) [(3, .row 41 4 (t8.1.map e41))] g0 (cal (spec_Compile.ok A9) [3] 9999 .n (hf := Tryz.func55)) rfl rfl ?_
 refine kv g0 (mv) ?_
 refine kv g0 (ext) ?_
 refine kv g0 (ext) ?_
 refine kv g0 (asg) ?_
 refine kv g0 (asg) ?_
 refine wk_end ?_
 refine ac_next ?_
 refine aw_grp1 ?_
 refine wk_start ?_
 refine kv g0 (mv) ?_
 refine kv g0 (asg) ?_
 refine wk_end ?_
 refine ac_next ?_
 refine aw_ret ?_
 obtain rfl := Option.some.inj H
 exact acr hE [.tmp 2] (.tmp .nil) (.one _) [(0, 0), (1, 3)] 9999
/-! spec_l23Draw -/
def spec_l23Draw.f (k : Nat) (l0 : List Int) : Option ((List S41)) := (spec_l01New.f k l0).bind fun t1 => (spec_l01Once.f t1.1 t1.2.1 t1.2.2 3).bind fun t3 => if t3.1 = true then ((spec_l14Program.f k t3.2.1 t3.2.2.1 t3.2.2.2).bind fun t6 => some t6.1) else (spec_l06Any.f k t3.2.1 t3.2.2.1 t3.2.2.2).bind fun t8 => some t8.1
theorem spec_l23Draw.ok {k : Nat} {l0 : List Int} {r : (List S41)} (H : spec_l23Draw.f k l0 = some r) : ACalls Tryz.prog 23 [] [.sl .o 1 (l0.map (eI .u8))] [(0, .row 41 4 (r.map e41))] (.row 0) := by
 refine acalls (fn := Tryz.f23) (nt := 12) Tryz.func23 rfl rfl (Nat.le_of_ble_eq_true rfl) fun E hE => ?_
 rw [spec_l23Draw.f] at H
 refine aw_grp1 ?_
 refine wk_start ?_
 refine kv g0 (asg) ?_
 refine wk_end ?_
 refine ac_next ?_
 refine aw_grp1 ?_
 refine wk_start ?_
 refine kv g0 (mv) ?_
 obtain ⟨t1, A2, H⟩ := of_bind H
 refine kcS1 5 (.box 0 0) [(0, .box 45 [.sl .o 1 (t1.1.map (eI .u8)), .lit (.int .i64 t1.2.1), .lit (.int .i64 t1.2.2)])] g0 (cal (spec_l01New.ok A2) [0] 9999 .o (hf := Tryz.func20)) rfl rfl ?_
 refine kv g0 (asg) ?_
 refine wk_end ?_
 refine ac_next ?_
 refine aw_grp1 ?_
 refine aw_grp1 ?_
 refine wk_start ?_
 refine kv g0 (mv) ?_
 obtain ⟨t3, A4, H⟩ := of_bind H
 refine kcS1 7 (.lit (.bool t3.1)) [(0, .box 45 [.sl .o 1 (t3.2.1.map (eI .u8)), .lit (.int .i64 t3.2.2.1), .lit (.int .i64 t3.2.2.2)])] g0 (cal (spec_l01Once.ok A4) [0] 9999 .o (hf := Tryz.func39)) rfl rfl ?_
 refine wk_end ?_
 refine ac_next ?_
 by_cases c5 : t3.1 = true
 ·rw [if_pos c5] at H
  refine aw_ifT ?_ c5
  refine aw_grp1 ?_
  refine wk_start ?_
  refine kv g0 (mv) ?_
  obtain ⟨t6, A7, H⟩ := of_bind H
  refine kcS2 9 (.row 1) [(0, .box 45 [.sl .o 1 (t6.2.1.map (eI .u8)), .lit (.int .i64 t6.2.2.1), .lit (.int .i64 t6.2.2.2)]), (1, .row 41 4 (t6.1.map e41))] g0 (cal (spec_l14Program.ok A7) [0, 1] 9999 .o (hf := Tryz.func40)) rfl rfl ?_
  refine kv g0 (asg) ?_
  refine wk_end ?_
  refine ac_next ?_
  refine aw_ret ?_
  refine ac_thenR ?_
  obtain rfl := Option.some.inj H
  exact acr hE [.tmp 2] (.tmp .nil) (.one _) [(0, 1)] 9999
 rw [if_neg c5] at H
 refine aw_ifF ?_ (bF c5)
 refine aw_skip ?_
 refine ac_next ?_
 refine aw_grp1 ?_
 refine wk_start ?_
 refine kv g0 (mv) ?_
 obtain ⟨t8, A9, H⟩ := of_bind H
 refine kcS2 11 (.row 2) [(0, .box 45 [.sl .o 1 (t8.2.1.map (eI .u8)), .lit (.int .i64 t8.2.2.1), .lit (.int .i64 t8.2.2.2)]), (2, .row 41 4 (t8.1.map e41))] g0 (cal (spec_l06Any.ok A9) [0, 2] 9999 .o (hf := Tryz.func22)) rfl rfl ?_
 refine kv g0 (asg) ?_
 refine wk_end ?_
 refine ac_next ?_
 refine aw_ret ?_
 obtain rfl := Option.some.inj H
 exact acr hE [.tmp 2] (.tmp .nil) (.one _) [(0, 2)] 9999
/-! spec_DrawWaysIn -/
def spec_DrawWaysIn.f (k : Nat) (l0 : List Int) : Option ((List S41)) := (spec_l23Draw.f k l0).bind fun t1 => some t1
theorem spec_DrawWaysIn.ok {k : Nat} {l0 : List Int} {r : (List S41)} (H : spec_DrawWaysIn.f k l0 = some r) : ACalls Tryz.prog 6 [] [.sl .o 1 (l0.map (eI .u8))] [(0, .row 41 4 (r.map e41))] (.row 0) := by
 refine acalls (fn := Tryz.f6) (nt := 5) Tryz.func6 rfl rfl (Nat.le_of_ble_eq_true rfl) fun E hE => ?_
 rw [spec_DrawWaysIn.f] at H
 refine aw_grp1 ?_
 refine wk_start ?_
 refine kv g0 (asg) ?_
 refine wk_end ?_
 refine ac_next ?_
 refine aw_grp1 ?_
 refine wk_start ?_
 refine kv g0 (mv) ?_
 obtain ⟨t1, A2, H⟩ := of_bind H
 refine kcS1 4 (.row 0) [(0, .row 41 4 (t1.map e41))] g0 (cal (spec_l23Draw.ok A2) [0] 9999 .n (hf := Tryz.func23)) rfl rfl ?_
 refine kv g0 (asg) ?_
 refine wk_end ?_
 refine ac_next ?_
 refine aw_ret ?_
 obtain rfl := Option.some.inj H
 exact acr hE [.tmp 2] (.tmp .nil) (.one _) [(0, 0)] 9999
/-! impl_within -/
def impl_within.f (a0 : Int) (a1 : Int) (a2 : Int) : Option (Bool) := if a0 ≥ a1 then some (decide (a0 ≤ a2)) else some false
theorem impl_within.ok {a0 : Int} {a1 : Int} {a2 : Int} {r : Bool} (H : impl_within.f a0 a1 a2 = some r) : ACalls Tryz.prog 25 [] [.lit (.int .i64 a0), .lit (.int .i64 a1), .lit (.int .i64 a2)] [] (.lit (.bool r)) := by
 refine acalls (fn := Tryz.f25) (nt := 15) Tryz.func25 rfl rfl (Nat.le_of_ble_eq_true rfl) fun E hE => ?_
 rw [impl_within.f] at H
 refine aw_grp1 ?_
 refine wk_start ?_
 refine kv g0 (asg) ?_
 refine wk_end ?_
 refine ac_next ?_
 refine aw_grp1 ?_
 refine wk_start ?_
 refine kv g0 (mv) ?_
 refine kv g0 (mv) ?_
 refine kv g0 (geq) ?_
 refine kv g0 (mv) ?_
 by_cases c1 : a0 ≥ a1
 ·rw [if_pos c1] at H
  refine kv (g1 (decide_eq_true c1)) (mv) ?_
  refine kv (g1 (decide_eq_true c1)) (mv) ?_
  refine kv (g1 (decide_eq_true c1)) (leq) ?_
  refine kv g0 (pkT (decide_eq_true c1)) ?_
  refine kv g0 (asg) ?_
  refine wk_end ?_
  refine ac_next ?_
  refine aw_ret ?_
  obtain rfl := Option.some.inj H
  exact acr hE [.tmp 6] (.tmp .nil) (.one _) [] 9999
 rw [if_neg c1] at H
 refine kx (hT (decide_eq_false c1)) ?_
 refine kx (hT (decide_eq_false c1)) ?_
 refine kx (hT (decide_eq_false c1)) ?_
 refine kv g0 (pkF (decide_eq_false c1)) ?_
 refine kv g0 (asg) ?_
 refine wk_end ?_
 refine ac_next ?_
 refine aw_ret ?_
 obtain rfl := Option.some.inj H
 exact acr hE [.tmp 6] (.tmp .nil) (.one _) [] 9999
/-! impl_Ins_asks -/
def impl_Ins_asks.f (a0_0 : Int) (a0_1 : Int) (a0_2 : Int) (a0_3 : Int) : Option (Bool) := (impl_within.f a0_0 3 6).bind fun t1 => some t1
theorem impl_Ins_asks.ok {a0_0 : Int} {a0_1 : Int} {a0_2 : Int} {a0_3 : Int} {r : Bool} (H : impl_Ins_asks.f a0_0 a0_1 a0_2 a0_3 = some r) : ACalls Tryz.prog 43 [] [.agg [.lit (.int .i64 a0_0), .lit (.int .i64 a0_1), .lit (.int .i64 a0_2), .lit (.int .i64 a0_3)]] [] (.lit (.bool r)) := by
 refine acalls (fn := Tryz.f43) (nt := 6) Tryz.func43 rfl rfl (Nat.le_of_ble_eq_true rfl) fun E hE => ?_
 rw [impl_Ins_asks.f] at H
 refine aw_grp1 ?_
 refine wk_start ?_
 refine kb g0 (bxA 0) ?_
 refine kv g0 (asg) ?_
 refine wk_end ?_
 refine ac_next ?_
 refine aw_grp1 ?_
 refine wk_start ?_
 refine kv g0 (faB 0 0) ?_
 refine kv g0 (ldB) ?_
 obtain ⟨t1, A2, H⟩ := of_bind H
 refine kcS0 5 (.lit (.bool t1)) [] g0 (cal (impl_within.ok A2) [] 9999 .n (hf := Tryz.func25)) rfl rfl ?_
 refine kv g0 (asg) ?_
 refine wk_end ?_
 refine ac_next ?_
 refine aw_ret ?_
 obtain rfl := Option.some.inj H
 exact acr hE [.tmp 2] (.tmp .nil) (.one _) [] 9999
/-! impl_HalfOk -/
def impl_HalfOk.f (a0 : Int) : Option (Bool) := (impl_within.f a0 0 4294967295).bind fun t1 => some t1
theorem impl_HalfOk.ok {a0 : Int} {r : Bool} (H : impl_HalfOk.f a0 = some r) : ACalls Tryz.prog 57 [] [.lit (.int .i64 a0)] [] (.lit (.bool r)) := by
 refine acalls (fn := Tryz.f57) (nt := 5) Tryz.func57 rfl rfl (Nat.le_of_ble_eq_true rfl) fun E hE => ?_
 rw [impl_HalfOk.f] at H
 refine aw_grp1 ?_
 refine wk_start ?_
 refine kv g0 (asg) ?_
 refine wk_end ?_
 refine ac_next ?_
 refine aw_grp1 ?_
 refine wk_start ?_
 refine kv g0 (mv) ?_
 obtain ⟨t1, A2, H⟩ := of_bind H
 refine kcS0 4 (.lit (.bool t1)) [] g0 (cal (impl_within.ok A2) [] 9999 .n (hf := Tryz.func25)) rfl rfl ?_
 refine kv g0 (asg) ?_
 refine wk_end ?_
 refine ac_next ?_
 refine aw_ret ?_
 obtain rfl := Option.some.inj H
 exact acr hE [.tmp 2] (.tmp .nil) (.one _) [] 9999
/-! impl_InsOk -/
def impl_InsOk.f (a0_0 : Int) (a0_1 : Int) (a0_2 : Int) (a0_3 : Int) : Option (Bool) := (impl_Ins_asks.f a0_0 a0_1 a0_2 a0_3).bind fun t1 => if t1 = true then ((impl_HalfOk.f a0_1).bind fun t4 => (if t4 = true then ((impl_within.f a0_2 0 15).bind fun t7 => (if t7 = true then ((impl_within.f a0_3 0 15).bind fun t10 => some t10) else some false)) else some false)) else if a0_2 = 0 then if a0_3 = 0 then if a0_0 = 1 then ((impl_within.f a0_1 0 7).bind fun t15 => some t15) else if a0_0 = 7 then ((impl_within.f a0_1 0 399).bind fun t18 => some t18) else if a0_0 = 2 then (impl_HalfOk.f a0_1).bind fun t21 => some t21 else if a0_0 = 8 then ((impl_HalfOk.f a0_1).bind fun t24 => some t24) else some false else some false else some false
theorem impl_InsOk.ok {a0_0 : Int} {a0_1 : Int} {a0_2 : Int} {a0_3 : Int} {r : Bool} (H : impl_InsOk.f a0_0 a0_1 a0_2 a0_3 = some r) : ACalls Tryz.prog 41 [] [.agg [.lit (.int .i64 a0_0), .lit (.int .i64 a0_1), .lit (.int .i64 a0_2), .lit (.int .i64 a0_3)]] [] (.lit (.bool r)) := by
 refine acalls (fn := Tryz.f41) (nt := 44) Tryz.func41 rfl rfl (Nat.le_of_ble_eq_true rfl) fun E hE => ?_
 rw [impl_InsOk.f] at H
 refine aw_grp1 ?_
 refine wk_start ?_
 refine kb g0 (bxA 0) ?_
 refine kv g0 (asg) ?_
 refine wk_end ?_
 refine ac_next ?_
 refine aw_grp1 ?_
 refine aw_grp1 ?_
 refine wk_start ?_
 refine kv g0 (ldBA 4 [.lit (.int .i64 a0_0), .lit (.int .i64 a0_1), .lit (.int .i64 a0_2), .lit (.int .i64 a0_3)]) ?_
 obtain ⟨t1, A2, H⟩ := of_bind H
 refine kcS0 4 (.lit (.bool t1)) [] g0 (cal (impl_Ins_asks.ok A2) [] 9999 .n (hf := Tryz.func43)) rfl rfl ?_
 refine wk_end ?_
 refine ac_next ?_
 by_cases c3 : t1 = true
 ·rw [if_pos c3] at H
  refine aw_ifT ?_ c3
  refine aw_grp1 ?_
  refine wk_start ?_
  refine kv g0 (faB 1 1) ?_
  refine kv g0 (ldB) ?_
  obtain ⟨t4, A5, H⟩ := of_bind H
  refine kcS0 7 (.lit (.bool t4)) [] g0 (cal (impl_HalfOk.ok A5) [] 9999 .n (hf := Tryz.func57)) rfl rfl ?_
  refine kv g0 (mv) ?_
  by_cases c6 : t4 = true
  ·rw [if_pos c6] at H
   refine kv (g1 c6) (faB 2 2) ?_
   refine kv (g1 c6) (ldB) ?_
   obtain ⟨t7, A8, H⟩ := of_bind H
   refine kcS0 11 (.lit (.bool t7)) [] (g1 c6) (cal (impl_within.ok A8) [] 9999 .n (hf := Tryz.func25)) rfl rfl ?_
   refine kv g0 (pkT c6) ?_
   refine kv g0 (mv) ?_
   by_cases c9 : t7 = true
   ·rw [if_pos c9] at H
    refine kv (g1 c9) (faB 3 3) ?_
    refine kv (g1 c9) (ldB) ?_
    obtain ⟨t10, A11, H⟩ := of_bind H
    refine kcS0 16 (.lit (.bool t10)) [] (g1 c9) (cal (impl_within.ok A11) [] 9999 .n (hf := Tryz.func25)) rfl rfl ?_
    refine kv g0 (pkT c9) ?_
    refine kv g0 (asg) ?_
    refine wk_end ?_
    refine ac_next ?_
    refine aw_ret ?_
    refine ac_thenR ?_
    obtain rfl := Option.some.inj H
    exact acr hE [.tmp 2] (.tmp .nil) (.one _) [] 9999
   rw [if_neg c9] at H
   refine kx (hT (bF c9)) ?_
   refine kx (hT (bF c9)) ?_
   refine kx (hT (bF c9)) ?_
   refine kv g0 (pkF (bF c9)) ?_
   refine kv g0 (asg) ?_
   refine wk_end ?_
   refine ac_next ?_
   refine aw_ret ?_
   refine ac_thenR ?_
   obtain rfl := Option.some.inj H
   exact acr hE [.tmp 2] (.tmp .nil) (.one _) [] 9999
  rw [if_neg c6] at H
  refine kx (hT (bF c6)) ?_
  refine kx (hT (bF c6)) ?_
  refine kx (hT (bF c6)) ?_
  refine kv g0 (pkF (bF c6)) ?_
  refine kv g0 (mv) ?_
  refine kx (hT rfl) ?_
  refine kx (hT rfl) ?_
  refine kx (hT rfl) ?_
  refine kv g0 (pkF rfl) ?_
  refine kv g0 (asg) ?_
  refine wk_end ?_
  refine ac_next ?_
  refine aw_ret ?_
  refine ac_thenR ?_
  obtain rfl := Option.some.inj H
  exact acr hE [.tmp 2] (.tmp .nil) (.one _) [] 9999
 rw [if_neg c3] at H
 refine aw_ifF ?_ (bF c3)
 refine aw_skip ?_
 refine ac_next ?_
 refine aw_grp1 ?_
 refine aw_grp1 ?_
 refine wk_start ?_
 refine kv g0 (faB 2 2) ?_
 refine kv g0 (ldB) ?_
 refine kv g0 (neq) ?_
 refine kv g0 (mv) ?_
 by_cases c12 : a0_2 = 0
 ·rw [if_pos c12] at H
  refine kv (g1 (eM c12)) (faB 3 3) ?_
  refine kv (g1 (eM c12)) (ldB) ?_
  refine kv (g1 (eM c12)) (neq) ?_
  refine kv g0 (pkF (eM c12)) ?_
  refine wk_end ?_
  refine ac_next ?_
  by_cases c13 : a0_3 = 0
  ·rw [if_pos c13] at H
   refine aw_ifF ?_ (eM c13)
   refine aw_skip ?_
   refine ac_next ?_
   refine aw_grp1 ?_
   refine aw_grp1 ?_
   refine wk_start ?_
   refine kv g0 (faB 0 0) ?_
   refine kv g0 (ldB) ?_
   refine wk_end ?_
   refine ac_next ?_
   refine aw_block ?_
   refine aw_grp1 ?_
   refine wk_start ?_
   refine kv g0 (eql) ?_
   refine kv g0 (asg) ?_
   refine wk_end ?_
   refine ac_next ?_
   by_cases c14 : a0_0 = 1
   ·rw [if_pos c14] at H
    refine aw_ifT ?_ (eT c14)
    refine aw_grp1 ?_
    refine wk_start ?_
    refine kv g0 (faB 1 1) ?_
    refine kv g0 (ldB) ?_
    obtain ⟨t15, A16, H⟩ := of_bind H
    refine kcS0 32 (.lit (.bool t15)) [] g0 (cal (impl_within.ok A16) [] 9999 .n (hf := Tryz.func25)) rfl rfl ?_
    refine kv g0 (asg) ?_
    refine wk_end ?_
    refine ac_next ?_
    refine aw_ret ?_
    refine ac_blkR ?_
    refine ac_thenR ?_
    obtain rfl := Option.some.inj H
    exact acr hE [.tmp 2] (.tmp .nil) (.one _) [] 9999
   rw [if_neg c14] at H
   refine aw_ifF ?_ (eF c14)
   refine aw_grp1 ?_
   refine wk_start ?_
   refine kv g0 (eql) ?_
   refine kv g0 (asg) ?_
   refine wk_end ?_
   refine ac_next ?_
   by_cases c17 : a0_0 = 7
   ·rw [if_pos c17] at H
    refine aw_ifT ?_ (eT c17)
    refine aw_grp1 ?_
    refine wk_start ?_
    refine kv g0 (faB 1 1) ?_
    refine kv g0 (ldB) ?_
    obtain ⟨t18, A19, H⟩ := of_bind H
    refine kcS0 37 (.lit (.bool t18)) [] g0 (cal (impl_within.ok A19) [] 9999 .n (hf := Tryz.func25)) rfl rfl ?_
    refine kv g0 (asg) ?_
    refine wk_end ?_
    refine ac_next ?_
    refine aw_ret ?_
    refine ac_blkR ?_
    refine ac_thenR ?_
    obtain rfl := Option.some.inj H
    exact acr hE [.tmp 2] (.tmp .nil) (.one _) [] 9999
   rw [if_neg c17] at H
   refine aw_ifF ?_ (eF c17)
   refine aw_grp1 ?_
   refine aw_grp1 ?_
   refine wk_start ?_
   refine kv g0 (eql) ?_
   refine kv g0 (asg) ?_
   refine wk_end ?_
   refine ac_next ?_
   by_cases c20 : a0_0 = 2
   ·rw [if_pos c20] at H
    refine aw_ifT ?_ (eT c20)
    refine aw_skip ?_
    refine ac_next ?_
    refine aw_ifT ?_ (eT c20)
    refine aw_grp1 ?_
    refine wk_start ?_
    refine kv g0 (faB 1 1) ?_
    refine kv g0 (ldB) ?_
    obtain ⟨t21, A22, H⟩ := of_bind H
    refine kcS0 43 (.lit (.bool t21)) [] g0 (cal (impl_HalfOk.ok A22) [] 9999 .n (hf := Tryz.func57)) rfl rfl ?_
    refine kv g0 (asg) ?_
    refine wk_end ?_
    refine ac_next ?_
    refine aw_ret ?_
    refine ac_blkR ?_
    refine ac_thenR ?_
    obtain rfl := Option.some.inj H
    exact acr hE [.tmp 2] (.tmp .nil) (.one _) [] 9999
   rw [if_neg c20] at H
   refine aw_ifF ?_ (eF c20)
   refine wk_start ?_
   refine kv g0 (eql) ?_
   refine kv g0 (asg) ?_
   refine wk_end ?_
   refine ac_next ?_
   by_cases c23 : a0_0 = 8
   ·rw [if_pos c23] at H
    refine aw_ifT ?_ (eT c23)
    refine aw_grp1 ?_
    refine wk_start ?_
    refine kv g0 (faB 1 1) ?_
    refine kv g0 (ldB) ?_
    obtain ⟨t24, A25, H⟩ := of_bind H
    refine kcS0 43 (.lit (.bool t24)) [] g0 (cal (impl_HalfOk.ok A25) [] 9999 .n (hf := Tryz.func57)) rfl rfl ?_
    refine kv g0 (asg) ?_
    refine wk_end ?_
    refine ac_next ?_
    refine aw_ret ?_
    refine ac_blkR ?_
    refine ac_thenR ?_
    obtain rfl := Option.some.inj H
    exact acr hE [.tmp 2] (.tmp .nil) (.one _) [] 9999
   rw [if_neg c23] at H
   refine aw_ifF ?_ (eF c23)
   refine aw_skip ?_
   refine ac_blkN ?_
   refine ac_next ?_
   refine aw_grp1 ?_
   refine wk_start ?_
   refine kv g0 (asg) ?_
   refine wk_end ?_
   refine ac_next ?_
   refine aw_ret ?_
   obtain rfl := Option.some.inj H
   exact acr hE [.tmp 2] (.tmp .nil) (.one _) [] 9999
  rw [if_neg c13] at H
  refine aw_ifT ?_ (eN c13)
  refine aw_grp1 ?_
  refine wk_start ?_
  refine kv g0 (asg) ?_
  refine wk_end ?_
  refine ac_next ?_
  refine aw_ret ?_
  refine ac_thenR ?_
  obtain rfl := Option.some.inj H
  exact acr hE [.tmp 2] (.tmp .nil) (.one _) [] 9999
 rw [if_neg c12] at H
 refine kx (hF (eN c12)) ?_
 refine kx (hF (eN c12)) ?_
 refine kx (hF (eN c12)) ?_
 refine kv g0 (pkT (eN c12)) ?_
 refine wk_end ?_
 refine ac_next ?_
 refine aw_ifT ?_ rfl
 refine aw_grp1 ?_
 refine wk_start ?_
 refine kv g0 (asg) ?_
 refine wk_end ?_
 refine ac_next ?_
 refine aw_ret ?_
 refine ac_thenR ?_
 obtain rfl := Option.some.inj H
 exact acr hE [.tmp 2] (.tmp .nil) (.one _) [] 9999
/-! impl_farthest -/
def impl_farthest.f (a0_0 : Int) (a0_1 : Int) (a0_2 : Int) (a0_3 : Int) (a1 : Int) : Option (Int) := (impl_Ins_asks.f a0_0 a0_1 a0_2 a0_3).bind fun t1 => if t1 = true then some (wrap64 ((wrap64 (a1 + 1)) + (max a0_2 a0_3))) else if a0_0 = 7 then some (wrap64 ((wrap64 (a1 + 1)) + a0_1)) else some a1
theorem impl_farthest.ok {a0_0 : Int} {a0_1 : Int} {a0_2 : Int} {a0_3 : Int} {a1 : Int} {r : Int} (H : impl_farthest.f a0_0 a0_1 a0_2 a0_3 a1 = some r) : ACalls Tryz.prog 42 [] [.agg [.lit (.int .i64 a0_0), .lit (.int .i64 a0_1), .lit (.int .i64 a0_2), .lit (.int .i64 a0_3)], .lit (.int .i64 a1)] [] (.lit (.int .i64 r)) := by
 refine acalls (fn := Tryz.f42) (nt := 26) Tryz.func42 rfl rfl (Nat.le_of_ble_eq_true rfl) fun E hE => ?_
 rw [impl_farthest.f] at H
 refine aw_grp1 ?_
 refine wk_start ?_
 refine kb g0 (bxA 0) ?_
 refine kv g0 (asg) ?_
 refine wk_end ?_
 refine ac_next ?_
 refine aw_grp1 ?_
 refine aw_block ?_
 refine aw_grp1 ?_
 refine wk_start ?_
 refine kv g0 (ldBA 4 [.lit (.int .i64 a0_0), .lit (.int .i64 a0_1), .lit (.int .i64 a0_2), .lit (.int .i64 a0_3)]) ?_
 obtain ⟨t1, A2, H⟩ := of_bind H
 refine kcS0 7 (.lit (.bool t1)) [] g0 (cal (impl_Ins_asks.ok A2) [] 9999 .n (hf := Tryz.func43)) rfl rfl ?_
 refine kv g0 (asg) ?_
 refine wk_end ?_
 refine ac_next ?_
 by_cases c3 : t1 = true
 ·rw [if_pos c3] at H
  refine aw_ifT ?_ c3
  refine aw_grp1 ?_
  refine wk_start ?_
  refine kv g0 (mv) ?_
  refine kv g0 (add6) ?_
  refine kv g0 (faB 2 2) ?_
  refine kv g0 (ldB) ?_
  refine kv g0 (faB 3 3) ?_
  refine kv g0 (ldB) ?_
  refine kv g0 (max_) ?_
  refine kv g0 (add6) ?_
  refine kv g0 (asg) ?_
  refine wk_end ?_
  refine ac_next ?_
  refine aw_ret ?_
  refine ac_blkR ?_
  refine ac_thenR ?_
  obtain rfl := Option.some.inj H
  exact acr hE [.tmp 4] (.tmp .nil) (.one _) [] 9999
 rw [if_neg c3] at H
 refine aw_ifF ?_ (bF c3)
 refine aw_grp1 ?_
 refine wk_start ?_
 refine kv g0 (faB 0 0) ?_
 refine kv g0 (ldB) ?_
 refine kv g0 (eql) ?_
 refine kv g0 (asg) ?_
 refine wk_end ?_
 refine ac_next ?_
 by_cases c4 : a0_0 = 7
 ·rw [if_pos c4] at H
  refine aw_ifT ?_ (eT c4)
  refine aw_grp1 ?_
  refine wk_start ?_
  refine kv g0 (mv) ?_
  refine kv g0 (add6) ?_
  refine kv g0 (faB 1 1) ?_
  refine kv g0 (ldB) ?_
  refine kv g0 (add6) ?_
  refine kv g0 (asg) ?_
  refine wk_end ?_
  refine ac_next ?_
  refine aw_ret ?_
  refine ac_blkR ?_
  refine ac_thenR ?_
  obtain rfl := Option.some.inj H
  exact acr hE [.tmp 4] (.tmp .nil) (.one _) [] 9999
 rw [if_neg c4] at H
 refine aw_ifF ?_ (eF c4)
 refine aw_skip ?_
 refine ac_blkN ?_
 refine ac_next ?_
 refine aw_grp1 ?_
 refine wk_start ?_
 refine kv g0 (mv) ?_
 refine kv g0 (asg) ?_
 refine wk_end ?_
 refine ac_next ?_
 refine aw_ret ?_
 obtain rfl := Option.some.inj H
 exact acr hE [.tmp 4] (.tmp .nil) (.one _) [] 9999
/-! impl_CheckProgram -/
def impl_CheckProgram.l0 : Nat → (List S41) → Int → Option (Bool)
 | 0, _, _ => none
 | k16 + 1, l0, p15 => if p15 < (l0.length : Int) then if 0 ≤ p15 then (impl_InsOk.f ((rd_T41 l0 p15).f0) ((rd_T41 l0 p15).f1) ((rd_T41 l0 p15).f2) ((rd_T41 l0 p15).f3)).bind fun t19 => (if t19 = true then ((impl_farthest.f ((rd_T41 l0 p15).f0) ((rd_T41 l0 p15).f1) ((rd_T41 l0 p15).f2) ((rd_T41 l0 p15).f3) p15).bind fun t22 => if t22 ≥ (l0.length : Int) then some false else impl_CheckProgram.l0 k16 l0 (wrap64 (p15 + 1))) else some false) else none else some true
def impl_CheckProgram.f (k : Nat) (l0 : List S41) : Option (Bool) := (impl_within.f (l0.length : Int) 1 400).bind fun t1 => (if t1 = true then (if 0 ≤ (wrap64 ((l0.length : Int) - 1)) then (if (wrap64 ((l0.length : Int) - 1)) < (l0.length : Int) then if ((rd_T41 l0 (wrap64 ((l0.length : Int) - 1))).f0) = 8 then impl_CheckProgram.l0 k l0 0 else some false else none) else none) else some false)
theorem impl_CheckProgram.ok {k : Nat} {l0 : List S41} {r : Bool} (H : impl_CheckProgram.f k l0 = some r) : ACalls Tryz.prog 24 [] [.sl .o 4 (l0.map e41)] [] (.lit (.bool r)) := by
 refine acalls (fn := Tryz.f24) (nt := 38) Tryz.func24 rfl rfl (Nat.le_of_ble_eq_true rfl) fun E hE => ?_
 rw [impl_CheckProgram.f] at H
 refine aw_grp1 ?_
 refine wk_start ?_
 refine kv g0 (asg) ?_
 refine wk_end ?_
 refine ac_next ?_
 refine aw_grp1 ?_
 refine wk_start ?_
 refine kv g0 (mv) ?_
 refine kv g0 (lnS lenE) ?_
 refine kv g0 (asg) ?_
 refine wk_end ?_
 refine ac_next ?_
 refine aw_grp1 ?_
 refine aw_grp1 ?_
 refine wk_start ?_
 refine kv g0 (mv) ?_
 obtain ⟨t1, A2, H⟩ := of_bind H
 refine kcS0 9 (.lit (.bool t1)) [] g0 (cal (impl_within.ok A2) [] 9999 .n (hf := Tryz.func25)) rfl rfl ?_
 refine kv g0 (not_) ?_
 refine kv g0 (mv) ?_
 by_cases c3 : t1 = true
 ·rw [if_pos c3] at H
  refine kv (g1 (nF c3)) (mv) ?_
  refine kv (g1 (nF c3)) (mv) ?_
  refine kv (g1 (nF c3)) (sub6) ?_
  obtain ⟨c4, H⟩ := of_if H
  obtain ⟨c5, H⟩ := of_if H
  refine kv (g1 (nF c3)) (ixS 41 (e41 (rd_T41 l0 (wrap64 ((l0.length : Int) - 1)))) c4 (getE (z := z41) c4 c5)) ?_
  refine kv (g1 (nF c3)) (faR 0 0) ?_
  refine kv (g1 (nF c3)) (ldR (.lit (.int .i64 ((rd_T41 l0 (wrap64 ((l0.length : Int) - 1))).f0)))) ?_
  refine kv (g1 (nF c3)) (neq) ?_
  refine kv g0 (pkF (nF c3)) ?_
  refine wk_end ?_
  refine ac_next ?_
  by_cases c6 : ((rd_T41 l0 (wrap64 ((l0.length : Int) - 1))).f0) = 8
  ·rw [if_pos c6] at H
   refine aw_ifF ?_ (eM c6)
   refine aw_skip ?_
   refine ac_next ?_
   refine aw_grp1 ?_
   refine aw_grp1 ?_
   refine wk_start ?_
   refine kv g0 (mv) ?_
   refine kv g0 (lnS lenE) ?_
   refine kv g0 (mv) ?_
   refine wk_end ?_
   refine ac_next ?_
   refine aw_block ?_
   refine aw_loop1 (fun (k_ : Nat) (p15 : Int) => k_ ≤ k ∧ impl_CheckProgram.l0 k_ l0 p15 = some r) (fun (p15 : Int) => ⟨[(3, .lit (.int .i64 (l0.length : Int))), (20, .sl .o 4 (l0.map e41)), (21, .lit (.int .i64 (l0.length : Int))), (22, .lit (.int .i64 p15))], []⟩) k 0 ⟨Nat.le_refl _, H⟩ (fun K_ h_ => acw hE [] 9999 h_) (fun _ => by intro h_; have h_ := h_.2; rw [impl_CheckProgram.l0.eq_1] at h_; cases h_) ?_
   intro k16 p15 hq_ K25 hK26
   have hk16 := hq_.1
   have H := hq_.2
   clear hq_
   rw [impl_CheckProgram.l0.eq_2] at H
   refine aw_grp1 ?_
   refine wk_start ?_
   refine kv g0 (lss) ?_
   refine wk_end ?_
   refine ac_next ?_
   refine aw_grp1 ?_
   by_cases c17 : p15 < (l0.length : Int)
   ·rw [if_pos c17] at H
    refine aw_ifT ?_ (decide_eq_true c17)
    refine aw_skip ?_
    refine ac_next ?_
    refine aw_grp1 ?_
    refine aw_block ?_
    refine aw_grp1 ?_
    refine wk_start ?_
    refine kv g0 (mv) ?_
    obtain ⟨c18, H⟩ := of_if H
    refine kv g0 (ixS 41 (e41 (rd_T41 l0 p15)) c18 (getE (z := z41) c18 c17)) ?_
    refine kv g0 (ldRA 4 [.lit (.int .i64 ((rd_T41 l0 p15).f0)), .lit (.int .i64 ((rd_T41 l0 p15).f1)), .lit (.int .i64 ((rd_T41 l0 p15).f2)), .lit (.int .i64 ((rd_T41 l0 p15).f3))]) ?_
    refine kb g0 (alc 0 [.int .i64 0, .int .i64 0, .int .i64 0, .int .i64 0] [.lit (.int .i64 0), .lit (.int .i64 0), .lit (.int .i64 0), .lit (.int .i64 0)]) ?_
    refine kv g0 (asg) ?_
    refine ks g0 (stB 4 [.lit (.int .i64 ((rd_T41 l0 p15).f0)), .lit (.int .i64 ((rd_T41 l0 p15).f1)), .lit (.int .i64 ((rd_T41 l0 p15).f2)), .lit (.int .i64 ((rd_T41 l0 p15).f3))]) ?_
    refine wk_end ?_
    refine ac_next ?_
    refine aw_grp1 ?_
    refine wk_start ?_
    refine kv g0 (ldBA 4 [.lit (.int .i64 ((rd_T41 l0 p15).f0)), .lit (.int .i64 ((rd_T41 l0 p15).f1)), .lit (.int .i64 ((rd_T41 l0 p15).f2)), .lit (.int .i64 ((rd_T41 l0 p15).f3))]) ?_
    obtain ⟨t19, A20, H⟩ := of_bind H
    refine kcS0 28 (.lit (.bool t19)) [] g0 (cal (impl_InsOk.ok A20) [] 9999 .n (hf := Tryz.func41)) rfl rfl ?_
    refine kv g0 (not_) ?_
    refine kv g0 (mv) ?_
    by_cases c21 : t19 = true
    ·rw [if_pos c21] at H
     refine kv (g1 (nF c21)) (ldBA 4 [.lit (.int .i64 ((rd_T41 l0 p15).f0)), .lit (.int .i64 ((rd_T41 l0 p15).f1)), .lit (.int .i64 ((rd_T41 l0 p15).f2)), .lit (.int .i64 ((rd_T41 l0 p15).f3))]) ?_
     refine kv (g1 (nF c21)) (mv) ?_
     obtain ⟨t22, A23, H⟩ := of_bind H
     refine kcS0 33 (.lit (.int .i64 t22)) [] (g1 (nF c21)) (cal (impl_farthest.ok A23) [] 9999 .n (hf := Tryz.func42)) rfl rfl ?_
     refine kv (g1 (nF c21)) (mv) ?_
     refine kv (g1 (nF c21)) (geq) ?_
     refine kv g0 (pkF (nF c21)) ?_
     refine wk_end ?_
     refine ac_next ?_
     by_cases c24 : t22 ≥ (l0.length : Int)
     ·rw [if_pos c24] at H
      refine aw_ifT ?_ (decide_eq_true c24)
      refine aw_grp1 ?_
      refine wk_start ?_
      refine kv g0 (asg) ?_
      refine wk_end ?_
      refine ac_next ?_
      refine aw_ret ?_
      refine ac_blkR ?_
      refine ac_thenR ?_
      refine ac_thenR ?_
      refine ac_blkR ?_
      refine ac_thenR ?_
      obtain rfl := Option.some.inj H
      exact acr hE [.tmp 2] (.tmp .nil) (.one _) [] 9999
     rw [if_neg c24] at H
     refine aw_ifF ?_ (decide_eq_false c24)
     refine aw_skip ?_
     refine ac_blkN ?_
     refine ac_next ?_
     refine wk_start ?_
     refine kv g0 (add6) ?_
     refine kv g0 (mv) ?_
     refine wk_end ?_
     refine ac_k ?_
     exact acw hE [] 9999 (hK26 k16 (wrap64 (p15 + 1)) (Nat.le_refl _) ⟨by omega, H⟩)
    rw [if_neg c21] at H
    refine kx (hF (nT (bF c21))) ?_
    refine kx (hF (nT (bF c21))) ?_
    refine kx (hF (nT (bF c21))) ?_
    refine kx (hF (nT (bF c21))) ?_
    refine kx (hF (nT (bF c21))) ?_
    refine kv g0 (pkT (nT (bF c21))) ?_
    refine wk_end ?_
    refine ac_next ?_
    refine aw_ifT ?_ rfl
    refine aw_grp1 ?_
    refine wk_start ?_
    refine kv g0 (asg) ?_
    refine wk_end ?_
    refine ac_next ?_
    refine aw_ret ?_
    refine ac_blkR ?_
    refine ac_thenR ?_
    refine ac_thenR ?_
    refine ac_blkR ?_
    refine ac_thenR ?_
    obtain rfl := Option.some.inj H
    exact acr hE [.tmp 2] (.tmp .nil) (.one _) [] 9999
   rw [if_neg c17] at H
   refine aw_ifF ?_ (decide_eq_false c17)
   refine aw_exit ?_
   refine ac_then ?_
   refine ac_then ?_
   refine ac_hit rfl ?_
   refine ac_next ?_
   refine aw_grp1 ?_
   refine wk_start ?_
   refine kv g0 (asg) ?_
   refine wk_end ?_
   refine ac_next ?_
   refine aw_ret ?_
   obtain rfl := Option.some.inj H
   exact acr hE [.tmp 2] (.tmp .nil) (.one _) [] 9999
  rw [if_neg c6] at H
  refine aw_ifT ?_ (eN c6)
  refine aw_grp1 ?_
  refine wk_start ?_
  refine kv g0 (asg) ?_
  refine wk_end ?_
  refine ac_next ?_
  refine aw_ret ?_
  refine ac_thenR ?_
  obtain rfl := Option.some.inj H
  exact acr hE [.tmp 2] (.tmp .nil) (.one _) [] 9999
 rw [if_neg c3] at H
 refine kx (hF (nT (bF c3))) ?_
 refine kx (hF (nT (bF c3))) ?_
 refine kx (hF (nT (bF c3))) ?_
 refine kx (hF (nT (bF c3))) ?_
 refine kx (hF (nT (bF c3))) ?_
 refine kx (hF (nT (bF c3))) ?_
 refine kx (hF (nT (bF c3))) ?_
 refine kv g0 (pkT (nT (bF c3))) ?_
 refine wk_end ?_
 refine ac_next ?_
 refine aw_ifT ?_ rfl
 refine aw_grp1 ?_
 refine wk_start ?_
 refine kv g0 (asg) ?_
 refine wk_end ?_
 refine ac_next ?_
 refine aw_ret ?_
 refine ac_thenR ?_
 obtain rfl := Option.some.inj H
 exact acr hE [.tmp 2] (.tmp .nil) (.one _) [] 9999
/-! impl_ways -/
def impl_ways.j0 : Nat → Int → Int → Int → Int → Int → Bool → Option ((List Int))
 | 0, _, _, _, _, _, _ => none
 | k7 + 1, a0_0, a0_1, a0_2, a0_3, a1, p6 => if p6 = true then some ([wrap64 ((wrap64 (a1 + 1)) + (min a0_2 a0_3)), wrap64 ((wrap64 (a1 + 1)) + (max a0_2 a0_3))] : List Int) else ((impl_Ins_asks.f a0_0 a0_1 a0_2 a0_3).bind fun t9 => if t9 = true then some ([wrap64 ((wrap64 (a1 + 1)) + a0_2)] : List Int) else some ([wrap64 (a1 + 1)] : List Int))
def impl_ways.f (k : Nat) (a0_0 : Int) (a0_1 : Int) (a0_2 : Int) (a0_3 : Int) (a1 : Int) : Option ((List Int)) := if a0_0 = 8 then some ([] : List Int) else if a0_0 = 7 then some ([wrap64 ((wrap64 (a1 + 1)) + a0_1)] : List Int) else ((impl_Ins_asks.f a0_0 a0_1 a0_2 a0_3).bind fun t3 => (if t3 = true then impl_ways.j0 k a0_0 a0_1 a0_2 a0_3 a1 (a0_2 != a0_3) else impl_ways.j0 k a0_0 a0_1 a0_2 a0_3 a1 false))
theorem impl_ways.ok {k : Nat} {a0_0 : Int} {a0_1 : Int} {a0_2 : Int} {a0_3 : Int} {a1 : Int} {r : (List Int)} (H : impl_ways.f k a0_0 a0_1 a0_2 a0_3 a1 = some r) : ACalls Tryz.prog 26 [] [.agg [.lit (.int .i64 a0_0), .lit (.int .i64 a0_1), .lit (.int .i64 a0_2), .lit (.int .i64 a0_3)], .lit (.int .i64 a1)] [(0, .row 3 1 (r.map (eI .i64)))] (.row 0) := by
 refine acalls (fn := Tryz.f26) (nt := 59) Tryz.func26 rfl rfl (Nat.le_of_ble_eq_true rfl) fun E hE => ?_
 rw [impl_ways.f] at H
 refine aw_grp1 ?_
 refine wk_start ?_
 refine kb g0 (bxA 0) ?_
 refine kv g0 (asg) ?_
 refine wk_end ?_
 refine ac_next ?_
 refine aw_grp1 ?_
 refine aw_block ?_
 refine aw_grp1 ?_
 refine wk_start ?_
 refine kv g0 (faB 0 0) ?_
 refine kv g0 (ldB) ?_
 refine kv g0 (eql) ?_
 refine kv g0 (asg) ?_
 refine wk_end ?_
 refine ac_next ?_
 by_cases c1 : a0_0 = 8
 ·rw [if_pos c1] at H
  refine aw_ifT ?_ (eT c1)
  refine aw_grp1 ?_
  refine wk_start ?_
  refine kb g0 (bsl 1 3 1 [.int .i64 0] (([] : List Int).map (eI .i64))) ?_
  refine kv g0 (asg) ?_
  refine wk_end ?_
  refine ac_next ?_
  refine aw_ret ?_
  refine ac_blkR ?_
  refine ac_thenR ?_
  obtain rfl := Option.some.inj H
  exact acr hE [.tmp 4] (.tmp .nil) (.one _) [(0, 1)] 9999
 rw [if_neg c1] at H
 refine aw_ifF ?_ (eF c1)
 refine aw_grp1 ?_
 refine wk_start ?_
 refine kv g0 (faB 0 0) ?_
 refine kv g0 (ldB) ?_
 refine kv g0 (eql) ?_
 refine kv g0 (asg) ?_
 refine wk_end ?_
 refine ac_next ?_
 by_cases c2 : a0_0 = 7
 ·rw [if_pos c2] at H
  refine aw_ifT ?_ (eT c2)
  refine aw_grp1 ?_
  refine wk_start ?_
  refine kv g0 (mv) ?_
  refine kv g0 (add6) ?_
  refine kv g0 (faB 1 1) ?_
  refine kv g0 (ldB) ?_
  refine kv g0 (add6) ?_
  refine kb g0 (bsl 2 3 1 [.int .i64 0] (([wrap64 ((wrap64 (a1 + 1)) + a0_1)] : List Int).map (eI .i64))) ?_
  refine kv g0 (asg) ?_
  refine wk_end ?_
  refine ac_next ?_
  refine aw_ret ?_
  refine ac_blkR ?_
  refine ac_thenR ?_
  obtain rfl := Option.some.inj H
  exact acr hE [.tmp 4] (.tmp .nil) (.one _) [(0, 2)] 9999
 rw [if_neg c2] at H
 refine aw_ifF ?_ (eF c2)
 refine aw_cut1 (J := fun K_ => ∀ (k_ : Nat) (p6 : Bool), k_ ≤ k → impl_ways.j0 k_ a0_0 a0_1 a0_2 a0_3 a1 p6 = some r → ACont E 59 ⟨[(1, .lit (.int .i64 a1)), (2, .box 0 0), (20, .lit (.bool p6))], [(0, .box 41 [.lit (.int .i64 a0_0), .lit (.int .i64 a0_1), .lit (.int .i64 a0_2), .lit (.int .i64 a0_3)])]⟩ K_) ?_ ?_
 ·intro K_ hJ12
  refine wk_start ?_
  refine kv g0 (ldBA 4 [.lit (.int .i64 a0_0), .lit (.int .i64 a0_1), .lit (.int .i64 a0_2), .lit (.int .i64 a0_3)]) ?_
  obtain ⟨t3, A4, H⟩ := of_bind H
  refine kcS0 22 (.lit (.bool t3)) [] g0 (cal (impl_Ins_asks.ok A4) [] 9999 .n (hf := Tryz.func43)) rfl rfl ?_
  refine kv g0 (mv) ?_
  by_cases c5 : t3 = true
  ·rw [if_pos c5] at H
   refine kv (g1 c5) (faB 2 2) ?_
   refine kv (g1 c5) (ldB) ?_
   refine kv (g1 c5) (faB 3 3) ?_
   refine kv (g1 c5) (ldB) ?_
   refine kv (g1 c5) (neq) ?_
   refine kv g0 (pkT c5) ?_
   refine kv g0 (asg) ?_
   refine wk_end ?_
   refine ac_k ?_
   exact acw hE [(0, 0)] 9999 (hJ12 k (a0_2 != a0_3) (Nat.le_refl _) H)
  rw [if_neg c5] at H
  refine kx (hT (bF c5)) ?_
  refine kx (hT (bF c5)) ?_
  refine kx (hT (bF c5)) ?_
  refine kx (hT (bF c5)) ?_
  refine kx (hT (bF c5)) ?_
  refine kv g0 (pkF (bF c5)) ?_
  refine kv g0 (asg) ?_
  refine wk_end ?_
  refine ac_k ?_
  exact acw hE [(0, 0)] 9999 (hJ12 k false (Nat.le_refl _) H)
 intro k_ p6 hk_ H
 rcases k_ with _ | k7
 ·rw [impl_ways.j0.eq_1] at H; cases H
 have hk7 : k7 ≤ k := by omega
 clear hk_
 rw [impl_ways.j0.eq_2] at H
 by_cases c8 : p6 = true
 ·rw [if_pos c8] at H
  refine aw_ifT ?_ c8
  refine aw_grp1 ?_
  refine wk_start ?_
  refine kv g0 (mv) ?_
  refine kv g0 (add6) ?_
  refine kv g0 (faB 2 2) ?_
  refine kv g0 (ldB) ?_
  refine kv g0 (faB 3 3) ?_
  refine kv g0 (ldB) ?_
  refine kv g0 (min_) ?_
  refine kv g0 (add6) ?_
  refine kv g0 (mv) ?_
  refine kv g0 (add6) ?_
  refine kv g0 (faB 2 2) ?_
  refine kv g0 (ldB) ?_
  refine kv g0 (faB 3 3) ?_
  refine kv g0 (ldB) ?_
  refine kv g0 (max_) ?_
  refine kv g0 (add6) ?_
  refine kb g0 (bsl 3 3 1 [.int .i64 0] (([wrap64 ((wrap64 (a1 + 1)) + (min a0_2 a0_3)), wrap64 ((wrap64 (a1 + 1)) + (max a0_2 a0_3))] : List Int).map (eI .i64))) ?_
  refine kv g0 (asg) ?_
  refine wk_end ?_
  refine ac_next ?_
  refine aw_ret ?_
  refine ac_blkR ?_
  refine ac_thenR ?_
  obtain rfl := Option.some.inj H
  exact acr hE [.tmp 4] (.tmp .nil) (.one _) [(0, 3)] 9999
 rw [if_neg c8] at H
 refine aw_ifF ?_ (bF c8)
 refine aw_grp1 ?_
 refine wk_start ?_
 refine kv g0 (ldBA 4 [.lit (.int .i64 a0_0), .lit (.int .i64 a0_1), .lit (.int .i64 a0_2), .lit (.int .i64 a0_3)]) ?_
 obtain ⟨t9, A10, H⟩ := of_bind H
 refine kcS0 49 (.lit (.bool t9)) [] g0 (cal (impl_Ins_asks.ok A10) [] 9999 .n (hf := Tryz.func43)) rfl rfl ?_
 refine kv g0 (asg) ?_
 refine wk_end ?_
 refine ac_next ?_
 by_cases c11 : t9 = true
 ·rw [if_pos c11] at H
  refine aw_ifT ?_ c11
  refine aw_grp1 ?_
  refine wk_start ?_
  refine kv g0 (mv) ?_
  refine kv g0 (add6) ?_
  refine kv g0 (faB 2 2) ?_
  refine kv g0 (ldB) ?_
  refine kv g0 (add6) ?_
  refine kb g0 (bsl 4 3 1 [.int .i64 0] (([wrap64 ((wrap64 (a1 + 1)) + a0_2)] : List Int).map (eI .i64))) ?_
  refine kv g0 (asg) ?_
  refine wk_end ?_
  refine ac_next ?_
  refine aw_ret ?_
  refine ac_blkR ?_
  refine ac_thenR ?_
  obtain rfl := Option.some.inj H
  exact acr hE [.tmp 4] (.tmp .nil) (.one _) [(0, 4)] 9999
 rw [if_neg c11] at H
 refine aw_ifF ?_ (bF c11)
 refine aw_skip ?_
 refine ac_blkN ?_
 refine ac_next ?_
 refine aw_grp1 ?_
 refine wk_start ?_
 refine kv g0 (mv) ?_
 refine kv g0 (add6) ?_
 refine kb g0 (bsl 5 3 1 [.int .i64 0] (([wrap64 (a1 + 1)] : List Int).map (eI .i64))) ?_
 refine kv g0 (asg) ?_
 refine wk_end ?_
 refine ac_next ?_
 refine aw_ret ?_
 obtain rfl := Option.some.inj H
 exact acr hE [.tmp 4] (.tmp .nil) (.one _) [(0, 5)] 9999
/-! impl_NextOf -/
def impl_NextOf.f (k : Nat) (l0 : List S41) (a1 : Int) : Option ((List Int)) := (impl_CheckProgram.f k l0).bind fun t1 => (if t1 = true then ((impl_within.f a1 0 (wrap64 ((l0.length : Int) - 1))).bind fun t4 => if t4 = true then if 0 ≤ a1 then (if a1 < (l0.length : Int) then ((impl_ways.f k ((rd_T41 l0 a1).f0) ((rd_T41 l0 a1).f1) ((rd_T41 l0 a1).f2) ((rd_T41 l0 a1).f3) a1).bind fun t9 => some t9) else none) else none else some ([] : List Int)) else some ([] : List Int))
theorem impl_NextOf.ok {k : Nat} {l0 : List S41} {a1 : Int} {r : (List Int)} (H : impl_NextOf.f k l0 a1 = some r) : ACalls Tryz.prog 8 [] [.sl .o 4 (l0.map e41), .lit (.int .i64 a1)] [(0, .row 3 1 (r.map (eI .i64)))] (.row 0) := by
 refine acalls (fn := Tryz.f8) (nt := 23) Tryz.func8 rfl rfl (Nat.le_of_ble_eq_true rfl) fun E hE => ?_
 rw [impl_NextOf.f] at H
 refine aw_grp1 ?_
 refine wk_start ?_
 refine kv g0 (asg) ?_
 refine wk_end ?_
 refine ac_next ?_
 refine aw_grp1 ?_
 refine aw_grp1 ?_
 refine wk_start ?_
 refine kv g0 (mv) ?_
 obtain ⟨t1, A2, H⟩ := of_bind H
 refine kcS0 6 (.lit (.bool t1)) [] g0 (cal (impl_CheckProgram.ok A2) [] 9999 .n (hf := Tryz.func24)) rfl rfl ?_
 refine kv g0 (not_) ?_
 refine kv g0 (mv) ?_
 by_cases c3 : t1 = true
 ·rw [if_pos c3] at H
  refine kv (g1 (nF c3)) (mv) ?_
  refine kv (g1 (nF c3)) (mv) ?_
  refine kv (g1 (nF c3)) (lnS lenE) ?_
  refine kv (g1 (nF c3)) (sub6) ?_
  obtain ⟨t4, A5, H⟩ := of_bind H
  refine kcS0 13 (.lit (.bool t4)) [] (g1 (nF c3)) (cal (impl_within.ok A5) [] 9999 .n (hf := Tryz.func25)) rfl rfl ?_
  refine kv (g1 (nF c3)) (not_) ?_
  refine kv g0 (pkF (nF c3)) ?_
  refine wk_end ?_
  refine ac_next ?_
  by_cases c6 : t4 = true
  ·rw [if_pos c6] at H
   refine aw_ifF ?_ (nF c6)
   refine aw_skip ?_
   refine ac_next ?_
   refine aw_grp1 ?_
   refine wk_start ?_
   refine kv g0 (mv) ?_
   refine kv g0 (mv) ?_
   obtain ⟨c7, H⟩ := of_if H
   obtain ⟨c8, H⟩ := of_if H
   refine kv g0 (ixS 41 (e41 (rd_T41 l0 a1)) c7 (getE (z := z41) c7 c8)) ?_
   refine kv g0 (ldRA 4 [.lit (.int .i64 ((rd_T41 l0 a1).f0)), .lit (.int .i64 ((rd_T41 l0 a1).f1)), .lit (.int .i64 ((rd_T41 l0 a1).f2)), .lit (.int .i64 ((rd_T41 l0 a1).f3))]) ?_
   refine kv g0 (mv) ?_
   obtain ⟨t9, A10, H⟩ := of_bind H
   refine kcS1 22 (.row 2) [(2, .row 3 1 (t9.map (eI .i64)))] g0 (cal (impl_ways.ok A10) [2] 9999 .n (hf := Tryz.func26)) rfl rfl ?_
   refine kv g0 (asg) ?_
   refine wk_end ?_
   refine ac_next ?_
   refine aw_ret ?_
   obtain rfl := Option.some.inj H
   exact acr hE [.tmp 4] (.tmp .nil) (.one _) [(0, 2)] 9999
  rw [if_neg c6] at H
  refine aw_ifT ?_ (nT (bF c6))
  refine aw_grp1 ?_
  refine wk_start ?_
  refine kb g0 (bsl 0 3 1 [.int .i64 0] (([] : List Int).map (eI .i64))) ?_
  refine kv g0 (asg) ?_
  refine wk_end ?_
  refine ac_next ?_
  refine aw_ret ?_
  refine ac_thenR ?_
  obtain rfl := Option.some.inj H
  exact acr hE [.tmp 4] (.tmp .nil) (.one _) [(0, 0)] 9999
 rw [if_neg c3] at H
 refine kx (hF (nT (bF c3))) ?_
 refine kx (hF (nT (bF c3))) ?_
 refine kx (hF (nT (bF c3))) ?_
 refine kx (hF (nT (bF c3))) ?_
 refine kx (hF (nT (bF c3))) ?_
 refine kx (hF (nT (bF c3))) ?_
 refine kv g0 (pkT (nT (bF c3))) ?_
 refine wk_end ?_
 refine ac_next ?_
 refine aw_ifT ?_ rfl
 refine aw_grp1 ?_
 refine wk_start ?_
 refine kb g0 (bsl 1 3 1 [.int .i64 0] (([] : List Int).map (eI .i64))) ?_
 refine kv g0 (asg) ?_
 refine wk_end ?_
 refine ac_next ?_
 refine aw_ret ?_
 refine ac_thenR ?_
 obtain rfl := Option.some.inj H
 exact acr hE [.tmp 4] (.tmp .nil) (.one _) [(0, 1)] 9999
/-! spec_l07Far -/
def spec_l07Far.f (a0_0 : Int) (a0_1 : Int) (a0_2 : Int) (a0_3 : Int) : Option (Int) := if a0_0 = 7 then some a0_1 else if a0_2 > a0_3 then some a0_2 else some a0_3
theorem spec_l07Far.ok {a0_0 : Int} {a0_1 : Int} {a0_2 : Int} {a0_3 : Int} {r : Int} (H : spec_l07Far.f a0_0 a0_1 a0_2 a0_3 = some r) : ACalls Tryz.prog 45 [] [.agg [.lit (.int .i64 a0_0), .lit (.int .i64 a0_1), .lit (.int .i64 a0_2), .lit (.int .i64 a0_3)]] [] (.lit (.int .i64 r)) := by
 refine acalls (fn := Tryz.f45) (nt := 17) Tryz.func45 rfl rfl (Nat.le_of_ble_eq_true rfl) fun E hE => ?_
 rw [spec_l07Far.f] at H
 refine aw_grp1 ?_
 refine wk_start ?_
 refine kb g0 (bxA 0) ?_
 refine kv g0 (asg) ?_
 refine wk_end ?_
 refine ac_next ?_
 refine aw_grp1 ?_
 refine aw_grp1 ?_
 refine wk_start ?_
 refine kv g0 (faB 0 0) ?_
 refine kv g0 (ldB) ?_
 refine kv g0 (eql) ?_
 refine wk_end ?_
 refine ac_next ?_
 by_cases c1 : a0_0 = 7
 ·rw [if_pos c1] at H
  refine aw_ifT ?_ (eT c1)
  refine aw_grp1 ?_
  refine wk_start ?_
  refine kv g0 (faB 1 1) ?_
  refine kv g0 (ldB) ?_
  refine kv g0 (asg) ?_
  refine wk_end ?_
  refine ac_next ?_
  refine aw_ret ?_
  refine ac_thenR ?_
  obtain rfl := Option.some.inj H
  exact acr hE [.tmp 2] (.tmp .nil) (.one _) [] 9999
 rw [if_neg c1] at H
 refine aw_ifF ?_ (eF c1)
 refine aw_skip ?_
 refine ac_next ?_
 refine aw_grp1 ?_
 refine aw_grp1 ?_
 refine wk_start ?_
 refine kv g0 (faB 2 2) ?_
 refine kv g0 (ldB) ?_
 refine kv g0 (faB 3 3) ?_
 refine kv g0 (ldB) ?_
 refine kv g0 (gtr) ?_
 refine wk_end ?_
 refine ac_next ?_
 by_cases c2 : a0_2 > a0_3
 ·rw [if_pos c2] at H
  refine aw_ifT ?_ (decide_eq_true c2)
  refine aw_grp1 ?_
  refine wk_start ?_
  refine kv g0 (faB 2 2) ?_
  refine kv g0 (ldB) ?_
  refine kv g0 (asg) ?_
  refine wk_end ?_
  refine ac_next ?_
  refine aw_ret ?_
  refine ac_thenR ?_
  obtain rfl := Option.some.inj H
  exact acr hE [.tmp 2] (.tmp .nil) (.one _) [] 9999
 rw [if_neg c2] at H
 refine aw_ifF ?_ (decide_eq_false c2)
 refine aw_skip ?_
 refine ac_next ?_
 refine aw_grp1 ?_
 refine wk_start ?_
 refine kv g0 (faB 3 3) ?_
 refine kv g0 (ldB) ?_
 refine kv g0 (asg) ?_
 refine wk_end ?_
 refine ac_next ?_
 refine aw_ret ?_
 obtain rfl := Option.some.inj H
 exact acr hE [.tmp 2] (.tmp .nil) (.one _) [] 9999
/-! spec_CheckProgram -/
def spec_CheckProgram.l0 : Nat → (List S41) → Int → Option (Bool)
 | 0, _, _ => none
 | k14 + 1, l0, p13 => if p13 < (l0.length : Int) then if 0 ≤ p13 then ((spec_InsOk.f k14 ((rd_T41 l0 p13).f0) ((rd_T41 l0 p13).f1) ((rd_T41 l0 p13).f2) ((rd_T41 l0 p13).f3)).bind fun t17 => (if t17 = true then (if ((rd_T41 l0 p13).f0) = 8 then spec_CheckProgram.l0 k14 l0 (wrap64 (p13 + 1)) else ((spec_l07Far.f ((rd_T41 l0 p13).f0) ((rd_T41 l0 p13).f1) ((rd_T41 l0 p13).f2) ((rd_T41 l0 p13).f3)).bind fun t21 => if (wrap64 ((wrap64 (p13 + 1)) + t21)) ≥ (l0.length : Int) then some false else spec_CheckProgram.l0 k14 l0 (wrap64 (p13 + 1)))) else some false)) else none else if 0 ≤ (wrap64 ((l0.length : Int) - 1)) then (if (wrap64 ((l0.length : Int) - 1)) < (l0.length : Int) then some (((rd_T41 l0 (wrap64 ((l0.length : Int) - 1))).f0) == 8) else none) else none
def spec_CheckProgram.f (k : Nat) (l0 : List S41) : Option (Bool) := (spec_l01In.f (l0.length : Int) 1 400).bind fun t1 => if t1 = true then spec_CheckProgram.l0 k l0 0 else some false
theorem spec_CheckProgram.ok {k : Nat} {l0 : List S41} {r : Bool} (H : spec_CheckProgram.f k l0 = some r) : ACalls Tryz.prog 27 [] [.sl .o 4 (l0.map e41)] [] (.lit (.bool r)) := by
 refine acalls (fn := Tryz.f27) (nt := 49) Tryz.func27 rfl rfl (Nat.le_of_ble_eq_true rfl) fun E hE => ?_
 rw [spec_CheckProgram.f] at H
 refine aw_grp1 ?_
 refine wk_start ?_
 refine kv g0 (asg) ?_
 refine wk_end ?_
 refine ac_next ?_
 refine aw_grp1 ?_
 refine aw_grp1 ?_
 refine wk_start ?_
 refine kv g0 (mv) ?_
 refine kv g0 (lnS lenE) ?_
 obtain ⟨t1, A2, H⟩ := of_bind H
 refine kcS0 6 (.lit (.bool t1)) [] g0 (cal (spec_l01In.ok A2) [] 9999 .n (hf := Tryz.func28)) rfl rfl ?_
 refine kv g0 (not_) ?_
 refine wk_end ?_
 refine ac_next ?_
 by_cases c3 : t1 = true
 ·rw [if_pos c3] at H
  refine aw_ifF ?_ (nF c3)
  refine aw_skip ?_
  refine ac_next ?_
  refine aw_grp1 ?_
  refine aw_grp1 ?_
  refine wk_start ?_
  refine kv g0 (asg) ?_
  refine wk_end ?_
  refine ac_next ?_
  refine aw_block ?_
  refine aw_loop1 (fun (k_ : Nat) (p13 : Int) => k_ ≤ k ∧ spec_CheckProgram.l0 k_ l0 p13 = some r) (fun (p13 : Int) => ⟨[(0, .sl .o 4 (l0.map e41)), (3, .lit (.int .i64 p13))], []⟩) k 0 ⟨Nat.le_refl _, H⟩ (fun K_ h_ => acw hE [] 9999 h_) (fun _ => by intro h_; have h_ := h_.2; rw [spec_CheckProgram.l0.eq_1] at h_; cases h_) ?_
  intro k14 p13 hq_ K24 hK25
  have hk14 := hq_.1
  have H := hq_.2
  clear hq_
  rw [spec_CheckProgram.l0.eq_2] at H
  refine aw_grp1 ?_
  refine aw_grp1 ?_
  refine wk_start ?_
  refine kv g0 (mv) ?_
  refine kv g0 (mv) ?_
  refine kv g0 (lnS lenE) ?_
  refine kv g0 (lss) ?_
  refine wk_end ?_
  refine ac_next ?_
  by_cases c15 : p13 < (l0.length : Int)
  ·rw [if_pos c15] at H
   refine aw_ifT ?_ (decide_eq_true c15)
   refine aw_skip ?_
   refine ac_next ?_
   refine aw_grp1 ?_
   refine aw_block ?_
   refine aw_grp1 ?_
   refine wk_start ?_
   refine kv g0 (mv) ?_
   refine kv g0 (mv) ?_
   obtain ⟨c16, H⟩ := of_if H
   refine kv g0 (ixS 41 (e41 (rd_T41 l0 p13)) c16 (getE (z := z41) c16 c15)) ?_
   refine kv g0 (ldRA 4 [.lit (.int .i64 ((rd_T41 l0 p13).f0)), .lit (.int .i64 ((rd_T41 l0 p13).f1)), .lit (.int .i64 ((rd_T41 l0 p13).f2)), .lit (.int .i64 ((rd_T41 l0 p13).f3))]) ?_
   obtain ⟨t17, A18, H⟩ := of_bind H
   refine kcS0 18 (.lit (.bool t17)) [] g0 (cal (spec_InsOk.ok A18) [] 9999 .n (hf := Tryz.func44)) rfl rfl ?_
   refine kv g0 (not_) ?_
   refine kv g0 (mv) ?_
   by_cases c19 : t17 = true
   ·rw [if_pos c19] at H
    refine kv (g1 (nF c19)) (mv) ?_
    refine kv (g1 (nF c19)) (mv) ?_
    refine kv (g1 (nF c19)) (ixS 41 (e41 (rd_T41 l0 p13)) c16 (getE (z := z41) c16 c15)) ?_
    refine kv (g1 (nF c19)) (faR 0 0) ?_
    refine kv (g1 (nF c19)) (ldR (.lit (.int .i64 ((rd_T41 l0 p13).f0)))) ?_
    refine kv (g1 (nF c19)) (neq) ?_
    refine kv (g1 (nF c19)) (mv) ?_
    by_cases c20 : ((rd_T41 l0 p13).f0) = 8
    ·rw [if_pos c20] at H
     refine kx (hT (eM c20)) ?_
     refine kx (hT (eM c20)) ?_
     refine kx (hT (eM c20)) ?_
     refine kx (hT (eM c20)) ?_
     refine kx (hT (eM c20)) ?_
     refine kx (hT (eM c20)) ?_
     refine kx (hT (eM c20)) ?_
     refine kx (hT (eM c20)) ?_
     refine kx (hT (eM c20)) ?_
     refine kx (hT (eM c20)) ?_
     refine kx (hT (eM c20)) ?_
     refine kv (g1 (nF c19)) (pkF (eM c20)) ?_
     refine kv g0 (pkF (nF c19)) ?_
     refine wk_end ?_
     refine ac_next ?_
     refine aw_ifF ?_ rfl
     refine aw_skip ?_
     refine ac_blkN ?_
     refine ac_next ?_
     refine wk_start ?_
     refine kv g0 (mv) ?_
     refine kv g0 (add6) ?_
     refine kv g0 (asg) ?_
     refine wk_end ?_
     refine ac_k ?_
     exact acw hE [] 9999 (hK25 k14 (wrap64 (p13 + 1)) (Nat.le_refl _) ⟨by omega, H⟩)
    rw [if_neg c20] at H
    refine kv (g1 (eN c20)) (mv) ?_
    refine kv (g1 (eN c20)) (add6) ?_
    refine kv (g1 (eN c20)) (mv) ?_
    refine kv (g1 (eN c20)) (mv) ?_
    refine kv (g1 (eN c20)) (ixS 41 (e41 (rd_T41 l0 p13)) c16 (getE (z := z41) c16 c15)) ?_
    refine kv (g1 (eN c20)) (ldRA 4 [.lit (.int .i64 ((rd_T41 l0 p13).f0)), .lit (.int .i64 ((rd_T41 l0 p13).f1)), .lit (.int .i64 ((rd_T41 l0 p13).f2)), .lit (.int .i64 ((rd_T41 l0 p13).f3))]) ?_
    obtain ⟨t21, A22, H⟩ := of_bind H
    refine kcS0 34 (.lit (.int .i64 t21)) [] (g1 (eN c20)) (cal (spec_l07Far.ok A22) [] 9999 .n (hf := Tryz.func45)) rfl rfl ?_
    refine kv (g1 (eN c20)) (add6) ?_
    refine kv (g1 (eN c20)) (mv) ?_
    refine kv (g1 (eN c20)) (lnS lenE) ?_
    refine kv (g1 (eN c20)) (geq) ?_
    refine kv (g1 (nF c19)) (pkT (eN c20)) ?_
    refine kv g0 (pkF (nF c19)) ?_
    refine wk_end ?_
    refine ac_next ?_
    by_cases c23 : (wrap64 ((wrap64 (p13 + 1)) + t21)) ≥ (l0.length : Int)
    ·rw [if_pos c23] at H
     refine aw_ifT ?_ (decide_eq_true c23)
     refine aw_grp1 ?_
     refine wk_start ?_
     refine kv g0 (asg) ?_
     refine wk_end ?_
     refine ac_next ?_
     refine aw_ret ?_
     refine ac_blkR ?_
     refine ac_thenR ?_
     refine ac_thenR ?_
     refine ac_blkR ?_
     refine ac_thenR ?_
     obtain rfl := Option.some.inj H
     exact acr hE [.tmp 2] (.tmp .nil) (.one _) [] 9999
    rw [if_neg c23] at H
    refine aw_ifF ?_ (decide_eq_false c23)
    refine aw_skip ?_
    refine ac_blkN ?_
    refine ac_next ?_
    refine wk_start ?_
    refine kv g0 (mv) ?_
    refine kv g0 (add6) ?_
    refine kv g0 (asg) ?_
    refine wk_end ?_
    refine ac_k ?_
    exact acw hE [] 9999 (hK25 k14 (wrap64 (p13 + 1)) (Nat.le_refl _) ⟨by omega, H⟩)
   rw [if_neg c19] at H
   refine kx (hF (nT (bF c19))) ?_
   refine kx (hF (nT (bF c19))) ?_
   refine kx (hF (nT (bF c19))) ?_
   refine kx (hF (nT (bF c19))) ?_
   refine kx (hF (nT (bF c19))) ?_
   refine kx (hF (nT (bF c19))) ?_
   refine ku (neT (hF (nT (bF c19)))) ?_
   refine ku neU ?_
   refine ku neU ?_
   refine ku neU ?_
   refine ku neU ?_
   refine ku neU ?_
   refine ku neU ?_
   refine ku neU ?_
   refine ku neU ?_
   refine ku neU ?_
   refine ku neU ?_
   refine ku neU ?_
   refine kx (hF (nT (bF c19))) ?_
   refine kv g0 (pkT (nT (bF c19))) ?_
   refine wk_end ?_
   refine ac_next ?_
   refine aw_ifT ?_ rfl
   refine aw_grp1 ?_
   refine wk_start ?_
   refine kv g0 (asg) ?_
   refine wk_end ?_
   refine ac_next ?_
   refine aw_ret ?_
   refine ac_blkR ?_
   refine ac_thenR ?_
   refine ac_thenR ?_
   refine ac_blkR ?_
   refine ac_thenR ?_
   obtain rfl := Option.some.inj H
   exact acr hE [.tmp 2] (.tmp .nil) (.one _) [] 9999
  rw [if_neg c15] at H
  refine aw_ifF ?_ (decide_eq_false c15)
  refine aw_exit ?_
  refine ac_then ?_
  refine ac_then ?_
  refine ac_hit rfl ?_
  refine ac_next ?_
  refine aw_grp1 ?_
  refine wk_start ?_
  refine kv g0 (mv) ?_
  refine kv g0 (mv) ?_
  refine kv g0 (lnS lenE) ?_
  refine kv g0 (sub6) ?_
  obtain ⟨c26, H⟩ := of_if H
  obtain ⟨c27, H⟩ := of_if H
  refine kv g0 (ixS 41 (e41 (rd_T41 l0 (wrap64 ((l0.length : Int) - 1)))) c26 (getE (z := z41) c26 c27)) ?_
  refine kv g0 (faR 0 0) ?_
  refine kv g0 (ldR (.lit (.int .i64 ((rd_T41 l0 (wrap64 ((l0.length : Int) - 1))).f0)))) ?_
  refine kv g0 (eql) ?_
  refine kv g0 (asg) ?_
  refine wk_end ?_
  refine ac_next ?_
  refine aw_ret ?_
  obtain rfl := Option.some.inj H
  exact acr hE [.tmp 2] (.tmp .nil) (.one _) [] 9999
 rw [if_neg c3] at H
 refine aw_ifT ?_ (nT (bF c3))
 refine aw_grp1 ?_
 refine wk_start ?_
 refine kv g0 (asg) ?_
 refine wk_end ?_
 refine ac_next ?_
 refine aw_ret ?_
 refine ac_thenR ?_
 obtain rfl := Option.some.inj H
 exact acr hE [.tmp 2] (.tmp .nil) (.one _) [] 9999
end Go.Proofs.YtlmpaphlnlgelaaGreat.PFnWaysTold
