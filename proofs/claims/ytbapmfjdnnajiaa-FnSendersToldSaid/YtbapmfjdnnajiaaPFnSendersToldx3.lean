import Derived.Test.YtbapmfjdnnajiaaPFnSendersToldx2
set_option linter.unusedVariables false
set_option linter.unusedSimpArgs false
set_option maxRecDepth 100000
namespace Go.Proofs.Ytbapmfjdnnajiaa.PFnSendersTold
open Go Go.RowKit Go.Proofs.YtbapmfjdnnajiaaA
/-! laws_sameRing -/
def laws_sameRing.f (k : Nat) (l0_0 : List S43) (a0_1 : Int) (a0_2 : Int) (a0_3 : Int) (l1_0 : List S43) (a1_1 : Int) (a1_2 : Int) (a1_3 : Int) : Option (Bool) := (laws_sameItems.f k l0_0 l1_0).bind fun t1 => (if t1 = true then (if a0_1 = a1_1 then (if a0_2 = a1_2 then some (a0_3 == a1_3) else some false) else some false) else some false)
theorem laws_sameRing.ok {k : Nat} {l0_0 : List S43} {a0_1 : Int} {a0_2 : Int} {a0_3 : Int} {l1_0 : List S43} {a1_1 : Int} {a1_2 : Int} {a1_3 : Int} {r : Bool} (H : laws_sameRing.f k l0_0 a0_1 a0_2 a0_3 l1_0 a1_1 a1_2 a1_3 = some r) : ACalls Try.prog 55 [] [.agg [.sl .o 4 (l0_0.map e43), .lit (.int .i64 a0_1), .lit (.int .i64 a0_2), .lit (.int .i64 a0_3)], .agg [.sl .o 4 (l1_0.map e43), .lit (.int .i64 a1_1), .lit (.int .i64 a1_2), .lit (.int .i64 a1_3)]] [] (.lit (.bool r)) := by
 refine acalls (fn := Try.f55) (nt := 31) Try.func55 rfl rfl (Nat.le_of_ble_eq_true rfl) fun E hE => ?_
 rw [laws_sameRing.f] at H
 refine aw_grp1 ?_
 refine wk_start ?_
 refine kb g0 (bxA 0) ?_
 refine kb g0 (bxA 1) ?_
 refine kv g0 (asg) ?_
 refine wk_end ?_
 refine ac_next ?_
 refine aw_grp1 ?_
 refine wk_start ?_
 refine kv g0 (faB 0 0) ?_
 refine kv g0 (ldB) ?_
 refine kv g0 (faB 0 0) ?_
 refine kv g0 (ldB) ?_
 obtain ⟨t1, A2, H⟩ := of_bind H
 refine kcS0 9 (.lit (.bool t1)) [] g0 (cal (laws_sameItems.ok A2) [] 9999 .n (hf := Try.func35)) rfl rfl ?_
 refine kv g0 (mv) ?_
 by_cases c3 : t1 = true
 ·rw [if_pos c3] at H
  refine kv (g1 c3) (faB 1 1) ?_
  refine kv (g1 c3) (ldB) ?_
  refine kv (g1 c3) (faB 1 1) ?_
  refine kv (g1 c3) (ldB) ?_
  refine kv (g1 c3) (eql) ?_
  refine kv g0 (pkT c3) ?_
  refine kv g0 (mv) ?_
  by_cases c4 : a0_1 = a1_1
  ·rw [if_pos c4] at H
   refine kv (g1 (eT c4)) (faB 2 2) ?_
   refine kv (g1 (eT c4)) (ldB) ?_
   refine kv (g1 (eT c4)) (faB 2 2) ?_
   refine kv (g1 (eT c4)) (ldB) ?_
   refine kv (g1 (eT c4)) (eql) ?_
   refine kv g0 (pkT (eT c4)) ?_
   refine kv g0 (mv) ?_
   by_cases c5 : a0_2 = a1_2
   ·rw [if_pos c5] at H
    refine kv (g1 (eT c5)) (faB 3 3) ?_
    refine kv (g1 (eT c5)) (ldB) ?_
    refine kv (g1 (eT c5)) (faB 3 3) ?_
    refine kv (g1 (eT c5)) (ldB) ?_
    refine kv (g1 (eT c5)) (eql) ?_
    refine kv g0 (pkT (eT c5)) ?_
    refine kv g0 (asg) ?_
    refine wk_end ?_
    refine ac_next ?_
    refine aw_ret ?_
    obtain rfl := Option.some.inj H
    exact acr hE [.tmp 4] (.tmp .nil) (.one _) [] 9999
   rw [if_neg c5] at H
   refine kx (hT (eF c5)) ?_
   refine kx (hT (eF c5)) ?_
   refine kx (hT (eF c5)) ?_
   refine kx (hT (eF c5)) ?_
   refine kx (hT (eF c5)) ?_
   refine kv g0 (pkF (eF c5)) ?_
   refine kv g0 (asg) ?_
   refine wk_end ?_
   refine ac_next ?_
   refine aw_ret ?_
   obtain rfl := Option.some.inj H
   exact acr hE [.tmp 4] (.tmp .nil) (.one _) [] 9999
  rw [if_neg c4] at H
  refine kx (hT (eF c4)) ?_
  refine kx (hT (eF c4)) ?_
  refine kx (hT (eF c4)) ?_
  refine kx (hT (eF c4)) ?_
  refine kx (hT (eF c4)) ?_
  refine kv g0 (pkF (eF c4)) ?_
  refine kv g0 (mv) ?_
  refine kx (hT rfl) ?_
  refine kx (hT rfl) ?_
  refine kx (hT rfl) ?_
  refine kx (hT rfl) ?_
  refine kx (hT rfl) ?_
  refine kv g0 (pkF rfl) ?_
  refine kv g0 (asg) ?_
  refine wk_end ?_
  refine ac_next ?_
  refine aw_ret ?_
  obtain rfl := Option.some.inj H
  exact acr hE [.tmp 4] (.tmp .nil) (.one _) [] 9999
 rw [if_neg c3] at H
 refine kx (hT (bF c3)) ?_
 refine kx (hT (bF c3)) ?_
 refine kx (hT (bF c3)) ?_
 refine kx (hT (bF c3)) ?_
 refine kx (hT (bF c3)) ?_
 refine kv g0 (pkF (bF c3)) ?_
 refine kv g0 (mv) ?_
 refine kx (hT rfl) ?_
 refine kx (hT rfl) ?_
 refine kx (hT rfl) ?_
 refine kx (hT rfl) ?_
 refine kx (hT rfl) ?_
 refine kv g0 (pkF rfl) ?_
 refine kv g0 (mv) ?_
 refine kx (hT rfl) ?_
 refine kx (hT rfl) ?_
 refine kx (hT rfl) ?_
 refine kx (hT rfl) ?_
 refine kx (hT rfl) ?_
 refine kv g0 (pkF rfl) ?_
 refine kv g0 (asg) ?_
 refine wk_end ?_
 refine ac_next ?_
 refine aw_ret ?_
 obtain rfl := Option.some.inj H
 exact acr hE [.tmp 4] (.tmp .nil) (.one _) [] 9999
/-! impl_Acked -/
def impl_Acked.f (k : Nat) (a0_0 : Int) (a0_1 : Int) (l0_2 : List S43) (a0_3 : Int) (a0_4 : Int) (a1 : Int) : Option (Int × Int × (List S43) × Int × Int) := (impl_copySender.f a0_0 a0_1 l0_2 a0_3 a0_4).bind fun t1 => (impl_SenderOk.f k a0_0 a0_1 l0_2 a0_3 a0_4).bind fun t3 => (if t3 = true then ((impl_within.f a1 (wrap64 (a0_1 + 1)) (wrap64 (a0_1 + (l0_2.length : Int)))).bind fun t6 => if t6 = true then if 0 ≤ (wrap64 (a1 - a0_1)) then (if (wrap64 (a1 - a0_1)) ≤ (l0_2.length : Int) then ((impl_copyItems.f (l0_2.drop (wrap64 (a1 - a0_1)).toNat)).bind fun t11 => some (t1.1, a1, t11, t1.2.2.2.1, 1)) else none) else none else some (t1.1, t1.2.1, t1.2.2.1, t1.2.2.2.1, t1.2.2.2.2)) else some (t1.1, t1.2.1, t1.2.2.1, t1.2.2.2.1, t1.2.2.2.2))
theorem impl_Acked.ok {k : Nat} {a0_0 : Int} {a0_1 : Int} {l0_2 : List S43} {a0_3 : Int} {a0_4 : Int} {a1 : Int} {r : Int × Int × (List S43) × Int × Int} (H : impl_Acked.f k a0_0 a0_1 l0_2 a0_3 a0_4 a1 = some r) : ACalls Try.prog 43 [] [.agg [.lit (.int .i64 a0_0), .lit (.int .i64 a0_1), .sl .o 4 (l0_2.map e43), .lit (.int .i64 a0_3), .lit (.int .i64 a0_4)], .lit (.int .i64 a1)] [(0, .row 43 4 (r.2.2.1.map e43))] (.agg [.lit (.int .i64 r.1), .lit (.int .i64 r.2.1), .row 0, .lit (.int .i64 r.2.2.2.1), .lit (.int .i64 r.2.2.2.2)]) := by
 refine acalls (fn := Try.f43) (nt := 39) Try.func43 rfl rfl (Nat.le_of_ble_eq_true rfl) fun E hE => ?_
 rw [impl_Acked.f] at H
 refine aw_grp1 ?_
 refine wk_start ?_
 refine kb g0 (bxA 0) ?_
 refine kb g0 (alc 1 [.int .i64 0, .int .i64 0, .slice none 0 0, .int .i64 0, .int .i64 0] [.lit (.int .i64 0), .lit (.int .i64 0), .lit (.slice none 0 0), .lit (.int .i64 0), .lit (.int .i64 0)]) ?_
 refine wk_end ?_
 refine ac_next ?_
 refine aw_grp1 ?_
 refine wk_start ?_
 refine kv g0 (ldBA 5 [.lit (.int .i64 a0_0), .lit (.int .i64 a0_1), .sl .o 4 (l0_2.map e43), .lit (.int .i64 a0_3), .lit (.int .i64 a0_4)]) ?_
 obtain ⟨t1, A2, H⟩ := of_bind H
 refine kcS1 7 (.agg [.lit (.int .i64 t1.1), .lit (.int .i64 t1.2.1), .row 2, .lit (.int .i64 t1.2.2.2.1), .lit (.int .i64 t1.2.2.2.2)]) [(2, .row 43 4 (t1.2.2.1.map e43))] g0 (cal (impl_copySender.ok A2) [2] 9999 .n (hf := Try.func127)) rfl rfl ?_
 refine kb g0 (alc 3 [.int .i64 0, .int .i64 0, .slice none 0 0, .int .i64 0, .int .i64 0] [.lit (.int .i64 0), .lit (.int .i64 0), .lit (.slice none 0 0), .lit (.int .i64 0), .lit (.int .i64 0)]) ?_
 refine ks g0 (stB 5 [.lit (.int .i64 t1.1), .lit (.int .i64 t1.2.1), .row 2, .lit (.int .i64 t1.2.2.2.1), .lit (.int .i64 t1.2.2.2.2)]) ?_
 refine wk_end ?_
 refine ac_next ?_
 refine aw_grp1 ?_
 refine aw_grp1 ?_
 refine wk_start ?_
 refine kv g0 (ldBA 5 [.lit (.int .i64 a0_0), .lit (.int .i64 a0_1), .sl .o 4 (l0_2.map e43), .lit (.int .i64 a0_3), .lit (.int .i64 a0_4)]) ?_
 obtain ⟨t3, A4, H⟩ := of_bind H
 refine kcS0 9 (.lit (.bool t3)) [] g0 (cal (impl_SenderOk.ok A4) [] 9999 .n (hf := Try.func46)) rfl rfl ?_
 refine kv g0 (not_) ?_
 refine kv g0 (mv) ?_
 by_cases c5 : t3 = true
 ·rw [if_pos c5] at H
  refine kv (g1 (nF c5)) (mv) ?_
  refine kv (g1 (nF c5)) (faB 1 1) ?_
  refine kv (g1 (nF c5)) (ldB) ?_
  refine kv (g1 (nF c5)) (add6) ?_
  refine kv (g1 (nF c5)) (faB 1 1) ?_
  refine kv (g1 (nF c5)) (ldB) ?_
  refine kv (g1 (nF c5)) (faB 2 2) ?_
  refine kv (g1 (nF c5)) (ldB) ?_
  refine kv (g1 (nF c5)) (lnS lenE) ?_
  refine kv (g1 (nF c5)) (add6) ?_
  obtain ⟨t6, A7, H⟩ := of_bind H
  refine kcS0 22 (.lit (.bool t6)) [] (g1 (nF c5)) (cal (impl_within.ok A7) [] 9999 .n (hf := Try.func88)) rfl rfl ?_
  refine kv (g1 (nF c5)) (not_) ?_
  refine kv g0 (pkF (nF c5)) ?_
  refine wk_end ?_
  refine ac_next ?_
  by_cases c8 : t6 = true
  ·rw [if_pos c8] at H
   refine aw_ifF ?_ (nF c8)
   refine aw_skip ?_
   refine ac_next ?_
   refine aw_grp1 ?_
   refine wk_start ?_
   refine kv g0 (faB 2 2) ?_
   refine kv g0 (ldB) ?_
   refine kv g0 (mv) ?_
   refine kv g0 (faB 1 1) ?_
   refine kv g0 (ldB) ?_
   refine kv g0 (sub6) ?_
   obtain ⟨c9, H⟩ := of_if H
   obtain ⟨c10, H⟩ := of_if H
   refine kv g0 (slL 43 c9 c10) ?_
   obtain ⟨t11, A12, H⟩ := of_bind H
   refine kcS1 33 (.row 4) [(4, .row 43 4 (t11.map e43))] g0 (cal (impl_copyItems.ok A12) [4] 9999 .n (hf := Try.func128)) rfl rfl ?_
   refine kv g0 (faB 2 2) ?_
   refine ks g0 (stB 1 [.lit (.int .i64 t1.1), .lit (.int .i64 t1.2.1), .row 4, .lit (.int .i64 t1.2.2.2.1), .lit (.int .i64 t1.2.2.2.2)]) ?_
   refine wk_end ?_
   refine ac_next ?_
   refine aw_grp1 ?_
   refine wk_start ?_
   refine kv g0 (mv) ?_
   refine kv g0 (faB 1 1) ?_
   refine ks g0 (stB 1 [.lit (.int .i64 t1.1), .lit (.int .i64 a1), .row 4, .lit (.int .i64 t1.2.2.2.1), .lit (.int .i64 t1.2.2.2.2)]) ?_
   refine wk_end ?_
   refine ac_next ?_
   refine aw_grp1 ?_
   refine wk_start ?_
   refine kv g0 (faB 4 4) ?_
   refine ks g0 (stB 1 [.lit (.int .i64 t1.1), .lit (.int .i64 a1), .row 4, .lit (.int .i64 t1.2.2.2.1), .lit (.int .i64 1)]) ?_
   refine wk_end ?_
   refine ac_next ?_
   refine aw_grp1 ?_
   refine wk_start ?_
   refine kv g0 (ldBA 5 [.lit (.int .i64 t1.1), .lit (.int .i64 a1), .row 4, .lit (.int .i64 t1.2.2.2.1), .lit (.int .i64 1)]) ?_
   refine ks g0 (stB 5 [.lit (.int .i64 t1.1), .lit (.int .i64 a1), .row 4, .lit (.int .i64 t1.2.2.2.1), .lit (.int .i64 1)]) ?_
   refine wk_end ?_
   refine ac_next ?_
   refine aw_ret ?_
   obtain rfl := Option.some.inj H
   exact acr hE [.cell 4 78] (rcA 5 .nil) (.one _) [(0, 4)] 9999
  rw [if_neg c8] at H
  refine aw_ifT ?_ (nT (bF c8))
  refine aw_grp1 ?_
  refine wk_start ?_
  refine kv g0 (ldBA 5 [.lit (.int .i64 t1.1), .lit (.int .i64 t1.2.1), .row 2, .lit (.int .i64 t1.2.2.2.1), .lit (.int .i64 t1.2.2.2.2)]) ?_
  refine ks g0 (stB 5 [.lit (.int .i64 t1.1), .lit (.int .i64 t1.2.1), .row 2, .lit (.int .i64 t1.2.2.2.1), .lit (.int .i64 t1.2.2.2.2)]) ?_
  refine wk_end ?_
  refine ac_next ?_
  refine aw_ret ?_
  refine ac_thenR ?_
  obtain rfl := Option.some.inj H
  exact acr hE [.cell 4 78] (rcA 5 .nil) (.one _) [(0, 2)] 9999
 rw [if_neg c5] at H
 refine kx (hF (nT (bF c5))) ?_
 refine kx (hF (nT (bF c5))) ?_
 refine kx (hF (nT (bF c5))) ?_
 refine kx (hF (nT (bF c5))) ?_
 refine kx (hF (nT (bF c5))) ?_
 refine kx (hF (nT (bF c5))) ?_
 refine kx (hF (nT (bF c5))) ?_
 refine kx (hF (nT (bF c5))) ?_
 refine kx (hF (nT (bF c5))) ?_
 refine kx (hF (nT (bF c5))) ?_
 refine kx (hF (nT (bF c5))) ?_
 refine kx (hF (nT (bF c5))) ?_
 refine kv g0 (pkT (nT (bF c5))) ?_
 refine wk_end ?_
 refine ac_next ?_
 refine aw_ifT ?_ rfl
 refine aw_grp1 ?_
 refine wk_start ?_
 refine kv g0 (ldBA 5 [.lit (.int .i64 t1.1), .lit (.int .i64 t1.2.1), .row 2, .lit (.int .i64 t1.2.2.2.1), .lit (.int .i64 t1.2.2.2.2)]) ?_
 refine ks g0 (stB 5 [.lit (.int .i64 t1.1), .lit (.int .i64 t1.2.1), .row 2, .lit (.int .i64 t1.2.2.2.1), .lit (.int .i64 t1.2.2.2.2)]) ?_
 refine wk_end ?_
 refine ac_next ?_
 refine aw_ret ?_
 refine ac_thenR ?_
 obtain rfl := Option.some.inj H
 exact acr hE [.cell 4 78] (rcA 5 .nil) (.one _) [(0, 2)] 9999
/-! impl_SenderNew -/
def impl_SenderNew.f (a0 : Int) : Option (Int × Int × Int × Int) := some (a0, 1, 0, 1)
theorem impl_SenderNew.ok {a0 : Int} {r : Int × Int × Int × Int} (H : impl_SenderNew.f a0 = some r) : ACalls Try.prog 58 [] [.lit (.int .i64 a0)] [] (.agg [.lit (.int .i64 r.1), .lit (.int .i64 r.2.1), .lit (.slice none 0 0), .lit (.int .i64 r.2.2.1), .lit (.int .i64 r.2.2.2)]) := by
 refine acalls (fn := Try.f58) (nt := 5) Try.func58 rfl rfl (Nat.le_of_ble_eq_true rfl) fun E hE => ?_
 rw [impl_SenderNew.f] at H
 refine aw_grp1 ?_
 refine wk_start ?_
 refine kb g0 (alc 0 [.int .i64 0, .int .i64 0, .slice none 0 0, .int .i64 0, .int .i64 0] [.lit (.int .i64 0), .lit (.int .i64 0), .lit (.slice none 0 0), .lit (.int .i64 0), .lit (.int .i64 0)]) ?_
 refine wk_end ?_
 refine ac_next ?_
 refine aw_grp1 ?_
 refine wk_start ?_
 refine kv g0 (mv) ?_
 refine kv g0 (bld [(0, 1), (1, 1), (2, 1), (3, 1), (4, 1)] [.int .i64 0, .int .i64 0, .slice none 0 0, .int .i64 0, .int .i64 0] [.lit (.int .i64 a0), .lit (.int .i64 1), .lit (.slice none 0 0), .lit (.int .i64 0), .lit (.int .i64 1)]) ?_
 refine ks g0 (stB 5 [.lit (.int .i64 a0), .lit (.int .i64 1), .lit (.slice none 0 0), .lit (.int .i64 0), .lit (.int .i64 1)]) ?_
 refine wk_end ?_
 refine ac_next ?_
 refine aw_ret ?_
 obtain rfl := Option.some.inj H
 exact acr hE [.cell 2 78] (rcA 5 .nil) (.one _) [] 9999
/-! laws_FnSendersTold -/
def laws_FnSendersTold.l0 : Nat → (Int × Int × (List S43) × Int × Int × (List S43) × Int × Int × Int × Bool) → (Int × Int × (List S43) × Int × Int × (List S43) × Int × Int × Int × Bool) → (Int × Int × (List S43) × Int × Int × Bool) → (Int × Int × (List S43) × Int × Int × Bool) → (Int × Int × (List S43) × Int × Int × Int) → (Int × Int × (List S43) × Int × Int) → ((List S45)) → ((List S45)) → Int → Option (Bool)
 | 0, _, _, _, _, _, _, _, _, _ => none
 | k30 + 1, t6, t8, t12, t14, t16, t18, t20, t22, p29 => if p29 < (t20.length : Int) then if 0 ≤ p29 then (if p29 < (t22.length : Int) then if (((rd_T45 t20 p29).f0) == ((rd_T45 t22 p29).f0) && (((rd_T45 t20 p29).f1) == ((rd_T45 t22 p29).f1) && (((rd_T45 t20 p29).f2) == ((rd_T45 t22 p29).f2) && ((((rd_T45 t20 p29).f3.f0) == ((rd_T45 t22 p29).f3.f0) && (((rd_T45 t20 p29).f3.f1) == ((rd_T45 t22 p29).f3.f1) && (((rd_T45 t20 p29).f3.f2) == ((rd_T45 t22 p29).f3.f2) && (((rd_T45 t20 p29).f3.f3) == ((rd_T45 t22 p29).f3.f3))))))))) = true then laws_FnSendersTold.l0 k30 t6 t8 t12 t14 t16 t18 t20 t22 (wrap64 (p29 + 1)) else some false else none) else none else if t6.2.2.2.2.2.2.2.2.2 = t8.2.2.2.2.2.2.2.2.2 then ((laws_sameSender.f k30 t6.1 t6.2.1 t6.2.2.1 t6.2.2.2.1 t6.2.2.2.2.1 t8.1 t8.2.1 t8.2.2.1 t8.2.2.2.1 t8.2.2.2.2.1).bind fun t38 => (if t38 = true then ((laws_sameRing.f k30 t6.2.2.2.2.2.1 t6.2.2.2.2.2.2.1 t6.2.2.2.2.2.2.2.1 t6.2.2.2.2.2.2.2.2.1 t8.2.2.2.2.2.1 t8.2.2.2.2.2.2.1 t8.2.2.2.2.2.2.2.1 t8.2.2.2.2.2.2.2.2.1).bind fun t41 => (if t41 = true then (if t12.2.2.2.2.2 = t14.2.2.2.2.2 then ((laws_sameSender.f k30 t12.1 t12.2.1 t12.2.2.1 t12.2.2.2.1 t12.2.2.2.2.1 t14.1 t14.2.1 t14.2.2.1 t14.2.2.2.1 t14.2.2.2.2.1).bind fun t45 => (if t45 = true then ((impl_Acked.f k30 t16.1 t16.2.1 t16.2.2.1 t16.2.2.2.1 t16.2.2.2.2.1 t16.2.2.2.2.2).bind fun t48 => ((spec_Acked.f k30 t16.1 t16.2.1 t16.2.2.1 t16.2.2.2.1 t16.2.2.2.2.1 t16.2.2.2.2.2).bind fun t50 => ((laws_sameSender.f k30 t48.1 t48.2.1 t48.2.2.1 t48.2.2.2.1 t48.2.2.2.2 t50.1 t50.2.1 t50.2.2.1 t50.2.2.2.1 t50.2.2.2.2).bind fun t52 => (if t52 = true then ((impl_SenderOk.f k30 t18.1 t18.2.1 t18.2.2.1 t18.2.2.2.1 t18.2.2.2.2).bind fun t55 => ((spec_SenderOk.f k30 t18.1 t18.2.1 t18.2.2.1 t18.2.2.2.1 t18.2.2.2.2).bind fun t57 => (if t55 = t57 then ((impl_SenderNew.f 1).bind fun t60 => some (t60.2.1 == 1)) else some false))) else some false)))) else some false)) else some false) else some false)) else some false)) else some false
def laws_FnSendersTold.f (k : Nat) (l0 : List Int) : Option (Bool) := (laws_big.f l0).bind fun t1 => if t1 = true then some true else (spec_DrawTaken.f k l0).bind fun t4 => (impl_Taken.f k t4.1 t4.2.1 t4.2.2.1 t4.2.2.2.1 t4.2.2.2.2.1 t4.2.2.2.2.2.1 t4.2.2.2.2.2.2.1 t4.2.2.2.2.2.2.2.1 t4.2.2.2.2.2.2.2.2.1 t4.2.2.2.2.2.2.2.2.2).bind fun t6 => (spec_Taken.f k t4.1 t4.2.1 t4.2.2.1 t4.2.2.2.1 t4.2.2.2.2.1 t4.2.2.2.2.2.1 t4.2.2.2.2.2.2.1 t4.2.2.2.2.2.2.2.1 t4.2.2.2.2.2.2.2.2.1 t4.2.2.2.2.2.2.2.2.2).bind fun t8 => (spec_DrawAgain.f k l0).bind fun t10 => (impl_Again.f k t10.1 t10.2.1 t10.2.2.1 t10.2.2.2.1 t10.2.2.2.2.1 t10.2.2.2.2.2).bind fun t12 => (spec_Again.f k t10.1 t10.2.1 t10.2.2.1 t10.2.2.2.1 t10.2.2.2.2.1 t10.2.2.2.2.2).bind fun t14 => (spec_DrawAcked.f k l0).bind fun t16 => (spec_DrawSenderOk.f k l0).bind fun t18 => (impl_Says.f k t18.1 t18.2.1 t18.2.2.1 t18.2.2.2.1 t18.2.2.2.2).bind fun t20 => (spec_Says.f k t18.1 t18.2.1 t18.2.2.1 t18.2.2.2.1 t18.2.2.2.2).bind fun t22 => if (t20.length : Int) = (t22.length : Int) then laws_FnSendersTold.l0 k t6 t8 t12 t14 t16 t18 t20 t22 0 else some false
theorem laws_FnSendersTold.ok {k : Nat} {l0 : List Int} {r : Bool} (H : laws_FnSendersTold.f k l0 = some r) : ACalls Try.prog 8 [] [.sl .o 1 (l0.map (eI .u8))] [] (.lit (.bool r)) := by
 refine acalls (fn := Try.f8) (nt := 140) Try.func8 rfl rfl (Nat.le_of_ble_eq_true rfl) fun E hE => ?_
 rw [laws_FnSendersTold.f] at H
 refine aw_grp1 ?_
 refine wk_start ?_
 refine kv g0 (asg) ?_
 refine wk_end ?_
 refine ac_next ?_
 refine aw_grp1 ?_
 refine aw_grp1 ?_
 refine wk_start ?_
 refine kv g0 (mv) ?_
 obtain ⟨t1, A2, H⟩ := of_bind H
 refine kcS0 25 (.lit (.bool t1)) [] g0 (cal (laws_big.ok A2) [] 9999 .n (hf := Try.func16)) rfl rfl ?_
 refine wk_end ?_
 refine ac_next ?_
 by_cases c3 : t1 = true
 ·rw [if_pos c3] at H
  refine aw_ifT ?_ c3
  refine aw_grp1 ?_
  refine wk_start ?_
  refine kv g0 (asg) ?_
  refine wk_end ?_
  refine ac_next ?_
  refine aw_ret ?_
  refine ac_thenR ?_
  obtain rfl := Option.some.inj H
  exact acr hE [.tmp 2] (.tmp .nil) (.one _) [] 9999
 rw [if_neg c3] at H
 refine aw_ifF ?_ (bF c3)
 refine aw_skip ?_
 refine ac_next ?_
 refine aw_grp1 ?_
 refine wk_start ?_
 refine kv g0 (mv) ?_
 obtain ⟨t4, A5, H⟩ := of_bind H
 refine kcS2 28 (.tup [.agg [.lit (.int .i64 t4.1), .lit (.int .i64 t4.2.1), .row 0, .lit (.int .i64 t4.2.2.2.1), .lit (.int .i64 t4.2.2.2.2.1)], .agg [.row 1, .lit (.int .i64 t4.2.2.2.2.2.2.1), .lit (.int .i64 t4.2.2.2.2.2.2.2.1), .lit (.int .i64 t4.2.2.2.2.2.2.2.2.1)], .lit (.int .i64 t4.2.2.2.2.2.2.2.2.2)]) [(0, .row 43 4 (t4.2.2.1.map e43)), (1, .row 43 4 (t4.2.2.2.2.2.1.map e43))] g0 (cal (spec_DrawTaken.ok A5) [0, 1] 9999 .n (hf := Try.func47)) rfl rfl ?_
 refine kv g0 (mv) ?_
 refine kv g0 (ext) ?_
 refine kv g0 (ext) ?_
 refine kv g0 (ext) ?_
 refine kb g0 (alc 2 [.int .i64 0, .int .i64 0, .slice none 0 0, .int .i64 0, .int .i64 0] [.lit (.int .i64 0), .lit (.int .i64 0), .lit (.slice none 0 0), .lit (.int .i64 0), .lit (.int .i64 0)]) ?_
 refine kb g0 (alc 3 [.slice none 0 0, .int .i64 0, .int .i64 0, .int .i64 0] [.lit (.slice none 0 0), .lit (.int .i64 0), .lit (.int .i64 0), .lit (.int .i64 0)]) ?_
 refine ks g0 (stB 5 [.lit (.int .i64 t4.1), .lit (.int .i64 t4.2.1), .row 0, .lit (.int .i64 t4.2.2.2.1), .lit (.int .i64 t4.2.2.2.2.1)]) ?_
 refine ks g0 (stB 4 [.row 1, .lit (.int .i64 t4.2.2.2.2.2.2.1), .lit (.int .i64 t4.2.2.2.2.2.2.2.1), .lit (.int .i64 t4.2.2.2.2.2.2.2.2.1)]) ?_
 refine kv g0 (asg) ?_
 refine wk_end ?_
 refine ac_next ?_
 refine aw_grp1 ?_
 refine wk_start ?_
 refine kv g0 (ldBA 5 [.lit (.int .i64 t4.1), .lit (.int .i64 t4.2.1), .row 0, .lit (.int .i64 t4.2.2.2.1), .lit (.int .i64 t4.2.2.2.2.1)]) ?_
 refine kv g0 (ldBA 4 [.row 1, .lit (.int .i64 t4.2.2.2.2.2.2.1), .lit (.int .i64 t4.2.2.2.2.2.2.2.1), .lit (.int .i64 t4.2.2.2.2.2.2.2.2.1)]) ?_
 refine kv g0 (mv) ?_
 obtain ⟨t6, A7, H⟩ := of_bind H
 refine kcS2 36 (.tup [.agg [.lit (.int .i64 t6.1), .lit (.int .i64 t6.2.1), .row 4, .lit (.int .i64 t6.2.2.2.1), .lit (.int .i64 t6.2.2.2.2.1)], .agg [.row 5, .lit (.int .i64 t6.2.2.2.2.2.2.1), .lit (.int .i64 t6.2.2.2.2.2.2.2.1), .lit (.int .i64 t6.2.2.2.2.2.2.2.2.1)], .lit (.bool t6.2.2.2.2.2.2.2.2.2)]) [(4, .row 43 4 (t6.2.2.1.map e43)), (5, .row 43 4 (t6.2.2.2.2.2.1.map e43))] g0 (cal (impl_Taken.ok A7) [4, 5] 9999 .n (hf := Try.func48)) rfl rfl ?_
 refine kv g0 (mv) ?_
 refine kv g0 (ext) ?_
 refine kv g0 (ext) ?_
 refine kv g0 (ext) ?_
 refine kb g0 (alc 6 [.int .i64 0, .int .i64 0, .slice none 0 0, .int .i64 0, .int .i64 0] [.lit (.int .i64 0), .lit (.int .i64 0), .lit (.slice none 0 0), .lit (.int .i64 0), .lit (.int .i64 0)]) ?_
 refine kb g0 (alc 7 [.slice none 0 0, .int .i64 0, .int .i64 0, .int .i64 0] [.lit (.slice none 0 0), .lit (.int .i64 0), .lit (.int .i64 0), .lit (.int .i64 0)]) ?_
 refine ks g0 (stB 5 [.lit (.int .i64 t6.1), .lit (.int .i64 t6.2.1), .row 4, .lit (.int .i64 t6.2.2.2.1), .lit (.int .i64 t6.2.2.2.2.1)]) ?_
 refine ks g0 (stB 4 [.row 5, .lit (.int .i64 t6.2.2.2.2.2.2.1), .lit (.int .i64 t6.2.2.2.2.2.2.2.1), .lit (.int .i64 t6.2.2.2.2.2.2.2.2.1)]) ?_
 refine kv g0 (asg) ?_
 refine wk_end ?_
 refine ac_next ?_
 refine aw_grp1 ?_
 refine wk_start ?_
 refine kv g0 (ldBA 5 [.lit (.int .i64 t4.1), .lit (.int .i64 t4.2.1), .row 0, .lit (.int .i64 t4.2.2.2.1), .lit (.int .i64 t4.2.2.2.2.1)]) ?_
 refine kv g0 (ldBA 4 [.row 1, .lit (.int .i64 t4.2.2.2.2.2.2.1), .lit (.int .i64 t4.2.2.2.2.2.2.2.1), .lit (.int .i64 t4.2.2.2.2.2.2.2.2.1)]) ?_
 refine kv g0 (mv) ?_
 obtain ⟨t8, A9, H⟩ := of_bind H
 refine kcS2 44 (.tup [.agg [.lit (.int .i64 t8.1), .lit (.int .i64 t8.2.1), .row 8, .lit (.int .i64 t8.2.2.2.1), .lit (.int .i64 t8.2.2.2.2.1)], .agg [.row 9, .lit (.int .i64 t8.2.2.2.2.2.2.1), .lit (.int .i64 t8.2.2.2.2.2.2.2.1), .lit (.int .i64 t8.2.2.2.2.2.2.2.2.1)], .lit (.bool t8.2.2.2.2.2.2.2.2.2)]) [(8, .row 43 4 (t8.2.2.1.map e43)), (9, .row 43 4 (t8.2.2.2.2.2.1.map e43))] g0 (cal (spec_Taken.ok A9) [8, 9] 9999 .n (hf := Try.func49)) rfl rfl ?_
 refine kv g0 (mv) ?_
 refine kv g0 (ext) ?_
 refine kv g0 (ext) ?_
 refine kv g0 (ext) ?_
 refine kb g0 (alc 10 [.int .i64 0, .int .i64 0, .slice none 0 0, .int .i64 0, .int .i64 0] [.lit (.int .i64 0), .lit (.int .i64 0), .lit (.slice none 0 0), .lit (.int .i64 0), .lit (.int .i64 0)]) ?_
 refine kb g0 (alc 11 [.slice none 0 0, .int .i64 0, .int .i64 0, .int .i64 0] [.lit (.slice none 0 0), .lit (.int .i64 0), .lit (.int .i64 0), .lit (.int .i64 0)]) ?_
 refine ks g0 (stB 5 [.lit (.int .i64 t8.1), .lit (.int .i64 t8.2.1), .row 8, .lit (.int .i64 t8.2.2.2.1), .lit (.int .i64 t8.2.2.2.2.1)]) ?_
 refine ks g0 (stB 4 [.row 9, .lit (.int .i64 t8.2.2.2.2.2.2.1), .lit (.int .i64 t8.2.2.2.2.2.2.2.1), .lit (.int .i64 t8.2.2.2.2.2.2.2.2.1)]) ?_
 refine kv g0 (asg) ?_
 refine wk_end ?_
 refine ac_next ?_
 refine aw_grp1 ?_
 refine wk_start ?_
 refine kv g0 (mv) ?_
 obtain ⟨t10, A11, H⟩ := of_bind H
 refine kcS1 50 (.tup [.agg [.lit (.int .i64 t10.1), .lit (.int .i64 t10.2.1), .row 12, .lit (.int .i64 t10.2.2.2.1), .lit (.int .i64 t10.2.2.2.2.1)], .lit (.int .i64 t10.2.2.2.2.2)]) [(12, .row 43 4 (t10.2.2.1.map e43))] g0 (cal (spec_DrawAgain.ok A11) [12] 9999 .n (hf := Try.func50)) rfl rfl ?_
 refine kv g0 (mv) ?_
 refine kv g0 (ext) ?_
 refine kv g0 (ext) ?_
 refine kb g0 (alc 13 [.int .i64 0, .int .i64 0, .slice none 0 0, .int .i64 0, .int .i64 0] [.lit (.int .i64 0), .lit (.int .i64 0), .lit (.slice none 0 0), .lit (.int .i64 0), .lit (.int .i64 0)]) ?_
 refine ks g0 (stB 5 [.lit (.int .i64 t10.1), .lit (.int .i64 t10.2.1), .row 12, .lit (.int .i64 t10.2.2.2.1), .lit (.int .i64 t10.2.2.2.2.1)]) ?_
 refine kv g0 (asg) ?_
 refine wk_end ?_
 refine ac_next ?_
 refine aw_grp1 ?_
 refine wk_start ?_
 refine kv g0 (ldBA 5 [.lit (.int .i64 t10.1), .lit (.int .i64 t10.2.1), .row 12, .lit (.int .i64 t10.2.2.2.1), .lit (.int .i64 t10.2.2.2.2.1)]) ?_
 refine kv g0 (mv) ?_
 obtain ⟨t12, A13, H⟩ := of_bind H
 refine kcS1 56 (.tup [.agg [.lit (.int .i64 t12.1), .lit (.int .i64 t12.2.1), .row 14, .lit (.int .i64 t12.2.2.2.1), .lit (.int .i64 t12.2.2.2.2.1)], .lit (.bool t12.2.2.2.2.2)]) [(14, .row 43 4 (t12.2.2.1.map e43))] g0 (cal (impl_Again.ok A13) [14] 9999 .n (hf := Try.func44)) rfl rfl ?_
 refine kv g0 (mv) ?_
 refine kv g0 (ext) ?_
 refine kv g0 (ext) ?_
 refine kb g0 (alc 15 [.int .i64 0, .int .i64 0, .slice none 0 0, .int .i64 0, .int .i64 0] [.lit (.int .i64 0), .lit (.int .i64 0), .lit (.slice none 0 0), .lit (.int .i64 0), .lit (.int .i64 0)]) ?_
 refine ks g0 (stB 5 [.lit (.int .i64 t12.1), .lit (.int .i64 t12.2.1), .row 14, .lit (.int .i64 t12.2.2.2.1), .lit (.int .i64 t12.2.2.2.2.1)]) ?_
 refine kv g0 (asg) ?_
 refine wk_end ?_
 refine ac_next ?_
 refine aw_grp1 ?_
 refine wk_start ?_
 refine kv g0 (ldBA 5 [.lit (.int .i64 t10.1), .lit (.int .i64 t10.2.1), .row 12, .lit (.int .i64 t10.2.2.2.1), .lit (.int .i64 t10.2.2.2.2.1)]) ?_
 refine kv g0 (mv) ?_
 obtain ⟨t14, A15, H⟩ := of_bind H
 refine kcS1 62 (.tup [.agg [.lit (.int .i64 t14.1), .lit (.int .i64 t14.2.1), .row 16, .lit (.int .i64 t14.2.2.2.1), .lit (.int .i64 t14.2.2.2.2.1)], .lit (.bool t14.2.2.2.2.2)]) [(16, .row 43 4 (t14.2.2.1.map e43))] g0 (cal (spec_Again.ok A15) [16] 9999 .n (hf := Try.func51)) rfl rfl ?_
 refine kv g0 (mv) ?_
 refine kv g0 (ext) ?_
 refine kv g0 (ext) ?_
 refine kb g0 (alc 17 [.int .i64 0, .int .i64 0, .slice none 0 0, .int .i64 0, .int .i64 0] [.lit (.int .i64 0), .lit (.int .i64 0), .lit (.slice none 0 0), .lit (.int .i64 0), .lit (.int .i64 0)]) ?_
 refine ks g0 (stB 5 [.lit (.int .i64 t14.1), .lit (.int .i64 t14.2.1), .row 16, .lit (.int .i64 t14.2.2.2.1), .lit (.int .i64 t14.2.2.2.2.1)]) ?_
 refine kv g0 (asg) ?_
 refine wk_end ?_
 refine ac_next ?_
 refine aw_grp1 ?_
 refine wk_start ?_
 refine kv g0 (mv) ?_
 obtain ⟨t16, A17, H⟩ := of_bind H
 refine kcS1 67 (.tup [.agg [.lit (.int .i64 t16.1), .lit (.int .i64 t16.2.1), .row 18, .lit (.int .i64 t16.2.2.2.1), .lit (.int .i64 t16.2.2.2.2.1)], .lit (.int .i64 t16.2.2.2.2.2)]) [(18, .row 43 4 (t16.2.2.1.map e43))] g0 (cal (spec_DrawAcked.ok A17) [18] 9999 .n (hf := Try.func52)) rfl rfl ?_
 refine kv g0 (mv) ?_
 refine kv g0 (ext) ?_
 refine kv g0 (ext) ?_
 refine kb g0 (alc 19 [.int .i64 0, .int .i64 0, .slice none 0 0, .int .i64 0, .int .i64 0] [.lit (.int .i64 0), .lit (.int .i64 0), .lit (.slice none 0 0), .lit (.int .i64 0), .lit (.int .i64 0)]) ?_
 refine ks g0 (stB 5 [.lit (.int .i64 t16.1), .lit (.int .i64 t16.2.1), .row 18, .lit (.int .i64 t16.2.2.2.1), .lit (.int .i64 t16.2.2.2.2.1)]) ?_
 refine kv g0 (asg) ?_
 refine wk_end ?_
 refine ac_next ?_
 refine aw_grp1 ?_
 refine wk_start ?_
 refine kv g0 (mv) ?_
 obtain ⟨t18, A19, H⟩ := of_bind H
 refine kcS1 71 (.agg [.lit (.int .i64 t18.1), .lit (.int .i64 t18.2.1), .row 20, .lit (.int .i64 t18.2.2.2.1), .lit (.int .i64 t18.2.2.2.2)]) [(20, .row 43 4 (t18.2.2.1.map e43))] g0 (cal (spec_DrawSenderOk.ok A19) [20] 9999 .n (hf := Try.func53)) rfl rfl ?_
 refine kb g0 (alc 21 [.int .i64 0, .int .i64 0, .slice none 0 0, .int .i64 0, .int .i64 0] [.lit (.int .i64 0), .lit (.int .i64 0), .lit (.slice none 0 0), .lit (.int .i64 0), .lit (.int .i64 0)]) ?_
 refine ks g0 (stB 5 [.lit (.int .i64 t18.1), .lit (.int .i64 t18.2.1), .row 20, .lit (.int .i64 t18.2.2.2.1), .lit (.int .i64 t18.2.2.2.2)]) ?_
 refine wk_end ?_
 refine ac_next ?_
 refine aw_grp1 ?_
 refine wk_start ?_
 refine kv g0 (ldBA 5 [.lit (.int .i64 t18.1), .lit (.int .i64 t18.2.1), .row 20, .lit (.int .i64 t18.2.2.2.1), .lit (.int .i64 t18.2.2.2.2)]) ?_
 obtain ⟨t20, A21, H⟩ := of_bind H
 refine kcS1 73 (.row 22) [(22, .row 45 7 (t20.map e45))] g0 (cal (impl_Says.ok A21) [22] 9999 .n (hf := Try.func42)) rfl rfl ?_
 refine kv g0 (asg) ?_
 refine wk_end ?_
 refine ac_next ?_
 refine aw_grp1 ?_
 refine wk_start ?_
 refine kv g0 (ldBA 5 [.lit (.int .i64 t18.1), .lit (.int .i64 t18.2.1), .row 20, .lit (.int .i64 t18.2.2.2.1), .lit (.int .i64 t18.2.2.2.2)]) ?_
 obtain ⟨t22, A23, H⟩ := of_bind H
 refine kcS1 75 (.row 23) [(23, .row 45 7 (t22.map e45))] g0 (cal (spec_Says.ok A23) [23] 9999 .n (hf := Try.func54)) rfl rfl ?_
 refine kv g0 (asg) ?_
 refine wk_end ?_
 refine ac_next ?_
 refine aw_grp1 ?_
 refine aw_grp1 ?_
 refine wk_start ?_
 refine kv g0 (mv) ?_
 refine kv g0 (lnR lenE) ?_
 refine kv g0 (mv) ?_
 refine kv g0 (lnR lenE) ?_
 refine kv g0 (neq) ?_
 refine wk_end ?_
 refine ac_next ?_
 by_cases c24 : (t20.length : Int) = (t22.length : Int)
 ·rw [if_pos c24] at H
  refine aw_ifF ?_ (eM c24)
  refine aw_skip ?_
  refine ac_next ?_
  refine aw_grp1 ?_
  refine aw_grp1 ?_
  refine wk_start ?_
  refine kv g0 (asg) ?_
  refine wk_end ?_
  refine ac_next ?_
  refine aw_block ?_
  refine aw_loop1 (fun (k_ : Nat) (p29 : Int) => k_ ≤ k ∧ laws_FnSendersTold.l0 k_ t6 t8 t12 t14 t16 t18 t20 t22 p29 = some r) (fun (p29 : Int) => ⟨[(6, .box 6 0), (7, .box 7 0), (8, .lit (.bool t6.2.2.2.2.2.2.2.2.2)), (9, .box 10 0), (10, .box 11 0), (11, .lit (.bool t8.2.2.2.2.2.2.2.2.2)), (14, .box 15 0), (15, .lit (.bool t12.2.2.2.2.2)), (16, .box 17 0), (17, .lit (.bool t14.2.2.2.2.2)), (18, .box 19 0), (19, .lit (.int .i64 t16.2.2.2.2.2)), (20, .box 21 0), (21, .row 22), (22, .row 23), (23, .lit (.int .i64 p29))], [(4, .row 43 4 (t6.2.2.1.map e43)), (5, .row 43 4 (t6.2.2.2.2.2.1.map e43)), (6, .box 78 [.lit (.int .i64 t6.1), .lit (.int .i64 t6.2.1), .row 4, .lit (.int .i64 t6.2.2.2.1), .lit (.int .i64 t6.2.2.2.2.1)]), (7, .box 88 [.row 5, .lit (.int .i64 t6.2.2.2.2.2.2.1), .lit (.int .i64 t6.2.2.2.2.2.2.2.1), .lit (.int .i64 t6.2.2.2.2.2.2.2.2.1)]), (8, .row 43 4 (t8.2.2.1.map e43)), (9, .row 43 4 (t8.2.2.2.2.2.1.map e43)), (10, .box 78 [.lit (.int .i64 t8.1), .lit (.int .i64 t8.2.1), .row 8, .lit (.int .i64 t8.2.2.2.1), .lit (.int .i64 t8.2.2.2.2.1)]), (11, .box 88 [.row 9, .lit (.int .i64 t8.2.2.2.2.2.2.1), .lit (.int .i64 t8.2.2.2.2.2.2.2.1), .lit (.int .i64 t8.2.2.2.2.2.2.2.2.1)]), (14, .row 43 4 (t12.2.2.1.map e43)), (15, .box 78 [.lit (.int .i64 t12.1), .lit (.int .i64 t12.2.1), .row 14, .lit (.int .i64 t12.2.2.2.1), .lit (.int .i64 t12.2.2.2.2.1)]), (16, .row 43 4 (t14.2.2.1.map e43)), (17, .box 78 [.lit (.int .i64 t14.1), .lit (.int .i64 t14.2.1), .row 16, .lit (.int .i64 t14.2.2.2.1), .lit (.int .i64 t14.2.2.2.2.1)]), (18, .row 43 4 (t16.2.2.1.map e43)), (19, .box 78 [.lit (.int .i64 t16.1), .lit (.int .i64 t16.2.1), .row 18, .lit (.int .i64 t16.2.2.2.1), .lit (.int .i64 t16.2.2.2.2.1)]), (20, .row 43 4 (t18.2.2.1.map e43)), (21, .box 78 [.lit (.int .i64 t18.1), .lit (.int .i64 t18.2.1), .row 20, .lit (.int .i64 t18.2.2.2.1), .lit (.int .i64 t18.2.2.2.2)]), (22, .row 45 7 (t20.map e45)), (23, .row 45 7 (t22.map e45))]⟩) k 0 ⟨Nat.le_refl _, H⟩ (fun K_ h_ => acw hE [(4, 4), (5, 5), (6, 6), (7, 7), (8, 8), (9, 9), (10, 10), (11, 11), (14, 14), (15, 15), (16, 16), (17, 17), (18, 18), (19, 19), (20, 20), (21, 21), (22, 22), (23, 23)] 9999 h_) (fun _ => by intro h_; have h_ := h_.2; rw [laws_FnSendersTold.l0.eq_1] at h_; cases h_) ?_
  intro k30 p29 hq_ K35 hK36
  have hk30 := hq_.1
  have H := hq_.2
  clear hq_
  rw [laws_FnSendersTold.l0.eq_2] at H
  refine aw_grp1 ?_
  refine aw_grp1 ?_
  refine wk_start ?_
  refine kv g0 (mv) ?_
  refine kv g0 (mv) ?_
  refine kv g0 (lnR lenE) ?_
  refine kv g0 (lss) ?_
  refine wk_end ?_
  refine ac_next ?_
  by_cases c31 : p29 < (t20.length : Int)
  ·rw [if_pos c31] at H
   refine aw_ifT ?_ (decide_eq_true c31)
   refine aw_skip ?_
   refine ac_next ?_
   refine aw_grp1 ?_
   refine aw_block ?_
   refine aw_grp1 ?_
   refine wk_start ?_
   refine kv g0 (mv) ?_
   refine kv g0 (mv) ?_
   obtain ⟨c32, H⟩ := of_if H
   refine kv g0 (ixR 45 c32 (ltE c31)) ?_
   refine kv g0 (ldEA 7 (e45 (rd_T45 t20 p29)) [.lit (.int .i64 ((rd_T45 t20 p29).f0)), .lit (.int .i64 ((rd_T45 t20 p29).f1)), .lit (.int .i64 ((rd_T45 t20 p29).f2)), .lit (.int .i64 ((rd_T45 t20 p29).f3.f0)), .lit (.int .i64 ((rd_T45 t20 p29).f3.f1)), .lit (.int .i64 ((rd_T45 t20 p29).f3.f2)), .lit (.int .i64 ((rd_T45 t20 p29).f3.f3))] (getE (z := z45) c32 c31)) ?_
   refine kv g0 (mv) ?_
   refine kv g0 (mv) ?_
   obtain ⟨c33, H⟩ := of_if H
   refine kv g0 (ixR 45 c32 (ltE c33)) ?_
   refine kv g0 (ldEA 7 (e45 (rd_T45 t22 p29)) [.lit (.int .i64 ((rd_T45 t22 p29).f0)), .lit (.int .i64 ((rd_T45 t22 p29).f1)), .lit (.int .i64 ((rd_T45 t22 p29).f2)), .lit (.int .i64 ((rd_T45 t22 p29).f3.f0)), .lit (.int .i64 ((rd_T45 t22 p29).f3.f1)), .lit (.int .i64 ((rd_T45 t22 p29).f3.f2)), .lit (.int .i64 ((rd_T45 t22 p29).f3.f3))] (getE (z := z45) c32 c33)) ?_
   refine kv g0 (neS (fun w => eq45 _ w ((rd_T45 t20 p29).f0) ((rd_T45 t20 p29).f1) ((rd_T45 t20 p29).f2) ((rd_T45 t20 p29).f3.f0) ((rd_T45 t20 p29).f3.f1) ((rd_T45 t20 p29).f3.f2) ((rd_T45 t20 p29).f3.f3) ((rd_T45 t22 p29).f0) ((rd_T45 t22 p29).f1) ((rd_T45 t22 p29).f2) ((rd_T45 t22 p29).f3.f0) ((rd_T45 t22 p29).f3.f1) ((rd_T45 t22 p29).f3.f2) ((rd_T45 t22 p29).f3.f3))) ?_
   refine wk_end_draw hM (by kernel_rfl) ?_
   refine ac_next ?_
   by_cases c34 : (((rd_T45 t20 p29).f0) == ((rd_T45 t22 p29).f0) && (((rd_T45 t20 p29).f1) == ((rd_T45 t22 p29).f1) && (((rd_T45 t20 p29).f2) == ((rd_T45 t22 p29).f2) && ((((rd_T45 t20 p29).f3.f0) == ((rd_T45 t22 p29).f3.f0) && (((rd_T45 t20 p29).f3.f1) == ((rd_T45 t22 p29).f3.f1) && (((rd_T45 t20 p29).f3.f2) == ((rd_T45 t22 p29).f3.f2) && (((rd_T45 t20 p29).f3.f3) == ((rd_T45 t22 p29).f3.f3))))))))) = true
   ·rw [if_pos c34] at H
    refine aw_ifF ?_ (nF c34)
    refine aw_skip ?_
    refine ac_blkN ?_
    refine ac_next ?_
    refine wk_start ?_
    refine kv g0 (mv) ?_
    refine kv g0 (add6) ?_
    refine kv g0 (asg) ?_
    refine wk_end ?_
    refine ac_k ?_
    exact acw hE [(4, 4), (5, 5), (6, 6), (7, 7), (8, 8), (9, 9), (10, 10), (11, 11), (14, 14), (15, 15), (16, 16), (17, 17), (18, 18), (19, 19), (20, 20), (21, 21), (22, 22), (23, 23)] 9999 (hK36 k30 (wrap64 (p29 + 1)) (Nat.le_refl _) ⟨by omega, H⟩)
   rw [if_neg c34] at H
   refine aw_ifT ?_ (nT (bF c34))
   refine aw_grp1 ?_
   refine wk_start ?_
   refine kv g0 (asg) ?_
   refine wk_end ?_
   refine ac_next ?_
   refine aw_ret ?_
   refine ac_blkR ?_
   refine ac_thenR ?_
   refine ac_thenR ?_
   refine ac_blkR ?_
   refine ac_thenR ?_
   obtain rfl := Option.some.inj H
   exact acr hE [.tmp 2] (.tmp .nil) (.one _) [] 9999
  rw [if_neg c31] at H
  refine aw_ifF ?_ (decide_eq_false c31)
  refine aw_exit ?_
  refine ac_then ?_
  refine ac_then ?_
  refine ac_hit rfl ?_
  refine ac_next ?_
  refine aw_grp1 ?_
  refine wk_start ?_
  refine kv g0 (mv) ?_
  refine kv g0 (mv) ?_
  refine kv g0 (beq) ?_
  refine kv g0 (mv) ?_
  by_cases c37 : t6.2.2.2.2.2.2.2.2.2 = t8.2.2.2.2.2.2.2.2.2
  ·rw [if_pos c37] at H
   refine kv (g1 (eTb c37)) (ldBA 5 [.lit (.int .i64 t6.1), .lit (.int .i64 t6.2.1), .row 4, .lit (.int .i64 t6.2.2.2.1), .lit (.int .i64 t6.2.2.2.2.1)]) ?_
   refine kv (g1 (eTb c37)) (ldBA 5 [.lit (.int .i64 t8.1), .lit (.int .i64 t8.2.1), .row 8, .lit (.int .i64 t8.2.2.2.1), .lit (.int .i64 t8.2.2.2.2.1)]) ?_
   obtain ⟨t38, A39, H⟩ := of_bind H
   refine kcS0 102 (.lit (.bool t38)) [] (g1 (eTb c37)) (cal (laws_sameSender.ok A39) [] 9999 .n (hf := Try.func45)) rfl rfl ?_
   refine kv g0 (pkT (eTb c37)) ?_
   refine kv g0 (mv) ?_
   by_cases c40 : t38 = true
   ·rw [if_pos c40] at H
    refine kv (g1 c40) (ldBA 4 [.row 5, .lit (.int .i64 t6.2.2.2.2.2.2.1), .lit (.int .i64 t6.2.2.2.2.2.2.2.1), .lit (.int .i64 t6.2.2.2.2.2.2.2.2.1)]) ?_
    refine kv (g1 c40) (ldBA 4 [.row 9, .lit (.int .i64 t8.2.2.2.2.2.2.1), .lit (.int .i64 t8.2.2.2.2.2.2.2.1), .lit (.int .i64 t8.2.2.2.2.2.2.2.2.1)]) ?_
    obtain ⟨t41, A42, H⟩ := of_bind H
    refine kcS0 107 (.lit (.bool t41)) [] (g1 c40) (cal (laws_sameRing.ok A42) [] 9999 .n (hf := Try.func55)) rfl rfl ?_
    refine kv g0 (pkT c40) ?_
    refine kv g0 (mv) ?_
    by_cases c43 : t41 = true
    ·rw [if_pos c43] at H
     refine kv (g1 c43) (mv) ?_
     refine kv (g1 c43) (mv) ?_
     refine kv (g1 c43) (beq) ?_
     refine kv g0 (pkT c43) ?_
     refine kv g0 (mv) ?_
     by_cases c44 : t12.2.2.2.2.2 = t14.2.2.2.2.2
     ·rw [if_pos c44] at H
      refine kv (g1 (eTb c44)) (ldBA 5 [.lit (.int .i64 t12.1), .lit (.int .i64 t12.2.1), .row 14, .lit (.int .i64 t12.2.2.2.1), .lit (.int .i64 t12.2.2.2.2.1)]) ?_
      refine kv (g1 (eTb c44)) (ldBA 5 [.lit (.int .i64 t14.1), .lit (.int .i64 t14.2.1), .row 16, .lit (.int .i64 t14.2.2.2.1), .lit (.int .i64 t14.2.2.2.2.1)]) ?_
      obtain ⟨t45, A46, H⟩ := of_bind H
      refine kcS0 117 (.lit (.bool t45)) [] (g1 (eTb c44)) (cal (laws_sameSender.ok A46) [] 9999 .n (hf := Try.func45)) rfl rfl ?_
      refine kv g0 (pkT (eTb c44)) ?_
      refine kv g0 (mv) ?_
      by_cases c47 : t45 = true
      ·rw [if_pos c47] at H
       refine kv (g1 c47) (ldBA 5 [.lit (.int .i64 t16.1), .lit (.int .i64 t16.2.1), .row 18, .lit (.int .i64 t16.2.2.2.1), .lit (.int .i64 t16.2.2.2.2.1)]) ?_
       refine kv (g1 c47) (mv) ?_
       obtain ⟨t48, A49, H⟩ := of_bind H
       refine kcS1 122 (.agg [.lit (.int .i64 t48.1), .lit (.int .i64 t48.2.1), .row 24, .lit (.int .i64 t48.2.2.2.1), .lit (.int .i64 t48.2.2.2.2)]) [(24, .row 43 4 (t48.2.2.1.map e43))] (g1 c47) (cal (impl_Acked.ok A49) [24] 9999 .n (hf := Try.func43)) rfl rfl ?_
       refine kv (g1 c47) (ldBA 5 [.lit (.int .i64 t16.1), .lit (.int .i64 t16.2.1), .row 18, .lit (.int .i64 t16.2.2.2.1), .lit (.int .i64 t16.2.2.2.2.1)]) ?_
       refine kv (g1 c47) (mv) ?_
       obtain ⟨t50, A51, H⟩ := of_bind H
       refine kcS1 125 (.agg [.lit (.int .i64 t50.1), .lit (.int .i64 t50.2.1), .row 25, .lit (.int .i64 t50.2.2.2.1), .lit (.int .i64 t50.2.2.2.2)]) [(25, .row 43 4 (t50.2.2.1.map e43))] (g1 c47) (cal (spec_Acked.ok A51) [25] 9999 .n (hf := Try.func56)) rfl rfl ?_
       obtain ⟨t52, A53, H⟩ := of_bind H
       refine kcS0 126 (.lit (.bool t52)) [] (g1 c47) (cal (laws_sameSender.ok A53) [] 9999 .n (hf := Try.func45)) rfl rfl ?_
       refine kv g0 (pkT c47) ?_
       refine kv g0 (mv) ?_
       by_cases c54 : t52 = true
       ·rw [if_pos c54] at H
        refine kv (g1 c54) (ldBA 5 [.lit (.int .i64 t18.1), .lit (.int .i64 t18.2.1), .row 20, .lit (.int .i64 t18.2.2.2.1), .lit (.int .i64 t18.2.2.2.2)]) ?_
        obtain ⟨t55, A56, H⟩ := of_bind H
        refine kcS0 130 (.lit (.bool t55)) [] (g1 c54) (cal (impl_SenderOk.ok A56) [] 9999 .n (hf := Try.func46)) rfl rfl ?_
        refine kv (g1 c54) (ldBA 5 [.lit (.int .i64 t18.1), .lit (.int .i64 t18.2.1), .row 20, .lit (.int .i64 t18.2.2.2.1), .lit (.int .i64 t18.2.2.2.2)]) ?_
        obtain ⟨t57, A58, H⟩ := of_bind H
        refine kcS0 132 (.lit (.bool t57)) [] (g1 c54) (cal (spec_SenderOk.ok A58) [] 9999 .n (hf := Try.func57)) rfl rfl ?_
        refine kv (g1 c54) (beq) ?_
        refine kv g0 (pkT c54) ?_
        refine kv g0 (mv) ?_
        by_cases c59 : t55 = t57
        ·rw [if_pos c59] at H
         obtain ⟨t60, A61, H⟩ := of_bind H
         refine kcS0 136 (.agg [.lit (.int .i64 t60.1), .lit (.int .i64 t60.2.1), .lit (.slice none 0 0), .lit (.int .i64 t60.2.2.1), .lit (.int .i64 t60.2.2.2)]) [] (g1 (eTb c59)) (cal (impl_SenderNew.ok A61) [] 9999 .n (hf := Try.func58)) rfl rfl ?_
         refine kv (g1 (eTb c59)) (fld 1) ?_
         refine kv (g1 (eTb c59)) (eql) ?_
         refine kv g0 (pkT (eTb c59)) ?_
         refine kv g0 (asg) ?_
         refine wk_end_draw hM (by kernel_rfl) ?_
         refine ac_next ?_
         refine aw_ret ?_
         obtain rfl := Option.some.inj H
         exact acr hE [.tmp 2] (.tmp .nil) (.one _) [] 9999
        rw [if_neg c59] at H
        refine kx (hT (eFb c59)) ?_
        refine kx (hT (eFb c59)) ?_
        refine kx (hT (eFb c59)) ?_
        refine kv g0 (pkF (eFb c59)) ?_
        refine kv g0 (asg) ?_
        refine wk_end_draw hM (by kernel_rfl) ?_
        refine ac_next ?_
        refine aw_ret ?_
        obtain rfl := Option.some.inj H
        exact acr hE [.tmp 2] (.tmp .nil) (.one _) [] 9999
       rw [if_neg c54] at H
       refine kx (hT (bF c54)) ?_
       refine kx (hT (bF c54)) ?_
       refine kx (hT (bF c54)) ?_
       refine kx (hT (bF c54)) ?_
       refine kx (hT (bF c54)) ?_
       refine kv g0 (pkF (bF c54)) ?_
       refine kv g0 (mv) ?_
       refine kx (hT rfl) ?_
       refine kx (hT rfl) ?_
       refine kx (hT rfl) ?_
       refine kv g0 (pkF rfl) ?_
       refine kv g0 (asg) ?_
       refine wk_end_draw hM (by kernel_rfl) ?_
       refine ac_next ?_
       refine aw_ret ?_
       obtain rfl := Option.some.inj H
       exact acr hE [.tmp 2] (.tmp .nil) (.one _) [] 9999
      rw [if_neg c47] at H
      refine kx (hT (bF c47)) ?_
      refine kx (hT (bF c47)) ?_
      refine kx (hT (bF c47)) ?_
      refine kx (hT (bF c47)) ?_
      refine kx (hT (bF c47)) ?_
      refine kx (hT (bF c47)) ?_
      refine kx (hT (bF c47)) ?_
      refine kv g0 (pkF (bF c47)) ?_
      refine kv g0 (mv) ?_
      refine kx (hT rfl) ?_
      refine kx (hT rfl) ?_
      refine kx (hT rfl) ?_
      refine kx (hT rfl) ?_
      refine kx (hT rfl) ?_
      refine kv g0 (pkF rfl) ?_
      refine kv g0 (mv) ?_
      refine kx (hT rfl) ?_
      refine kx (hT rfl) ?_
      refine kx (hT rfl) ?_
      refine kv g0 (pkF rfl) ?_
      refine kv g0 (asg) ?_
      refine wk_end_draw hM (by kernel_rfl) ?_
      refine ac_next ?_
      refine aw_ret ?_
      obtain rfl := Option.some.inj H
      exact acr hE [.tmp 2] (.tmp .nil) (.one _) [] 9999
     rw [if_neg c44] at H
     refine kx (hT (eFb c44)) ?_
     refine kx (hT (eFb c44)) ?_
     refine kx (hT (eFb c44)) ?_
     refine kv g0 (pkF (eFb c44)) ?_
     refine kv g0 (mv) ?_
     refine kx (hT rfl) ?_
     refine kx (hT rfl) ?_
     refine kx (hT rfl) ?_
     refine kx (hT rfl) ?_
     refine kx (hT rfl) ?_
     refine kx (hT rfl) ?_
     refine kx (hT rfl) ?_
     refine kv g0 (pkF rfl) ?_
     refine kv g0 (mv) ?_
     refine kx (hT rfl) ?_
     refine kx (hT rfl) ?_
     refine kx (hT rfl) ?_
     refine kx (hT rfl) ?_
     refine kx (hT rfl) ?_
     refine kv g0 (pkF rfl) ?_
     refine kv g0 (mv) ?_
     refine kx (hT rfl) ?_
     refine kx (hT rfl) ?_
     refine kx (hT rfl) ?_
     refine kv g0 (pkF rfl) ?_
     refine kv g0 (asg) ?_
     refine wk_end_draw hM (by kernel_rfl) ?_
     refine ac_next ?_
     refine aw_ret ?_
     obtain rfl := Option.some.inj H
     exact acr hE [.tmp 2] (.tmp .nil) (.one _) [] 9999
    rw [if_neg c43] at H
    refine kx (hT (bF c43)) ?_
    refine kx (hT (bF c43)) ?_
    refine kx (hT (bF c43)) ?_
    refine kv g0 (pkF (bF c43)) ?_
    refine kv g0 (mv) ?_
    refine kx (hT rfl) ?_
    refine kx (hT rfl) ?_
    refine kx (hT rfl) ?_
    refine kv g0 (pkF rfl) ?_
    refine kv g0 (mv) ?_
    refine kx (hT rfl) ?_
    refine kx (hT rfl) ?_
    refine kx (hT rfl) ?_
    refine kx (hT rfl) ?_
    refine kx (hT rfl) ?_
    refine kx (hT rfl) ?_
    refine kx (hT rfl) ?_
    refine kv g0 (pkF rfl) ?_
    refine kv g0 (mv) ?_
    refine kx (hT rfl) ?_
    refine kx (hT rfl) ?_
    refine kx (hT rfl) ?_
    refine kx (hT rfl) ?_
    refine kx (hT rfl) ?_
    refine kv g0 (pkF rfl) ?_
    refine kv g0 (mv) ?_
    refine kx (hT rfl) ?_
    refine kx (hT rfl) ?_
    refine kx (hT rfl) ?_
    refine kv g0 (pkF rfl) ?_
    refine kv g0 (asg) ?_
    refine wk_end_draw hM (by kernel_rfl) ?_
    refine ac_next ?_
    refine aw_ret ?_
    obtain rfl := Option.some.inj H
    exact acr hE [.tmp 2] (.tmp .nil) (.one _) [] 9999
   rw [if_neg c40] at H
   refine kx (hT (bF c40)) ?_
   refine kx (hT (bF c40)) ?_
   refine kx (hT (bF c40)) ?_
   refine kv g0 (pkF (bF c40)) ?_
   refine kv g0 (mv) ?_
   refine kx (hT rfl) ?_
   refine kx (hT rfl) ?_
   refine kx (hT rfl) ?_
   refine kv g0 (pkF rfl) ?_
   refine kv g0 (mv) ?_
   refine kx (hT rfl) ?_
   refine kx (hT rfl) ?_
   refine kx (hT rfl) ?_
   refine kv g0 (pkF rfl) ?_
   refine kv g0 (mv) ?_
   refine kx (hT rfl) ?_
   refine kx (hT rfl) ?_
   refine kx (hT rfl) ?_
   refine kx (hT rfl) ?_
   refine kx (hT rfl) ?_
   refine kx (hT rfl) ?_
   refine kx (hT rfl) ?_
   refine kv g0 (pkF rfl) ?_
   refine kv g0 (mv) ?_
   refine kx (hT rfl) ?_
   refine kx (hT rfl) ?_
   refine kx (hT rfl) ?_
   refine kx (hT rfl) ?_
   refine kx (hT rfl) ?_
   refine kv g0 (pkF rfl) ?_
   refine kv g0 (mv) ?_
   refine kx (hT rfl) ?_
   refine kx (hT rfl) ?_
   refine kx (hT rfl) ?_
   refine kv g0 (pkF rfl) ?_
   refine kv g0 (asg) ?_
   refine wk_end_draw hM (by kernel_rfl) ?_
   refine ac_next ?_
   refine aw_ret ?_
   obtain rfl := Option.some.inj H
   exact acr hE [.tmp 2] (.tmp .nil) (.one _) [] 9999
  rw [if_neg c37] at H
  refine kx (hT (eFb c37)) ?_
  refine kx (hT (eFb c37)) ?_
  refine kx (hT (eFb c37)) ?_
  refine kv g0 (pkF (eFb c37)) ?_
  refine kv g0 (mv) ?_
  refine kx (hT rfl) ?_
  refine kx (hT rfl) ?_
  refine kx (hT rfl) ?_
  refine kv g0 (pkF rfl) ?_
  refine kv g0 (mv) ?_
  refine kx (hT rfl) ?_
  refine kx (hT rfl) ?_
  refine kx (hT rfl) ?_
  refine kv g0 (pkF rfl) ?_
  refine kv g0 (mv) ?_
  refine kx (hT rfl) ?_
  refine kx (hT rfl) ?_
  refine kx (hT rfl) ?_
  refine kv g0 (pkF rfl) ?_
  refine kv g0 (mv) ?_
  refine kx (hT rfl) ?_
  refine kx (hT rfl) ?_
  refine kx (hT rfl) ?_
  refine kx (hT rfl) ?_
  refine kx (hT rfl) ?_
  refine kx (hT rfl) ?_
  refine kx (hT rfl) ?_
  refine kv g0 (pkF rfl) ?_
  refine kv g0 (mv) ?_
  refine kx (hT rfl) ?_
  refine kx (hT rfl) ?_
  refine kx (hT rfl) ?_
  refine kx (hT rfl) ?_
  refine kx (hT rfl) ?_
  refine kv g0 (pkF rfl) ?_
  refine kv g0 (mv) ?_
  refine kx (hT rfl) ?_
  refine kx (hT rfl) ?_
  refine kx (hT rfl) ?_
  refine kv g0 (pkF rfl) ?_
  refine kv g0 (asg) ?_
  refine wk_end_draw hM (by kernel_rfl) ?_
  refine ac_next ?_
  refine aw_ret ?_
  obtain rfl := Option.some.inj H
  exact acr hE [.tmp 2] (.tmp .nil) (.one _) [] 9999
 rw [if_neg c24] at H
 refine aw_ifT ?_ (eN c24)
 refine aw_grp1 ?_
 refine wk_start ?_
 refine kv g0 (asg) ?_
 refine wk_end ?_
 refine ac_next ?_
 refine aw_ret ?_
 refine ac_thenR ?_
 obtain rfl := Option.some.inj H
 exact acr hE [.tmp 2] (.tmp .nil) (.one _) [] 9999
end Go.Proofs.Ytbapmfjdnnajiaa.PFnSendersTold
