import Derived.Test.YtfeaemlakniijaaPFnKeepsToldx1
set_option linter.unusedVariables false
set_option linter.unusedSimpArgs false
set_option maxRecDepth 100000
namespace Go.Proofs.Ytfeaemlakniijaa.PFnKeepsTold
open Go Go.RowKit Go.Proofs.YtfeaemlakniijaaA
/-! spec_DrawKept -/
def spec_DrawKept.j0 : Nat → (Int × Int × Int × Int × Int × Int × Int × (List Int) × Int × Int) → ((List S98) × (List Int) × (List S97) × Int × (List Int) × (List Int) × Int × Int) → Int → Option ((List S98) × (List Int) × (List S97) × Int × (List Int) × Int × Int × Int × Int × Int × Int × Int)
 | 0, _, _, _ => none
 | k18 + 1, t7, t9, p17 => some (t9.1, t9.2.1, t9.2.2.1, t9.2.2.2.1, t9.2.2.2.2.1, t7.1, t7.2.1, p17, t7.2.2.2.1, t7.2.2.2.2.1, t7.2.2.2.2.2.1, t7.2.2.2.2.2.2.1)
def spec_DrawKept.f (k : Nat) (l0 : List Int) : Option ((List S98) × (List Int) × (List S97) × Int × (List Int) × Int × Int × Int × Int × Int × Int × Int) := (spec_l01New.f k l0).bind fun t1 => (spec_l01Below.f t1.1 t1.2.1 t1.2.2 4).bind fun t3 => (spec_l01PickInt.f t3.2.1 t3.2.2.1 t3.2.2.2 ([0, 0, 1, 2, 3, 4, (-1)] : List Int)).bind fun t5 => (spec_l17Any.f k t5.2.1 t5.2.2.1 t5.2.2.2).bind fun t7 => (spec_l20Any.f k t7.2.2.2.2.2.2.2.1 t7.2.2.2.2.2.2.2.2.1 t7.2.2.2.2.2.2.2.2.2).bind fun t9 => if t3.1 > 0 then ((spec_l01In.f t7.2.1 0 (wrap64 ((t9.2.1.length : Int) - 1))).bind fun t12 => if t12 = true then (if 0 ≤ t7.2.1 then (if t7.2.1 < (t9.2.1.length : Int) then spec_DrawKept.j0 k t7 t9 (wrap64 ((rd t9.2.1 t7.2.1) + t5.1)) else none) else none) else spec_DrawKept.j0 k t7 t9 t7.2.2.1) else spec_DrawKept.j0 k t7 t9 t7.2.2.1
theorem spec_DrawKept.ok {k : Nat} {l0 : List Int} {r : (List S98) × (List Int) × (List S97) × Int × (List Int) × Int × Int × Int × Int × Int × Int × Int} (H : spec_DrawKept.f k l0 = some r) : ACalls Try.prog 20 [] [.sl .o 1 (l0.map (eI .u8))] [(0, .row 98 6 (r.1.map e98)), (1, .row 3 1 (r.2.1.map (eI .i64))), (2, .row 97 6 (r.2.2.1.map e97))] (.tup [.agg [.row 0, .row 1, .row 2, .lit (.int .i64 r.2.2.2.1), .sl .n 1 (r.2.2.2.2.1.map (eI .i64))], .agg [.lit (.int .i64 r.2.2.2.2.2.1), .lit (.int .i64 r.2.2.2.2.2.2.1), .lit (.int .i64 r.2.2.2.2.2.2.2.1), .lit (.int .i64 r.2.2.2.2.2.2.2.2.1), .lit (.int .i64 r.2.2.2.2.2.2.2.2.2.1), .lit (.int .i64 r.2.2.2.2.2.2.2.2.2.2.1), .lit (.int .i64 r.2.2.2.2.2.2.2.2.2.2.2)]]) := by
 refine acalls (fn := Try.f20) (nt := 42) Try.func20 rfl rfl (Nat.le_of_ble_eq_true rfl) fun E hE => ?_
 rw [spec_DrawKept.f] at H
 refine aw_grp1 ?_
 refine wk_start ?_
 refine kb g0 (alc 0 [.slice none 0 0, .slice none 0 0, .slice none 0 0, .int .i64 0, .slice none 0 0] [.lit (.slice none 0 0), .lit (.slice none 0 0), .lit (.slice none 0 0), .lit (.int .i64 0), .lit (.slice none 0 0)]) ?_
 refine kb g0 (alc 1 [.int .i64 0, .int .i64 0, .int .i64 0, .int .i64 0, .int .i64 0, .int .i64 0, .int .i64 0] [.lit (.int .i64 0), .lit (.int .i64 0), .lit (.int .i64 0), .lit (.int .i64 0), .lit (.int .i64 0), .lit (.int .i64 0), .lit (.int .i64 0)]) ?_
 refine wk_end ?_
 refine ac_next ?_
 refine aw_grp1 ?_
 refine wk_start ?_
 refine kv g0 (mv) ?_
 obtain ⟨t1, A2, H⟩ := of_bind H
 refine kcS1 10 (.box 2 0) [(2, .box 142 [.sl .o 1 (t1.1.map (eI .u8)), .lit (.int .i64 t1.2.1), .lit (.int .i64 t1.2.2)])] g0 (cal (spec_l01New.ok A2) [2] 9999 .o (hf := Try.func50)) rfl rfl ?_
 refine kv g0 (asg) ?_
 refine wk_end ?_
 refine ac_next ?_
 refine aw_grp1 ?_
 refine wk_start ?_
 refine kv g0 (mv) ?_
 obtain ⟨t3, A4, H⟩ := of_bind H
 refine kcS1 12 (.lit (.int .i64 t3.1)) [(2, .box 142 [.sl .o 1 (t3.2.1.map (eI .u8)), .lit (.int .i64 t3.2.2.1), .lit (.int .i64 t3.2.2.2)])] g0 (cal (spec_l01Below.ok A4) [2] 9999 .o (hf := Try.func52)) rfl rfl ?_
 refine kv g0 (asg) ?_
 refine wk_end ?_
 refine ac_next ?_
 refine aw_grp1 ?_
 refine wk_start ?_
 refine kv g0 (mv) ?_
 refine kb g0 (bsl 3 3 1 [.int .i64 0] (([0, 0, 1, 2, 3, 4, (-1)] : List Int).map (eI .i64))) ?_
 obtain ⟨t5, A6, H⟩ := of_bind H
 refine kcS1 15 (.lit (.int .i64 t5.1)) [(2, .box 142 [.sl .o 1 (t5.2.1.map (eI .u8)), .lit (.int .i64 t5.2.2.1), .lit (.int .i64 t5.2.2.2)])] g0 (cal (spec_l01PickInt.ok A6) [2] 9999 .o (hf := Try.func60)) rfl rfl ?_
 refine kv g0 (asg) ?_
 refine wk_end ?_
 refine ac_next ?_
 refine aw_grp1 ?_
 refine wk_start ?_
 refine kv g0 (mv) ?_
 obtain ⟨t7, A8, H⟩ := of_bind H
 refine kcS1 17 (.agg [.lit (.int .i64 t7.1), .lit (.int .i64 t7.2.1), .lit (.int .i64 t7.2.2.1), .lit (.int .i64 t7.2.2.2.1), .lit (.int .i64 t7.2.2.2.2.1), .lit (.int .i64 t7.2.2.2.2.2.1), .lit (.int .i64 t7.2.2.2.2.2.2.1)]) [(2, .box 142 [.sl .o 1 (t7.2.2.2.2.2.2.2.1.map (eI .u8)), .lit (.int .i64 t7.2.2.2.2.2.2.2.2.1), .lit (.int .i64 t7.2.2.2.2.2.2.2.2.2)])] g0 (cal (spec_l17Any.ok A8) [2] 9999 .o (hf := Try.func61)) rfl rfl ?_
 refine kb g0 (alc 4 [.int .i64 0, .int .i64 0, .int .i64 0, .int .i64 0, .int .i64 0, .int .i64 0, .int .i64 0] [.lit (.int .i64 0), .lit (.int .i64 0), .lit (.int .i64 0), .lit (.int .i64 0), .lit (.int .i64 0), .lit (.int .i64 0), .lit (.int .i64 0)]) ?_
 refine ks g0 (stB 7 [.lit (.int .i64 t7.1), .lit (.int .i64 t7.2.1), .lit (.int .i64 t7.2.2.1), .lit (.int .i64 t7.2.2.2.1), .lit (.int .i64 t7.2.2.2.2.1), .lit (.int .i64 t7.2.2.2.2.2.1), .lit (.int .i64 t7.2.2.2.2.2.2.1)]) ?_
 refine wk_end ?_
 refine ac_next ?_
 refine aw_grp1 ?_
 refine wk_start ?_
 refine kv g0 (mv) ?_
 obtain ⟨t9, A10, H⟩ := of_bind H
 refine kcS4 19 (.agg [.row 5, .row 6, .row 7, .lit (.int .i64 t9.2.2.2.1), .sl .n 1 (t9.2.2.2.2.1.map (eI .i64))]) [(2, .box 142 [.sl .o 1 (t9.2.2.2.2.2.1.map (eI .u8)), .lit (.int .i64 t9.2.2.2.2.2.2.1), .lit (.int .i64 t9.2.2.2.2.2.2.2)]), (5, .row 98 6 (t9.1.map e98)), (6, .row 3 1 (t9.2.1.map (eI .i64))), (7, .row 97 6 (t9.2.2.1.map e97))] g0 (cal (spec_l20Any.ok A10) [2, 5, 6, 7] 9999 .o (hf := Try.func62)) rfl rfl ?_
 refine kb g0 (alc 8 [.slice none 0 0, .slice none 0 0, .slice none 0 0, .int .i64 0, .slice none 0 0] [.lit (.slice none 0 0), .lit (.slice none 0 0), .lit (.slice none 0 0), .lit (.int .i64 0), .lit (.slice none 0 0)]) ?_
 refine ks g0 (stB 5 [.row 5, .row 6, .row 7, .lit (.int .i64 t9.2.2.2.1), .sl .n 1 (t9.2.2.2.2.1.map (eI .i64))]) ?_
 refine wk_end ?_
 refine ac_next ?_
 refine aw_cut1 (J := fun K_ => ∀ (k_ : Nat) (p17 : Int), k_ ≤ k → spec_DrawKept.j0 k_ t7 t9 p17 = some r → ACont E 42 ⟨[(2, .box 0 0), (3, .box 1 0), (7, .box 4 0), (8, .box 8 0)], [(0, .box 29 [.lit (.slice none 0 0), .lit (.slice none 0 0), .lit (.slice none 0 0), .lit (.int .i64 0), .lit (.slice none 0 0)]), (1, .box 36 [.lit (.int .i64 0), .lit (.int .i64 0), .lit (.int .i64 0), .lit (.int .i64 0), .lit (.int .i64 0), .lit (.int .i64 0), .lit (.int .i64 0)]), (4, .box 36 [.lit (.int .i64 t7.1), .lit (.int .i64 t7.2.1), .lit (.int .i64 p17), .lit (.int .i64 t7.2.2.2.1), .lit (.int .i64 t7.2.2.2.2.1), .lit (.int .i64 t7.2.2.2.2.2.1), .lit (.int .i64 t7.2.2.2.2.2.2.1)]), (5, .row 98 6 (t9.1.map e98)), (6, .row 3 1 (t9.2.1.map (eI .i64))), (7, .row 97 6 (t9.2.2.1.map e97)), (8, .box 29 [.row 5, .row 6, .row 7, .lit (.int .i64 t9.2.2.2.1), .sl .n 1 (t9.2.2.2.2.1.map (eI .i64))])]⟩ K_) ?_ ?_
 ·intro K_ hJ19
  refine aw_grp1 ?_
  refine wk_start ?_
  refine kv g0 (mv) ?_
  refine kv g0 (gtr) ?_
  refine kv g0 (mv) ?_
  by_cases c11 : t3.1 > 0
  ·rw [if_pos c11] at H
   refine kv (g1 (decide_eq_true c11)) (faB 1 1) ?_
   refine kv (g1 (decide_eq_true c11)) (ldB) ?_
   refine kv (g1 (decide_eq_true c11)) (faB 1 1) ?_
   refine kv (g1 (decide_eq_true c11)) (ldB) ?_
   refine kv (g1 (decide_eq_true c11)) (lnR lenE) ?_
   refine kv (g1 (decide_eq_true c11)) (sub6) ?_
   obtain ⟨t12, A13, H⟩ := of_bind H
   refine kcS0 29 (.lit (.bool t12)) [] (g1 (decide_eq_true c11)) (cal (spec_l01In.ok A13) [] 9999 .n (hf := Try.func63)) rfl rfl ?_
   refine kv g0 (pkT (decide_eq_true c11)) ?_
   refine wk_end ?_
   refine ac_next ?_
   by_cases c14 : t12 = true
   ·rw [if_pos c14] at H
    refine aw_ifT ?_ c14
    refine wk_start ?_
    refine kv g0 (faB 1 1) ?_
    refine kv g0 (ldB) ?_
    refine kv g0 (faB 1 1) ?_
    refine kv g0 (ldB) ?_
    obtain ⟨c15, H⟩ := of_if H
    obtain ⟨c16, H⟩ := of_if H
    refine kv g0 (ixR 3 c15 (ltE c16)) ?_
    refine kv g0 (ldE (eI .i64 (rd t9.2.1 t7.2.1)) (.lit (.int .i64 (rd t9.2.1 t7.2.1))) (getE (z := (0 : Int)) c15 c16)) ?_
    refine kv g0 (mv) ?_
    refine kv g0 (add6) ?_
    refine kv g0 (faB 2 2) ?_
    refine ks g0 (stB 1 [.lit (.int .i64 t7.1), .lit (.int .i64 t7.2.1), .lit (.int .i64 (wrap64 ((rd t9.2.1 t7.2.1) + t5.1))), .lit (.int .i64 t7.2.2.2.1), .lit (.int .i64 t7.2.2.2.2.1), .lit (.int .i64 t7.2.2.2.2.2.1), .lit (.int .i64 t7.2.2.2.2.2.2.1)]) ?_
    refine wk_end ?_
    refine ac_k ?_
    exact acw hE [(0, 0), (1, 1), (4, 4), (5, 5), (6, 6), (7, 7), (8, 8)] 9999 (hJ19 k (wrap64 ((rd t9.2.1 t7.2.1) + t5.1)) (Nat.le_refl _) H)
   rw [if_neg c14] at H
   refine aw_ifF ?_ (bF c14)
   refine aw_skip ?_
   refine ac_k ?_
   exact acw hE [(0, 0), (1, 1), (4, 4), (5, 5), (6, 6), (7, 7), (8, 8)] 9999 (hJ19 k t7.2.2.1 (Nat.le_refl _) H)
  rw [if_neg c11] at H
  refine kx (hT (decide_eq_false c11)) ?_
  refine kx (hT (decide_eq_false c11)) ?_
  refine kx (hT (decide_eq_false c11)) ?_
  refine kx (hT (decide_eq_false c11)) ?_
  refine kx (hT (decide_eq_false c11)) ?_
  refine kx (hT (decide_eq_false c11)) ?_
  refine kx (hT (decide_eq_false c11)) ?_
  refine kv g0 (pkF (decide_eq_false c11)) ?_
  refine wk_end ?_
  refine ac_next ?_
  refine aw_ifF ?_ rfl
  refine aw_skip ?_
  refine ac_k ?_
  exact acw hE [(0, 0), (1, 1), (4, 4), (5, 5), (6, 6), (7, 7), (8, 8)] 9999 (hJ19 k t7.2.2.1 (Nat.le_refl _) H)
 intro k_ p17 hk_ H
 rcases k_ with _ | k18
 ·rw [spec_DrawKept.j0.eq_1] at H; cases H
 have hk18 : k18 ≤ k := by omega
 clear hk_
 rw [spec_DrawKept.j0.eq_2] at H
 refine aw_grp1 ?_
 refine wk_start ?_
 refine kv g0 (ldBA 5 [.row 5, .row 6, .row 7, .lit (.int .i64 t9.2.2.2.1), .sl .n 1 (t9.2.2.2.2.1.map (eI .i64))]) ?_
 refine kv g0 (ldBA 7 [.lit (.int .i64 t7.1), .lit (.int .i64 t7.2.1), .lit (.int .i64 p17), .lit (.int .i64 t7.2.2.2.1), .lit (.int .i64 t7.2.2.2.2.1), .lit (.int .i64 t7.2.2.2.2.2.1), .lit (.int .i64 t7.2.2.2.2.2.2.1)]) ?_
 refine ks g0 (stB 5 [.row 5, .row 6, .row 7, .lit (.int .i64 t9.2.2.2.1), .sl .n 1 (t9.2.2.2.2.1.map (eI .i64))]) ?_
 refine ks g0 (stB 7 [.lit (.int .i64 t7.1), .lit (.int .i64 t7.2.1), .lit (.int .i64 p17), .lit (.int .i64 t7.2.2.2.1), .lit (.int .i64 t7.2.2.2.2.1), .lit (.int .i64 t7.2.2.2.2.2.1), .lit (.int .i64 t7.2.2.2.2.2.2.1)]) ?_
 refine wk_end_draw hM (by kernel_rfl) ?_
 refine ac_next ?_
 refine aw_ret ?_
 obtain rfl := Option.some.inj H
 exact acr hE [.cell 2 29, .cell 3 36] (rcA 5 (rcA 7 .nil)) (.many _ _ _) [(0, 5), (1, 6), (2, 7)] 9999
/-! impl_copyInts -/
def impl_copyInts.f (l0 : List Int) : Option ((List Int)) := if ([] : List Int).length + l0.length < 17592186044416 then some (([] : List Int) ++ l0) else none
theorem impl_copyInts.ok {l0 : List Int} {r : (List Int)} (H : impl_copyInts.f l0 = some r) : ACalls Try.prog 59 [] [.sl .o 1 (l0.map (eI .i64))] [(0, .row 3 1 (r.map (eI .i64)))] (.row 0) := by
 refine acalls (fn := Try.f59) (nt := 6) Try.func59 rfl rfl (Nat.le_of_ble_eq_true rfl) fun E hE => ?_
 rw [impl_copyInts.f] at H
 refine aw_grp1 ?_
 refine wk_start ?_
 refine kv g0 (asg) ?_
 refine wk_end ?_
 refine ac_next ?_
 refine aw_grp1 ?_
 refine wk_start ?_
 refine kb g0 (bsl 0 3 1 [.int .i64 0] (([] : List Int).map (eI .i64))) ?_
 refine kv g0 (mv) ?_
 obtain ⟨c1, H⟩ := of_if H
 refine kc g0 (apR 1 3 1 8 [.int .i64 0] ((([] : List Int) ++ l0).map (eI .i64)) (.slF (flI)) (apb c1 rfl) appE) ?_
 refine kv g0 (asg) ?_
 refine wk_end ?_
 refine ac_next ?_
 refine aw_ret ?_
 obtain rfl := Option.some.inj H
 exact acr hE [.tmp 2] (.tmp .nil) (.one _) [(0, 1)] 9999
/-! impl_copyKeeper -/
def impl_copyKeeper.f (l0_0 : List S98) (l0_1 : List Int) (l0_2 : List S97) (a0_3 : Int) (l0_4 : List Int) : Option ((List S98) × (List Int) × (List S97) × Int × (List Int)) := if ([] : List S98).length + l0_0.length < 2932031007402 then ((impl_copyInts.f l0_1).bind fun t2 => (if ([] : List S97).length + l0_2.length < 2932031007402 then ((impl_copyInts.f l0_4).bind fun t5 => some (([] : List S98) ++ l0_0, t2, ([] : List S97) ++ l0_2, a0_3, t5)) else none)) else none
theorem impl_copyKeeper.ok {l0_0 : List S98} {l0_1 : List Int} {l0_2 : List S97} {a0_3 : Int} {l0_4 : List Int} {r : (List S98) × (List Int) × (List S97) × Int × (List Int)} (H : impl_copyKeeper.f l0_0 l0_1 l0_2 a0_3 l0_4 = some r) : ACalls Try.prog 53 [] [.agg [.sl .o 6 (l0_0.map e98), .sl .o 1 (l0_1.map (eI .i64)), .sl .o 6 (l0_2.map e97), .lit (.int .i64 a0_3), .sl .o 1 (l0_4.map (eI .i64))]] [(0, .row 98 6 (r.1.map e98)), (1, .row 3 1 (r.2.1.map (eI .i64))), (2, .row 97 6 (r.2.2.1.map e97)), (3, .row 3 1 (r.2.2.2.2.map (eI .i64)))] (.agg [.row 0, .row 1, .row 2, .lit (.int .i64 r.2.2.2.1), .row 3]) := by
 refine acalls (fn := Try.f53) (nt := 20) Try.func53 rfl rfl (Nat.le_of_ble_eq_true rfl) fun E hE => ?_
 rw [impl_copyKeeper.f] at H
 refine aw_grp1 ?_
 refine wk_start ?_
 refine kb g0 (bxA 0) ?_
 refine kb g0 (alc 1 [.slice none 0 0, .slice none 0 0, .slice none 0 0, .int .i64 0, .slice none 0 0] [.lit (.slice none 0 0), .lit (.slice none 0 0), .lit (.slice none 0 0), .lit (.int .i64 0), .lit (.slice none 0 0)]) ?_
 refine wk_end ?_
 refine ac_next ?_
 refine aw_grp1 ?_
 refine wk_start ?_
 refine kb g0 (bsl 2 98 6 [.int .i64 0, .int .i64 0, .int .i64 0, .int .i64 0, .int .i64 0, .int .i64 0] (([] : List S98).map e98)) ?_
 refine kv g0 (faB 0 0) ?_
 refine kv g0 (ldB) ?_
 obtain ⟨c1, H⟩ := of_if H
 refine kc g0 (apR 3 98 6 48 [.int .i64 0, .int .i64 0, .int .i64 0, .int .i64 0, .int .i64 0, .int .i64 0] ((([] : List S98) ++ l0_0).map e98) (.slF (fl98)) (apb c1 rfl) appE) ?_
 refine kv g0 (faB 1 1) ?_
 refine kv g0 (ldB) ?_
 obtain ⟨t2, A3, H⟩ := of_bind H
 refine kcS1 9 (.row 4) [(4, .row 3 1 (t2.map (eI .i64)))] g0 (cal (impl_copyInts.ok A3) [4] 9999 .n (hf := Try.func59)) rfl rfl ?_
 refine kb g0 (bsl 5 97 6 [.int .i64 0, .int .i64 0, .int .i64 0, .int .i64 0, .int .i64 0, .int .i64 0] (([] : List S97).map e97)) ?_
 refine kv g0 (faB 2 2) ?_
 refine kv g0 (ldB) ?_
 obtain ⟨c4, H⟩ := of_if H
 refine kc g0 (apR 6 97 6 48 [.int .i64 0, .int .i64 0, .int .i64 0, .int .i64 0, .int .i64 0, .int .i64 0] ((([] : List S97) ++ l0_2).map e97) (.slF (fl97)) (apb c4 rfl) appE) ?_
 refine kv g0 (faB 3 3) ?_
 refine kv g0 (ldB) ?_
 refine kv g0 (faB 4 4) ?_
 refine kv g0 (ldB) ?_
 obtain ⟨t5, A6, H⟩ := of_bind H
 refine kcS1 18 (.row 7) [(7, .row 3 1 (t5.map (eI .i64)))] g0 (cal (impl_copyInts.ok A6) [7] 9999 .n (hf := Try.func59)) rfl rfl ?_
 refine kv g0 (bld [(0, 1), (1, 1), (2, 1), (3, 1), (4, 1)] [.slice none 0 0, .slice none 0 0, .slice none 0 0, .int .i64 0, .slice none 0 0] [.row 3, .row 4, .row 6, .lit (.int .i64 a0_3), .row 7]) ?_
 refine ks g0 (stB 5 [.row 3, .row 4, .row 6, .lit (.int .i64 a0_3), .row 7]) ?_
 refine wk_end_draw hM (by kernel_rfl) ?_
 refine ac_next ?_
 refine aw_ret ?_
 obtain rfl := Option.some.inj H
 exact acr hE [.cell 2 29] (rcA 5 .nil) (.one _) [(0, 3), (1, 4), (2, 6), (3, 7)] 9999
/-! impl_within -/
def impl_within.f (a0 : Int) (a1 : Int) (a2 : Int) : Option (Bool) := if a0 ≥ a1 then some (decide (a0 ≤ a2)) else some false
theorem impl_within.ok {a0 : Int} {a1 : Int} {a2 : Int} {r : Bool} (H : impl_within.f a0 a1 a2 = some r) : ACalls Try.prog 55 [] [.lit (.int .i64 a0), .lit (.int .i64 a1), .lit (.int .i64 a2)] [] (.lit (.bool r)) := by
 refine acalls (fn := Try.f55) (nt := 15) Try.func55 rfl rfl (Nat.le_of_ble_eq_true rfl) fun E hE => ?_
 rw [impl_within.f] at H
 refine aw_grp1 ?_
 refine wk_start ?_
 refine kv g0 (asg) ?_
 refine wk_end ?_
 refine ac_next ?_
 refine aw_grp1 ?_
 refine wk_start ?_
 refine kv g0 (mv) ?_
 refine kv g0 (mv) ?_
 refine kv g0 (geq) ?_
 refine kv g0 (mv) ?_
 by_cases c1 : a0 ≥ a1
 ·rw [if_pos c1] at H
  refine kv (g1 (decide_eq_true c1)) (mv) ?_
  refine kv (g1 (decide_eq_true c1)) (mv) ?_
  refine kv (g1 (decide_eq_true c1)) (leq) ?_
  refine kv g0 (pkT (decide_eq_true c1)) ?_
  refine kv g0 (asg) ?_
  refine wk_end ?_
  refine ac_next ?_
  refine aw_ret ?_
  obtain rfl := Option.some.inj H
  exact acr hE [.tmp 6] (.tmp .nil) (.one _) [] 9999
 rw [if_neg c1] at H
 refine kx (hT (decide_eq_false c1)) ?_
 refine kx (hT (decide_eq_false c1)) ?_
 refine kx (hT (decide_eq_false c1)) ?_
 refine kv g0 (pkF (decide_eq_false c1)) ?_
 refine kv g0 (asg) ?_
 refine wk_end ?_
 refine ac_next ?_
 refine aw_ret ?_
 obtain rfl := Option.some.inj H
 exact acr hE [.tmp 6] (.tmp .nil) (.one _) [] 9999
/-! impl_isPid -/
def impl_isPid.f (a0 : Int) : Option (Bool) := (impl_within.f a0 0 2).bind fun t1 => some t1
theorem impl_isPid.ok {a0 : Int} {r : Bool} (H : impl_isPid.f a0 = some r) : ACalls Try.prog 56 [] [.lit (.int .i64 a0)] [] (.lit (.bool r)) := by
 refine acalls (fn := Try.f56) (nt := 5) Try.func56 rfl rfl (Nat.le_of_ble_eq_true rfl) fun E hE => ?_
 rw [impl_isPid.f] at H
 refine aw_grp1 ?_
 refine wk_start ?_
 refine kv g0 (asg) ?_
 refine wk_end ?_
 refine ac_next ?_
 refine aw_grp1 ?_
 refine wk_start ?_
 refine kv g0 (mv) ?_
 obtain ⟨t1, A2, H⟩ := of_bind H
 refine kcS0 4 (.lit (.bool t1)) [] g0 (cal (impl_within.ok A2) [] 9999 .n (hf := Try.func55)) rfl rfl ?_
 refine kv g0 (asg) ?_
 refine wk_end ?_
 refine ac_next ?_
 refine aw_ret ?_
 obtain rfl := Option.some.inj H
 exact acr hE [.tmp 2] (.tmp .nil) (.one _) [] 9999
/-! impl_HalfOk -/
def impl_HalfOk.f (a0 : Int) : Option (Bool) := (impl_within.f a0 0 4294967295).bind fun t1 => some t1
theorem impl_HalfOk.ok {a0 : Int} {r : Bool} (H : impl_HalfOk.f a0 = some r) : ACalls Try.prog 113 [] [.lit (.int .i64 a0)] [] (.lit (.bool r)) := by
 refine acalls (fn := Try.f113) (nt := 5) Try.func113 rfl rfl (Nat.le_of_ble_eq_true rfl) fun E hE => ?_
 rw [impl_HalfOk.f] at H
 refine aw_grp1 ?_
 refine wk_start ?_
 refine kv g0 (asg) ?_
 refine wk_end ?_
 refine ac_next ?_
 refine aw_grp1 ?_
 refine wk_start ?_
 refine kv g0 (mv) ?_
 obtain ⟨t1, A2, H⟩ := of_bind H
 refine kcS0 4 (.lit (.bool t1)) [] g0 (cal (impl_within.ok A2) [] 9999 .n (hf := Try.func55)) rfl rfl ?_
 refine kv g0 (asg) ?_
 refine wk_end ?_
 refine ac_next ?_
 refine aw_ret ?_
 obtain rfl := Option.some.inj H
 exact acr hE [.tmp 2] (.tmp .nil) (.one _) [] 9999
/-! impl_ItemOk -/
def impl_ItemOk.f (a0_0 : Int) (a0_1 : Int) (a0_2 : Int) (a0_3 : Int) : Option (Bool) := if a0_0 = 1 then ((impl_HalfOk.f a0_1).bind fun t2 => (if t2 = true then ((impl_HalfOk.f a0_2).bind fun t5 => (if t5 = true then some (a0_3 == 0) else some false)) else some false)) else if a0_0 = 2 then ((impl_within.f a0_3 1 1000000000).bind fun t9 => (if t9 = true then (if a0_1 = 0 then some (a0_2 == 0) else some false) else some false)) else some false
theorem impl_ItemOk.ok {a0_0 : Int} {a0_1 : Int} {a0_2 : Int} {a0_3 : Int} {r : Bool} (H : impl_ItemOk.f a0_0 a0_1 a0_2 a0_3 = some r) : ACalls Try.prog 57 [] [.agg [.lit (.int .i64 a0_0), .lit (.int .i64 a0_1), .lit (.int .i64 a0_2), .lit (.int .i64 a0_3)]] [] (.lit (.bool r)) := by
 refine acalls (fn := Try.f57) (nt := 35) Try.func57 rfl rfl (Nat.le_of_ble_eq_true rfl) fun E hE => ?_
 rw [impl_ItemOk.f] at H
 refine aw_grp1 ?_
 refine wk_start ?_
 refine kb g0 (bxA 0) ?_
 refine kv g0 (asg) ?_
 refine wk_end ?_
 refine ac_next ?_
 refine aw_grp1 ?_
 refine aw_grp1 ?_
 refine wk_start ?_
 refine kv g0 (faB 0 0) ?_
 refine kv g0 (ldB) ?_
 refine wk_end ?_
 refine ac_next ?_
 refine aw_block ?_
 refine aw_grp1 ?_
 refine wk_start ?_
 refine kv g0 (eql) ?_
 refine kv g0 (asg) ?_
 refine wk_end ?_
 refine ac_next ?_
 by_cases c1 : a0_0 = 1
 ·rw [if_pos c1] at H
  refine aw_ifT ?_ (eT c1)
  refine aw_grp1 ?_
  refine wk_start ?_
  refine kv g0 (faB 1 1) ?_
  refine kv g0 (ldB) ?_
  obtain ⟨t2, A3, H⟩ := of_bind H
  refine kcS0 9 (.lit (.bool t2)) [] g0 (cal (impl_HalfOk.ok A3) [] 9999 .n (hf := Try.func113)) rfl rfl ?_
  refine kv g0 (mv) ?_
  by_cases c4 : t2 = true
  ·rw [if_pos c4] at H
   refine kv (g1 c4) (faB 2 2) ?_
   refine kv (g1 c4) (ldB) ?_
   obtain ⟨t5, A6, H⟩ := of_bind H
   refine kcS0 13 (.lit (.bool t5)) [] (g1 c4) (cal (impl_HalfOk.ok A6) [] 9999 .n (hf := Try.func113)) rfl rfl ?_
   refine kv g0 (pkT c4) ?_
   refine kv g0 (mv) ?_
   by_cases c7 : t5 = true
   ·rw [if_pos c7] at H
    refine kv (g1 c7) (faB 3 3) ?_
    refine kv (g1 c7) (ldB) ?_
    refine kv (g1 c7) (eql) ?_
    refine kv g0 (pkT c7) ?_
    refine kv g0 (asg) ?_
    refine wk_end ?_
    refine ac_next ?_
    refine aw_ret ?_
    refine ac_blkR ?_
    refine ac_thenR ?_
    obtain rfl := Option.some.inj H
    exact acr hE [.tmp 2] (.tmp .nil) (.one _) [] 9999
   rw [if_neg c7] at H
   refine kx (hT (bF c7)) ?_
   refine kx (hT (bF c7)) ?_
   refine kx (hT (bF c7)) ?_
   refine kv g0 (pkF (bF c7)) ?_
   refine kv g0 (asg) ?_
   refine wk_end ?_
   refine ac_next ?_
   refine aw_ret ?_
   refine ac_blkR ?_
   refine ac_thenR ?_
   obtain rfl := Option.some.inj H
   exact acr hE [.tmp 2] (.tmp .nil) (.one _) [] 9999
  rw [if_neg c4] at H
  refine kx (hT (bF c4)) ?_
  refine kx (hT (bF c4)) ?_
  refine kx (hT (bF c4)) ?_
  refine kv g0 (pkF (bF c4)) ?_
  refine kv g0 (mv) ?_
  refine kx (hT rfl) ?_
  refine kx (hT rfl) ?_
  refine kx (hT rfl) ?_
  refine kv g0 (pkF rfl) ?_
  refine kv g0 (asg) ?_
  refine wk_end ?_
  refine ac_next ?_
  refine aw_ret ?_
  refine ac_blkR ?_
  refine ac_thenR ?_
  obtain rfl := Option.some.inj H
  exact acr hE [.tmp 2] (.tmp .nil) (.one _) [] 9999
 rw [if_neg c1] at H
 refine aw_ifF ?_ (eF c1)
 refine aw_grp1 ?_
 refine wk_start ?_
 refine kv g0 (eql) ?_
 refine kv g0 (asg) ?_
 refine wk_end ?_
 refine ac_next ?_
 by_cases c8 : a0_0 = 2
 ·rw [if_pos c8] at H
  refine aw_ifT ?_ (eT c8)
  refine aw_grp1 ?_
  refine wk_start ?_
  refine kv g0 (faB 3 3) ?_
  refine kv g0 (ldB) ?_
  obtain ⟨t9, A10, H⟩ := of_bind H
  refine kcS0 24 (.lit (.bool t9)) [] g0 (cal (impl_within.ok A10) [] 9999 .n (hf := Try.func55)) rfl rfl ?_
  refine kv g0 (mv) ?_
  by_cases c11 : t9 = true
  ·rw [if_pos c11] at H
   refine kv (g1 c11) (faB 1 1) ?_
   refine kv (g1 c11) (ldB) ?_
   refine kv (g1 c11) (eql) ?_
   refine kv g0 (pkT c11) ?_
   refine kv g0 (mv) ?_
   by_cases c12 : a0_1 = 0
   ·rw [if_pos c12] at H
    refine kv (g1 (eT c12)) (faB 2 2) ?_
    refine kv (g1 (eT c12)) (ldB) ?_
    refine kv (g1 (eT c12)) (eql) ?_
    refine kv g0 (pkT (eT c12)) ?_
    refine kv g0 (asg) ?_
    refine wk_end ?_
    refine ac_next ?_
    refine aw_ret ?_
    refine ac_blkR ?_
    refine ac_thenR ?_
    obtain rfl := Option.some.inj H
    exact acr hE [.tmp 2] (.tmp .nil) (.one _) [] 9999
   rw [if_neg c12] at H
   refine kx (hT (eF c12)) ?_
   refine kx (hT (eF c12)) ?_
   refine kx (hT (eF c12)) ?_
   refine kv g0 (pkF (eF c12)) ?_
   refine kv g0 (asg) ?_
   refine wk_end ?_
   refine ac_next ?_
   refine aw_ret ?_
   refine ac_blkR ?_
   refine ac_thenR ?_
   obtain rfl := Option.some.inj H
   exact acr hE [.tmp 2] (.tmp .nil) (.one _) [] 9999
  rw [if_neg c11] at H
  refine kx (hT (bF c11)) ?_
  refine kx (hT (bF c11)) ?_
  refine kx (hT (bF c11)) ?_
  refine kv g0 (pkF (bF c11)) ?_
  refine kv g0 (mv) ?_
  refine kx (hT rfl) ?_
  refine kx (hT rfl) ?_
  refine kx (hT rfl) ?_
  refine kv g0 (pkF rfl) ?_
  refine kv g0 (asg) ?_
  refine wk_end ?_
  refine ac_next ?_
  refine aw_ret ?_
  refine ac_blkR ?_
  refine ac_thenR ?_
  obtain rfl := Option.some.inj H
  exact acr hE [.tmp 2] (.tmp .nil) (.one _) [] 9999
 rw [if_neg c8] at H
 refine aw_ifF ?_ (eF c8)
 refine aw_skip ?_
 refine ac_blkN ?_
 refine ac_next ?_
 refine aw_grp1 ?_
 refine wk_start ?_
 refine kv g0 (asg) ?_
 refine wk_end ?_
 refine ac_next ?_
 refine aw_ret ?_
 obtain rfl := Option.some.inj H
 exact acr hE [.tmp 2] (.tmp .nil) (.one _) [] 9999
/-! impl_FrameOk -/
def impl_FrameOk.f (a0_0 : Int) (a0_1 : Int) (a0_2 : Int) (a0_3 : Int) (a0_4 : Int) (a0_5 : Int) (a0_6 : Int) : Option (Bool) := (impl_isPid.f a0_1).bind fun t1 => (if t1 = true then ((impl_within.f a0_2 1 1000000000).bind fun t4 => if t4 = true then if a0_0 = 1 then ((impl_ItemOk.f a0_3 a0_4 a0_5 a0_6).bind fun t8 => some t8) else if a0_0 = 2 then some (a0_3 == 0 && (a0_4 == 0 && (a0_5 == 0 && (a0_6 == 0)))) else some false else some false) else some false)
theorem impl_FrameOk.ok {a0_0 : Int} {a0_1 : Int} {a0_2 : Int} {a0_3 : Int} {a0_4 : Int} {a0_5 : Int} {a0_6 : Int} {r : Bool} (H : impl_FrameOk.f a0_0 a0_1 a0_2 a0_3 a0_4 a0_5 a0_6 = some r) : ACalls Try.prog 49 [] [.agg [.lit (.int .i64 a0_0), .lit (.int .i64 a0_1), .lit (.int .i64 a0_2), .lit (.int .i64 a0_3), .lit (.int .i64 a0_4), .lit (.int .i64 a0_5), .lit (.int .i64 a0_6)]] [] (.lit (.bool r)) := by
 refine acalls (fn := Try.f49) (nt := 26) Try.func49 rfl rfl (Nat.le_of_ble_eq_true rfl) fun E hE => ?_
 rw [impl_FrameOk.f] at H
 refine aw_grp1 ?_
 refine wk_start ?_
 refine kb g0 (bxA 0) ?_
 refine kv g0 (asg) ?_
 refine wk_end ?_
 refine ac_next ?_
 refine aw_grp1 ?_
 refine aw_grp1 ?_
 refine wk_start ?_
 refine kv g0 (faB 1 1) ?_
 refine kv g0 (ldB) ?_
 obtain ⟨t1, A2, H⟩ := of_bind H
 refine kcS0 5 (.lit (.bool t1)) [] g0 (cal (impl_isPid.ok A2) [] 9999 .n (hf := Try.func56)) rfl rfl ?_
 refine kv g0 (not_) ?_
 refine kv g0 (mv) ?_
 by_cases c3 : t1 = true
 ·rw [if_pos c3] at H
  refine kv (g1 (nF c3)) (faB 2 2) ?_
  refine kv (g1 (nF c3)) (ldB) ?_
  obtain ⟨t4, A5, H⟩ := of_bind H
  refine kcS0 10 (.lit (.bool t4)) [] (g1 (nF c3)) (cal (impl_within.ok A5) [] 9999 .n (hf := Try.func55)) rfl rfl ?_
  refine kv (g1 (nF c3)) (not_) ?_
  refine kv g0 (pkF (nF c3)) ?_
  refine wk_end ?_
  refine ac_next ?_
  by_cases c6 : t4 = true
  ·rw [if_pos c6] at H
   refine aw_ifF ?_ (nF c6)
   refine aw_skip ?_
   refine ac_next ?_
   refine aw_grp1 ?_
   refine aw_grp1 ?_
   refine wk_start ?_
   refine kv g0 (faB 0 0) ?_
   refine kv g0 (ldB) ?_
   refine wk_end ?_
   refine ac_next ?_
   refine aw_block ?_
   refine aw_grp1 ?_
   refine wk_start ?_
   refine kv g0 (eql) ?_
   refine kv g0 (asg) ?_
   refine wk_end ?_
   refine ac_next ?_
   by_cases c7 : a0_0 = 1
   ·rw [if_pos c7] at H
    refine aw_ifT ?_ (eT c7)
    refine aw_grp1 ?_
    refine wk_start ?_
    refine kv g0 (faB 3 3) ?_
    refine kv g0 (ldBA 4 [.lit (.int .i64 a0_3), .lit (.int .i64 a0_4), .lit (.int .i64 a0_5), .lit (.int .i64 a0_6)]) ?_
    obtain ⟨t8, A9, H⟩ := of_bind H
    refine kcS0 19 (.lit (.bool t8)) [] g0 (cal (impl_ItemOk.ok A9) [] 9999 .n (hf := Try.func57)) rfl rfl ?_
    refine kv g0 (asg) ?_
    refine wk_end ?_
    refine ac_next ?_
    refine aw_ret ?_
    refine ac_blkR ?_
    refine ac_thenR ?_
    obtain rfl := Option.some.inj H
    exact acr hE [.tmp 2] (.tmp .nil) (.one _) [] 9999
   rw [if_neg c7] at H
   refine aw_ifF ?_ (eF c7)
   refine aw_grp1 ?_
   refine wk_start ?_
   refine kv g0 (eql) ?_
   refine kv g0 (asg) ?_
   refine wk_end ?_
   refine ac_next ?_
   by_cases c10 : a0_0 = 2
   ·rw [if_pos c10] at H
    refine aw_ifT ?_ (eT c10)
    refine aw_grp1 ?_
    refine wk_start ?_
    refine kv g0 (faB 3 3) ?_
    refine kv g0 (ldBA 4 [.lit (.int .i64 a0_3), .lit (.int .i64 a0_4), .lit (.int .i64 a0_5), .lit (.int .i64 a0_6)]) ?_
    refine kv g0 (bld [(0, 1), (1, 1), (2, 1), (3, 1)] [.int .i64 0, .int .i64 0, .int .i64 0, .int .i64 0] [.lit (.int .i64 0), .lit (.int .i64 0), .lit (.int .i64 0), .lit (.int .i64 0)]) ?_
    refine kv g0 (eqS (fun w => eq34 _ w a0_3 a0_4 a0_5 a0_6 0 0 0 0)) ?_
    refine kv g0 (asg) ?_
    refine wk_end ?_
    refine ac_next ?_
    refine aw_ret ?_
    refine ac_blkR ?_
    refine ac_thenR ?_
    obtain rfl := Option.some.inj H
    exact acr hE [.tmp 2] (.tmp .nil) (.one _) [] 9999
   rw [if_neg c10] at H
   refine aw_ifF ?_ (eF c10)
   refine aw_skip ?_
   refine ac_blkN ?_
   refine ac_next ?_
   refine aw_grp1 ?_
   refine wk_start ?_
   refine kv g0 (asg) ?_
   refine wk_end ?_
   refine ac_next ?_
   refine aw_ret ?_
   obtain rfl := Option.some.inj H
   exact acr hE [.tmp 2] (.tmp .nil) (.one _) [] 9999
  rw [if_neg c6] at H
  refine aw_ifT ?_ (nT (bF c6))
  refine aw_grp1 ?_
  refine wk_start ?_
  refine kv g0 (asg) ?_
  refine wk_end ?_
  refine ac_next ?_
  refine aw_ret ?_
  refine ac_thenR ?_
  obtain rfl := Option.some.inj H
  exact acr hE [.tmp 2] (.tmp .nil) (.one _) [] 9999
 rw [if_neg c3] at H
 refine kx (hF (nT (bF c3))) ?_
 refine kx (hF (nT (bF c3))) ?_
 refine kx (hF (nT (bF c3))) ?_
 refine kx (hF (nT (bF c3))) ?_
 refine kv g0 (pkT (nT (bF c3))) ?_
 refine wk_end ?_
 refine ac_next ?_
 refine aw_ifT ?_ rfl
 refine aw_grp1 ?_
 refine wk_start ?_
 refine kv g0 (asg) ?_
 refine wk_end ?_
 refine ac_next ?_
 refine aw_ret ?_
 refine ac_thenR ?_
 obtain rfl := Option.some.inj H
 exact acr hE [.tmp 2] (.tmp .nil) (.one _) [] 9999
/-! impl_earlyAt -/
def impl_earlyAt.l0 : Nat → (List S97) → Int → Int → Int → Option (Int)
 | 0, _, _, _, _ => none
 | k6 + 1, l0, a1, a2, p5 => if p5 < (l0.length : Int) then if 0 ≤ p5 then if ((rd_T97 l0 p5).f0) = a1 then if ((rd_T97 l0 p5).f1) = a2 then some p5 else impl_earlyAt.l0 k6 l0 a1 a2 (wrap64 (p5 + 1)) else impl_earlyAt.l0 k6 l0 a1 a2 (wrap64 (p5 + 1)) else none else some (-1)
def impl_earlyAt.f (k : Nat) (l0 : List S97) (a1 : Int) (a2 : Int) : Option (Int) := impl_earlyAt.l0 k l0 a1 a2 0
theorem impl_earlyAt.ok {k : Nat} {l0 : List S97} {a1 : Int} {a2 : Int} {r : Int} (H : impl_earlyAt.f k l0 a1 a2 = some r) : ACalls Try.prog 54 [] [.sl .o 6 (l0.map e97), .lit (.int .i64 a1), .lit (.int .i64 a2)] [] (.lit (.int .i64 r)) := by
 refine acalls (fn := Try.f54) (nt := 28) Try.func54 rfl rfl (Nat.le_of_ble_eq_true rfl) fun E hE => ?_
 rw [impl_earlyAt.f] at H
 refine aw_grp1 ?_
 refine wk_start ?_
 refine kv g0 (asg) ?_
 refine wk_end ?_
 refine ac_next ?_
 refine aw_grp1 ?_
 refine aw_grp1 ?_
 refine wk_start ?_
 refine kv g0 (mv) ?_
 refine kv g0 (lnS lenE) ?_
 refine kv g0 (mv) ?_
 refine wk_end ?_
 refine ac_next ?_
 refine aw_block ?_
 refine aw_loop1 (fun (k_ : Nat) (p5 : Int) => k_ ≤ k ∧ impl_earlyAt.l0 k_ l0 a1 a2 p5 = some r) (fun (p5 : Int) => ⟨[(1, .lit (.int .i64 a1)), (2, .lit (.int .i64 a2)), (9, .sl .o 6 (l0.map e97)), (10, .lit (.int .i64 (l0.length : Int))), (11, .lit (.int .i64 p5))], []⟩) k 0 ⟨Nat.le_refl _, H⟩ (fun K_ h_ => acw hE [] 9999 h_) (fun _ => by intro h_; have h_ := h_.2; rw [impl_earlyAt.l0.eq_1] at h_; cases h_) ?_
 intro k6 p5 hq_ K11 hK12
 have hk6 := hq_.1
 have H := hq_.2
 clear hq_
 rw [impl_earlyAt.l0.eq_2] at H
 refine aw_grp1 ?_
 refine wk_start ?_
 refine kv g0 (lss) ?_
 refine wk_end ?_
 refine ac_next ?_
 refine aw_grp1 ?_
 by_cases c7 : p5 < (l0.length : Int)
 ·rw [if_pos c7] at H
  refine aw_ifT ?_ (decide_eq_true c7)
  refine aw_skip ?_
  refine ac_next ?_
  refine aw_grp1 ?_
  refine aw_block ?_
  refine aw_grp1 ?_
  refine wk_start ?_
  refine kv g0 (mv) ?_
  obtain ⟨c8, H⟩ := of_if H
  refine kv g0 (ixS 97 (e97 (rd_T97 l0 p5)) c8 (getE (z := z97) c8 c7)) ?_
  refine kv g0 (ldRA 6 [.lit (.int .i64 ((rd_T97 l0 p5).f0)), .lit (.int .i64 ((rd_T97 l0 p5).f1)), .lit (.int .i64 ((rd_T97 l0 p5).f2.f0)), .lit (.int .i64 ((rd_T97 l0 p5).f2.f1)), .lit (.int .i64 ((rd_T97 l0 p5).f2.f2)), .lit (.int .i64 ((rd_T97 l0 p5).f2.f3))]) ?_
  refine kb g0 (alc 0 [.int .i64 0, .int .i64 0, .int .i64 0, .int .i64 0, .int .i64 0, .int .i64 0] [.lit (.int .i64 0), .lit (.int .i64 0), .lit (.int .i64 0), .lit (.int .i64 0), .lit (.int .i64 0), .lit (.int .i64 0)]) ?_
  refine kv g0 (asg) ?_
  refine ks g0 (stB 6 [.lit (.int .i64 ((rd_T97 l0 p5).f0)), .lit (.int .i64 ((rd_T97 l0 p5).f1)), .lit (.int .i64 ((rd_T97 l0 p5).f2.f0)), .lit (.int .i64 ((rd_T97 l0 p5).f2.f1)), .lit (.int .i64 ((rd_T97 l0 p5).f2.f2)), .lit (.int .i64 ((rd_T97 l0 p5).f2.f3))]) ?_
  refine wk_end ?_
  refine ac_next ?_
  refine aw_grp1 ?_
  refine wk_start ?_
  refine kv g0 (faB 0 0) ?_
  refine kv g0 (ldB) ?_
  refine kv g0 (mv) ?_
  refine kv g0 (eql) ?_
  refine kv g0 (mv) ?_
  by_cases c9 : ((rd_T97 l0 p5).f0) = a1
  ·rw [if_pos c9] at H
   refine kv (g1 (eT c9)) (faB 1 1) ?_
   refine kv (g1 (eT c9)) (ldB) ?_
   refine kv (g1 (eT c9)) (mv) ?_
   refine kv (g1 (eT c9)) (eql) ?_
   refine kv g0 (pkT (eT c9)) ?_
   refine wk_end ?_
   refine ac_next ?_
   by_cases c10 : ((rd_T97 l0 p5).f1) = a2
   ·rw [if_pos c10] at H
    refine aw_ifT ?_ (eT c10)
    refine aw_grp1 ?_
    refine wk_start ?_
    refine kv g0 (mv) ?_
    refine kv g0 (asg) ?_
    refine wk_end ?_
    refine ac_next ?_
    refine aw_ret ?_
    refine ac_blkR ?_
    refine ac_thenR ?_
    refine ac_thenR ?_
    refine ac_blkR ?_
    refine ac_thenR ?_
    obtain rfl := Option.some.inj H
    exact acr hE [.tmp 6] (.tmp .nil) (.one _) [] 9999
   rw [if_neg c10] at H
   refine aw_ifF ?_ (eF c10)
   refine aw_skip ?_
   refine ac_blkN ?_
   refine ac_next ?_
   refine wk_start ?_
   refine kv g0 (add6) ?_
   refine kv g0 (mv) ?_
   refine wk_end ?_
   refine ac_k ?_
   exact acw hE [] 9999 (hK12 k6 (wrap64 (p5 + 1)) (Nat.le_refl _) ⟨by omega, H⟩)
  rw [if_neg c9] at H
  refine kx (hT (eF c9)) ?_
  refine kx (hT (eF c9)) ?_
  refine kx (hT (eF c9)) ?_
  refine kx (hT (eF c9)) ?_
  refine kv g0 (pkF (eF c9)) ?_
  refine wk_end ?_
  refine ac_next ?_
  refine aw_ifF ?_ rfl
  refine aw_skip ?_
  refine ac_blkN ?_
  refine ac_next ?_
  refine wk_start ?_
  refine kv g0 (add6) ?_
  refine kv g0 (mv) ?_
  refine wk_end ?_
  refine ac_k ?_
  exact acw hE [] 9999 (hK12 k6 (wrap64 (p5 + 1)) (Nat.le_refl _) ⟨by omega, H⟩)
 rw [if_neg c7] at H
 refine aw_ifF ?_ (decide_eq_false c7)
 refine aw_exit ?_
 refine ac_then ?_
 refine ac_then ?_
 refine ac_hit rfl ?_
 refine ac_next ?_
 refine aw_grp1 ?_
 refine wk_start ?_
 refine kv g0 (asg) ?_
 refine wk_end ?_
 refine ac_next ?_
 refine aw_ret ?_
 obtain rfl := Option.some.inj H
 exact acr hE [.tmp 6] (.tmp .nil) (.one _) [] 9999
/-! impl_Kept -/
mutual
def impl_Kept.j0 : Nat → Int → Int → Int → Int → Int → Int → Int → ((List S98) × (List Int) × (List S97) × Int × (List Int)) → Bool → Option ((List S98) × (List Int) × (List S97) × Int × (List Int) × Bool)
 | 0, _, _, _, _, _, _, _, _, _ => none
 | k18 + 1, a1_0, a1_1, a1_2, a1_3, a1_4, a1_5, a1_6, t1, p17 => if p17 = true then (if t1.2.2.1.length + ([(⟨a1_1, a1_2, (⟨a1_3, a1_4, a1_5, a1_6⟩ : S34)⟩ : S97)] : List S97).length < 2932031007402 then some (t1.1, t1.2.1, t1.2.2.1 ++ ([(⟨a1_1, a1_2, (⟨a1_3, a1_4, a1_5, a1_6⟩ : S34)⟩ : S97)] : List S97), t1.2.2.2.1, t1.2.2.2.2, false) else none) else some (t1.1, t1.2.1, t1.2.2.1, t1.2.2.2.1, t1.2.2.2.2, false)
def impl_Kept.l0 : Nat → Int → Int → Int → Int → Int → Int → Int → ((List S98) × (List Int) × (List S97) × Int × (List Int)) → (List S98) → (List Int) → (List S97) → Option ((List S98) × (List Int) × (List S97) × Int × (List Int) × Bool)
 | 0, _, _, _, _, _, _, _, _, _, _, _ => none
 | k40 + 1, a1_0, a1_1, a1_2, a1_3, a1_4, a1_5, a1_6, t1, q37, q38, q39 => if (q37.length : Int) < 200 then if a1_1 < (q38.length : Int) then ((impl_earlyAt.f k40 q39 a1_1 (rd q38 a1_1)).bind fun t43 => if t43 < 0 then some (q37, q38, q39, t1.2.2.2.1, t1.2.2.2.2, true) else if 0 ≤ t43 then (if t43 < (q39.length : Int) then if t43 ≤ (q39.length : Int) then (if 0 ≤ (wrap64 (t43 + 1)) then (if (wrap64 (t43 + 1)) ≤ (q39.length : Int) then (if (q39.take t43.toNat).length + (q39.drop (wrap64 (t43 + 1)).toNat).length < 2932031007402 then if q37.length + ([(⟨(rd_T97 q39 t43).f0, (rd_T97 q39 t43).f1, (⟨(rd_T97 q39 t43).f2.f0, (rd_T97 q39 t43).f2.f1, (rd_T97 q39 t43).f2.f2, (rd_T97 q39 t43).f2.f3⟩ : S34)⟩ : S98)] : List S98).length < 2932031007402 then impl_Kept.l0 k40 a1_0 a1_1 a1_2 a1_3 a1_4 a1_5 a1_6 t1 (q37 ++ ([(⟨(rd_T97 q39 t43).f0, (rd_T97 q39 t43).f1, (⟨(rd_T97 q39 t43).f2.f0, (rd_T97 q39 t43).f2.f1, (rd_T97 q39 t43).f2.f2, (rd_T97 q39 t43).f2.f3⟩ : S34)⟩ : S98)] : List S98)) (q38.set a1_1.toNat (wrap64 ((rd q38 a1_1) + 1))) ((q39.take t43.toNat) ++ (q39.drop (wrap64 (t43 + 1)).toNat)) else none else none) else none) else none) else none else none) else none) else none else some (q37, q38, q39, t1.2.2.2.1, t1.2.2.2.2, true)
end
def impl_Kept.f (k : Nat) (l0_0 : List S98) (l0_1 : List Int) (l0_2 : List S97) (a0_3 : Int) (l0_4 : List Int) (a1_0 : Int) (a1_1 : Int) (a1_2 : Int) (a1_3 : Int) (a1_4 : Int) (a1_5 : Int) (a1_6 : Int) : Option ((List S98) × (List Int) × (List S97) × Int × (List Int) × Bool) := (impl_copyKeeper.f l0_0 l0_1 l0_2 a0_3 l0_4).bind fun t1 => (impl_FrameOk.f a1_0 a1_1 a1_2 a1_3 a1_4 a1_5 a1_6).bind fun t3 => (if t3 = true then (if a1_0 = 1 then (if a1_1 ≥ (l0_1.length : Int) then some (t1.1, t1.2.1, t1.2.2.1, t1.2.2.2.1, t1.2.2.2.2, false) else if (l0_0.length : Int) ≥ 200 then some (t1.1, t1.2.1, t1.2.2.1, t1.2.2.2.1, t1.2.2.2.2, false) else if 0 ≤ a1_1 then (if a1_1 < (l0_1.length : Int) then if a1_2 = (rd l0_1 a1_1) then if t1.1.length + ([(⟨a1_1, a1_2, (⟨a1_3, a1_4, a1_5, a1_6⟩ : S34)⟩ : S98)] : List S98).length < 2932031007402 then if a1_1 < (t1.2.1.length : Int) then impl_Kept.l0 k a1_0 a1_1 a1_2 a1_3 a1_4 a1_5 a1_6 t1 (t1.1 ++ ([(⟨a1_1, a1_2, (⟨a1_3, a1_4, a1_5, a1_6⟩ : S34)⟩ : S98)] : List S98)) (t1.2.1.set a1_1.toNat (wrap64 ((rd t1.2.1 a1_1) + 1))) t1.2.2.1 else none else none else (if a1_2 > (rd l0_1 a1_1) then (if a1_2 ≤ (wrap64 ((rd l0_1 a1_1) + 3)) then ((impl_earlyAt.f k l0_2 a1_1 a1_2).bind fun t14 => (if t14 < 0 then impl_Kept.j0 k a1_0 a1_1 a1_2 a1_3 a1_4 a1_5 a1_6 t1 (decide ((l0_2.length : Int) < 3)) else impl_Kept.j0 k a1_0 a1_1 a1_2 a1_3 a1_4 a1_5 a1_6 t1 false)) else impl_Kept.j0 k a1_0 a1_1 a1_2 a1_3 a1_4 a1_5 a1_6 t1 false) else impl_Kept.j0 k a1_0 a1_1 a1_2 a1_3 a1_4 a1_5 a1_6 t1 false) else none) else none) else some (t1.1, t1.2.1, t1.2.2.1, t1.2.2.2.1, t1.2.2.2.2, false)) else some (t1.1, t1.2.1, t1.2.2.1, t1.2.2.2.1, t1.2.2.2.2, false))
theorem impl_Kept.ok {k : Nat} {l0_0 : List S98} {l0_1 : List Int} {l0_2 : List S97} {a0_3 : Int} {l0_4 : List Int} {a1_0 : Int} {a1_1 : Int} {a1_2 : Int} {a1_3 : Int} {a1_4 : Int} {a1_5 : Int} {a1_6 : Int} {r : (List S98) × (List Int) × (List S97) × Int × (List Int) × Bool} (H : impl_Kept.f k l0_0 l0_1 l0_2 a0_3 l0_4 a1_0 a1_1 a1_2 a1_3 a1_4 a1_5 a1_6 = some r) : ACalls Try.prog 11 [] [.agg [.sl .o 6 (l0_0.map e98), .sl .o 1 (l0_1.map (eI .i64)), .sl .o 6 (l0_2.map e97), .lit (.int .i64 a0_3), .sl .o 1 (l0_4.map (eI .i64))], .agg [.lit (.int .i64 a1_0), .lit (.int .i64 a1_1), .lit (.int .i64 a1_2), .lit (.int .i64 a1_3), .lit (.int .i64 a1_4), .lit (.int .i64 a1_5), .lit (.int .i64 a1_6)]] [(0, .row 98 6 (r.1.map e98)), (1, .row 3 1 (r.2.1.map (eI .i64))), (2, .row 97 6 (r.2.2.1.map e97)), (3, .row 3 1 (r.2.2.2.2.1.map (eI .i64)))] (.tup [.agg [.row 0, .row 1, .row 2, .lit (.int .i64 r.2.2.2.1), .row 3], .lit (.bool r.2.2.2.2.2)]) := by
 refine acalls (fn := Try.f11) (nt := 159) Try.func11 rfl rfl (Nat.le_of_ble_eq_true rfl) fun E hE => ?_
 rw [impl_Kept.f] at H
 refine aw_grp1 ?_
 refine wk_start ?_
 refine kb g0 (bxA 0) ?_
 refine kb g0 (bxA 1) ?_
 refine kb g0 (alc 2 [.slice none 0 0, .slice none 0 0, .slice none 0 0, .int .i64 0, .slice none 0 0] [.lit (.slice none 0 0), .lit (.slice none 0 0), .lit (.slice none 0 0), .lit (.int .i64 0), .lit (.slice none 0 0)]) ?_
 refine kv g0 (asg) ?_
 refine wk_end ?_
 refine ac_next ?_
 refine aw_grp1 ?_
 refine wk_start ?_
 refine kv g0 (ldBA 5 [.sl .o 6 (l0_0.map e98), .sl .o 1 (l0_1.map (eI .i64)), .sl .o 6 (l0_2.map e97), .lit (.int .i64 a0_3), .sl .o 1 (l0_4.map (eI .i64))]) ?_
 obtain ⟨t1, A2, H⟩ := of_bind H
 refine kcS4 11 (.agg [.row 3, .row 4, .row 5, .lit (.int .i64 t1.2.2.2.1), .row 6]) [(3, .row 98 6 (t1.1.map e98)), (4, .row 3 1 (t1.2.1.map (eI .i64))), (5, .row 97 6 (t1.2.2.1.map e97)), (6, .row 3 1 (t1.2.2.2.2.map (eI .i64)))] g0 (cal (impl_copyKeeper.ok A2) [3, 4, 5, 6] 9999 .n (hf := Try.func53)) rfl rfl ?_
 refine kb g0 (alc 7 [.slice none 0 0, .slice none 0 0, .slice none 0 0, .int .i64 0, .slice none 0 0] [.lit (.slice none 0 0), .lit (.slice none 0 0), .lit (.slice none 0 0), .lit (.int .i64 0), .lit (.slice none 0 0)]) ?_
 refine ks g0 (stB 5 [.row 3, .row 4, .row 5, .lit (.int .i64 t1.2.2.2.1), .row 6]) ?_
 refine wk_end ?_
 refine ac_next ?_
 refine aw_grp1 ?_
 refine aw_grp1 ?_
 refine wk_start ?_
 refine kv g0 (ldBA 7 [.lit (.int .i64 a1_0), .lit (.int .i64 a1_1), .lit (.int .i64 a1_2), .lit (.int .i64 a1_3), .lit (.int .i64 a1_4), .lit (.int .i64 a1_5), .lit (.int .i64 a1_6)]) ?_
 obtain ⟨t3, A4, H⟩ := of_bind H
 refine kcS0 13 (.lit (.bool t3)) [] g0 (cal (impl_FrameOk.ok A4) [] 9999 .n (hf := Try.func49)) rfl rfl ?_
 refine kv g0 (not_) ?_
 refine kv g0 (mv) ?_
 by_cases c5 : t3 = true
 ·rw [if_pos c5] at H
  refine kv (g1 (nF c5)) (faB 0 0) ?_
  refine kv (g1 (nF c5)) (ldB) ?_
  refine kv (g1 (nF c5)) (neq) ?_
  refine kv g0 (pkF (nF c5)) ?_
  refine kv g0 (mv) ?_
  by_cases c6 : a1_0 = 1
  ·rw [if_pos c6] at H
   refine kv (g1 (eM c6)) (faB 1 1) ?_
   refine kv (g1 (eM c6)) (ldB) ?_
   refine kv (g1 (eM c6)) (faB 1 1) ?_
   refine kv (g1 (eM c6)) (ldB) ?_
   refine kv (g1 (eM c6)) (lnS lenE) ?_
   refine kv (g1 (eM c6)) (geq) ?_
   refine kv g0 (pkF (eM c6)) ?_
   refine kv g0 (mv) ?_
   by_cases c7 : a1_1 ≥ (l0_1.length : Int)
   ·rw [if_pos c7] at H
    refine kx (hF (decide_eq_true c7)) ?_
    refine kx (hF (decide_eq_true c7)) ?_
    refine kx (hF (decide_eq_true c7)) ?_
    refine kx (hF (decide_eq_true c7)) ?_
    refine kv g0 (pkT (decide_eq_true c7)) ?_
    refine wk_end ?_
    refine ac_next ?_
    refine aw_ifT ?_ rfl
    refine aw_grp1 ?_
    refine wk_start ?_
    refine kv g0 (ldBA 5 [.row 3, .row 4, .row 5, .lit (.int .i64 t1.2.2.2.1), .row 6]) ?_
    refine ks g0 (stB 5 [.row 3, .row 4, .row 5, .lit (.int .i64 t1.2.2.2.1), .row 6]) ?_
    refine kv g0 (asg) ?_
    refine wk_end ?_
    refine ac_next ?_
    refine aw_ret ?_
    refine ac_thenR ?_
    obtain rfl := Option.some.inj H
    exact acr hE [.cell 4 29, .tmp 5] (rcA 5 (.tmp .nil)) (.many _ _ _) [(0, 3), (1, 4), (2, 5), (3, 6)] 9999
   rw [if_neg c7] at H
   refine kv (g1 (decide_eq_false c7)) (faB 0 0) ?_
   refine kv (g1 (decide_eq_false c7)) (ldB) ?_
   refine kv (g1 (decide_eq_false c7)) (lnS lenE) ?_
   refine kv (g1 (decide_eq_false c7)) (geq) ?_
   refine kv g0 (pkF (decide_eq_false c7)) ?_
   refine wk_end ?_
   refine ac_next ?_
   by_cases c8 : (l0_0.length : Int) ≥ 200
   ·rw [if_pos c8] at H
    refine aw_ifT ?_ (decide_eq_true c8)
    refine aw_grp1 ?_
    refine wk_start ?_
    refine kv g0 (ldBA 5 [.row 3, .row 4, .row 5, .lit (.int .i64 t1.2.2.2.1), .row 6]) ?_
    refine ks g0 (stB 5 [.row 3, .row 4, .row 5, .lit (.int .i64 t1.2.2.2.1), .row 6]) ?_
    refine kv g0 (asg) ?_
    refine wk_end ?_
    refine ac_next ?_
    refine aw_ret ?_
    refine ac_thenR ?_
    obtain rfl := Option.some.inj H
    exact acr hE [.cell 4 29, .tmp 5] (rcA 5 (.tmp .nil)) (.many _ _ _) [(0, 3), (1, 4), (2, 5), (3, 6)] 9999
   rw [if_neg c8] at H
   refine aw_ifF ?_ (decide_eq_false c8)
   refine aw_skip ?_
   refine ac_next ?_
   refine aw_grp1 ?_
   refine wk_start ?_
   refine kv g0 (faB 1 1) ?_
   refine kv g0 (ldB) ?_
   refine kv g0 (faB 1 1) ?_
   refine kv g0 (ldB) ?_
   obtain ⟨c9, H⟩ := of_if H
   obtain ⟨c10, H⟩ := of_if H
   refine kv g0 (ixS 3 (eI .i64 (rd l0_1 a1_1)) c9 (getE (z := (0 : Int)) c9 c10)) ?_
   refine kv g0 (ldR (.lit (.int .i64 (rd l0_1 a1_1)))) ?_
   refine kv g0 (asg) ?_
   refine wk_end ?_
   refine ac_next ?_
   refine aw_grp1 ?_
   refine aw_grp1 ?_
   refine wk_start ?_
   refine kv g0 (faB 2 2) ?_
   refine kv g0 (ldB) ?_
   refine kv g0 (mv) ?_
   refine kv g0 (neq) ?_
   refine wk_end ?_
   refine ac_next ?_
   by_cases c11 : a1_2 = (rd l0_1 a1_1)
   ·rw [if_pos c11] at H
    refine aw_ifF ?_ (eM c11)
    refine aw_skip ?_
    refine ac_next ?_
    refine aw_grp1 ?_
    refine wk_start ?_
    refine kv g0 (faB 0 0) ?_
    refine kv g0 (ldB) ?_
    refine kv g0 (faB 1 1) ?_
    refine kv g0 (ldB) ?_
    refine kv g0 (faB 2 2) ?_
    refine kv g0 (ldB) ?_
    refine kv g0 (faB 3 3) ?_
    refine kv g0 (ldBA 4 [.lit (.int .i64 a1_3), .lit (.int .i64 a1_4), .lit (.int .i64 a1_5), .lit (.int .i64 a1_6)]) ?_
    refine kv g0 (bld [(0, 1), (1, 1), (2, 4)] [.int .i64 0, .int .i64 0, .int .i64 0, .int .i64 0, .int .i64 0, .int .i64 0] [.lit (.int .i64 a1_1), .lit (.int .i64 a1_2), .lit (.int .i64 a1_3), .lit (.int .i64 a1_4), .lit (.int .i64 a1_5), .lit (.int .i64 a1_6)]) ?_
    refine kb g0 (bsl 10 98 6 [.int .i64 0, .int .i64 0, .int .i64 0, .int .i64 0, .int .i64 0, .int .i64 0] (([(⟨a1_1, a1_2, (⟨a1_3, a1_4, a1_5, a1_6⟩ : S34)⟩ : S98)] : List S98).map e98)) ?_
    obtain ⟨c22, H⟩ := of_if H
    refine kc g0 (apR 11 98 6 48 [.int .i64 0, .int .i64 0, .int .i64 0, .int .i64 0, .int .i64 0, .int .i64 0] ((t1.1 ++ ([(⟨a1_1, a1_2, (⟨a1_3, a1_4, a1_5, a1_6⟩ : S34)⟩ : S98)] : List S98)).map e98) (.row rfl) (apb c22 rfl) appE) ?_
    refine kv g0 (faB 0 0) ?_
    refine ks g0 (stB 1 [.row 11, .row 4, .row 5, .lit (.int .i64 t1.2.2.2.1), .row 6]) ?_
    refine wk_end ?_
    refine ac_next ?_
    refine aw_grp1 ?_
    refine wk_start ?_
    refine kv g0 (faB 1 1) ?_
    refine kv g0 (ldB) ?_
    refine kv g0 (faB 1 1) ?_
    refine kv g0 (ldB) ?_
    obtain ⟨c23, H⟩ := of_if H
    refine kv g0 (ixR 3 c9 (ltE c23)) ?_
    refine kv g0 (ldE (eI .i64 (rd t1.2.1 a1_1)) (.lit (.int .i64 (rd t1.2.1 a1_1))) (getE (z := (0 : Int)) c9 c23)) ?_
    refine kv g0 (add6) ?_
    refine kv g0 (ixR 3 c9 (ltE c23)) ?_
    refine ks g0 (stE 1 (eI .i64 (wrap64 ((rd t1.2.1 a1_1) + 1))) ((t1.2.1.set a1_1.toNat (wrap64 ((rd t1.2.1 a1_1) + 1))).map (eI .i64)) (getE (z := (0 : Int)) c9 c23) setE) ?_
    refine wk_end ?_
    refine ac_next ?_
    refine aw_grp1 ?_
    refine aw_block ?_
    refine aw_loop3 (fun (k_ : Nat) (q37 : List S98) (q38 : List Int) (q39 : List S97) => k_ ≤ k ∧ impl_Kept.l0 k_ a1_0 a1_1 a1_2 a1_3 a1_4 a1_5 a1_6 t1 q37 q38 q39 = some r) (fun (q37 : List S98) (q38 : List Int) (q39 : List S97) => ⟨[(3, .box 1 0), (4, .box 2 0), (6, .box 7 0)], [(1, .box 36 [.lit (.int .i64 a1_0), .lit (.int .i64 a1_1), .lit (.int .i64 a1_2), .lit (.int .i64 a1_3), .lit (.int .i64 a1_4), .lit (.int .i64 a1_5), .lit (.int .i64 a1_6)]), (2, .box 29 [.lit (.slice none 0 0), .lit (.slice none 0 0), .lit (.slice none 0 0), .lit (.int .i64 0), .lit (.slice none 0 0)]), (4, .row 3 1 (q38.map (eI .i64))), (5, .row 97 6 (q39.map e97)), (6, .row 3 1 (t1.2.2.2.2.map (eI .i64))), (7, .box 29 [.row 11, .row 4, .row 5, .lit (.int .i64 t1.2.2.2.1), .row 6]), (11, .row 98 6 (q37.map e98))]⟩) k (t1.1 ++ ([(⟨a1_1, a1_2, (⟨a1_3, a1_4, a1_5, a1_6⟩ : S34)⟩ : S98)] : List S98)) (t1.2.1.set a1_1.toNat (wrap64 ((rd t1.2.1 a1_1) + 1))) t1.2.2.1 ⟨Nat.le_refl _, H⟩ (fun K_ h_ => acw hE [(1, 1), (2, 2), (4, 4), (5, 5), (6, 6), (7, 7), (11, 11)] 9999 h_) (fun _ _ _ => by intro h_; have h_ := h_.2; rw [impl_Kept.l0.eq_1] at h_; cases h_) ?_
    intro k40 q37 q38 q39 hq_ K53 hK54
    have hk40 := hq_.1
    have H := hq_.2
    clear hq_
    rw [impl_Kept.l0.eq_2] at H
    refine aw_grp1 ?_
    refine aw_grp1 ?_
    refine wk_start ?_
    refine kv g0 (faB 0 0) ?_
    refine kv g0 (ldB) ?_
    refine kv g0 (lnR lenE) ?_
    refine kv g0 (lss) ?_
    refine wk_end ?_
    refine ac_next ?_
    by_cases c41 : (q37.length : Int) < 200
    ·rw [if_pos c41] at H
     refine aw_ifT ?_ (decide_eq_true c41)
     refine aw_skip ?_
     refine ac_next ?_
     refine aw_block ?_
     refine aw_grp1 ?_
     refine wk_start ?_
     refine kv g0 (faB 2 2) ?_
     refine kv g0 (ldB) ?_
     refine kv g0 (faB 1 1) ?_
     refine kv g0 (ldB) ?_
     refine kv g0 (faB 1 1) ?_
     refine kv g0 (ldB) ?_
     refine kv g0 (faB 1 1) ?_
     refine kv g0 (ldB) ?_
     obtain ⟨c42, H⟩ := of_if H
     refine kv g0 (ixR 3 c9 (ltE c42)) ?_
     refine kv g0 (ldE (eI .i64 (rd q38 a1_1)) (.lit (.int .i64 (rd q38 a1_1))) (getE (z := (0 : Int)) c9 c42)) ?_
     obtain ⟨t43, A44, H⟩ := of_bind H
     refine kcS0 119 (.lit (.int .i64 t43)) [] g0 (cal (impl_earlyAt.ok A44) [] 9999 .n (hf := Try.func54)) rfl rfl ?_
     refine kv g0 (asg) ?_
     refine wk_end_draw hM (by kernel_rfl) ?_
     refine ac_next ?_
     refine aw_grp1 ?_
     refine aw_grp1 ?_
     refine wk_start ?_
     refine kv g0 (mv) ?_
     refine kv g0 (lss) ?_
     refine wk_end ?_
     refine ac_next ?_
     by_cases c45 : t43 < 0
     ·rw [if_pos c45] at H
      refine aw_ifT ?_ (decide_eq_true c45)
      refine aw_exit ?_
      refine ac_then ?_
      refine ac_miss rfl ?_
      refine ac_then ?_
      refine ac_hit rfl ?_
      refine ac_next ?_
      refine aw_grp1 ?_
      refine wk_start ?_
      refine kv g0 (ldBA 5 [.row 11, .row 4, .row 5, .lit (.int .i64 t1.2.2.2.1), .row 6]) ?_
      refine ks g0 (stB 5 [.row 11, .row 4, .row 5, .lit (.int .i64 t1.2.2.2.1), .row 6]) ?_
      refine kv g0 (asg) ?_
      refine wk_end ?_
      refine ac_next ?_
      refine aw_ret ?_
      obtain rfl := Option.some.inj H
      exact acr hE [.cell 4 29, .tmp 5] (rcA 5 (.tmp .nil)) (.many _ _ _) [(0, 11), (1, 4), (2, 5), (3, 6)] 9999
     rw [if_neg c45] at H
     refine aw_ifF ?_ (decide_eq_false c45)
     refine aw_skip ?_
     refine ac_next ?_
     refine aw_grp1 ?_
     refine wk_start ?_
     refine kv g0 (faB 2 2) ?_
     refine kv g0 (ldB) ?_
     refine kv g0 (mv) ?_
     obtain ⟨c46, H⟩ := of_if H
     obtain ⟨c47, H⟩ := of_if H
     refine kv g0 (ixR 97 c46 (ltE c47)) ?_
     refine kv g0 (ldEA 6 (e97 (rd_T97 q39 t43)) [.lit (.int .i64 ((rd_T97 q39 t43).f0)), .lit (.int .i64 ((rd_T97 q39 t43).f1)), .lit (.int .i64 ((rd_T97 q39 t43).f2.f0)), .lit (.int .i64 ((rd_T97 q39 t43).f2.f1)), .lit (.int .i64 ((rd_T97 q39 t43).f2.f2)), .lit (.int .i64 ((rd_T97 q39 t43).f2.f3))] (getE (z := z97) c46 c47)) ?_
     refine kb g0 (alc 12 [.int .i64 0, .int .i64 0, .int .i64 0, .int .i64 0, .int .i64 0, .int .i64 0] [.lit (.int .i64 0), .lit (.int .i64 0), .lit (.int .i64 0), .lit (.int .i64 0), .lit (.int .i64 0), .lit (.int .i64 0)]) ?_
     refine ks g0 (stB 6 [.lit (.int .i64 ((rd_T97 q39 t43).f0)), .lit (.int .i64 ((rd_T97 q39 t43).f1)), .lit (.int .i64 ((rd_T97 q39 t43).f2.f0)), .lit (.int .i64 ((rd_T97 q39 t43).f2.f1)), .lit (.int .i64 ((rd_T97 q39 t43).f2.f2)), .lit (.int .i64 ((rd_T97 q39 t43).f2.f3))]) ?_
     refine wk_end ?_
     refine ac_next ?_
     refine aw_grp1 ?_
     refine wk_start ?_
     refine kv g0 (faB 2 2) ?_
     refine kv g0 (ldB) ?_
     refine kv g0 (mv) ?_
     obtain ⟨c48, H⟩ := of_if H
     refine kv g0 (srH 97 c46 c48) ?_
     refine kv g0 (faB 2 2) ?_
     refine kv g0 (ldB) ?_
     refine kv g0 (mv) ?_
     refine kv g0 (add6) ?_
     obtain ⟨c49, H⟩ := of_if H
     obtain ⟨c50, H⟩ := of_if H
     refine kv g0 (srL 97 c49 c50) ?_
     obtain ⟨c51, H⟩ := of_if H
     refine kc g0 (apS 13 97 6 48 [.int .i64 0, .int .i64 0, .int .i64 0, .int .i64 0, .int .i64 0, .int .i64 0] (((q39.take t43.toNat) ++ (q39.drop (wrap64 (t43 + 1)).toNat)).map e97) (frl c48) (nwS rfl mapD) (apbS c51 (frl' c48) rfl) appS) ?_
     refine kv g0 (faB 2 2) ?_
     refine ks g0 (stB 1 [.row 11, .row 4, .row 13, .lit (.int .i64 t1.2.2.2.1), .row 6]) ?_
     refine wk_end_draw hM (by kernel_rfl) ?_
     refine ac_next ?_
     refine aw_grp1 ?_
     refine wk_start ?_
     refine kv g0 (faB 0 0) ?_
     refine kv g0 (ldB) ?_
     refine kv g0 (faB 0 0) ?_
     refine kv g0 (ldB) ?_
     refine kv g0 (faB 1 1) ?_
     refine kv g0 (ldB) ?_
     refine kv g0 (faB 2 2) ?_
     refine kv g0 (ldBA 4 [.lit (.int .i64 ((rd_T97 q39 t43).f2.f0)), .lit (.int .i64 ((rd_T97 q39 t43).f2.f1)), .lit (.int .i64 ((rd_T97 q39 t43).f2.f2)), .lit (.int .i64 ((rd_T97 q39 t43).f2.f3))]) ?_
     refine kv g0 (bld [(0, 1), (1, 1), (2, 4)] [.int .i64 0, .int .i64 0, .int .i64 0, .int .i64 0, .int .i64 0, .int .i64 0] [.lit (.int .i64 ((rd_T97 q39 t43).f0)), .lit (.int .i64 ((rd_T97 q39 t43).f1)), .lit (.int .i64 ((rd_T97 q39 t43).f2.f0)), .lit (.int .i64 ((rd_T97 q39 t43).f2.f1)), .lit (.int .i64 ((rd_T97 q39 t43).f2.f2)), .lit (.int .i64 ((rd_T97 q39 t43).f2.f3))]) ?_
     refine kb g0 (bsl 14 98 6 [.int .i64 0, .int .i64 0, .int .i64 0, .int .i64 0, .int .i64 0, .int .i64 0] (([(⟨(rd_T97 q39 t43).f0, (rd_T97 q39 t43).f1, (⟨(rd_T97 q39 t43).f2.f0, (rd_T97 q39 t43).f2.f1, (rd_T97 q39 t43).f2.f2, (rd_T97 q39 t43).f2.f3⟩ : S34)⟩ : S98)] : List S98).map e98)) ?_
     obtain ⟨c52, H⟩ := of_if H
     refine kc g0 (apR 15 98 6 48 [.int .i64 0, .int .i64 0, .int .i64 0, .int .i64 0, .int .i64 0, .int .i64 0] ((q37 ++ ([(⟨(rd_T97 q39 t43).f0, (rd_T97 q39 t43).f1, (⟨(rd_T97 q39 t43).f2.f0, (rd_T97 q39 t43).f2.f1, (rd_T97 q39 t43).f2.f2, (rd_T97 q39 t43).f2.f3⟩ : S34)⟩ : S98)] : List S98)).map e98) (.row rfl) (apb c52 rfl) appE) ?_
     refine kv g0 (faB 0 0) ?_
     refine ks g0 (stB 1 [.row 15, .row 4, .row 13, .lit (.int .i64 t1.2.2.2.1), .row 6]) ?_
     refine wk_end ?_
     refine ac_next ?_
     refine wk_start ?_
     refine kv g0 (faB 1 1) ?_
     refine kv g0 (ldB) ?_
     refine kv g0 (faB 1 1) ?_
     refine kv g0 (ldB) ?_
     refine kv g0 (ixR 3 c9 (ltE c42)) ?_
     refine kv g0 (ldE (eI .i64 (rd q38 a1_1)) (.lit (.int .i64 (rd q38 a1_1))) (getE (z := (0 : Int)) c9 c42)) ?_
     refine kv g0 (add6) ?_
     refine kv g0 (ixR 3 c9 (ltE c42)) ?_
     refine ks g0 (stE 1 (eI .i64 (wrap64 ((rd q38 a1_1) + 1))) ((q38.set a1_1.toNat (wrap64 ((rd q38 a1_1) + 1))).map (eI .i64)) (getE (z := (0 : Int)) c9 c42) setE) ?_
     refine wk_end ?_
     refine ac_blkN ?_
     refine ac_k ?_
     exact acw hE [(1, 1), (2, 2), (4, 4), (5, 13), (6, 6), (7, 7), (11, 15)] 9999 (hK54 k40 (q37 ++ ([(⟨(rd_T97 q39 t43).f0, (rd_T97 q39 t43).f1, (⟨(rd_T97 q39 t43).f2.f0, (rd_T97 q39 t43).f2.f1, (rd_T97 q39 t43).f2.f2, (rd_T97 q39 t43).f2.f3⟩ : S34)⟩ : S98)] : List S98)) (q38.set a1_1.toNat (wrap64 ((rd q38 a1_1) + 1))) ((q39.take t43.toNat) ++ (q39.drop (wrap64 (t43 + 1)).toNat)) (Nat.le_refl _) ⟨by omega, H⟩)
    rw [if_neg c41] at H
    refine aw_ifF ?_ (decide_eq_false c41)
    refine aw_exit ?_
    refine ac_then ?_
    refine ac_then ?_
    refine ac_hit rfl ?_
    refine ac_next ?_
    refine aw_grp1 ?_
    refine wk_start ?_
    refine kv g0 (ldBA 5 [.row 11, .row 4, .row 5, .lit (.int .i64 t1.2.2.2.1), .row 6]) ?_
    refine ks g0 (stB 5 [.row 11, .row 4, .row 5, .lit (.int .i64 t1.2.2.2.1), .row 6]) ?_
    refine kv g0 (asg) ?_
    refine wk_end ?_
    refine ac_next ?_
    refine aw_ret ?_
    obtain rfl := Option.some.inj H
    exact acr hE [.cell 4 29, .tmp 5] (rcA 5 (.tmp .nil)) (.many _ _ _) [(0, 11), (1, 4), (2, 5), (3, 6)] 9999
   rw [if_neg c11] at H
   refine aw_ifT ?_ (eN c11)
   refine aw_grp1 ?_
   refine aw_cut1 (J := fun K_ => ∀ (k_ : Nat) (p17 : Bool), k_ ≤ k → impl_Kept.j0 k_ a1_0 a1_1 a1_2 a1_3 a1_4 a1_5 a1_6 t1 p17 = some r → ACont E 159 ⟨[(3, .box 1 0), (4, .box 2 0), (6, .box 7 0), (71, .lit (.bool p17))], [(1, .box 36 [.lit (.int .i64 a1_0), .lit (.int .i64 a1_1), .lit (.int .i64 a1_2), .lit (.int .i64 a1_3), .lit (.int .i64 a1_4), .lit (.int .i64 a1_5), .lit (.int .i64 a1_6)]), (2, .box 29 [.lit (.slice none 0 0), .lit (.slice none 0 0), .lit (.slice none 0 0), .lit (.int .i64 0), .lit (.slice none 0 0)]), (3, .row 98 6 (t1.1.map e98)), (4, .row 3 1 (t1.2.1.map (eI .i64))), (5, .row 97 6 (t1.2.2.1.map e97)), (6, .row 3 1 (t1.2.2.2.2.map (eI .i64))), (7, .box 29 [.row 3, .row 4, .row 5, .lit (.int .i64 t1.2.2.2.1), .row 6])]⟩ K_) ?_ ?_
   ·intro K_ hJ21
    refine wk_start ?_
    refine kv g0 (faB 2 2) ?_
    refine kv g0 (ldB) ?_
    refine kv g0 (mv) ?_
    refine kv g0 (gtr) ?_
    refine kv g0 (mv) ?_
    by_cases c12 : a1_2 > (rd l0_1 a1_1)
    ·rw [if_pos c12] at H
     refine kv (g1 (decide_eq_true c12)) (faB 2 2) ?_
     refine kv (g1 (decide_eq_true c12)) (ldB) ?_
     refine kv (g1 (decide_eq_true c12)) (mv) ?_
     refine kv (g1 (decide_eq_true c12)) (add6) ?_
     refine kv (g1 (decide_eq_true c12)) (leq) ?_
     refine kv g0 (pkT (decide_eq_true c12)) ?_
     refine kv g0 (mv) ?_
     by_cases c13 : a1_2 ≤ (wrap64 ((rd l0_1 a1_1) + 3))
     ·rw [if_pos c13] at H
      refine kv (g1 (decide_eq_true c13)) (faB 2 2) ?_
      refine kv (g1 (decide_eq_true c13)) (ldB) ?_
      refine kv (g1 (decide_eq_true c13)) (faB 1 1) ?_
      refine kv (g1 (decide_eq_true c13)) (ldB) ?_
      refine kv (g1 (decide_eq_true c13)) (faB 2 2) ?_
      refine kv (g1 (decide_eq_true c13)) (ldB) ?_
      obtain ⟨t14, A15, H⟩ := of_bind H
      refine kcS0 63 (.lit (.int .i64 t14)) [] (g1 (decide_eq_true c13)) (cal (impl_earlyAt.ok A15) [] 9999 .n (hf := Try.func54)) rfl rfl ?_
      refine kv (g1 (decide_eq_true c13)) (lss) ?_
      refine kv g0 (pkT (decide_eq_true c13)) ?_
      refine kv g0 (mv) ?_
      by_cases c16 : t14 < 0
      ·rw [if_pos c16] at H
       refine kv (g1 (decide_eq_true c16)) (faB 2 2) ?_
       refine kv (g1 (decide_eq_true c16)) (ldB) ?_
       refine kv (g1 (decide_eq_true c16)) (lnS lenE) ?_
       refine kv (g1 (decide_eq_true c16)) (lss) ?_
       refine kv g0 (pkT (decide_eq_true c16)) ?_
       refine wk_end ?_
       refine ac_k ?_
       exact acw hE [(1, 1), (2, 2), (3, 3), (4, 4), (5, 5), (6, 6), (7, 7)] 9999 (hJ21 k (decide ((l0_2.length : Int) < 3)) (Nat.le_refl _) H)
      rw [if_neg c16] at H
      refine kx (hT (decide_eq_false c16)) ?_
      refine kx (hT (decide_eq_false c16)) ?_
      refine kx (hT (decide_eq_false c16)) ?_
      refine kx (hT (decide_eq_false c16)) ?_
      refine kv g0 (pkF (decide_eq_false c16)) ?_
      refine wk_end ?_
      refine ac_k ?_
      exact acw hE [(1, 1), (2, 2), (3, 3), (4, 4), (5, 5), (6, 6), (7, 7)] 9999 (hJ21 k false (Nat.le_refl _) H)
     rw [if_neg c13] at H
     refine kx (hT (decide_eq_false c13)) ?_
     refine kx (hT (decide_eq_false c13)) ?_
     refine kx (hT (decide_eq_false c13)) ?_
     refine kx (hT (decide_eq_false c13)) ?_
     refine kx (hT (decide_eq_false c13)) ?_
     refine kx (hT (decide_eq_false c13)) ?_
     refine kx (hT (decide_eq_false c13)) ?_
     refine kx (hT (decide_eq_false c13)) ?_
     refine kv g0 (pkF (decide_eq_false c13)) ?_
     refine kv g0 (mv) ?_
     refine kx (hT rfl) ?_
     refine kx (hT rfl) ?_
     refine kx (hT rfl) ?_
     refine kx (hT rfl) ?_
     refine kv g0 (pkF rfl) ?_
     refine wk_end ?_
     refine ac_k ?_
     exact acw hE [(1, 1), (2, 2), (3, 3), (4, 4), (5, 5), (6, 6), (7, 7)] 9999 (hJ21 k false (Nat.le_refl _) H)
    rw [if_neg c12] at H
    refine kx (hT (decide_eq_false c12)) ?_
    refine kx (hT (decide_eq_false c12)) ?_
    refine kx (hT (decide_eq_false c12)) ?_
    refine kx (hT (decide_eq_false c12)) ?_
    refine kx (hT (decide_eq_false c12)) ?_
    refine kv g0 (pkF (decide_eq_false c12)) ?_
    refine kv g0 (mv) ?_
    refine kx (hT rfl) ?_
    refine kx (hT rfl) ?_
    refine kx (hT rfl) ?_
    refine kx (hT rfl) ?_
    refine kx (hT rfl) ?_
    refine kx (hT rfl) ?_
    refine kx (hT rfl) ?_
    refine kx (hT rfl) ?_
    refine kv g0 (pkF rfl) ?_
    refine kv g0 (mv) ?_
    refine kx (hT rfl) ?_
    refine kx (hT rfl) ?_
    refine kx (hT rfl) ?_
    refine kx (hT rfl) ?_
    refine kv g0 (pkF rfl) ?_
    refine wk_end ?_
    refine ac_k ?_
    exact acw hE [(1, 1), (2, 2), (3, 3), (4, 4), (5, 5), (6, 6), (7, 7)] 9999 (hJ21 k false (Nat.le_refl _) H)
   intro k_ p17 hk_ H
   rcases k_ with _ | k18
   ·rw [impl_Kept.j0.eq_1] at H; cases H
   have hk18 : k18 ≤ k := by omega
   clear hk_
   rw [impl_Kept.j0.eq_2] at H
   by_cases c19 : p17 = true
   ·rw [if_pos c19] at H
    refine aw_ifT ?_ c19
    refine wk_start ?_
    refine kv g0 (faB 2 2) ?_
    refine kv g0 (ldB) ?_
    refine kv g0 (faB 1 1) ?_
    refine kv g0 (ldB) ?_
    refine kv g0 (faB 2 2) ?_
    refine kv g0 (ldB) ?_
    refine kv g0 (faB 3 3) ?_
    refine kv g0 (ldBA 4 [.lit (.int .i64 a1_3), .lit (.int .i64 a1_4), .lit (.int .i64 a1_5), .lit (.int .i64 a1_6)]) ?_
    refine kv g0 (bld [(0, 1), (1, 1), (2, 4)] [.int .i64 0, .int .i64 0, .int .i64 0, .int .i64 0, .int .i64 0, .int .i64 0] [.lit (.int .i64 a1_1), .lit (.int .i64 a1_2), .lit (.int .i64 a1_3), .lit (.int .i64 a1_4), .lit (.int .i64 a1_5), .lit (.int .i64 a1_6)]) ?_
    refine kb g0 (bsl 8 97 6 [.int .i64 0, .int .i64 0, .int .i64 0, .int .i64 0, .int .i64 0, .int .i64 0] (([(⟨a1_1, a1_2, (⟨a1_3, a1_4, a1_5, a1_6⟩ : S34)⟩ : S97)] : List S97).map e97)) ?_
    obtain ⟨c20, H⟩ := of_if H
    refine kc g0 (apR 9 97 6 48 [.int .i64 0, .int .i64 0, .int .i64 0, .int .i64 0, .int .i64 0, .int .i64 0] ((t1.2.2.1 ++ ([(⟨a1_1, a1_2, (⟨a1_3, a1_4, a1_5, a1_6⟩ : S34)⟩ : S97)] : List S97)).map e97) (.row rfl) (apb c20 rfl) appE) ?_
    refine kv g0 (faB 2 2) ?_
    refine ks g0 (stB 1 [.row 3, .row 4, .row 9, .lit (.int .i64 t1.2.2.2.1), .row 6]) ?_
    refine wk_end ?_
    refine ac_next ?_
    refine aw_grp1 ?_
    refine wk_start ?_
    refine kv g0 (ldBA 5 [.row 3, .row 4, .row 9, .lit (.int .i64 t1.2.2.2.1), .row 6]) ?_
    refine ks g0 (stB 5 [.row 3, .row 4, .row 9, .lit (.int .i64 t1.2.2.2.1), .row 6]) ?_
    refine kv g0 (asg) ?_
    refine wk_end ?_
    refine ac_next ?_
    refine aw_ret ?_
    refine ac_thenR ?_
    obtain rfl := Option.some.inj H
    exact acr hE [.cell 4 29, .tmp 5] (rcA 5 (.tmp .nil)) (.many _ _ _) [(0, 3), (1, 4), (2, 9), (3, 6)] 9999
   rw [if_neg c19] at H
   refine aw_ifF ?_ (bF c19)
   refine aw_skip ?_
   refine ac_next ?_
   refine aw_grp1 ?_
   refine wk_start ?_
   refine kv g0 (ldBA 5 [.row 3, .row 4, .row 5, .lit (.int .i64 t1.2.2.2.1), .row 6]) ?_
   refine ks g0 (stB 5 [.row 3, .row 4, .row 5, .lit (.int .i64 t1.2.2.2.1), .row 6]) ?_
   refine kv g0 (asg) ?_
   refine wk_end ?_
   refine ac_next ?_
   refine aw_ret ?_
   refine ac_thenR ?_
   obtain rfl := Option.some.inj H
   exact acr hE [.cell 4 29, .tmp 5] (rcA 5 (.tmp .nil)) (.many _ _ _) [(0, 3), (1, 4), (2, 5), (3, 6)] 9999
  rw [if_neg c6] at H
  refine kx (hF (eN c6)) ?_
  refine kx (hF (eN c6)) ?_
  refine kx (hF (eN c6)) ?_
  refine kx (hF (eN c6)) ?_
  refine kx (hF (eN c6)) ?_
  refine kx (hF (eN c6)) ?_
  refine kv g0 (pkT (eN c6)) ?_
  refine kv g0 (mv) ?_
  refine kx (hF rfl) ?_
  refine kx (hF rfl) ?_
  refine kx (hF rfl) ?_
  refine kx (hF rfl) ?_
  refine kv g0 (pkT rfl) ?_
  refine wk_end ?_
  refine ac_next ?_
  refine aw_ifT ?_ rfl
  refine aw_grp1 ?_
  refine wk_start ?_
  refine kv g0 (ldBA 5 [.row 3, .row 4, .row 5, .lit (.int .i64 t1.2.2.2.1), .row 6]) ?_
  refine ks g0 (stB 5 [.row 3, .row 4, .row 5, .lit (.int .i64 t1.2.2.2.1), .row 6]) ?_
  refine kv g0 (asg) ?_
  refine wk_end ?_
  refine ac_next ?_
  refine aw_ret ?_
  refine ac_thenR ?_
  obtain rfl := Option.some.inj H
  exact acr hE [.cell 4 29, .tmp 5] (rcA 5 (.tmp .nil)) (.many _ _ _) [(0, 3), (1, 4), (2, 5), (3, 6)] 9999
 rw [if_neg c5] at H
 refine kx (hF (nT (bF c5))) ?_
 refine kx (hF (nT (bF c5))) ?_
 refine kx (hF (nT (bF c5))) ?_
 refine kv g0 (pkT (nT (bF c5))) ?_
 refine kv g0 (mv) ?_
 refine kx (hF rfl) ?_
 refine kx (hF rfl) ?_
 refine kx (hF rfl) ?_
 refine kx (hF rfl) ?_
 refine kx (hF rfl) ?_
 refine kx (hF rfl) ?_
 refine kv g0 (pkT rfl) ?_
 refine kv g0 (mv) ?_
 refine kx (hF rfl) ?_
 refine kx (hF rfl) ?_
 refine kx (hF rfl) ?_
 refine kx (hF rfl) ?_
 refine kv g0 (pkT rfl) ?_
 refine wk_end ?_
 refine ac_next ?_
 refine aw_ifT ?_ rfl
 refine aw_grp1 ?_
 refine wk_start ?_
 refine kv g0 (ldBA 5 [.row 3, .row 4, .row 5, .lit (.int .i64 t1.2.2.2.1), .row 6]) ?_
 refine ks g0 (stB 5 [.row 3, .row 4, .row 5, .lit (.int .i64 t1.2.2.2.1), .row 6]) ?_
 refine kv g0 (asg) ?_
 refine wk_end ?_
 refine ac_next ?_
 refine aw_ret ?_
 refine ac_thenR ?_
 obtain rfl := Option.some.inj H
 exact acr hE [.cell 4 29, .tmp 5] (rcA 5 (.tmp .nil)) (.many _ _ _) [(0, 3), (1, 4), (2, 5), (3, 6)] 9999
/-! spec_DrawKeeperOk -/
def spec_DrawKeeperOk.f (k : Nat) (l0 : List Int) : Option ((List S98) × (List Int) × (List S97) × Int × (List Int)) := (spec_l01New.f k l0).bind fun t1 => ((spec_l20Any.f k t1.1 t1.2.1 t1.2.2).bind fun t3 => some (t3.1, t3.2.1, t3.2.2.1, t3.2.2.2.1, t3.2.2.2.2.1))
theorem spec_DrawKeeperOk.ok {k : Nat} {l0 : List Int} {r : (List S98) × (List Int) × (List S97) × Int × (List Int)} (H : spec_DrawKeeperOk.f k l0 = some r) : ACalls Try.prog 22 [] [.sl .o 1 (l0.map (eI .u8))] [(0, .row 98 6 (r.1.map e98)), (1, .row 3 1 (r.2.1.map (eI .i64))), (2, .row 97 6 (r.2.2.1.map e97))] (.agg [.row 0, .row 1, .row 2, .lit (.int .i64 r.2.2.2.1), .sl .n 1 (r.2.2.2.2.map (eI .i64))]) := by
 refine acalls (fn := Try.f22) (nt := 6) Try.func22 rfl rfl (Nat.le_of_ble_eq_true rfl) fun E hE => ?_
 rw [spec_DrawKeeperOk.f] at H
 refine aw_grp1 ?_
 refine wk_start ?_
 refine kb g0 (alc 0 [.slice none 0 0, .slice none 0 0, .slice none 0 0, .int .i64 0, .slice none 0 0] [.lit (.slice none 0 0), .lit (.slice none 0 0), .lit (.slice none 0 0), .lit (.int .i64 0), .lit (.slice none 0 0)]) ?_
 refine wk_end ?_
 refine ac_next ?_
 refine aw_grp1 ?_
 refine wk_start ?_
 refine kv g0 (mv) ?_
 obtain ⟨t1, A2, H⟩ := of_bind H
 refine kcS1 4 (.box 1 0) [(1, .box 142 [.sl .o 1 (t1.1.map (eI .u8)), .lit (.int .i64 t1.2.1), .lit (.int .i64 t1.2.2)])] g0 (cal (spec_l01New.ok A2) [1] 9999 .o (hf := Try.func50)) rfl rfl ?_
 obtain ⟨t3, A4, H⟩ := of_bind H
 refine kcS4 5 (.agg [.row 2, .row 3, .row 4, .lit (.int .i64 t3.2.2.2.1), .sl .n 1 (t3.2.2.2.2.1.map (eI .i64))]) [(1, .box 142 [.sl .o 1 (t3.2.2.2.2.2.1.map (eI .u8)), .lit (.int .i64 t3.2.2.2.2.2.2.1), .lit (.int .i64 t3.2.2.2.2.2.2.2)]), (2, .row 98 6 (t3.1.map e98)), (3, .row 3 1 (t3.2.1.map (eI .i64))), (4, .row 97 6 (t3.2.2.1.map e97))] g0 (cal (spec_l20Any.ok A4) [1, 2, 3, 4] 9999 .o (hf := Try.func62)) rfl rfl ?_
 refine ks g0 (stB 5 [.row 2, .row 3, .row 4, .lit (.int .i64 t3.2.2.2.1), .sl .n 1 (t3.2.2.2.2.1.map (eI .i64))]) ?_
 refine wk_end ?_
 refine ac_next ?_
 refine aw_ret ?_
 obtain rfl := Option.some.inj H
 exact acr hE [.cell 2 29] (rcA 5 .nil) (.one _) [(0, 2), (1, 3), (2, 4)] 9999
/-! spec_DrawAckOf -/
def spec_DrawAckOf.f (k : Nat) (l0 : List Int) : Option ((List S98) × (List Int) × (List S97) × Int × (List Int) × Int) := (spec_l01New.f k l0).bind fun t1 => (spec_l01Below.f t1.1 t1.2.1 t1.2.2 5).bind fun t3 => (spec_l20Any.f k t3.2.1 t3.2.2.1 t3.2.2.2).bind fun t5 => some (t5.1, t5.2.1, t5.2.2.1, t5.2.2.2.1, t5.2.2.2.2.1, wrap64 (t3.1 - 1))
theorem spec_DrawAckOf.ok {k : Nat} {l0 : List Int} {r : (List S98) × (List Int) × (List S97) × Int × (List Int) × Int} (H : spec_DrawAckOf.f k l0 = some r) : ACalls Try.prog 23 [] [.sl .o 1 (l0.map (eI .u8))] [(0, .row 98 6 (r.1.map e98)), (1, .row 3 1 (r.2.1.map (eI .i64))), (2, .row 97 6 (r.2.2.1.map e97))] (.tup [.agg [.row 0, .row 1, .row 2, .lit (.int .i64 r.2.2.2.1), .sl .n 1 (r.2.2.2.2.1.map (eI .i64))], .lit (.int .i64 r.2.2.2.2.2)]) := by
 refine acalls (fn := Try.f23) (nt := 14) Try.func23 rfl rfl (Nat.le_of_ble_eq_true rfl) fun E hE => ?_
 rw [spec_DrawAckOf.f] at H
 refine aw_grp1 ?_
 refine wk_start ?_
 refine kb g0 (alc 0 [.slice none 0 0, .slice none 0 0, .slice none 0 0, .int .i64 0, .slice none 0 0] [.lit (.slice none 0 0), .lit (.slice none 0 0), .lit (.slice none 0 0), .lit (.int .i64 0), .lit (.slice none 0 0)]) ?_
 refine kv g0 (asg) ?_
 refine wk_end ?_
 refine ac_next ?_
 refine aw_grp1 ?_
 refine wk_start ?_
 refine kv g0 (mv) ?_
 obtain ⟨t1, A2, H⟩ := of_bind H
 refine kcS1 7 (.box 1 0) [(1, .box 142 [.sl .o 1 (t1.1.map (eI .u8)), .lit (.int .i64 t1.2.1), .lit (.int .i64 t1.2.2)])] g0 (cal (spec_l01New.ok A2) [1] 9999 .o (hf := Try.func50)) rfl rfl ?_
 refine kv g0 (asg) ?_
 refine wk_end ?_
 refine ac_next ?_
 refine aw_grp1 ?_
 refine wk_start ?_
 refine kv g0 (mv) ?_
 obtain ⟨t3, A4, H⟩ := of_bind H
 refine kcS1 9 (.lit (.int .i64 t3.1)) [(1, .box 142 [.sl .o 1 (t3.2.1.map (eI .u8)), .lit (.int .i64 t3.2.2.1), .lit (.int .i64 t3.2.2.2)])] g0 (cal (spec_l01Below.ok A4) [1] 9999 .o (hf := Try.func52)) rfl rfl ?_
 refine kv g0 (sub6) ?_
 refine kv g0 (asg) ?_
 refine wk_end ?_
 refine ac_next ?_
 refine aw_grp1 ?_
 refine wk_start ?_
 refine kv g0 (mv) ?_
 obtain ⟨t5, A6, H⟩ := of_bind H
 refine kcS4 12 (.agg [.row 2, .row 3, .row 4, .lit (.int .i64 t5.2.2.2.1), .sl .n 1 (t5.2.2.2.2.1.map (eI .i64))]) [(1, .box 142 [.sl .o 1 (t5.2.2.2.2.2.1.map (eI .u8)), .lit (.int .i64 t5.2.2.2.2.2.2.1), .lit (.int .i64 t5.2.2.2.2.2.2.2)]), (2, .row 98 6 (t5.1.map e98)), (3, .row 3 1 (t5.2.1.map (eI .i64))), (4, .row 97 6 (t5.2.2.1.map e97))] g0 (cal (spec_l20Any.ok A6) [1, 2, 3, 4] 9999 .o (hf := Try.func62)) rfl rfl ?_
 refine kv g0 (mv) ?_
 refine ks g0 (stB 5 [.row 2, .row 3, .row 4, .lit (.int .i64 t5.2.2.2.1), .sl .n 1 (t5.2.2.2.2.1.map (eI .i64))]) ?_
 refine kv g0 (asg) ?_
 refine wk_end ?_
 refine ac_next ?_
 refine aw_ret ?_
 obtain rfl := Option.some.inj H
 exact acr hE [.cell 2 29, .tmp 3] (rcA 5 (.tmp .nil)) (.many _ _ _) [(0, 2), (1, 3), (2, 4)] 9999
/-! impl_AckOf -/
def impl_AckOf.f (l0_0 : List S98) (l0_1 : List Int) (l0_2 : List S97) (a0_3 : Int) (l0_4 : List Int) (a1 : Int) : Option (Int × Int × Int × Int × Int × Int × Int × Bool) := (impl_within.f a1 0 (wrap64 ((l0_4.length : Int) - 1))).bind fun t1 => if t1 = true then if 0 ≤ a1 then (if a1 < (l0_4.length : Int) then some (2, a1, (rd l0_4 a1), 0, 0, 0, 0, true) else none) else none else some (0, 0, 0, 0, 0, 0, 0, false)
theorem impl_AckOf.ok {l0_0 : List S98} {l0_1 : List Int} {l0_2 : List S97} {a0_3 : Int} {l0_4 : List Int} {a1 : Int} {r : Int × Int × Int × Int × Int × Int × Int × Bool} (H : impl_AckOf.f l0_0 l0_1 l0_2 a0_3 l0_4 a1 = some r) : ACalls Try.prog 17 [] [.agg [.sl .o 6 (l0_0.map e98), .sl .o 1 (l0_1.map (eI .i64)), .sl .o 6 (l0_2.map e97), .lit (.int .i64 a0_3), .sl .o 1 (l0_4.map (eI .i64))], .lit (.int .i64 a1)] [] (.tup [.agg [.lit (.int .i64 r.1), .lit (.int .i64 r.2.1), .lit (.int .i64 r.2.2.1), .lit (.int .i64 r.2.2.2.1), .lit (.int .i64 r.2.2.2.2.1), .lit (.int .i64 r.2.2.2.2.2.1), .lit (.int .i64 r.2.2.2.2.2.2.1)], .lit (.bool r.2.2.2.2.2.2.2)]) := by
 refine acalls (fn := Try.f17) (nt := 21) Try.func17 rfl rfl (Nat.le_of_ble_eq_true rfl) fun E hE => ?_
 rw [impl_AckOf.f] at H
 refine aw_grp1 ?_
 refine wk_start ?_
 refine kb g0 (bxA 0) ?_
 refine kb g0 (alc 1 [.int .i64 0, .int .i64 0, .int .i64 0, .int .i64 0, .int .i64 0, .int .i64 0, .int .i64 0] [.lit (.int .i64 0), .lit (.int .i64 0), .lit (.int .i64 0), .lit (.int .i64 0), .lit (.int .i64 0), .lit (.int .i64 0), .lit (.int .i64 0)]) ?_
 refine kv g0 (asg) ?_
 refine wk_end ?_
 refine ac_next ?_
 refine aw_grp1 ?_
 refine aw_grp1 ?_
 refine wk_start ?_
 refine kv g0 (mv) ?_
 refine kv g0 (faB 4 4) ?_
 refine kv g0 (ldB) ?_
 refine kv g0 (lnS lenE) ?_
 refine kv g0 (sub6) ?_
 obtain ⟨t1, A2, H⟩ := of_bind H
 refine kcS0 11 (.lit (.bool t1)) [] g0 (cal (impl_within.ok A2) [] 9999 .n (hf := Try.func55)) rfl rfl ?_
 refine kv g0 (not_) ?_
 refine wk_end ?_
 refine ac_next ?_
 by_cases c3 : t1 = true
 ·rw [if_pos c3] at H
  refine aw_ifF ?_ (nF c3)
  refine aw_skip ?_
  refine ac_next ?_
  refine aw_grp1 ?_
  refine wk_start ?_
  refine kv g0 (mv) ?_
  refine kv g0 (faB 4 4) ?_
  refine kv g0 (ldB) ?_
  refine kv g0 (mv) ?_
  obtain ⟨c4, H⟩ := of_if H
  obtain ⟨c5, H⟩ := of_if H
  refine kv g0 (ixS 3 (eI .i64 (rd l0_4 a1)) c4 (getE (z := (0 : Int)) c4 c5)) ?_
  refine kv g0 (ldR (.lit (.int .i64 (rd l0_4 a1)))) ?_
  refine kv g0 (bld [(0, 1), (1, 1), (2, 1), (3, 4)] [.int .i64 0, .int .i64 0, .int .i64 0, .int .i64 0, .int .i64 0, .int .i64 0, .int .i64 0] [.lit (.int .i64 2), .lit (.int .i64 a1), .lit (.int .i64 (rd l0_4 a1)), .lit (.int .i64 0), .lit (.int .i64 0), .lit (.int .i64 0), .lit (.int .i64 0)]) ?_
  refine ks g0 (stB 7 [.lit (.int .i64 2), .lit (.int .i64 a1), .lit (.int .i64 (rd l0_4 a1)), .lit (.int .i64 0), .lit (.int .i64 0), .lit (.int .i64 0), .lit (.int .i64 0)]) ?_
  refine kv g0 (asg) ?_
  refine wk_end ?_
  refine ac_next ?_
  refine aw_ret ?_
  obtain rfl := Option.some.inj H
  exact acr hE [.cell 4 36, .tmp 5] (rcA 7 (.tmp .nil)) (.many _ _ _) [] 9999
 rw [if_neg c3] at H
 refine aw_ifT ?_ (nT (bF c3))
 refine aw_grp1 ?_
 refine wk_start ?_
 refine kv g0 (bld [(0, 1), (1, 1), (2, 1), (3, 4)] [.int .i64 0, .int .i64 0, .int .i64 0, .int .i64 0, .int .i64 0, .int .i64 0, .int .i64 0] [.lit (.int .i64 0), .lit (.int .i64 0), .lit (.int .i64 0), .lit (.int .i64 0), .lit (.int .i64 0), .lit (.int .i64 0), .lit (.int .i64 0)]) ?_
 refine ks g0 (stB 7 [.lit (.int .i64 0), .lit (.int .i64 0), .lit (.int .i64 0), .lit (.int .i64 0), .lit (.int .i64 0), .lit (.int .i64 0), .lit (.int .i64 0)]) ?_
 refine kv g0 (asg) ?_
 refine wk_end ?_
 refine ac_next ?_
 refine aw_ret ?_
 refine ac_thenR ?_
 obtain rfl := Option.some.inj H
 exact acr hE [.cell 4 36, .tmp 5] (rcA 7 (.tmp .nil)) (.many _ _ _) [] 9999
/-! spec_AckOf -/
def spec_AckOf.f (l0_0 : List S98) (l0_1 : List Int) (l0_2 : List S97) (a0_3 : Int) (l0_4 : List Int) (a1 : Int) : Option (Int × Int × Int × Int × Int × Int × Int × Bool) := (spec_l01In.f a1 0 (wrap64 ((l0_4.length : Int) - 1))).bind fun t1 => if t1 = true then if 0 ≤ a1 then (if a1 < (l0_4.length : Int) then some (2, a1, (rd l0_4 a1), 0, 0, 0, 0, true) else none) else none else some (0, 0, 0, 0, 0, 0, 0, false)
theorem spec_AckOf.ok {l0_0 : List S98} {l0_1 : List Int} {l0_2 : List S97} {a0_3 : Int} {l0_4 : List Int} {a1 : Int} {r : Int × Int × Int × Int × Int × Int × Int × Bool} (H : spec_AckOf.f l0_0 l0_1 l0_2 a0_3 l0_4 a1 = some r) : ACalls Try.prog 24 [] [.agg [.sl .o 6 (l0_0.map e98), .sl .o 1 (l0_1.map (eI .i64)), .sl .o 6 (l0_2.map e97), .lit (.int .i64 a0_3), .sl .o 1 (l0_4.map (eI .i64))], .lit (.int .i64 a1)] [] (.tup [.agg [.lit (.int .i64 r.1), .lit (.int .i64 r.2.1), .lit (.int .i64 r.2.2.1), .lit (.int .i64 r.2.2.2.1), .lit (.int .i64 r.2.2.2.2.1), .lit (.int .i64 r.2.2.2.2.2.1), .lit (.int .i64 r.2.2.2.2.2.2.1)], .lit (.bool r.2.2.2.2.2.2.2)]) := by
 refine acalls (fn := Try.f24) (nt := 21) Try.func24 rfl rfl (Nat.le_of_ble_eq_true rfl) fun E hE => ?_
 rw [spec_AckOf.f] at H
 refine aw_grp1 ?_
 refine wk_start ?_
 refine kb g0 (bxA 0) ?_
 refine kb g0 (alc 1 [.int .i64 0, .int .i64 0, .int .i64 0, .int .i64 0, .int .i64 0, .int .i64 0, .int .i64 0] [.lit (.int .i64 0), .lit (.int .i64 0), .lit (.int .i64 0), .lit (.int .i64 0), .lit (.int .i64 0), .lit (.int .i64 0), .lit (.int .i64 0)]) ?_
 refine kv g0 (asg) ?_
 refine wk_end ?_
 refine ac_next ?_
 refine aw_grp1 ?_
 refine aw_grp1 ?_
 refine wk_start ?_
 refine kv g0 (mv) ?_
 refine kv g0 (faB 4 4) ?_
 refine kv g0 (ldB) ?_
 refine kv g0 (lnS lenE) ?_
 refine kv g0 (sub6) ?_
 obtain ⟨t1, A2, H⟩ := of_bind H
 refine kcS0 11 (.lit (.bool t1)) [] g0 (cal (spec_l01In.ok A2) [] 9999 .n (hf := Try.func63)) rfl rfl ?_
 refine kv g0 (not_) ?_
 refine wk_end ?_
 refine ac_next ?_
 by_cases c3 : t1 = true
 ·rw [if_pos c3] at H
  refine aw_ifF ?_ (nF c3)
  refine aw_skip ?_
  refine ac_next ?_
  refine aw_grp1 ?_
  refine wk_start ?_
  refine kv g0 (mv) ?_
  refine kv g0 (faB 4 4) ?_
  refine kv g0 (ldB) ?_
  refine kv g0 (mv) ?_
  obtain ⟨c4, H⟩ := of_if H
  obtain ⟨c5, H⟩ := of_if H
  refine kv g0 (ixS 3 (eI .i64 (rd l0_4 a1)) c4 (getE (z := (0 : Int)) c4 c5)) ?_
  refine kv g0 (ldR (.lit (.int .i64 (rd l0_4 a1)))) ?_
  refine kv g0 (bld [(0, 1), (1, 1), (2, 1), (3, 4)] [.int .i64 0, .int .i64 0, .int .i64 0, .int .i64 0, .int .i64 0, .int .i64 0, .int .i64 0] [.lit (.int .i64 2), .lit (.int .i64 a1), .lit (.int .i64 (rd l0_4 a1)), .lit (.int .i64 0), .lit (.int .i64 0), .lit (.int .i64 0), .lit (.int .i64 0)]) ?_
  refine ks g0 (stB 7 [.lit (.int .i64 2), .lit (.int .i64 a1), .lit (.int .i64 (rd l0_4 a1)), .lit (.int .i64 0), .lit (.int .i64 0), .lit (.int .i64 0), .lit (.int .i64 0)]) ?_
  refine kv g0 (asg) ?_
  refine wk_end ?_
  refine ac_next ?_
  refine aw_ret ?_
  obtain rfl := Option.some.inj H
  exact acr hE [.cell 4 36, .tmp 5] (rcA 7 (.tmp .nil)) (.many _ _ _) [] 9999
 rw [if_neg c3] at H
 refine aw_ifT ?_ (nT (bF c3))
 refine aw_grp1 ?_
 refine wk_start ?_
 refine kv g0 (bld [(0, 1), (1, 1), (2, 1), (3, 4)] [.int .i64 0, .int .i64 0, .int .i64 0, .int .i64 0, .int .i64 0, .int .i64 0, .int .i64 0] [.lit (.int .i64 0), .lit (.int .i64 0), .lit (.int .i64 0), .lit (.int .i64 0), .lit (.int .i64 0), .lit (.int .i64 0), .lit (.int .i64 0)]) ?_
 refine ks g0 (stB 7 [.lit (.int .i64 0), .lit (.int .i64 0), .lit (.int .i64 0), .lit (.int .i64 0), .lit (.int .i64 0), .lit (.int .i64 0), .lit (.int .i64 0)]) ?_
 refine kv g0 (asg) ?_
 refine wk_end ?_
 refine ac_next ?_
 refine aw_ret ?_
 refine ac_thenR ?_
 obtain rfl := Option.some.inj H
 exact acr hE [.cell 4 36, .tmp 5] (rcA 7 (.tmp .nil)) (.many _ _ _) [] 9999
/-! laws_sameEntries -/
def laws_sameEntries.l0 : Nat → (List S98) → (List S98) → Int → Option (Bool)
 | 0, _, _, _ => none
 | k7 + 1, l0, l1, p6 => if p6 < (l0.length : Int) then if 0 ≤ p6 then (if p6 < (l1.length : Int) then if (((rd_T98 l0 p6).f0) == ((rd_T98 l1 p6).f0) && (((rd_T98 l0 p6).f1) == ((rd_T98 l1 p6).f1) && ((((rd_T98 l0 p6).f2.f0) == ((rd_T98 l1 p6).f2.f0) && (((rd_T98 l0 p6).f2.f1) == ((rd_T98 l1 p6).f2.f1) && (((rd_T98 l0 p6).f2.f2) == ((rd_T98 l1 p6).f2.f2) && (((rd_T98 l0 p6).f2.f3) == ((rd_T98 l1 p6).f2.f3)))))))) = true then laws_sameEntries.l0 k7 l0 l1 (wrap64 (p6 + 1)) else some false else none) else none else some true
def laws_sameEntries.f (k : Nat) (l0 : List S98) (l1 : List S98) : Option (Bool) := if (l0.length : Int) = (l1.length : Int) then laws_sameEntries.l0 k l0 l1 0 else some false
theorem laws_sameEntries.ok {k : Nat} {l0 : List S98} {l1 : List S98} {r : Bool} (H : laws_sameEntries.f k l0 l1 = some r) : ACalls Try.prog 18 [] [.sl .o 6 (l0.map e98), .sl .o 6 (l1.map e98)] [] (.lit (.bool r)) := by
 refine acalls (fn := Try.f18) (nt := 26) Try.func18 rfl rfl (Nat.le_of_ble_eq_true rfl) fun E hE => ?_
 rw [laws_sameEntries.f] at H
 refine aw_grp1 ?_
 refine wk_start ?_
 refine kv g0 (asg) ?_
 refine wk_end ?_
 refine ac_next ?_
 refine aw_grp1 ?_
 refine aw_grp1 ?_
 refine wk_start ?_
 refine kv g0 (mv) ?_
 refine kv g0 (lnS lenE) ?_
 refine kv g0 (mv) ?_
 refine kv g0 (lnS lenE) ?_
 refine kv g0 (neq) ?_
 refine wk_end ?_
 refine ac_next ?_
 by_cases c1 : (l0.length : Int) = (l1.length : Int)
 ·rw [if_pos c1] at H
  refine aw_ifF ?_ (eM c1)
  refine aw_skip ?_
  refine ac_next ?_
  refine aw_grp1 ?_
  refine aw_grp1 ?_
  refine wk_start ?_
  refine kv g0 (asg) ?_
  refine wk_end ?_
  refine ac_next ?_
  refine aw_block ?_
  refine aw_loop1 (fun (k_ : Nat) (p6 : Int) => k_ ≤ k ∧ laws_sameEntries.l0 k_ l0 l1 p6 = some r) (fun (p6 : Int) => ⟨[(0, .sl .o 6 (l0.map e98)), (1, .sl .o 6 (l1.map e98)), (5, .lit (.int .i64 p6))], []⟩) k 0 ⟨Nat.le_refl _, H⟩ (fun K_ h_ => acw hE [] 9999 h_) (fun _ => by intro h_; have h_ := h_.2; rw [laws_sameEntries.l0.eq_1] at h_; cases h_) ?_
  intro k7 p6 hq_ K12 hK13
  have hk7 := hq_.1
  have H := hq_.2
  clear hq_
  rw [laws_sameEntries.l0.eq_2] at H
  refine aw_grp1 ?_
  refine aw_grp1 ?_
  refine wk_start ?_
  refine kv g0 (mv) ?_
  refine kv g0 (mv) ?_
  refine kv g0 (lnS lenE) ?_
  refine kv g0 (lss) ?_
  refine wk_end ?_
  refine ac_next ?_
  by_cases c8 : p6 < (l0.length : Int)
  ·rw [if_pos c8] at H
   refine aw_ifT ?_ (decide_eq_true c8)
   refine aw_skip ?_
   refine ac_next ?_
   refine aw_grp1 ?_
   refine aw_block ?_
   refine aw_grp1 ?_
   refine wk_start ?_
   refine kv g0 (mv) ?_
   refine kv g0 (mv) ?_
   obtain ⟨c9, H⟩ := of_if H
   refine kv g0 (ixS 98 (e98 (rd_T98 l0 p6)) c9 (getE (z := z98) c9 c8)) ?_
   refine kv g0 (ldRA 6 [.lit (.int .i64 ((rd_T98 l0 p6).f0)), .lit (.int .i64 ((rd_T98 l0 p6).f1)), .lit (.int .i64 ((rd_T98 l0 p6).f2.f0)), .lit (.int .i64 ((rd_T98 l0 p6).f2.f1)), .lit (.int .i64 ((rd_T98 l0 p6).f2.f2)), .lit (.int .i64 ((rd_T98 l0 p6).f2.f3))]) ?_
   refine kv g0 (mv) ?_
   refine kv g0 (mv) ?_
   obtain ⟨c10, H⟩ := of_if H
   refine kv g0 (ixS 98 (e98 (rd_T98 l1 p6)) c9 (getE (z := z98) c9 c10)) ?_
   refine kv g0 (ldRA 6 [.lit (.int .i64 ((rd_T98 l1 p6).f0)), .lit (.int .i64 ((rd_T98 l1 p6).f1)), .lit (.int .i64 ((rd_T98 l1 p6).f2.f0)), .lit (.int .i64 ((rd_T98 l1 p6).f2.f1)), .lit (.int .i64 ((rd_T98 l1 p6).f2.f2)), .lit (.int .i64 ((rd_T98 l1 p6).f2.f3))]) ?_
   refine kv g0 (neS (fun w => eq98 _ w ((rd_T98 l0 p6).f0) ((rd_T98 l0 p6).f1) ((rd_T98 l0 p6).f2.f0) ((rd_T98 l0 p6).f2.f1) ((rd_T98 l0 p6).f2.f2) ((rd_T98 l0 p6).f2.f3) ((rd_T98 l1 p6).f0) ((rd_T98 l1 p6).f1) ((rd_T98 l1 p6).f2.f0) ((rd_T98 l1 p6).f2.f1) ((rd_T98 l1 p6).f2.f2) ((rd_T98 l1 p6).f2.f3))) ?_
   refine wk_end_draw hM (by kernel_rfl) ?_
   refine ac_next ?_
   by_cases c11 : (((rd_T98 l0 p6).f0) == ((rd_T98 l1 p6).f0) && (((rd_T98 l0 p6).f1) == ((rd_T98 l1 p6).f1) && ((((rd_T98 l0 p6).f2.f0) == ((rd_T98 l1 p6).f2.f0) && (((rd_T98 l0 p6).f2.f1) == ((rd_T98 l1 p6).f2.f1) && (((rd_T98 l0 p6).f2.f2) == ((rd_T98 l1 p6).f2.f2) && (((rd_T98 l0 p6).f2.f3) == ((rd_T98 l1 p6).f2.f3)))))))) = true
   ·rw [if_pos c11] at H
    refine aw_ifF ?_ (nF c11)
    refine aw_skip ?_
    refine ac_blkN ?_
    refine ac_next ?_
    refine wk_start ?_
    refine kv g0 (mv) ?_
    refine kv g0 (add6) ?_
    refine kv g0 (asg) ?_
    refine wk_end ?_
    refine ac_k ?_
    exact acw hE [] 9999 (hK13 k7 (wrap64 (p6 + 1)) (Nat.le_refl _) ⟨by omega, H⟩)
   rw [if_neg c11] at H
   refine aw_ifT ?_ (nT (bF c11))
   refine aw_grp1 ?_
   refine wk_start ?_
   refine kv g0 (asg) ?_
   refine wk_end ?_
   refine ac_next ?_
   refine aw_ret ?_
   refine ac_blkR ?_
   refine ac_thenR ?_
   refine ac_thenR ?_
   refine ac_blkR ?_
   refine ac_thenR ?_
   obtain rfl := Option.some.inj H
   exact acr hE [.tmp 4] (.tmp .nil) (.one _) [] 9999
  rw [if_neg c8] at H
  refine aw_ifF ?_ (decide_eq_false c8)
  refine aw_exit ?_
  refine ac_then ?_
  refine ac_then ?_
  refine ac_hit rfl ?_
  refine ac_next ?_
  refine aw_grp1 ?_
  refine wk_start ?_
  refine kv g0 (asg) ?_
  refine wk_end ?_
  refine ac_next ?_
  refine aw_ret ?_
  obtain rfl := Option.some.inj H
  exact acr hE [.tmp 4] (.tmp .nil) (.one _) [] 9999
 rw [if_neg c1] at H
 refine aw_ifT ?_ (eN c1)
 refine aw_grp1 ?_
 refine wk_start ?_
 refine kv g0 (asg) ?_
 refine wk_end ?_
 refine ac_next ?_
 refine aw_ret ?_
 refine ac_thenR ?_
 obtain rfl := Option.some.inj H
 exact acr hE [.tmp 4] (.tmp .nil) (.one _) [] 9999
/-! laws_sameInts -/
def laws_sameInts.l0 : Nat → (List Int) → (List Int) → Int → Option (Bool)
 | 0, _, _, _ => none
 | k7 + 1, l0, l1, p6 => if p6 < (l0.length : Int) then if 0 ≤ p6 then (if p6 < (l1.length : Int) then if (rd l0 p6) = (rd l1 p6) then laws_sameInts.l0 k7 l0 l1 (wrap64 (p6 + 1)) else some false else none) else none else some true
def laws_sameInts.f (k : Nat) (l0 : List Int) (l1 : List Int) : Option (Bool) := if (l0.length : Int) = (l1.length : Int) then laws_sameInts.l0 k l0 l1 0 else some false
theorem laws_sameInts.ok {k : Nat} {l0 : List Int} {l1 : List Int} {r : Bool} (H : laws_sameInts.f k l0 l1 = some r) : ACalls Try.prog 67 [] [.sl .o 1 (l0.map (eI .i64)), .sl .o 1 (l1.map (eI .i64))] [] (.lit (.bool r)) := by
 refine acalls (fn := Try.f67) (nt := 26) Try.func67 rfl rfl (Nat.le_of_ble_eq_true rfl) fun E hE => ?_
 rw [laws_sameInts.f] at H
 refine aw_grp1 ?_
 refine wk_start ?_
 refine kv g0 (asg) ?_
 refine wk_end ?_
 refine ac_next ?_
 refine aw_grp1 ?_
 refine aw_grp1 ?_
 refine wk_start ?_
 refine kv g0 (mv) ?_
 refine kv g0 (lnS lenE) ?_
 refine kv g0 (mv) ?_
 refine kv g0 (lnS lenE) ?_
 refine kv g0 (neq) ?_
 refine wk_end ?_
 refine ac_next ?_
 by_cases c1 : (l0.length : Int) = (l1.length : Int)
 ·rw [if_pos c1] at H
  refine aw_ifF ?_ (eM c1)
  refine aw_skip ?_
  refine ac_next ?_
  refine aw_grp1 ?_
  refine aw_grp1 ?_
  refine wk_start ?_
  refine kv g0 (asg) ?_
  refine wk_end ?_
  refine ac_next ?_
  refine aw_block ?_
  refine aw_loop1 (fun (k_ : Nat) (p6 : Int) => k_ ≤ k ∧ laws_sameInts.l0 k_ l0 l1 p6 = some r) (fun (p6 : Int) => ⟨[(0, .sl .o 1 (l0.map (eI .i64))), (1, .sl .o 1 (l1.map (eI .i64))), (5, .lit (.int .i64 p6))], []⟩) k 0 ⟨Nat.le_refl _, H⟩ (fun K_ h_ => acw hE [] 9999 h_) (fun _ => by intro h_; have h_ := h_.2; rw [laws_sameInts.l0.eq_1] at h_; cases h_) ?_
  intro k7 p6 hq_ K12 hK13
  have hk7 := hq_.1
  have H := hq_.2
  clear hq_
  rw [laws_sameInts.l0.eq_2] at H
  refine aw_grp1 ?_
  refine aw_grp1 ?_
  refine wk_start ?_
  refine kv g0 (mv) ?_
  refine kv g0 (mv) ?_
  refine kv g0 (lnS lenE) ?_
  refine kv g0 (lss) ?_
  refine wk_end ?_
  refine ac_next ?_
  by_cases c8 : p6 < (l0.length : Int)
  ·rw [if_pos c8] at H
   refine aw_ifT ?_ (decide_eq_true c8)
   refine aw_skip ?_
   refine ac_next ?_
   refine aw_grp1 ?_
   refine aw_block ?_
   refine aw_grp1 ?_
   refine wk_start ?_
   refine kv g0 (mv) ?_
   refine kv g0 (mv) ?_
   obtain ⟨c9, H⟩ := of_if H
   refine kv g0 (ixS 3 (eI .i64 (rd l0 p6)) c9 (getE (z := (0 : Int)) c9 c8)) ?_
   refine kv g0 (ldR (.lit (.int .i64 (rd l0 p6)))) ?_
   refine kv g0 (mv) ?_
   refine kv g0 (mv) ?_
   obtain ⟨c10, H⟩ := of_if H
   refine kv g0 (ixS 3 (eI .i64 (rd l1 p6)) c9 (getE (z := (0 : Int)) c9 c10)) ?_
   refine kv g0 (ldR (.lit (.int .i64 (rd l1 p6)))) ?_
   refine kv g0 (neq) ?_
   refine wk_end_draw hM (by kernel_rfl) ?_
   refine ac_next ?_
   by_cases c11 : (rd l0 p6) = (rd l1 p6)
   ·rw [if_pos c11] at H
    refine aw_ifF ?_ (eM c11)
    refine aw_skip ?_
    refine ac_blkN ?_
    refine ac_next ?_
    refine wk_start ?_
    refine kv g0 (mv) ?_
    refine kv g0 (add6) ?_
    refine kv g0 (asg) ?_
    refine wk_end ?_
    refine ac_k ?_
    exact acw hE [] 9999 (hK13 k7 (wrap64 (p6 + 1)) (Nat.le_refl _) ⟨by omega, H⟩)
   rw [if_neg c11] at H
   refine aw_ifT ?_ (eN c11)
   refine aw_grp1 ?_
   refine wk_start ?_
   refine kv g0 (asg) ?_
   refine wk_end ?_
   refine ac_next ?_
   refine aw_ret ?_
   refine ac_blkR ?_
   refine ac_thenR ?_
   refine ac_thenR ?_
   refine ac_blkR ?_
   refine ac_thenR ?_
   obtain rfl := Option.some.inj H
   exact acr hE [.tmp 4] (.tmp .nil) (.one _) [] 9999
  rw [if_neg c8] at H
  refine aw_ifF ?_ (decide_eq_false c8)
  refine aw_exit ?_
  refine ac_then ?_
  refine ac_then ?_
  refine ac_hit rfl ?_
  refine ac_next ?_
  refine aw_grp1 ?_
  refine wk_start ?_
  refine kv g0 (asg) ?_
  refine wk_end ?_
  refine ac_next ?_
  refine aw_ret ?_
  obtain rfl := Option.some.inj H
  exact acr hE [.tmp 4] (.tmp .nil) (.one _) [] 9999
 rw [if_neg c1] at H
 refine aw_ifT ?_ (eN c1)
 refine aw_grp1 ?_
 refine wk_start ?_
 refine kv g0 (asg) ?_
 refine wk_end ?_
 refine ac_next ?_
 refine aw_ret ?_
 refine ac_thenR ?_
 obtain rfl := Option.some.inj H
 exact acr hE [.tmp 4] (.tmp .nil) (.one _) [] 9999
/-! laws_sameKeeper -/
def laws_sameKeeper.l0 : Nat → (List S98) → (List Int) → (List S97) → Int → (List Int) → (List S98) → (List Int) → (List S97) → Int → (List Int) → Int → Option (Bool)
 | 0, _, _, _, _, _, _, _, _, _, _, _ => none
 | k17 + 1, l0_0, l0_1, l0_2, a0_3, l0_4, l1_0, l1_1, l1_2, a1_3, l1_4, p16 => if p16 < (l0_2.length : Int) then if 0 ≤ p16 then (if p16 < (l1_2.length : Int) then if (((rd_T97 l0_2 p16).f0) == ((rd_T97 l1_2 p16).f0) && (((rd_T97 l0_2 p16).f1) == ((rd_T97 l1_2 p16).f1) && ((((rd_T97 l0_2 p16).f2.f0) == ((rd_T97 l1_2 p16).f2.f0) && (((rd_T97 l0_2 p16).f2.f1) == ((rd_T97 l1_2 p16).f2.f1) && (((rd_T97 l0_2 p16).f2.f2) == ((rd_T97 l1_2 p16).f2.f2) && (((rd_T97 l0_2 p16).f2.f3) == ((rd_T97 l1_2 p16).f2.f3)))))))) = true then laws_sameKeeper.l0 k17 l0_0 l0_1 l0_2 a0_3 l0_4 l1_0 l1_1 l1_2 a1_3 l1_4 (wrap64 (p16 + 1)) else some false else none) else none else some true
def laws_sameKeeper.f (k : Nat) (l0_0 : List S98) (l0_1 : List Int) (l0_2 : List S97) (a0_3 : Int) (l0_4 : List Int) (l1_0 : List S98) (l1_1 : List Int) (l1_2 : List S97) (a1_3 : Int) (l1_4 : List Int) : Option (Bool) := (laws_sameEntries.f k l0_0 l1_0).bind fun t1 => (if t1 = true then ((laws_sameInts.f k l0_1 l1_1).bind fun t4 => (if t4 = true then (if (l0_2.length : Int) = (l1_2.length : Int) then (if a0_3 = a1_3 then ((laws_sameInts.f k l0_4 l1_4).bind fun t9 => if t9 = true then laws_sameKeeper.l0 k l0_0 l0_1 l0_2 a0_3 l0_4 l1_0 l1_1 l1_2 a1_3 l1_4 0 else some false) else some false) else some false) else some false)) else some false)
theorem laws_sameKeeper.ok {k : Nat} {l0_0 : List S98} {l0_1 : List Int} {l0_2 : List S97} {a0_3 : Int} {l0_4 : List Int} {l1_0 : List S98} {l1_1 : List Int} {l1_2 : List S97} {a1_3 : Int} {l1_4 : List Int} {r : Bool} (H : laws_sameKeeper.f k l0_0 l0_1 l0_2 a0_3 l0_4 l1_0 l1_1 l1_2 a1_3 l1_4 = some r) : ACalls Try.prog 25 [] [.agg [.sl .o 6 (l0_0.map e98), .sl .o 1 (l0_1.map (eI .i64)), .sl .o 6 (l0_2.map e97), .lit (.int .i64 a0_3), .sl .o 1 (l0_4.map (eI .i64))], .agg [.sl .o 6 (l1_0.map e98), .sl .o 1 (l1_1.map (eI .i64)), .sl .o 6 (l1_2.map e97), .lit (.int .i64 a1_3), .sl .o 1 (l1_4.map (eI .i64))]] [] (.lit (.bool r)) := by
 refine acalls (fn := Try.f25) (nt := 62) Try.func25 rfl rfl (Nat.le_of_ble_eq_true rfl) fun E hE => ?_
 rw [laws_sameKeeper.f] at H
 refine aw_grp1 ?_
 refine wk_start ?_
 refine kb g0 (bxA 0) ?_
 refine kb g0 (bxA 1) ?_
 refine kv g0 (asg) ?_
 refine wk_end ?_
 refine ac_next ?_
 refine aw_grp1 ?_
 refine aw_grp1 ?_
 refine wk_start ?_
 refine kv g0 (faB 0 0) ?_
 refine kv g0 (ldB) ?_
 refine kv g0 (faB 0 0) ?_
 refine kv g0 (ldB) ?_
 obtain ⟨t1, A2, H⟩ := of_bind H
 refine kcS0 10 (.lit (.bool t1)) [] g0 (cal (laws_sameEntries.ok A2) [] 9999 .n (hf := Try.func18)) rfl rfl ?_
 refine kv g0 (not_) ?_
 refine kv g0 (mv) ?_
 by_cases c3 : t1 = true
 ·rw [if_pos c3] at H
  refine kv (g1 (nF c3)) (faB 1 1) ?_
  refine kv (g1 (nF c3)) (ldB) ?_
  refine kv (g1 (nF c3)) (faB 1 1) ?_
  refine kv (g1 (nF c3)) (ldB) ?_
  obtain ⟨t4, A5, H⟩ := of_bind H
  refine kcS0 17 (.lit (.bool t4)) [] (g1 (nF c3)) (cal (laws_sameInts.ok A5) [] 9999 .n (hf := Try.func67)) rfl rfl ?_
  refine kv (g1 (nF c3)) (not_) ?_
  refine kv g0 (pkF (nF c3)) ?_
  refine kv g0 (mv) ?_
  by_cases c6 : t4 = true
  ·rw [if_pos c6] at H
   refine kv (g1 (nF c6)) (faB 2 2) ?_
   refine kv (g1 (nF c6)) (ldB) ?_
   refine kv (g1 (nF c6)) (lnS lenE) ?_
   refine kv (g1 (nF c6)) (faB 2 2) ?_
   refine kv (g1 (nF c6)) (ldB) ?_
   refine kv (g1 (nF c6)) (lnS lenE) ?_
   refine kv (g1 (nF c6)) (neq) ?_
   refine kv g0 (pkF (nF c6)) ?_
   refine kv g0 (mv) ?_
   by_cases c7 : (l0_2.length : Int) = (l1_2.length : Int)
   ·rw [if_pos c7] at H
    refine kv (g1 (eM c7)) (faB 3 3) ?_
    refine kv (g1 (eM c7)) (ldB) ?_
    refine kv (g1 (eM c7)) (faB 3 3) ?_
    refine kv (g1 (eM c7)) (ldB) ?_
    refine kv (g1 (eM c7)) (neq) ?_
    refine kv g0 (pkF (eM c7)) ?_
    refine kv g0 (mv) ?_
    by_cases c8 : a0_3 = a1_3
    ·rw [if_pos c8] at H
     refine kv (g1 (eM c8)) (faB 4 4) ?_
     refine kv (g1 (eM c8)) (ldB) ?_
     refine kv (g1 (eM c8)) (faB 4 4) ?_
     refine kv (g1 (eM c8)) (ldB) ?_
     obtain ⟨t9, A10, H⟩ := of_bind H
     refine kcS0 41 (.lit (.bool t9)) [] (g1 (eM c8)) (cal (laws_sameInts.ok A10) [] 9999 .n (hf := Try.func67)) rfl rfl ?_
     refine kv (g1 (eM c8)) (not_) ?_
     refine kv g0 (pkF (eM c8)) ?_
     refine wk_end ?_
     refine ac_next ?_
     by_cases c11 : t9 = true
     ·rw [if_pos c11] at H
      refine aw_ifF ?_ (nF c11)
      refine aw_skip ?_
      refine ac_next ?_
      refine aw_grp1 ?_
      refine aw_grp1 ?_
      refine wk_start ?_
      refine kv g0 (asg) ?_
      refine wk_end ?_
      refine ac_next ?_
      refine aw_block ?_
      refine aw_loop1 (fun (k_ : Nat) (p16 : Int) => k_ ≤ k ∧ laws_sameKeeper.l0 k_ l0_0 l0_1 l0_2 a0_3 l0_4 l1_0 l1_1 l1_2 a1_3 l1_4 p16 = some r) (fun (p16 : Int) => ⟨[(2, .box 0 0), (3, .box 1 0), (5, .lit (.int .i64 p16))], [(0, .box 29 [.sl .o 6 (l0_0.map e98), .sl .o 1 (l0_1.map (eI .i64)), .sl .o 6 (l0_2.map e97), .lit (.int .i64 a0_3), .sl .o 1 (l0_4.map (eI .i64))]), (1, .box 29 [.sl .o 6 (l1_0.map e98), .sl .o 1 (l1_1.map (eI .i64)), .sl .o 6 (l1_2.map e97), .lit (.int .i64 a1_3), .sl .o 1 (l1_4.map (eI .i64))])]⟩) k 0 ⟨Nat.le_refl _, H⟩ (fun K_ h_ => acw hE [(0, 0), (1, 1)] 9999 h_) (fun _ => by intro h_; have h_ := h_.2; rw [laws_sameKeeper.l0.eq_1] at h_; cases h_) ?_
      intro k17 p16 hq_ K22 hK23
      have hk17 := hq_.1
      have H := hq_.2
      clear hq_
      rw [laws_sameKeeper.l0.eq_2] at H
      refine aw_grp1 ?_
      refine aw_grp1 ?_
      refine wk_start ?_
      refine kv g0 (mv) ?_
      refine kv g0 (faB 2 2) ?_
      refine kv g0 (ldB) ?_
      refine kv g0 (lnS lenE) ?_
      refine kv g0 (lss) ?_
      refine wk_end ?_
      refine ac_next ?_
      by_cases c18 : p16 < (l0_2.length : Int)
      ·rw [if_pos c18] at H
       refine aw_ifT ?_ (decide_eq_true c18)
       refine aw_skip ?_
       refine ac_next ?_
       refine aw_grp1 ?_
       refine aw_block ?_
       refine aw_grp1 ?_
       refine wk_start ?_
       refine kv g0 (faB 2 2) ?_
       refine kv g0 (ldB) ?_
       refine kv g0 (mv) ?_
       obtain ⟨c19, H⟩ := of_if H
       refine kv g0 (ixS 97 (e97 (rd_T97 l0_2 p16)) c19 (getE (z := z97) c19 c18)) ?_
       refine kv g0 (ldRA 6 [.lit (.int .i64 ((rd_T97 l0_2 p16).f0)), .lit (.int .i64 ((rd_T97 l0_2 p16).f1)), .lit (.int .i64 ((rd_T97 l0_2 p16).f2.f0)), .lit (.int .i64 ((rd_T97 l0_2 p16).f2.f1)), .lit (.int .i64 ((rd_T97 l0_2 p16).f2.f2)), .lit (.int .i64 ((rd_T97 l0_2 p16).f2.f3))]) ?_
       refine kv g0 (faB 2 2) ?_
       refine kv g0 (ldB) ?_
       refine kv g0 (mv) ?_
       obtain ⟨c20, H⟩ := of_if H
       refine kv g0 (ixS 97 (e97 (rd_T97 l1_2 p16)) c19 (getE (z := z97) c19 c20)) ?_
       refine kv g0 (ldRA 6 [.lit (.int .i64 ((rd_T97 l1_2 p16).f0)), .lit (.int .i64 ((rd_T97 l1_2 p16).f1)), .lit (.int .i64 ((rd_T97 l1_2 p16).f2.f0)), .lit (.int .i64 ((rd_T97 l1_2 p16).f2.f1)), .lit (.int .i64 ((rd_T97 l1_2 p16).f2.f2)), .lit (.int .i64 ((rd_T97 l1_2 p16).f2.f3))]) ?_
       refine kv g0 (neS (fun w => eq97 _ w ((rd_T97 l0_2 p16).f0) ((rd_T97 l0_2 p16).f1) ((rd_T97 l0_2 p16).f2.f0) ((rd_T97 l0_2 p16).f2.f1) ((rd_T97 l0_2 p16).f2.f2) ((rd_T97 l0_2 p16).f2.f3) ((rd_T97 l1_2 p16).f0) ((rd_T97 l1_2 p16).f1) ((rd_T97 l1_2 p16).f2.f0) ((rd_T97 l1_2 p16).f2.f1) ((rd_T97 l1_2 p16).f2.f2) ((rd_T97 l1_2 p16).f2.f3))) ?_
       refine wk_end_draw hM (by kernel_rfl) ?_
       refine ac_next ?_
       by_cases c21 : (((rd_T97 l0_2 p16).f0) == ((rd_T97 l1_2 p16).f0) && (((rd_T97 l0_2 p16).f1) == ((rd_T97 l1_2 p16).f1) && ((((rd_T97 l0_2 p16).f2.f0) == ((rd_T97 l1_2 p16).f2.f0) && (((rd_T97 l0_2 p16).f2.f1) == ((rd_T97 l1_2 p16).f2.f1) && (((rd_T97 l0_2 p16).f2.f2) == ((rd_T97 l1_2 p16).f2.f2) && (((rd_T97 l0_2 p16).f2.f3) == ((rd_T97 l1_2 p16).f2.f3)))))))) = true
       ·rw [if_pos c21] at H
        refine aw_ifF ?_ (nF c21)
        refine aw_skip ?_
        refine ac_blkN ?_
        refine ac_next ?_
        refine wk_start ?_
        refine kv g0 (mv) ?_
        refine kv g0 (add6) ?_
        refine kv g0 (asg) ?_
        refine wk_end ?_
        refine ac_k ?_
        exact acw hE [(0, 0), (1, 1)] 9999 (hK23 k17 (wrap64 (p16 + 1)) (Nat.le_refl _) ⟨by omega, H⟩)
       rw [if_neg c21] at H
       refine aw_ifT ?_ (nT (bF c21))
       refine aw_grp1 ?_
       refine wk_start ?_
       refine kv g0 (asg) ?_
       refine wk_end ?_
       refine ac_next ?_
       refine aw_ret ?_
       refine ac_blkR ?_
       refine ac_thenR ?_
       refine ac_thenR ?_
       refine ac_blkR ?_
       refine ac_thenR ?_
       obtain rfl := Option.some.inj H
       exact acr hE [.tmp 4] (.tmp .nil) (.one _) [] 9999
      rw [if_neg c18] at H
      refine aw_ifF ?_ (decide_eq_false c18)
      refine aw_exit ?_
      refine ac_then ?_
      refine ac_then ?_
      refine ac_hit rfl ?_
      refine ac_next ?_
      refine aw_grp1 ?_
      refine wk_start ?_
      refine kv g0 (asg) ?_
      refine wk_end ?_
      refine ac_next ?_
      refine aw_ret ?_
      obtain rfl := Option.some.inj H
      exact acr hE [.tmp 4] (.tmp .nil) (.one _) [] 9999
     rw [if_neg c11] at H
     refine aw_ifT ?_ (nT (bF c11))
     refine aw_grp1 ?_
     refine wk_start ?_
     refine kv g0 (asg) ?_
     refine wk_end ?_
     refine ac_next ?_
     refine aw_ret ?_
     refine ac_thenR ?_
     obtain rfl := Option.some.inj H
     exact acr hE [.tmp 4] (.tmp .nil) (.one _) [] 9999
    rw [if_neg c8] at H
    refine kx (hF (eN c8)) ?_
    refine kx (hF (eN c8)) ?_
    refine kx (hF (eN c8)) ?_
    refine kx (hF (eN c8)) ?_
    refine kx (hF (eN c8)) ?_
    refine kx (hF (eN c8)) ?_
    refine kv g0 (pkT (eN c8)) ?_
    refine wk_end ?_
    refine ac_next ?_
    refine aw_ifT ?_ rfl
    refine aw_grp1 ?_
    refine wk_start ?_
    refine kv g0 (asg) ?_
    refine wk_end ?_
    refine ac_next ?_
    refine aw_ret ?_
    refine ac_thenR ?_
    obtain rfl := Option.some.inj H
    exact acr hE [.tmp 4] (.tmp .nil) (.one _) [] 9999
   rw [if_neg c7] at H
   refine kx (hF (eN c7)) ?_
   refine kx (hF (eN c7)) ?_
   refine kx (hF (eN c7)) ?_
   refine kx (hF (eN c7)) ?_
   refine kx (hF (eN c7)) ?_
   refine kv g0 (pkT (eN c7)) ?_
   refine kv g0 (mv) ?_
   refine kx (hF rfl) ?_
   refine kx (hF rfl) ?_
   refine kx (hF rfl) ?_
   refine kx (hF rfl) ?_
   refine kx (hF rfl) ?_
   refine kx (hF rfl) ?_
   refine kv g0 (pkT rfl) ?_
   refine wk_end ?_
   refine ac_next ?_
   refine aw_ifT ?_ rfl
   refine aw_grp1 ?_
   refine wk_start ?_
   refine kv g0 (asg) ?_
   refine wk_end ?_
   refine ac_next ?_
   refine aw_ret ?_
   refine ac_thenR ?_
   obtain rfl := Option.some.inj H
   exact acr hE [.tmp 4] (.tmp .nil) (.one _) [] 9999
  rw [if_neg c6] at H
  refine kx (hF (nT (bF c6))) ?_
  refine kx (hF (nT (bF c6))) ?_
  refine kx (hF (nT (bF c6))) ?_
  refine kx (hF (nT (bF c6))) ?_
  refine kx (hF (nT (bF c6))) ?_
  refine kx (hF (nT (bF c6))) ?_
  refine kx (hF (nT (bF c6))) ?_
  refine kv g0 (pkT (nT (bF c6))) ?_
  refine kv g0 (mv) ?_
  refine kx (hF rfl) ?_
  refine kx (hF rfl) ?_
  refine kx (hF rfl) ?_
  refine kx (hF rfl) ?_
  refine kx (hF rfl) ?_
  refine kv g0 (pkT rfl) ?_
  refine kv g0 (mv) ?_
  refine kx (hF rfl) ?_
  refine kx (hF rfl) ?_
  refine kx (hF rfl) ?_
  refine kx (hF rfl) ?_
  refine kx (hF rfl) ?_
  refine kx (hF rfl) ?_
  refine kv g0 (pkT rfl) ?_
  refine wk_end ?_
  refine ac_next ?_
  refine aw_ifT ?_ rfl
  refine aw_grp1 ?_
  refine wk_start ?_
  refine kv g0 (asg) ?_
  refine wk_end ?_
  refine ac_next ?_
  refine aw_ret ?_
  refine ac_thenR ?_
  obtain rfl := Option.some.inj H
  exact acr hE [.tmp 4] (.tmp .nil) (.one _) [] 9999
 rw [if_neg c3] at H
 refine kx (hF (nT (bF c3))) ?_
 refine kx (hF (nT (bF c3))) ?_
 refine kx (hF (nT (bF c3))) ?_
 refine kx (hF (nT (bF c3))) ?_
 refine kx (hF (nT (bF c3))) ?_
 refine kx (hF (nT (bF c3))) ?_
 refine kv g0 (pkT (nT (bF c3))) ?_
 refine kv g0 (mv) ?_
 refine kx (hF rfl) ?_
 refine kx (hF rfl) ?_
 refine kx (hF rfl) ?_
 refine kx (hF rfl) ?_
 refine kx (hF rfl) ?_
 refine kx (hF rfl) ?_
 refine kx (hF rfl) ?_
 refine kv g0 (pkT rfl) ?_
 refine kv g0 (mv) ?_
 refine kx (hF rfl) ?_
 refine kx (hF rfl) ?_
 refine kx (hF rfl) ?_
 refine kx (hF rfl) ?_
 refine kx (hF rfl) ?_
 refine kv g0 (pkT rfl) ?_
 refine kv g0 (mv) ?_
 refine kx (hF rfl) ?_
 refine kx (hF rfl) ?_
 refine kx (hF rfl) ?_
 refine kx (hF rfl) ?_
 refine kx (hF rfl) ?_
 refine kx (hF rfl) ?_
 refine kv g0 (pkT rfl) ?_
 refine wk_end ?_
 refine ac_next ?_
 refine aw_ifT ?_ rfl
 refine aw_grp1 ?_
 refine wk_start ?_
 refine kv g0 (asg) ?_
 refine wk_end ?_
 refine ac_next ?_
 refine aw_ret ?_
 refine ac_thenR ?_
 obtain rfl := Option.some.inj H
 exact acr hE [.tmp 4] (.tmp .nil) (.one _) [] 9999
end Go.Proofs.Ytfeaemlakniijaa.PFnKeepsTold
