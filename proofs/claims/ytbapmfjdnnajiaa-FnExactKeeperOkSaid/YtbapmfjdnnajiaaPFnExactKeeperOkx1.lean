import Derived.Test.YtbapmfjdnnajiaaPFnExactKeeperOkx0
set_option linter.unusedVariables false
set_option linter.unusedSimpArgs false
set_option maxRecDepth 100000
namespace Go.Proofs.Ytbapmfjdnnajiaa.PFnExactKeeperOk
open Go Go.RowKit Go.Proofs.YtbapmfjdnnajiaaA
/-! laws_szEntryS -/
def laws_szEntryS.f (l0 : List S180) (a1 : Int) : Option (Int) := if (wrap64 (a1 - (l0.length : Int))) < 0 then some (-1) else some (wrap64 (a1 - (l0.length : Int)))
theorem laws_szEntryS.ok {l0 : List S180} {a1 : Int} {r : Int} (H : laws_szEntryS.f l0 a1 = some r) : ACalls Try.prog 78 [] [.sl .o 6 (l0.map e180), .lit (.int .i64 a1)] [] (.lit (.int .i64 r)) := by
 refine acalls (fn := Try.f78) (nt := 12) Try.func78 rfl rfl (Nat.le_of_ble_eq_true rfl) fun E hE => ?_
 rw [laws_szEntryS.f] at H
 refine aw_grp1 ?_
 refine wk_start ?_
 refine kv g0 (asg) ?_
 refine wk_end ?_
 refine ac_next ?_
 refine aw_grp1 ?_
 refine wk_start ?_
 refine kv g0 (mv) ?_
 refine kv g0 (mv) ?_
 refine kv g0 (lnS lenE) ?_
 refine kv g0 (sub6) ?_
 refine kv g0 (asg) ?_
 refine wk_end ?_
 refine ac_next ?_
 refine aw_grp1 ?_
 refine aw_grp1 ?_
 refine wk_start ?_
 refine kv g0 (mv) ?_
 refine kv g0 (lss) ?_
 refine wk_end ?_
 refine ac_next ?_
 by_cases c1 : (wrap64 (a1 - (l0.length : Int))) < 0
 ·rw [if_pos c1] at H
  refine aw_ifT ?_ (decide_eq_true c1)
  refine aw_grp1 ?_
  refine wk_start ?_
  refine kv g0 (asg) ?_
  refine wk_end ?_
  refine ac_next ?_
  refine aw_ret ?_
  refine ac_thenR ?_
  obtain rfl := Option.some.inj H
  exact acr hE [.tmp 4] (.tmp .nil) (.one _) [] 9999
 rw [if_neg c1] at H
 refine aw_ifF ?_ (decide_eq_false c1)
 refine aw_skip ?_
 refine ac_next ?_
 refine aw_grp1 ?_
 refine wk_start ?_
 refine kv g0 (mv) ?_
 refine kv g0 (asg) ?_
 refine wk_end ?_
 refine ac_next ?_
 refine aw_ret ?_
 obtain rfl := Option.some.inj H
 exact acr hE [.tmp 4] (.tmp .nil) (.one _) [] 9999
/-! laws_szIntS -/
def laws_szIntS.f (l0 : List Int) (a1 : Int) : Option (Int) := if (wrap64 (a1 - (l0.length : Int))) < 0 then some (-1) else some (wrap64 (a1 - (l0.length : Int)))
theorem laws_szIntS.ok {l0 : List Int} {a1 : Int} {r : Int} (H : laws_szIntS.f l0 a1 = some r) : ACalls Try.prog 79 [] [.sl .o 1 (l0.map (eI .i64)), .lit (.int .i64 a1)] [] (.lit (.int .i64 r)) := by
 refine acalls (fn := Try.f79) (nt := 12) Try.func79 rfl rfl (Nat.le_of_ble_eq_true rfl) fun E hE => ?_
 rw [laws_szIntS.f] at H
 refine aw_grp1 ?_
 refine wk_start ?_
 refine kv g0 (asg) ?_
 refine wk_end ?_
 refine ac_next ?_
 refine aw_grp1 ?_
 refine wk_start ?_
 refine kv g0 (mv) ?_
 refine kv g0 (mv) ?_
 refine kv g0 (lnS lenE) ?_
 refine kv g0 (sub6) ?_
 refine kv g0 (asg) ?_
 refine wk_end ?_
 refine ac_next ?_
 refine aw_grp1 ?_
 refine aw_grp1 ?_
 refine wk_start ?_
 refine kv g0 (mv) ?_
 refine kv g0 (lss) ?_
 refine wk_end ?_
 refine ac_next ?_
 by_cases c1 : (wrap64 (a1 - (l0.length : Int))) < 0
 ·rw [if_pos c1] at H
  refine aw_ifT ?_ (decide_eq_true c1)
  refine aw_grp1 ?_
  refine wk_start ?_
  refine kv g0 (asg) ?_
  refine wk_end ?_
  refine ac_next ?_
  refine aw_ret ?_
  refine ac_thenR ?_
  obtain rfl := Option.some.inj H
  exact acr hE [.tmp 4] (.tmp .nil) (.one _) [] 9999
 rw [if_neg c1] at H
 refine aw_ifF ?_ (decide_eq_false c1)
 refine aw_skip ?_
 refine ac_next ?_
 refine aw_grp1 ?_
 refine wk_start ?_
 refine kv g0 (mv) ?_
 refine kv g0 (asg) ?_
 refine wk_end ?_
 refine ac_next ?_
 refine aw_ret ?_
 obtain rfl := Option.some.inj H
 exact acr hE [.tmp 4] (.tmp .nil) (.one _) [] 9999
/-! laws_szEarlyS -/
def laws_szEarlyS.f (l0 : List S182) (a1 : Int) : Option (Int) := if (wrap64 (a1 - (l0.length : Int))) < 0 then some (-1) else some (wrap64 (a1 - (l0.length : Int)))
theorem laws_szEarlyS.ok {l0 : List S182} {a1 : Int} {r : Int} (H : laws_szEarlyS.f l0 a1 = some r) : ACalls Try.prog 80 [] [.sl .o 6 (l0.map e182), .lit (.int .i64 a1)] [] (.lit (.int .i64 r)) := by
 refine acalls (fn := Try.f80) (nt := 12) Try.func80 rfl rfl (Nat.le_of_ble_eq_true rfl) fun E hE => ?_
 rw [laws_szEarlyS.f] at H
 refine aw_grp1 ?_
 refine wk_start ?_
 refine kv g0 (asg) ?_
 refine wk_end ?_
 refine ac_next ?_
 refine aw_grp1 ?_
 refine wk_start ?_
 refine kv g0 (mv) ?_
 refine kv g0 (mv) ?_
 refine kv g0 (lnS lenE) ?_
 refine kv g0 (sub6) ?_
 refine kv g0 (asg) ?_
 refine wk_end ?_
 refine ac_next ?_
 refine aw_grp1 ?_
 refine aw_grp1 ?_
 refine wk_start ?_
 refine kv g0 (mv) ?_
 refine kv g0 (lss) ?_
 refine wk_end ?_
 refine ac_next ?_
 by_cases c1 : (wrap64 (a1 - (l0.length : Int))) < 0
 ·rw [if_pos c1] at H
  refine aw_ifT ?_ (decide_eq_true c1)
  refine aw_grp1 ?_
  refine wk_start ?_
  refine kv g0 (asg) ?_
  refine wk_end ?_
  refine ac_next ?_
  refine aw_ret ?_
  refine ac_thenR ?_
  obtain rfl := Option.some.inj H
  exact acr hE [.tmp 4] (.tmp .nil) (.one _) [] 9999
 rw [if_neg c1] at H
 refine aw_ifF ?_ (decide_eq_false c1)
 refine aw_skip ?_
 refine ac_next ?_
 refine aw_grp1 ?_
 refine wk_start ?_
 refine kv g0 (mv) ?_
 refine kv g0 (asg) ?_
 refine wk_end ?_
 refine ac_next ?_
 refine aw_ret ?_
 obtain rfl := Option.some.inj H
 exact acr hE [.tmp 4] (.tmp .nil) (.one _) [] 9999
/-! laws_szKeeper -/
def laws_szKeeper.f (l0_0 : List S180) (l0_1 : List Int) (l0_2 : List S182) (a0_3 : Int) (l0_4 : List Int) (a1 : Int) : Option (Int) := (laws_szEntryS.f l0_0 a1).bind fun t1 => if t1 < 0 then some (-1) else (laws_szIntS.f l0_1 t1).bind fun t4 => if t4 < 0 then some (-1) else (laws_szEarlyS.f l0_2 t4).bind fun t7 => if t7 < 0 then some (-1) else (laws_szIntS.f l0_4 t7).bind fun t10 => if t10 < 0 then some (-1) else some t10
theorem laws_szKeeper.ok {l0_0 : List S180} {l0_1 : List Int} {l0_2 : List S182} {a0_3 : Int} {l0_4 : List Int} {a1 : Int} {r : Int} (H : laws_szKeeper.f l0_0 l0_1 l0_2 a0_3 l0_4 a1 = some r) : ACalls Try.prog 11 [] [.agg [.sl .o 6 (l0_0.map e180), .sl .o 1 (l0_1.map (eI .i64)), .sl .o 6 (l0_2.map e182), .lit (.int .i64 a0_3), .sl .o 1 (l0_4.map (eI .i64))], .lit (.int .i64 a1)] [] (.lit (.int .i64 r)) := by
 refine acalls (fn := Try.f11) (nt := 30) Try.func11 rfl rfl (Nat.le_of_ble_eq_true rfl) fun E hE => ?_
 rw [laws_szKeeper.f] at H
 refine aw_grp1 ?_
 refine wk_start ?_
 refine kb g0 (bxA 0) ?_
 refine kv g0 (asg) ?_
 refine wk_end ?_
 refine ac_next ?_
 refine aw_grp1 ?_
 refine wk_start ?_
 refine kv g0 (faB 0 0) ?_
 refine kv g0 (ldB) ?_
 refine kv g0 (mv) ?_
 obtain ⟨t1, A2, H⟩ := of_bind H
 refine kcS0 8 (.lit (.int .i64 t1)) [] g0 (cal (laws_szEntryS.ok A2) [] 9999 .n (hf := Try.func78)) rfl rfl ?_
 refine kv g0 (asg) ?_
 refine wk_end ?_
 refine ac_next ?_
 refine aw_grp1 ?_
 refine aw_grp1 ?_
 refine wk_start ?_
 refine kv g0 (mv) ?_
 refine kv g0 (lss) ?_
 refine wk_end ?_
 refine ac_next ?_
 by_cases c3 : t1 < 0
 ·rw [if_pos c3] at H
  refine aw_ifT ?_ (decide_eq_true c3)
  refine aw_grp1 ?_
  refine wk_start ?_
  refine kv g0 (asg) ?_
  refine wk_end ?_
  refine ac_next ?_
  refine aw_ret ?_
  refine ac_thenR ?_
  obtain rfl := Option.some.inj H
  exact acr hE [.tmp 4] (.tmp .nil) (.one _) [] 9999
 rw [if_neg c3] at H
 refine aw_ifF ?_ (decide_eq_false c3)
 refine aw_skip ?_
 refine ac_next ?_
 refine aw_grp1 ?_
 refine wk_start ?_
 refine kv g0 (faB 1 1) ?_
 refine kv g0 (ldB) ?_
 refine kv g0 (mv) ?_
 obtain ⟨t4, A5, H⟩ := of_bind H
 refine kcS0 14 (.lit (.int .i64 t4)) [] g0 (cal (laws_szIntS.ok A5) [] 9999 .n (hf := Try.func79)) rfl rfl ?_
 refine kv g0 (asg) ?_
 refine wk_end ?_
 refine ac_next ?_
 refine aw_grp1 ?_
 refine aw_grp1 ?_
 refine wk_start ?_
 refine kv g0 (mv) ?_
 refine kv g0 (lss) ?_
 refine wk_end ?_
 refine ac_next ?_
 by_cases c6 : t4 < 0
 ·rw [if_pos c6] at H
  refine aw_ifT ?_ (decide_eq_true c6)
  refine aw_grp1 ?_
  refine wk_start ?_
  refine kv g0 (asg) ?_
  refine wk_end ?_
  refine ac_next ?_
  refine aw_ret ?_
  refine ac_thenR ?_
  obtain rfl := Option.some.inj H
  exact acr hE [.tmp 4] (.tmp .nil) (.one _) [] 9999
 rw [if_neg c6] at H
 refine aw_ifF ?_ (decide_eq_false c6)
 refine aw_skip ?_
 refine ac_next ?_
 refine aw_grp1 ?_
 refine wk_start ?_
 refine kv g0 (faB 2 2) ?_
 refine kv g0 (ldB) ?_
 refine kv g0 (mv) ?_
 obtain ⟨t7, A8, H⟩ := of_bind H
 refine kcS0 20 (.lit (.int .i64 t7)) [] g0 (cal (laws_szEarlyS.ok A8) [] 9999 .n (hf := Try.func80)) rfl rfl ?_
 refine kv g0 (asg) ?_
 refine wk_end ?_
 refine ac_next ?_
 refine aw_grp1 ?_
 refine aw_grp1 ?_
 refine wk_start ?_
 refine kv g0 (mv) ?_
 refine kv g0 (lss) ?_
 refine wk_end ?_
 refine ac_next ?_
 by_cases c9 : t7 < 0
 ·rw [if_pos c9] at H
  refine aw_ifT ?_ (decide_eq_true c9)
  refine aw_grp1 ?_
  refine wk_start ?_
  refine kv g0 (asg) ?_
  refine wk_end ?_
  refine ac_next ?_
  refine aw_ret ?_
  refine ac_thenR ?_
  obtain rfl := Option.some.inj H
  exact acr hE [.tmp 4] (.tmp .nil) (.one _) [] 9999
 rw [if_neg c9] at H
 refine aw_ifF ?_ (decide_eq_false c9)
 refine aw_skip ?_
 refine ac_next ?_
 refine aw_grp1 ?_
 refine wk_start ?_
 refine kv g0 (faB 4 4) ?_
 refine kv g0 (ldB) ?_
 refine kv g0 (mv) ?_
 obtain ⟨t10, A11, H⟩ := of_bind H
 refine kcS0 26 (.lit (.int .i64 t10)) [] g0 (cal (laws_szIntS.ok A11) [] 9999 .n (hf := Try.func79)) rfl rfl ?_
 refine kv g0 (asg) ?_
 refine wk_end ?_
 refine ac_next ?_
 refine aw_grp1 ?_
 refine aw_grp1 ?_
 refine wk_start ?_
 refine kv g0 (mv) ?_
 refine kv g0 (lss) ?_
 refine wk_end ?_
 refine ac_next ?_
 by_cases c12 : t10 < 0
 ·rw [if_pos c12] at H
  refine aw_ifT ?_ (decide_eq_true c12)
  refine aw_grp1 ?_
  refine wk_start ?_
  refine kv g0 (asg) ?_
  refine wk_end ?_
  refine ac_next ?_
  refine aw_ret ?_
  refine ac_thenR ?_
  obtain rfl := Option.some.inj H
  exact acr hE [.tmp 4] (.tmp .nil) (.one _) [] 9999
 rw [if_neg c12] at H
 refine aw_ifF ?_ (decide_eq_false c12)
 refine aw_skip ?_
 refine ac_next ?_
 refine aw_grp1 ?_
 refine wk_start ?_
 refine kv g0 (mv) ?_
 refine kv g0 (asg) ?_
 refine wk_end ?_
 refine ac_next ?_
 refine aw_ret ?_
 obtain rfl := Option.some.inj H
 exact acr hE [.tmp 4] (.tmp .nil) (.one _) [] 9999
/-! laws_toItem -/
def laws_toItem.f (a0_0 : Int) (a0_1 : Int) (a0_2 : Int) (a0_3 : Int) : Option (Int × Int × Int × Int) := some (a0_0, a0_1, a0_2, a0_3)
theorem laws_toItem.ok {a0_0 : Int} {a0_1 : Int} {a0_2 : Int} {a0_3 : Int} {r : Int × Int × Int × Int} (H : laws_toItem.f a0_0 a0_1 a0_2 a0_3 = some r) : ACalls Try.prog 184 [] [.agg [.lit (.int .i64 a0_0), .lit (.int .i64 a0_1), .lit (.int .i64 a0_2), .lit (.int .i64 a0_3)]] [] (.agg [.lit (.int .i64 r.1), .lit (.int .i64 r.2.1), .lit (.int .i64 r.2.2.1), .lit (.int .i64 r.2.2.2)]) := by
 refine acalls (fn := Try.f184) (nt := 17) Try.func184 rfl rfl (Nat.le_of_ble_eq_true rfl) fun E hE => ?_
 rw [laws_toItem.f] at H
 refine aw_grp1 ?_
 refine wk_start ?_
 refine kb g0 (bxA 0) ?_
 refine kb g0 (alc 1 [.int .i64 0, .int .i64 0, .int .i64 0, .int .i64 0] [.lit (.int .i64 0), .lit (.int .i64 0), .lit (.int .i64 0), .lit (.int .i64 0)]) ?_
 refine wk_end ?_
 refine ac_next ?_
 refine aw_grp1 ?_
 refine wk_start ?_
 refine kb g0 (alc 2 [.int .i64 0, .int .i64 0, .int .i64 0, .int .i64 0] [.lit (.int .i64 0), .lit (.int .i64 0), .lit (.int .i64 0), .lit (.int .i64 0)]) ?_
 refine wk_end ?_
 refine ac_next ?_
 refine aw_grp1 ?_
 refine wk_start ?_
 refine kv g0 (faB 0 0) ?_
 refine kv g0 (ldB) ?_
 refine kv g0 (faB 0 0) ?_
 refine ks g0 (stB 1 [.lit (.int .i64 a0_0), .lit (.int .i64 0), .lit (.int .i64 0), .lit (.int .i64 0)]) ?_
 refine wk_end ?_
 refine ac_next ?_
 refine aw_grp1 ?_
 refine wk_start ?_
 refine kv g0 (faB 1 1) ?_
 refine kv g0 (ldB) ?_
 refine kv g0 (faB 1 1) ?_
 refine ks g0 (stB 1 [.lit (.int .i64 a0_0), .lit (.int .i64 a0_1), .lit (.int .i64 0), .lit (.int .i64 0)]) ?_
 refine wk_end ?_
 refine ac_next ?_
 refine aw_grp1 ?_
 refine wk_start ?_
 refine kv g0 (faB 2 2) ?_
 refine kv g0 (ldB) ?_
 refine kv g0 (faB 2 2) ?_
 refine ks g0 (stB 1 [.lit (.int .i64 a0_0), .lit (.int .i64 a0_1), .lit (.int .i64 a0_2), .lit (.int .i64 0)]) ?_
 refine wk_end ?_
 refine ac_next ?_
 refine aw_grp1 ?_
 refine wk_start ?_
 refine kv g0 (faB 3 3) ?_
 refine kv g0 (ldB) ?_
 refine kv g0 (faB 3 3) ?_
 refine ks g0 (stB 1 [.lit (.int .i64 a0_0), .lit (.int .i64 a0_1), .lit (.int .i64 a0_2), .lit (.int .i64 a0_3)]) ?_
 refine wk_end ?_
 refine ac_next ?_
 refine aw_grp1 ?_
 refine wk_start ?_
 refine kv g0 (ldBA 4 [.lit (.int .i64 a0_0), .lit (.int .i64 a0_1), .lit (.int .i64 a0_2), .lit (.int .i64 a0_3)]) ?_
 refine ks g0 (stB 4 [.lit (.int .i64 a0_0), .lit (.int .i64 a0_1), .lit (.int .i64 a0_2), .lit (.int .i64 a0_3)]) ?_
 refine wk_end ?_
 refine ac_next ?_
 refine aw_ret ?_
 obtain rfl := Option.some.inj H
 exact acr hE [.cell 2 43] (rcA 4 .nil) (.one _) [] 9999
/-! laws_toEntry -/
def laws_toEntry.f (a0_0 : Int) (a0_1 : Int) (a0_2 : Int) (a0_3 : Int) (a0_4 : Int) (a0_5 : Int) : Option (Int × Int × Int × Int × Int × Int) := (laws_toItem.f a0_2 a0_3 a0_4 a0_5).bind fun t1 => some (a0_0, a0_1, t1.1, t1.2.1, t1.2.2.1, t1.2.2.2)
theorem laws_toEntry.ok {a0_0 : Int} {a0_1 : Int} {a0_2 : Int} {a0_3 : Int} {a0_4 : Int} {a0_5 : Int} {r : Int × Int × Int × Int × Int × Int} (H : laws_toEntry.f a0_0 a0_1 a0_2 a0_3 a0_4 a0_5 = some r) : ACalls Try.prog 159 [] [.agg [.lit (.int .i64 a0_0), .lit (.int .i64 a0_1), .lit (.int .i64 a0_2), .lit (.int .i64 a0_3), .lit (.int .i64 a0_4), .lit (.int .i64 a0_5)]] [] (.agg [.lit (.int .i64 r.1), .lit (.int .i64 r.2.1), .lit (.int .i64 r.2.2.1), .lit (.int .i64 r.2.2.2.1), .lit (.int .i64 r.2.2.2.2.1), .lit (.int .i64 r.2.2.2.2.2)]) := by
 refine acalls (fn := Try.f159) (nt := 15) Try.func159 rfl rfl (Nat.le_of_ble_eq_true rfl) fun E hE => ?_
 rw [laws_toEntry.f] at H
 refine aw_grp1 ?_
 refine wk_start ?_
 refine kb g0 (bxA 0) ?_
 refine kb g0 (alc 1 [.int .i64 0, .int .i64 0, .int .i64 0, .int .i64 0, .int .i64 0, .int .i64 0] [.lit (.int .i64 0), .lit (.int .i64 0), .lit (.int .i64 0), .lit (.int .i64 0), .lit (.int .i64 0), .lit (.int .i64 0)]) ?_
 refine wk_end ?_
 refine ac_next ?_
 refine aw_grp1 ?_
 refine wk_start ?_
 refine kb g0 (alc 2 [.int .i64 0, .int .i64 0, .int .i64 0, .int .i64 0, .int .i64 0, .int .i64 0] [.lit (.int .i64 0), .lit (.int .i64 0), .lit (.int .i64 0), .lit (.int .i64 0), .lit (.int .i64 0), .lit (.int .i64 0)]) ?_
 refine wk_end ?_
 refine ac_next ?_
 refine aw_grp1 ?_
 refine wk_start ?_
 refine kv g0 (faB 0 0) ?_
 refine kv g0 (ldB) ?_
 refine kv g0 (faB 0 0) ?_
 refine ks g0 (stB 1 [.lit (.int .i64 a0_0), .lit (.int .i64 0), .lit (.int .i64 0), .lit (.int .i64 0), .lit (.int .i64 0), .lit (.int .i64 0)]) ?_
 refine wk_end ?_
 refine ac_next ?_
 refine aw_grp1 ?_
 refine wk_start ?_
 refine kv g0 (faB 1 1) ?_
 refine kv g0 (ldB) ?_
 refine kv g0 (faB 1 1) ?_
 refine ks g0 (stB 1 [.lit (.int .i64 a0_0), .lit (.int .i64 a0_1), .lit (.int .i64 0), .lit (.int .i64 0), .lit (.int .i64 0), .lit (.int .i64 0)]) ?_
 refine wk_end ?_
 refine ac_next ?_
 refine aw_grp1 ?_
 refine wk_start ?_
 refine kv g0 (faB 2 2) ?_
 refine kv g0 (ldBA 4 [.lit (.int .i64 a0_2), .lit (.int .i64 a0_3), .lit (.int .i64 a0_4), .lit (.int .i64 a0_5)]) ?_
 obtain ⟨t1, A2, H⟩ := of_bind H
 refine kcS0 12 (.agg [.lit (.int .i64 t1.1), .lit (.int .i64 t1.2.1), .lit (.int .i64 t1.2.2.1), .lit (.int .i64 t1.2.2.2)]) [] g0 (cal (laws_toItem.ok A2) [] 9999 .n (hf := Try.func184)) rfl rfl ?_
 refine kv g0 (faB 2 2) ?_
 refine ks g0 (stB 4 [.lit (.int .i64 a0_0), .lit (.int .i64 a0_1), .lit (.int .i64 t1.1), .lit (.int .i64 t1.2.1), .lit (.int .i64 t1.2.2.1), .lit (.int .i64 t1.2.2.2)]) ?_
 refine wk_end ?_
 refine ac_next ?_
 refine aw_grp1 ?_
 refine wk_start ?_
 refine kv g0 (ldBA 6 [.lit (.int .i64 a0_0), .lit (.int .i64 a0_1), .lit (.int .i64 t1.1), .lit (.int .i64 t1.2.1), .lit (.int .i64 t1.2.2.1), .lit (.int .i64 t1.2.2.2)]) ?_
 refine ks g0 (stB 6 [.lit (.int .i64 a0_0), .lit (.int .i64 a0_1), .lit (.int .i64 t1.1), .lit (.int .i64 t1.2.1), .lit (.int .i64 t1.2.2.1), .lit (.int .i64 t1.2.2.2)]) ?_
 refine wk_end ?_
 refine ac_next ?_
 refine aw_ret ?_
 obtain rfl := Option.some.inj H
 exact acr hE [.cell 2 130] (rcA 6 .nil) (.one _) [] 9999
/-! laws_toEntryS -/
def laws_toEntryS.l0 : Nat → (List S180) → (List S130) → Int → Option ((List S130))
 | 0, _, _, _ => none
 | k10 + 1, l0, q8, p9 => if p9 < (l0.length : Int) then if 0 ≤ p9 then ((laws_toEntry.f ((rd_T180 l0 p9).f0) ((rd_T180 l0 p9).f1) ((rd_T180 l0 p9).f2.f0) ((rd_T180 l0 p9).f2.f1) ((rd_T180 l0 p9).f2.f2) ((rd_T180 l0 p9).f2.f3)).bind fun t13 => (if p9 < (q8.length : Int) then laws_toEntryS.l0 k10 l0 (q8.set p9.toNat (⟨t13.1, t13.2.1, (⟨t13.2.2.1, t13.2.2.2.1, t13.2.2.2.2.1, t13.2.2.2.2.2⟩ : S43)⟩ : S130)) (wrap64 (p9 + 1)) else none)) else none else some q8
def laws_toEntryS.f (k : Nat) (l0 : List S180) : Option ((List S130)) := if 0 ≤ (l0.length : Int) then (if (l0.length : Int).toNat ≤ 5864062014805 then laws_toEntryS.l0 k l0 (List.replicate (l0.length : Int).toNat z130) 0 else none) else none
theorem laws_toEntryS.ok {k : Nat} {l0 : List S180} {r : (List S130)} (H : laws_toEntryS.f k l0 = some r) : ACalls Try.prog 85 [] [.sl .o 6 (l0.map e180)] [(0, .row 130 6 (r.map e130))] (.row 0) := by
 refine acalls (fn := Try.f85) (nt := 23) Try.func85 rfl rfl (Nat.le_of_ble_eq_true rfl) fun E hE => ?_
 rw [laws_toEntryS.f] at H
 refine aw_grp1 ?_
 refine wk_start ?_
 refine kv g0 (asg) ?_
 refine wk_end ?_
 refine ac_next ?_
 refine aw_grp1 ?_
 refine wk_start ?_
 refine kv g0 (mv) ?_
 refine kv g0 (lnS lenE) ?_
 obtain ⟨c1, H⟩ := of_if H
 obtain ⟨c2, H⟩ := of_if H
 refine kb g0 (mks 0 130 6 48 [.int .i64 0, .int .i64 0, .int .i64 0, .int .i64 0, .int .i64 0, .int .i64 0] (e130 z130) ((List.replicate (l0.length : Int).toNat z130).map e130) c1 (mkb c2 rfl) repE) ?_
 refine kv g0 (asg) ?_
 refine wk_end ?_
 refine ac_next ?_
 refine aw_grp1 ?_
 refine aw_grp1 ?_
 refine wk_start ?_
 refine kv g0 (asg) ?_
 refine wk_end ?_
 refine ac_next ?_
 refine aw_block ?_
 refine aw_loop2 (fun (k_ : Nat) (q8 : List S130) (p9 : Int) => laws_toEntryS.l0 k_ l0 q8 p9 = some r) (fun (q8 : List S130) (p9 : Int) => ⟨[(0, .sl .o 6 (l0.map e180)), (3, .row 0), (4, .lit (.int .i64 p9))], [(0, .row 130 6 (q8.map e130))]⟩) k (List.replicate (l0.length : Int).toNat z130) 0 H (fun K_ h_ => acw hE [(0, 0)] 9999 h_) (fun _ _ => by intro h_; rw [laws_toEntryS.l0.eq_1] at h_; cases h_) ?_
 intro k10 q8 p9 H K16 hK17
 rw [laws_toEntryS.l0.eq_2] at H
 refine aw_grp1 ?_
 refine aw_grp1 ?_
 refine wk_start ?_
 refine kv g0 (mv) ?_
 refine kv g0 (mv) ?_
 refine kv g0 (lnS lenE) ?_
 refine kv g0 (lss) ?_
 refine wk_end ?_
 refine ac_next ?_
 by_cases c11 : p9 < (l0.length : Int)
 ·rw [if_pos c11] at H
  refine aw_ifT ?_ (decide_eq_true c11)
  refine aw_skip ?_
  refine ac_next ?_
  refine aw_grp1 ?_
  refine aw_block ?_
  refine wk_start ?_
  refine kv g0 (mv) ?_
  refine kv g0 (mv) ?_
  refine kv g0 (mv) ?_
  refine kv g0 (mv) ?_
  obtain ⟨c12, H⟩ := of_if H
  refine kv g0 (ixS 180 (e180 (rd_T180 l0 p9)) c12 (getE (z := z180) c12 c11)) ?_
  refine kv g0 (ldRA 6 [.lit (.int .i64 ((rd_T180 l0 p9).f0)), .lit (.int .i64 ((rd_T180 l0 p9).f1)), .lit (.int .i64 ((rd_T180 l0 p9).f2.f0)), .lit (.int .i64 ((rd_T180 l0 p9).f2.f1)), .lit (.int .i64 ((rd_T180 l0 p9).f2.f2)), .lit (.int .i64 ((rd_T180 l0 p9).f2.f3))]) ?_
  obtain ⟨t13, A14, H⟩ := of_bind H
  refine kcS0 20 (.agg [.lit (.int .i64 t13.1), .lit (.int .i64 t13.2.1), .lit (.int .i64 t13.2.2.1), .lit (.int .i64 t13.2.2.2.1), .lit (.int .i64 t13.2.2.2.2.1), .lit (.int .i64 t13.2.2.2.2.2)]) [] g0 (cal (laws_toEntry.ok A14) [] 9999 .n (hf := Try.func159)) rfl rfl ?_
  obtain ⟨c15, H⟩ := of_if H
  refine kv g0 (ixR 130 c12 (ltE c15)) ?_
  refine ks g0 (stE 6 (e130 (⟨t13.1, t13.2.1, (⟨t13.2.2.1, t13.2.2.2.1, t13.2.2.2.2.1, t13.2.2.2.2.2⟩ : S43)⟩ : S130)) ((q8.set p9.toNat (⟨t13.1, t13.2.1, (⟨t13.2.2.1, t13.2.2.2.1, t13.2.2.2.2.1, t13.2.2.2.2.2⟩ : S43)⟩ : S130)).map e130) (getE (z := z130) c12 c15) setE) ?_
  refine wk_end ?_
  refine ac_blkN ?_
  refine ac_next ?_
  refine wk_start ?_
  refine kv g0 (mv) ?_
  refine kv g0 (add6) ?_
  refine kv g0 (asg) ?_
  refine wk_end ?_
  refine ac_k ?_
  exact acw hE [(0, 0)] 9999 (hK17 k10 (q8.set p9.toNat (⟨t13.1, t13.2.1, (⟨t13.2.2.1, t13.2.2.2.1, t13.2.2.2.2.1, t13.2.2.2.2.2⟩ : S43)⟩ : S130)) (wrap64 (p9 + 1)) (Nat.le_refl _) H)
 rw [if_neg c11] at H
 refine aw_ifF ?_ (decide_eq_false c11)
 refine aw_exit ?_
 refine ac_then ?_
 refine ac_then ?_
 refine ac_hit rfl ?_
 refine ac_next ?_
 refine aw_grp1 ?_
 refine wk_start ?_
 refine kv g0 (mv) ?_
 refine kv g0 (asg) ?_
 refine wk_end ?_
 refine ac_next ?_
 refine aw_ret ?_
 obtain rfl := Option.some.inj H
 exact acr hE [.tmp 2] (.tmp .nil) (.one _) [(0, 0)] 9999
/-! laws_toIntS -/
def laws_toIntS.l0 : Nat → (List Int) → (List Int) → Int → Option ((List Int))
 | 0, _, _, _ => none
 | k8 + 1, l0, q6, p7 => if p7 < (l0.length : Int) then if 0 ≤ p7 then (if p7 < (q6.length : Int) then laws_toIntS.l0 k8 l0 (q6.set p7.toNat (rd l0 p7)) (wrap64 (p7 + 1)) else none) else none else some q6
def laws_toIntS.f (k : Nat) (l0 : List Int) : Option ((List Int)) := if 0 ≤ (l0.length : Int) then (if (l0.length : Int).toNat ≤ 35184372088832 then laws_toIntS.l0 k l0 (List.replicate (l0.length : Int).toNat (0 : Int)) 0 else none) else none
theorem laws_toIntS.ok {k : Nat} {l0 : List Int} {r : (List Int)} (H : laws_toIntS.f k l0 = some r) : ACalls Try.prog 86 [] [.sl .o 1 (l0.map (eI .i64))] [(0, .row 3 1 (r.map (eI .i64)))] (.row 0) := by
 refine acalls (fn := Try.f86) (nt := 22) Try.func86 rfl rfl (Nat.le_of_ble_eq_true rfl) fun E hE => ?_
 rw [laws_toIntS.f] at H
 refine aw_grp1 ?_
 refine wk_start ?_
 refine kv g0 (asg) ?_
 refine wk_end ?_
 refine ac_next ?_
 refine aw_grp1 ?_
 refine wk_start ?_
 refine kv g0 (mv) ?_
 refine kv g0 (lnS lenE) ?_
 obtain ⟨c1, H⟩ := of_if H
 obtain ⟨c2, H⟩ := of_if H
 refine kb g0 (mks 0 3 1 8 [.int .i64 0] (eI .i64 (0 : Int)) ((List.replicate (l0.length : Int).toNat (0 : Int)).map (eI .i64)) c1 (mkb c2 rfl) repE) ?_
 refine kv g0 (asg) ?_
 refine wk_end ?_
 refine ac_next ?_
 refine aw_grp1 ?_
 refine aw_grp1 ?_
 refine wk_start ?_
 refine kv g0 (asg) ?_
 refine wk_end ?_
 refine ac_next ?_
 refine aw_block ?_
 refine aw_loop2 (fun (k_ : Nat) (q6 : List Int) (p7 : Int) => laws_toIntS.l0 k_ l0 q6 p7 = some r) (fun (q6 : List Int) (p7 : Int) => ⟨[(0, .sl .o 1 (l0.map (eI .i64))), (3, .row 0), (4, .lit (.int .i64 p7))], [(0, .row 3 1 (q6.map (eI .i64)))]⟩) k (List.replicate (l0.length : Int).toNat (0 : Int)) 0 H (fun K_ h_ => acw hE [(0, 0)] 9999 h_) (fun _ _ => by intro h_; rw [laws_toIntS.l0.eq_1] at h_; cases h_) ?_
 intro k8 q6 p7 H K12 hK13
 rw [laws_toIntS.l0.eq_2] at H
 refine aw_grp1 ?_
 refine aw_grp1 ?_
 refine wk_start ?_
 refine kv g0 (mv) ?_
 refine kv g0 (mv) ?_
 refine kv g0 (lnS lenE) ?_
 refine kv g0 (lss) ?_
 refine wk_end ?_
 refine ac_next ?_
 by_cases c9 : p7 < (l0.length : Int)
 ·rw [if_pos c9] at H
  refine aw_ifT ?_ (decide_eq_true c9)
  refine aw_skip ?_
  refine ac_next ?_
  refine aw_grp1 ?_
  refine aw_block ?_
  refine wk_start ?_
  refine kv g0 (mv) ?_
  refine kv g0 (mv) ?_
  refine kv g0 (mv) ?_
  refine kv g0 (mv) ?_
  obtain ⟨c10, H⟩ := of_if H
  refine kv g0 (ixS 3 (eI .i64 (rd l0 p7)) c10 (getE (z := (0 : Int)) c10 c9)) ?_
  refine kv g0 (ldR (.lit (.int .i64 (rd l0 p7)))) ?_
  obtain ⟨c11, H⟩ := of_if H
  refine kv g0 (ixR 3 c10 (ltE c11)) ?_
  refine ks g0 (stE 1 (eI .i64 (rd l0 p7)) ((q6.set p7.toNat (rd l0 p7)).map (eI .i64)) (getE (z := (0 : Int)) c10 c11) setE) ?_
  refine wk_end ?_
  refine ac_blkN ?_
  refine ac_next ?_
  refine wk_start ?_
  refine kv g0 (mv) ?_
  refine kv g0 (add6) ?_
  refine kv g0 (asg) ?_
  refine wk_end ?_
  refine ac_k ?_
  exact acw hE [(0, 0)] 9999 (hK13 k8 (q6.set p7.toNat (rd l0 p7)) (wrap64 (p7 + 1)) (Nat.le_refl _) H)
 rw [if_neg c9] at H
 refine aw_ifF ?_ (decide_eq_false c9)
 refine aw_exit ?_
 refine ac_then ?_
 refine ac_then ?_
 refine ac_hit rfl ?_
 refine ac_next ?_
 refine aw_grp1 ?_
 refine wk_start ?_
 refine kv g0 (mv) ?_
 refine kv g0 (asg) ?_
 refine wk_end ?_
 refine ac_next ?_
 refine aw_ret ?_
 obtain rfl := Option.some.inj H
 exact acr hE [.tmp 2] (.tmp .nil) (.one _) [(0, 0)] 9999
/-! laws_toEarly -/
def laws_toEarly.f (a0_0 : Int) (a0_1 : Int) (a0_2 : Int) (a0_3 : Int) (a0_4 : Int) (a0_5 : Int) : Option (Int × Int × Int × Int × Int × Int) := (laws_toItem.f a0_2 a0_3 a0_4 a0_5).bind fun t1 => some (a0_0, a0_1, t1.1, t1.2.1, t1.2.2.1, t1.2.2.2)
theorem laws_toEarly.ok {a0_0 : Int} {a0_1 : Int} {a0_2 : Int} {a0_3 : Int} {a0_4 : Int} {a0_5 : Int} {r : Int × Int × Int × Int × Int × Int} (H : laws_toEarly.f a0_0 a0_1 a0_2 a0_3 a0_4 a0_5 = some r) : ACalls Try.prog 160 [] [.agg [.lit (.int .i64 a0_0), .lit (.int .i64 a0_1), .lit (.int .i64 a0_2), .lit (.int .i64 a0_3), .lit (.int .i64 a0_4), .lit (.int .i64 a0_5)]] [] (.agg [.lit (.int .i64 r.1), .lit (.int .i64 r.2.1), .lit (.int .i64 r.2.2.1), .lit (.int .i64 r.2.2.2.1), .lit (.int .i64 r.2.2.2.2.1), .lit (.int .i64 r.2.2.2.2.2)]) := by
 refine acalls (fn := Try.f160) (nt := 15) Try.func160 rfl rfl (Nat.le_of_ble_eq_true rfl) fun E hE => ?_
 rw [laws_toEarly.f] at H
 refine aw_grp1 ?_
 refine wk_start ?_
 refine kb g0 (bxA 0) ?_
 refine kb g0 (alc 1 [.int .i64 0, .int .i64 0, .int .i64 0, .int .i64 0, .int .i64 0, .int .i64 0] [.lit (.int .i64 0), .lit (.int .i64 0), .lit (.int .i64 0), .lit (.int .i64 0), .lit (.int .i64 0), .lit (.int .i64 0)]) ?_
 refine wk_end ?_
 refine ac_next ?_
 refine aw_grp1 ?_
 refine wk_start ?_
 refine kb g0 (alc 2 [.int .i64 0, .int .i64 0, .int .i64 0, .int .i64 0, .int .i64 0, .int .i64 0] [.lit (.int .i64 0), .lit (.int .i64 0), .lit (.int .i64 0), .lit (.int .i64 0), .lit (.int .i64 0), .lit (.int .i64 0)]) ?_
 refine wk_end ?_
 refine ac_next ?_
 refine aw_grp1 ?_
 refine wk_start ?_
 refine kv g0 (faB 0 0) ?_
 refine kv g0 (ldB) ?_
 refine kv g0 (faB 0 0) ?_
 refine ks g0 (stB 1 [.lit (.int .i64 a0_0), .lit (.int .i64 0), .lit (.int .i64 0), .lit (.int .i64 0), .lit (.int .i64 0), .lit (.int .i64 0)]) ?_
 refine wk_end ?_
 refine ac_next ?_
 refine aw_grp1 ?_
 refine wk_start ?_
 refine kv g0 (faB 1 1) ?_
 refine kv g0 (ldB) ?_
 refine kv g0 (faB 1 1) ?_
 refine ks g0 (stB 1 [.lit (.int .i64 a0_0), .lit (.int .i64 a0_1), .lit (.int .i64 0), .lit (.int .i64 0), .lit (.int .i64 0), .lit (.int .i64 0)]) ?_
 refine wk_end ?_
 refine ac_next ?_
 refine aw_grp1 ?_
 refine wk_start ?_
 refine kv g0 (faB 2 2) ?_
 refine kv g0 (ldBA 4 [.lit (.int .i64 a0_2), .lit (.int .i64 a0_3), .lit (.int .i64 a0_4), .lit (.int .i64 a0_5)]) ?_
 obtain ⟨t1, A2, H⟩ := of_bind H
 refine kcS0 12 (.agg [.lit (.int .i64 t1.1), .lit (.int .i64 t1.2.1), .lit (.int .i64 t1.2.2.1), .lit (.int .i64 t1.2.2.2)]) [] g0 (cal (laws_toItem.ok A2) [] 9999 .n (hf := Try.func184)) rfl rfl ?_
 refine kv g0 (faB 2 2) ?_
 refine ks g0 (stB 4 [.lit (.int .i64 a0_0), .lit (.int .i64 a0_1), .lit (.int .i64 t1.1), .lit (.int .i64 t1.2.1), .lit (.int .i64 t1.2.2.1), .lit (.int .i64 t1.2.2.2)]) ?_
 refine wk_end ?_
 refine ac_next ?_
 refine aw_grp1 ?_
 refine wk_start ?_
 refine kv g0 (ldBA 6 [.lit (.int .i64 a0_0), .lit (.int .i64 a0_1), .lit (.int .i64 t1.1), .lit (.int .i64 t1.2.1), .lit (.int .i64 t1.2.2.1), .lit (.int .i64 t1.2.2.2)]) ?_
 refine ks g0 (stB 6 [.lit (.int .i64 a0_0), .lit (.int .i64 a0_1), .lit (.int .i64 t1.1), .lit (.int .i64 t1.2.1), .lit (.int .i64 t1.2.2.1), .lit (.int .i64 t1.2.2.2)]) ?_
 refine wk_end ?_
 refine ac_next ?_
 refine aw_ret ?_
 obtain rfl := Option.some.inj H
 exact acr hE [.cell 2 123] (rcA 6 .nil) (.one _) [] 9999
/-! laws_toEarlyS -/
def laws_toEarlyS.l0 : Nat → (List S182) → (List S123) → Int → Option ((List S123))
 | 0, _, _, _ => none
 | k10 + 1, l0, q8, p9 => if p9 < (l0.length : Int) then if 0 ≤ p9 then ((laws_toEarly.f ((rd_T182 l0 p9).f0) ((rd_T182 l0 p9).f1) ((rd_T182 l0 p9).f2.f0) ((rd_T182 l0 p9).f2.f1) ((rd_T182 l0 p9).f2.f2) ((rd_T182 l0 p9).f2.f3)).bind fun t13 => (if p9 < (q8.length : Int) then laws_toEarlyS.l0 k10 l0 (q8.set p9.toNat (⟨t13.1, t13.2.1, (⟨t13.2.2.1, t13.2.2.2.1, t13.2.2.2.2.1, t13.2.2.2.2.2⟩ : S43)⟩ : S123)) (wrap64 (p9 + 1)) else none)) else none else some q8
def laws_toEarlyS.f (k : Nat) (l0 : List S182) : Option ((List S123)) := if 0 ≤ (l0.length : Int) then (if (l0.length : Int).toNat ≤ 5864062014805 then laws_toEarlyS.l0 k l0 (List.replicate (l0.length : Int).toNat z123) 0 else none) else none
theorem laws_toEarlyS.ok {k : Nat} {l0 : List S182} {r : (List S123)} (H : laws_toEarlyS.f k l0 = some r) : ACalls Try.prog 87 [] [.sl .o 6 (l0.map e182)] [(0, .row 123 6 (r.map e123))] (.row 0) := by
 refine acalls (fn := Try.f87) (nt := 23) Try.func87 rfl rfl (Nat.le_of_ble_eq_true rfl) fun E hE => ?_
 rw [laws_toEarlyS.f] at H
 refine aw_grp1 ?_
 refine wk_start ?_
 refine kv g0 (asg) ?_
 refine wk_end ?_
 refine ac_next ?_
 refine aw_grp1 ?_
 refine wk_start ?_
 refine kv g0 (mv) ?_
 refine kv g0 (lnS lenE) ?_
 obtain ⟨c1, H⟩ := of_if H
 obtain ⟨c2, H⟩ := of_if H
 refine kb g0 (mks 0 123 6 48 [.int .i64 0, .int .i64 0, .int .i64 0, .int .i64 0, .int .i64 0, .int .i64 0] (e123 z123) ((List.replicate (l0.length : Int).toNat z123).map e123) c1 (mkb c2 rfl) repE) ?_
 refine kv g0 (asg) ?_
 refine wk_end ?_
 refine ac_next ?_
 refine aw_grp1 ?_
 refine aw_grp1 ?_
 refine wk_start ?_
 refine kv g0 (asg) ?_
 refine wk_end ?_
 refine ac_next ?_
 refine aw_block ?_
 refine aw_loop2 (fun (k_ : Nat) (q8 : List S123) (p9 : Int) => laws_toEarlyS.l0 k_ l0 q8 p9 = some r) (fun (q8 : List S123) (p9 : Int) => ⟨[(0, .sl .o 6 (l0.map e182)), (3, .row 0), (4, .lit (.int .i64 p9))], [(0, .row 123 6 (q8.map e123))]⟩) k (List.replicate (l0.length : Int).toNat z123) 0 H (fun K_ h_ => acw hE [(0, 0)] 9999 h_) (fun _ _ => by intro h_; rw [laws_toEarlyS.l0.eq_1] at h_; cases h_) ?_
 intro k10 q8 p9 H K16 hK17
 rw [laws_toEarlyS.l0.eq_2] at H
 refine aw_grp1 ?_
 refine aw_grp1 ?_
 refine wk_start ?_
 refine kv g0 (mv) ?_
 refine kv g0 (mv) ?_
 refine kv g0 (lnS lenE) ?_
 refine kv g0 (lss) ?_
 refine wk_end ?_
 refine ac_next ?_
 by_cases c11 : p9 < (l0.length : Int)
 ·rw [if_pos c11] at H
  refine aw_ifT ?_ (decide_eq_true c11)
  refine aw_skip ?_
  refine ac_next ?_
  refine aw_grp1 ?_
  refine aw_block ?_
  refine wk_start ?_
  refine kv g0 (mv) ?_
  refine kv g0 (mv) ?_
  refine kv g0 (mv) ?_
  refine kv g0 (mv) ?_
  obtain ⟨c12, H⟩ := of_if H
  refine kv g0 (ixS 182 (e182 (rd_T182 l0 p9)) c12 (getE (z := z182) c12 c11)) ?_
  refine kv g0 (ldRA 6 [.lit (.int .i64 ((rd_T182 l0 p9).f0)), .lit (.int .i64 ((rd_T182 l0 p9).f1)), .lit (.int .i64 ((rd_T182 l0 p9).f2.f0)), .lit (.int .i64 ((rd_T182 l0 p9).f2.f1)), .lit (.int .i64 ((rd_T182 l0 p9).f2.f2)), .lit (.int .i64 ((rd_T182 l0 p9).f2.f3))]) ?_
  obtain ⟨t13, A14, H⟩ := of_bind H
  refine kcS0 20 (.agg [.lit (.int .i64 t13.1), .lit (.int .i64 t13.2.1), .lit (.int .i64 t13.2.2.1), .lit (.int .i64 t13.2.2.2.1), .lit (.int .i64 t13.2.2.2.2.1), .lit (.int .i64 t13.2.2.2.2.2)]) [] g0 (cal (laws_toEarly.ok A14) [] 9999 .n (hf := Try.func160)) rfl rfl ?_
  obtain ⟨c15, H⟩ := of_if H
  refine kv g0 (ixR 123 c12 (ltE c15)) ?_
  refine ks g0 (stE 6 (e123 (⟨t13.1, t13.2.1, (⟨t13.2.2.1, t13.2.2.2.1, t13.2.2.2.2.1, t13.2.2.2.2.2⟩ : S43)⟩ : S123)) ((q8.set p9.toNat (⟨t13.1, t13.2.1, (⟨t13.2.2.1, t13.2.2.2.1, t13.2.2.2.2.1, t13.2.2.2.2.2⟩ : S43)⟩ : S123)).map e123) (getE (z := z123) c12 c15) setE) ?_
  refine wk_end ?_
  refine ac_blkN ?_
  refine ac_next ?_
  refine wk_start ?_
  refine kv g0 (mv) ?_
  refine kv g0 (add6) ?_
  refine kv g0 (asg) ?_
  refine wk_end ?_
  refine ac_k ?_
  exact acw hE [(0, 0)] 9999 (hK17 k10 (q8.set p9.toNat (⟨t13.1, t13.2.1, (⟨t13.2.2.1, t13.2.2.2.1, t13.2.2.2.2.1, t13.2.2.2.2.2⟩ : S43)⟩ : S123)) (wrap64 (p9 + 1)) (Nat.le_refl _) H)
 rw [if_neg c11] at H
 refine aw_ifF ?_ (decide_eq_false c11)
 refine aw_exit ?_
 refine ac_then ?_
 refine ac_then ?_
 refine ac_hit rfl ?_
 refine ac_next ?_
 refine aw_grp1 ?_
 refine wk_start ?_
 refine kv g0 (mv) ?_
 refine kv g0 (asg) ?_
 refine wk_end ?_
 refine ac_next ?_
 refine aw_ret ?_
 obtain rfl := Option.some.inj H
 exact acr hE [.tmp 2] (.tmp .nil) (.one _) [(0, 0)] 9999
/-! laws_toKeeper -/
def laws_toKeeper.f (k : Nat) (l0_0 : List S180) (l0_1 : List Int) (l0_2 : List S182) (a0_3 : Int) (l0_4 : List Int) : Option ((List S130) × (List Int) × (List S123) × Int × (List Int)) := (laws_toEntryS.f k l0_0).bind fun t1 => (laws_toIntS.f k l0_1).bind fun t3 => (laws_toEarlyS.f k l0_2).bind fun t5 => (laws_toIntS.f k l0_4).bind fun t7 => some (t1, t3, t5, a0_3, t7)
theorem laws_toKeeper.ok {k : Nat} {l0_0 : List S180} {l0_1 : List Int} {l0_2 : List S182} {a0_3 : Int} {l0_4 : List Int} {r : (List S130) × (List Int) × (List S123) × Int × (List Int)} (H : laws_toKeeper.f k l0_0 l0_1 l0_2 a0_3 l0_4 = some r) : ACalls Try.prog 13 [] [.agg [.sl .o 6 (l0_0.map e180), .sl .o 1 (l0_1.map (eI .i64)), .sl .o 6 (l0_2.map e182), .lit (.int .i64 a0_3), .sl .o 1 (l0_4.map (eI .i64))]] [(0, .row 130 6 (r.1.map e130)), (1, .row 3 1 (r.2.1.map (eI .i64))), (2, .row 123 6 (r.2.2.1.map e123)), (3, .row 3 1 (r.2.2.2.2.map (eI .i64)))] (.agg [.row 0, .row 1, .row 2, .lit (.int .i64 r.2.2.2.1), .row 3]) := by
 refine acalls (fn := Try.f13) (nt := 24) Try.func13 rfl rfl (Nat.le_of_ble_eq_true rfl) fun E hE => ?_
 rw [laws_toKeeper.f] at H
 refine aw_grp1 ?_
 refine wk_start ?_
 refine kb g0 (bxA 0) ?_
 refine kb g0 (alc 1 [.slice none 0 0, .slice none 0 0, .slice none 0 0, .int .i64 0, .slice none 0 0] [.lit (.slice none 0 0), .lit (.slice none 0 0), .lit (.slice none 0 0), .lit (.int .i64 0), .lit (.slice none 0 0)]) ?_
 refine wk_end ?_
 refine ac_next ?_
 refine aw_grp1 ?_
 refine wk_start ?_
 refine kb g0 (alc 2 [.slice none 0 0, .slice none 0 0, .slice none 0 0, .int .i64 0, .slice none 0 0] [.lit (.slice none 0 0), .lit (.slice none 0 0), .lit (.slice none 0 0), .lit (.int .i64 0), .lit (.slice none 0 0)]) ?_
 refine wk_end ?_
 refine ac_next ?_
 refine aw_grp1 ?_
 refine wk_start ?_
 refine kv g0 (faB 0 0) ?_
 refine kv g0 (ldB) ?_
 obtain ⟨t1, A2, H⟩ := of_bind H
 refine kcS1 6 (.row 3) [(3, .row 130 6 (t1.map e130))] g0 (cal (laws_toEntryS.ok A2) [3] 9999 .n (hf := Try.func85)) rfl rfl ?_
 refine kv g0 (faB 0 0) ?_
 refine ks g0 (stB 1 [.row 3, .lit (.slice none 0 0), .lit (.slice none 0 0), .lit (.int .i64 0), .lit (.slice none 0 0)]) ?_
 refine wk_end ?_
 refine ac_next ?_
 refine aw_grp1 ?_
 refine wk_start ?_
 refine kv g0 (faB 1 1) ?_
 refine kv g0 (ldB) ?_
 obtain ⟨t3, A4, H⟩ := of_bind H
 refine kcS1 10 (.row 4) [(4, .row 3 1 (t3.map (eI .i64)))] g0 (cal (laws_toIntS.ok A4) [4] 9999 .n (hf := Try.func86)) rfl rfl ?_
 refine kv g0 (faB 1 1) ?_
 refine ks g0 (stB 1 [.row 3, .row 4, .lit (.slice none 0 0), .lit (.int .i64 0), .lit (.slice none 0 0)]) ?_
 refine wk_end ?_
 refine ac_next ?_
 refine aw_grp1 ?_
 refine wk_start ?_
 refine kv g0 (faB 2 2) ?_
 refine kv g0 (ldB) ?_
 obtain ⟨t5, A6, H⟩ := of_bind H
 refine kcS1 14 (.row 5) [(5, .row 123 6 (t5.map e123))] g0 (cal (laws_toEarlyS.ok A6) [5] 9999 .n (hf := Try.func87)) rfl rfl ?_
 refine kv g0 (faB 2 2) ?_
 refine ks g0 (stB 1 [.row 3, .row 4, .row 5, .lit (.int .i64 0), .lit (.slice none 0 0)]) ?_
 refine wk_end ?_
 refine ac_next ?_
 refine aw_grp1 ?_
 refine wk_start ?_
 refine kv g0 (faB 3 3) ?_
 refine kv g0 (ldB) ?_
 refine kv g0 (faB 3 3) ?_
 refine ks g0 (stB 1 [.row 3, .row 4, .row 5, .lit (.int .i64 a0_3), .lit (.slice none 0 0)]) ?_
 refine wk_end ?_
 refine ac_next ?_
 refine aw_grp1 ?_
 refine wk_start ?_
 refine kv g0 (faB 4 4) ?_
 refine kv g0 (ldB) ?_
 obtain ⟨t7, A8, H⟩ := of_bind H
 refine kcS1 21 (.row 6) [(6, .row 3 1 (t7.map (eI .i64)))] g0 (cal (laws_toIntS.ok A8) [6] 9999 .n (hf := Try.func86)) rfl rfl ?_
 refine kv g0 (faB 4 4) ?_
 refine ks g0 (stB 1 [.row 3, .row 4, .row 5, .lit (.int .i64 a0_3), .row 6]) ?_
 refine wk_end ?_
 refine ac_next ?_
 refine aw_grp1 ?_
 refine wk_start ?_
 refine kv g0 (ldBA 5 [.row 3, .row 4, .row 5, .lit (.int .i64 a0_3), .row 6]) ?_
 refine ks g0 (stB 5 [.row 3, .row 4, .row 5, .lit (.int .i64 a0_3), .row 6]) ?_
 refine wk_end ?_
 refine ac_next ?_
 refine aw_ret ?_
 obtain rfl := Option.some.inj H
 exact acr hE [.cell 2 32] (rcA 5 .nil) (.one _) [(0, 3), (1, 4), (2, 5), (3, 6)] 9999
/-! spec_l01In -/
def spec_l01In.f (a0 : Int) (a1 : Int) (a2 : Int) : Option (Bool) := if a0 ≥ a1 then some (decide (a0 ≤ a2)) else some false
theorem spec_l01In.ok {a0 : Int} {a1 : Int} {a2 : Int} {r : Bool} (H : spec_l01In.f a0 a1 a2 = some r) : ACalls Try.prog 81 [] [.lit (.int .i64 a0), .lit (.int .i64 a1), .lit (.int .i64 a2)] [] (.lit (.bool r)) := by
 refine acalls (fn := Try.f81) (nt := 15) Try.func81 rfl rfl (Nat.le_of_ble_eq_true rfl) fun E hE => ?_
 rw [spec_l01In.f] at H
 refine aw_grp1 ?_
 refine wk_start ?_
 refine kv g0 (asg) ?_
 refine wk_end ?_
 refine ac_next ?_
 refine aw_grp1 ?_
 refine wk_start ?_
 refine kv g0 (mv) ?_
 refine kv g0 (mv) ?_
 refine kv g0 (geq) ?_
 refine kv g0 (mv) ?_
 by_cases c1 : a0 ≥ a1
 ·rw [if_pos c1] at H
  refine kv (g1 (decide_eq_true c1)) (mv) ?_
  refine kv (g1 (decide_eq_true c1)) (mv) ?_
  refine kv (g1 (decide_eq_true c1)) (leq) ?_
  refine kv g0 (pkT (decide_eq_true c1)) ?_
  refine kv g0 (asg) ?_
  refine wk_end ?_
  refine ac_next ?_
  refine aw_ret ?_
  obtain rfl := Option.some.inj H
  exact acr hE [.tmp 6] (.tmp .nil) (.one _) [] 9999
 rw [if_neg c1] at H
 refine kx (hT (decide_eq_false c1)) ?_
 refine kx (hT (decide_eq_false c1)) ?_
 refine kx (hT (decide_eq_false c1)) ?_
 refine kv g0 (pkF (decide_eq_false c1)) ?_
 refine kv g0 (asg) ?_
 refine wk_end ?_
 refine ac_next ?_
 refine aw_ret ?_
 obtain rfl := Option.some.inj H
 exact acr hE [.tmp 6] (.tmp .nil) (.one _) [] 9999
/-! spec_HalfOk -/
def spec_HalfOk.f (a0 : Int) : Option (Bool) := (spec_l01In.f a0 0 4294967295).bind fun t1 => some t1
theorem spec_HalfOk.ok {a0 : Int} {r : Bool} (H : spec_HalfOk.f a0 = some r) : ACalls Try.prog 158 [] [.lit (.int .i64 a0)] [] (.lit (.bool r)) := by
 refine acalls (fn := Try.f158) (nt := 5) Try.func158 rfl rfl (Nat.le_of_ble_eq_true rfl) fun E hE => ?_
 rw [spec_HalfOk.f] at H
 refine aw_grp1 ?_
 refine wk_start ?_
 refine kv g0 (asg) ?_
 refine wk_end ?_
 refine ac_next ?_
 refine aw_grp1 ?_
 refine wk_start ?_
 refine kv g0 (mv) ?_
 obtain ⟨t1, A2, H⟩ := of_bind H
 refine kcS0 4 (.lit (.bool t1)) [] g0 (cal (spec_l01In.ok A2) [] 9999 .n (hf := Try.func81)) rfl rfl ?_
 refine kv g0 (asg) ?_
 refine wk_end ?_
 refine ac_next ?_
 refine aw_ret ?_
 obtain rfl := Option.some.inj H
 exact acr hE [.tmp 2] (.tmp .nil) (.one _) [] 9999
/-! spec_ItemOk -/
def spec_ItemOk.f (a0_0 : Int) (a0_1 : Int) (a0_2 : Int) (a0_3 : Int) : Option (Bool) := if a0_0 = 1 then ((spec_HalfOk.f a0_1).bind fun t2 => (if t2 = true then ((spec_HalfOk.f a0_2).bind fun t5 => (if t5 = true then some (a0_3 == 0) else some false)) else some false)) else if a0_0 = 2 then ((spec_l01In.f a0_3 1 1000000000).bind fun t9 => (if t9 = true then (if a0_1 = 0 then some (a0_2 == 0) else some false) else some false)) else some false
theorem spec_ItemOk.ok {a0_0 : Int} {a0_1 : Int} {a0_2 : Int} {a0_3 : Int} {r : Bool} (H : spec_ItemOk.f a0_0 a0_1 a0_2 a0_3 = some r) : ACalls Try.prog 83 [] [.agg [.lit (.int .i64 a0_0), .lit (.int .i64 a0_1), .lit (.int .i64 a0_2), .lit (.int .i64 a0_3)]] [] (.lit (.bool r)) := by
 refine acalls (fn := Try.f83) (nt := 37) Try.func83 rfl rfl (Nat.le_of_ble_eq_true rfl) fun E hE => ?_
 rw [spec_ItemOk.f] at H
 refine aw_grp1 ?_
 refine wk_start ?_
 refine kb g0 (bxA 0) ?_
 refine kv g0 (asg) ?_
 refine wk_end ?_
 refine ac_next ?_
 refine aw_grp1 ?_
 refine aw_grp1 ?_
 refine wk_start ?_
 refine kv g0 (faB 0 0) ?_
 refine kv g0 (ldB) ?_
 refine kv g0 (eql) ?_
 refine wk_end ?_
 refine ac_next ?_
 by_cases c1 : a0_0 = 1
 ·rw [if_pos c1] at H
  refine aw_ifT ?_ (eT c1)
  refine aw_grp1 ?_
  refine wk_start ?_
  refine kv g0 (faB 1 1) ?_
  refine kv g0 (ldB) ?_
  obtain ⟨t2, A3, H⟩ := of_bind H
  refine kcS0 8 (.lit (.bool t2)) [] g0 (cal (spec_HalfOk.ok A3) [] 9999 .n (hf := Try.func158)) rfl rfl ?_
  refine kv g0 (mv) ?_
  by_cases c4 : t2 = true
  ·rw [if_pos c4] at H
   refine kv (g1 c4) (faB 2 2) ?_
   refine kv (g1 c4) (ldB) ?_
   obtain ⟨t5, A6, H⟩ := of_bind H
   refine kcS0 12 (.lit (.bool t5)) [] (g1 c4) (cal (spec_HalfOk.ok A6) [] 9999 .n (hf := Try.func158)) rfl rfl ?_
   refine kv g0 (pkT c4) ?_
   refine kv g0 (mv) ?_
   by_cases c7 : t5 = true
   ·rw [if_pos c7] at H
    refine kv (g1 c7) (faB 3 3) ?_
    refine kv (g1 c7) (ldB) ?_
    refine kv (g1 c7) (eql) ?_
    refine kv g0 (pkT c7) ?_
    refine kv g0 (asg) ?_
    refine wk_end ?_
    refine ac_next ?_
    refine aw_ret ?_
    refine ac_thenR ?_
    obtain rfl := Option.some.inj H
    exact acr hE [.tmp 2] (.tmp .nil) (.one _) [] 9999
   rw [if_neg c7] at H
   refine kx (hT (bF c7)) ?_
   refine kx (hT (bF c7)) ?_
   refine kx (hT (bF c7)) ?_
   refine kv g0 (pkF (bF c7)) ?_
   refine kv g0 (asg) ?_
   refine wk_end ?_
   refine ac_next ?_
   refine aw_ret ?_
   refine ac_thenR ?_
   obtain rfl := Option.some.inj H
   exact acr hE [.tmp 2] (.tmp .nil) (.one _) [] 9999
  rw [if_neg c4] at H
  refine kx (hT (bF c4)) ?_
  refine kx (hT (bF c4)) ?_
  refine kx (hT (bF c4)) ?_
  refine kv g0 (pkF (bF c4)) ?_
  refine kv g0 (mv) ?_
  refine kx (hT rfl) ?_
  refine kx (hT rfl) ?_
  refine kx (hT rfl) ?_
  refine kv g0 (pkF rfl) ?_
  refine kv g0 (asg) ?_
  refine wk_end ?_
  refine ac_next ?_
  refine aw_ret ?_
  refine ac_thenR ?_
  obtain rfl := Option.some.inj H
  exact acr hE [.tmp 2] (.tmp .nil) (.one _) [] 9999
 rw [if_neg c1] at H
 refine aw_ifF ?_ (eF c1)
 refine aw_skip ?_
 refine ac_next ?_
 refine aw_grp1 ?_
 refine wk_start ?_
 refine kv g0 (faB 0 0) ?_
 refine kv g0 (ldB) ?_
 refine kv g0 (eql) ?_
 refine kv g0 (mv) ?_
 by_cases c8 : a0_0 = 2
 ·rw [if_pos c8] at H
  refine kv (g1 (eT c8)) (faB 3 3) ?_
  refine kv (g1 (eT c8)) (ldB) ?_
  obtain ⟨t9, A10, H⟩ := of_bind H
  refine kcS0 25 (.lit (.bool t9)) [] (g1 (eT c8)) (cal (spec_l01In.ok A10) [] 9999 .n (hf := Try.func81)) rfl rfl ?_
  refine kv g0 (pkT (eT c8)) ?_
  refine kv g0 (mv) ?_
  by_cases c11 : t9 = true
  ·rw [if_pos c11] at H
   refine kv (g1 c11) (faB 1 1) ?_
   refine kv (g1 c11) (ldB) ?_
   refine kv (g1 c11) (eql) ?_
   refine kv g0 (pkT c11) ?_
   refine kv g0 (mv) ?_
   by_cases c12 : a0_1 = 0
   ·rw [if_pos c12] at H
    refine kv (g1 (eT c12)) (faB 2 2) ?_
    refine kv (g1 (eT c12)) (ldB) ?_
    refine kv (g1 (eT c12)) (eql) ?_
    refine kv g0 (pkT (eT c12)) ?_
    refine kv g0 (asg) ?_
    refine wk_end ?_
    refine ac_next ?_
    refine aw_ret ?_
    obtain rfl := Option.some.inj H
    exact acr hE [.tmp 2] (.tmp .nil) (.one _) [] 9999
   rw [if_neg c12] at H
   refine kx (hT (eF c12)) ?_
   refine kx (hT (eF c12)) ?_
   refine kx (hT (eF c12)) ?_
   refine kv g0 (pkF (eF c12)) ?_
   refine kv g0 (asg) ?_
   refine wk_end ?_
   refine ac_next ?_
   refine aw_ret ?_
   obtain rfl := Option.some.inj H
   exact acr hE [.tmp 2] (.tmp .nil) (.one _) [] 9999
  rw [if_neg c11] at H
  refine kx (hT (bF c11)) ?_
  refine kx (hT (bF c11)) ?_
  refine kx (hT (bF c11)) ?_
  refine kv g0 (pkF (bF c11)) ?_
  refine kv g0 (mv) ?_
  refine kx (hT rfl) ?_
  refine kx (hT rfl) ?_
  refine kx (hT rfl) ?_
  refine kv g0 (pkF rfl) ?_
  refine kv g0 (asg) ?_
  refine wk_end ?_
  refine ac_next ?_
  refine aw_ret ?_
  obtain rfl := Option.some.inj H
  exact acr hE [.tmp 2] (.tmp .nil) (.one _) [] 9999
 rw [if_neg c8] at H
 refine kx (hT (eF c8)) ?_
 refine kx (hT (eF c8)) ?_
 refine kx (hT (eF c8)) ?_
 refine kv g0 (pkF (eF c8)) ?_
 refine kv g0 (mv) ?_
 refine kx (hT rfl) ?_
 refine kx (hT rfl) ?_
 refine kx (hT rfl) ?_
 refine kv g0 (pkF rfl) ?_
 refine kv g0 (mv) ?_
 refine kx (hT rfl) ?_
 refine kx (hT rfl) ?_
 refine kx (hT rfl) ?_
 refine kv g0 (pkF rfl) ?_
 refine kv g0 (asg) ?_
 refine wk_end ?_
 refine ac_next ?_
 refine aw_ret ?_
 obtain rfl := Option.some.inj H
 exact acr hE [.tmp 2] (.tmp .nil) (.one _) [] 9999
/-! spec_l20Counts -/
def spec_l20Counts.l0 : Nat → (List S130) → Int → (List Int) → Int → Option ((List Int) × Bool)
 | 0, _, _, _, _ => none
 | k15 + 1, l0, a1, q13, p14 => if p14 < a1 then if 0 ≤ p14 then (if p14 < (l0.length : Int) then (spec_l01In.f ((rd_T130 l0 p14).f0) 0 2).bind fun t19 => (if t19 = true then (if 0 ≤ ((rd_T130 l0 p14).f0) then (if ((rd_T130 l0 p14).f0) < (q13.length : Int) then (if ((rd_T130 l0 p14).f1) = (wrap64 ((rd q13 ((rd_T130 l0 p14).f0)) + 1)) then ((spec_ItemOk.f ((rd_T130 l0 p14).f2.f0) ((rd_T130 l0 p14).f2.f1) ((rd_T130 l0 p14).f2.f2) ((rd_T130 l0 p14).f2.f3)).bind fun t25 => if t25 = true then spec_l20Counts.l0 k15 l0 a1 (q13.set ((rd_T130 l0 p14).f0).toNat (wrap64 ((rd q13 ((rd_T130 l0 p14).f0)) + 1))) (wrap64 (p14 + 1)) else some (q13, false)) else some (q13, false)) else none) else none) else some (q13, false)) else none) else none else some (q13, true)
def spec_l20Counts.f (k : Nat) (l0 : List S130) (a1 : Int) : Option ((List Int) × Bool) := spec_l20Counts.l0 k l0 a1 (List.replicate 3 (0 : Int)) 0
theorem spec_l20Counts.ok {k : Nat} {l0 : List S130} {a1 : Int} {r : (List Int) × Bool} (H : spec_l20Counts.f k l0 a1 = some r) : ACalls Try.prog 82 [] [.sl .o 6 (l0.map e130), .lit (.int .i64 a1)] [(0, .row 3 1 (r.1.map (eI .i64)))] (.tup [.row 0, .lit (.bool r.2)]) := by
 refine acalls (fn := Try.f82) (nt := 49) Try.func82 rfl rfl (Nat.le_of_ble_eq_true rfl) fun E hE => ?_
 rw [spec_l20Counts.f] at H
 refine aw_grp1 ?_
 refine wk_start ?_
 refine kv g0 (asg) ?_
 refine kv g0 (asg) ?_
 refine wk_end ?_
 refine ac_next ?_
 refine aw_grp1 ?_
 refine wk_start ?_
 refine kb g0 (mks 0 3 1 8 [.int .i64 0] (eI .i64 (0 : Int)) ((List.replicate 3 (0 : Int)).map (eI .i64)) (by decide : (0 : Int) ≤ 3) (mkb (by decide : (3 : Nat) ≤ 35184372088832) rfl) repE) ?_
 refine kv g0 (asg) ?_
 refine wk_end ?_
 refine ac_next ?_
 refine aw_grp1 ?_
 refine aw_grp1 ?_
 refine wk_start ?_
 refine kv g0 (asg) ?_
 refine wk_end ?_
 refine ac_next ?_
 refine aw_block ?_
 refine aw_loop2 (fun (k_ : Nat) (q13 : List Int) (p14 : Int) => spec_l20Counts.l0 k_ l0 a1 q13 p14 = some r) (fun (q13 : List Int) (p14 : Int) => ⟨[(0, .sl .o 6 (l0.map e130)), (1, .lit (.int .i64 a1)), (6, .row 0), (7, .lit (.int .i64 p14))], [(0, .row 3 1 (q13.map (eI .i64)))]⟩) k (List.replicate 3 (0 : Int)) 0 H (fun K_ h_ => acw hE [(0, 0)] 9999 h_) (fun _ _ => by intro h_; rw [spec_l20Counts.l0.eq_1] at h_; cases h_) ?_
 intro k15 q13 p14 H K28 hK29
 rw [spec_l20Counts.l0.eq_2] at H
 refine aw_grp1 ?_
 refine aw_grp1 ?_
 refine wk_start ?_
 refine kv g0 (mv) ?_
 refine kv g0 (mv) ?_
 refine kv g0 (lss) ?_
 refine wk_end ?_
 refine ac_next ?_
 by_cases c16 : p14 < a1
 ·rw [if_pos c16] at H
  refine aw_ifT ?_ (decide_eq_true c16)
  refine aw_skip ?_
  refine ac_next ?_
  refine aw_grp1 ?_
  refine aw_block ?_
  refine aw_grp1 ?_
  refine wk_start ?_
  refine kv g0 (mv) ?_
  refine kv g0 (mv) ?_
  obtain ⟨c17, H⟩ := of_if H
  obtain ⟨c18, H⟩ := of_if H
  refine kv g0 (ixS 130 (e130 (rd_T130 l0 p14)) c17 (getE (z := z130) c17 c18)) ?_
  refine kv g0 (ldRA 6 [.lit (.int .i64 ((rd_T130 l0 p14).f0)), .lit (.int .i64 ((rd_T130 l0 p14).f1)), .lit (.int .i64 ((rd_T130 l0 p14).f2.f0)), .lit (.int .i64 ((rd_T130 l0 p14).f2.f1)), .lit (.int .i64 ((rd_T130 l0 p14).f2.f2)), .lit (.int .i64 ((rd_T130 l0 p14).f2.f3))]) ?_
  refine kb g0 (alc 1 [.int .i64 0, .int .i64 0, .int .i64 0, .int .i64 0, .int .i64 0, .int .i64 0] [.lit (.int .i64 0), .lit (.int .i64 0), .lit (.int .i64 0), .lit (.int .i64 0), .lit (.int .i64 0), .lit (.int .i64 0)]) ?_
  refine ks g0 (stB 6 [.lit (.int .i64 ((rd_T130 l0 p14).f0)), .lit (.int .i64 ((rd_T130 l0 p14).f1)), .lit (.int .i64 ((rd_T130 l0 p14).f2.f0)), .lit (.int .i64 ((rd_T130 l0 p14).f2.f1)), .lit (.int .i64 ((rd_T130 l0 p14).f2.f2)), .lit (.int .i64 ((rd_T130 l0 p14).f2.f3))]) ?_
  refine wk_end ?_
  refine ac_next ?_
  refine aw_grp1 ?_
  refine aw_grp1 ?_
  refine wk_start ?_
  refine kv g0 (faB 0 0) ?_
  refine kv g0 (ldB) ?_
  obtain ⟨t19, A20, H⟩ := of_bind H
  refine kcS0 21 (.lit (.bool t19)) [] g0 (cal (spec_l01In.ok A20) [] 9999 .n (hf := Try.func81)) rfl rfl ?_
  refine kv g0 (not_) ?_
  refine kv g0 (mv) ?_
  by_cases c21 : t19 = true
  ·rw [if_pos c21] at H
   refine kv (g1 (nF c21)) (faB 1 1) ?_
   refine kv (g1 (nF c21)) (ldB) ?_
   refine kv (g1 (nF c21)) (mv) ?_
   refine kv (g1 (nF c21)) (faB 0 0) ?_
   refine kv (g1 (nF c21)) (ldB) ?_
   obtain ⟨c22, H⟩ := of_if H
   obtain ⟨c23, H⟩ := of_if H
   refine kv (g1 (nF c21)) (ixR 3 c22 (ltE c23)) ?_
   refine kv (g1 (nF c21)) (ldE (eI .i64 (rd q13 ((rd_T130 l0 p14).f0))) (.lit (.int .i64 (rd q13 ((rd_T130 l0 p14).f0)))) (getE (z := (0 : Int)) c22 c23)) ?_
   refine kv (g1 (nF c21)) (add6) ?_
   refine kv (g1 (nF c21)) (neq) ?_
   refine kv g0 (pkF (nF c21)) ?_
   refine kv g0 (mv) ?_
   by_cases c24 : ((rd_T130 l0 p14).f1) = (wrap64 ((rd q13 ((rd_T130 l0 p14).f0)) + 1))
   ·rw [if_pos c24] at H
    refine kv (g1 (eM c24)) (faB 2 2) ?_
    refine kv (g1 (eM c24)) (ldBA 4 [.lit (.int .i64 ((rd_T130 l0 p14).f2.f0)), .lit (.int .i64 ((rd_T130 l0 p14).f2.f1)), .lit (.int .i64 ((rd_T130 l0 p14).f2.f2)), .lit (.int .i64 ((rd_T130 l0 p14).f2.f3))]) ?_
    obtain ⟨t25, A26, H⟩ := of_bind H
    refine kcS0 37 (.lit (.bool t25)) [] (g1 (eM c24)) (cal (spec_ItemOk.ok A26) [] 9999 .n (hf := Try.func83)) rfl rfl ?_
    refine kv (g1 (eM c24)) (not_) ?_
    refine kv g0 (pkF (eM c24)) ?_
    refine wk_end_draw hM (by kernel_rfl) ?_
    refine ac_next ?_
    by_cases c27 : t25 = true
    ·rw [if_pos c27] at H
     refine aw_ifF ?_ (nF c27)
     refine aw_skip ?_
     refine ac_next ?_
     refine wk_start ?_
     refine kv g0 (mv) ?_
     refine kv g0 (faB 0 0) ?_
     refine kv g0 (ldB) ?_
     refine kv g0 (ixR 3 c22 (ltE c23)) ?_
     refine kv g0 (ldE (eI .i64 (rd q13 ((rd_T130 l0 p14).f0))) (.lit (.int .i64 (rd q13 ((rd_T130 l0 p14).f0)))) (getE (z := (0 : Int)) c22 c23)) ?_
     refine kv g0 (add6) ?_
     refine kv g0 (ixR 3 c22 (ltE c23)) ?_
     refine ks g0 (stE 1 (eI .i64 (wrap64 ((rd q13 ((rd_T130 l0 p14).f0)) + 1))) ((q13.set ((rd_T130 l0 p14).f0).toNat (wrap64 ((rd q13 ((rd_T130 l0 p14).f0)) + 1))).map (eI .i64)) (getE (z := (0 : Int)) c22 c23) setE) ?_
     refine wk_end ?_
     refine ac_blkN ?_
     refine ac_next ?_
     refine wk_start ?_
     refine kv g0 (mv) ?_
     refine kv g0 (add6) ?_
     refine kv g0 (asg) ?_
     refine wk_end ?_
     refine ac_k ?_
     exact acw hE [(0, 0)] 9999 (hK29 k15 (q13.set ((rd_T130 l0 p14).f0).toNat (wrap64 ((rd q13 ((rd_T130 l0 p14).f0)) + 1))) (wrap64 (p14 + 1)) (Nat.le_refl _) H)
    rw [if_neg c27] at H
    refine aw_ifT ?_ (nT (bF c27))
    refine aw_grp1 ?_
    refine wk_start ?_
    refine kv g0 (mv) ?_
    refine kv g0 (asg) ?_
    refine kv g0 (asg) ?_
    refine wk_end ?_
    refine ac_next ?_
    refine aw_ret ?_
    refine ac_thenR ?_
    refine ac_blkR ?_
    refine ac_thenR ?_
    refine ac_thenR ?_
    refine ac_blkR ?_
    refine ac_thenR ?_
    obtain rfl := Option.some.inj H
    exact acr hE [.tmp 4, .tmp 5] (.tmp (.tmp .nil)) (.many _ _ _) [(0, 0)] 9999
   rw [if_neg c24] at H
   refine kx (hF (eN c24)) ?_
   refine kx (hF (eN c24)) ?_
   refine kx (hF (eN c24)) ?_
   refine kx (hF (eN c24)) ?_
   refine kv g0 (pkT (eN c24)) ?_
   refine wk_end_draw hM (by kernel_rfl) ?_
   refine ac_next ?_
   refine aw_ifT ?_ rfl
   refine aw_grp1 ?_
   refine wk_start ?_
   refine kv g0 (mv) ?_
   refine kv g0 (asg) ?_
   refine kv g0 (asg) ?_
   refine wk_end ?_
   refine ac_next ?_
   refine aw_ret ?_
   refine ac_thenR ?_
   refine ac_blkR ?_
   refine ac_thenR ?_
   refine ac_thenR ?_
   refine ac_blkR ?_
   refine ac_thenR ?_
   obtain rfl := Option.some.inj H
   exact acr hE [.tmp 4, .tmp 5] (.tmp (.tmp .nil)) (.many _ _ _) [(0, 0)] 9999
  rw [if_neg c21] at H
  refine kx (hF (nT (bF c21))) ?_
  refine kx (hF (nT (bF c21))) ?_
  refine kx (hF (nT (bF c21))) ?_
  refine kx (hF (nT (bF c21))) ?_
  refine kx (hF (nT (bF c21))) ?_
  refine kx (hF (nT (bF c21))) ?_
  refine kx (hF (nT (bF c21))) ?_
  refine kx (hF (nT (bF c21))) ?_
  refine kx (hF (nT (bF c21))) ?_
  refine kv g0 (pkT (nT (bF c21))) ?_
  refine kv g0 (mv) ?_
  refine kx (hF rfl) ?_
  refine kx (hF rfl) ?_
  refine kx (hF rfl) ?_
  refine kx (hF rfl) ?_
  refine kv g0 (pkT rfl) ?_
  refine wk_end_draw hM (by kernel_rfl) ?_
  refine ac_next ?_
  refine aw_ifT ?_ rfl
  refine aw_grp1 ?_
  refine wk_start ?_
  refine kv g0 (mv) ?_
  refine kv g0 (asg) ?_
  refine kv g0 (asg) ?_
  refine wk_end ?_
  refine ac_next ?_
  refine aw_ret ?_
  refine ac_thenR ?_
  refine ac_blkR ?_
  refine ac_thenR ?_
  refine ac_thenR ?_
  refine ac_blkR ?_
  refine ac_thenR ?_
  obtain rfl := Option.some.inj H
  exact acr hE [.tmp 4, .tmp 5] (.tmp (.tmp .nil)) (.many _ _ _) [(0, 0)] 9999
 rw [if_neg c16] at H
 refine aw_ifF ?_ (decide_eq_false c16)
 refine aw_exit ?_
 refine ac_then ?_
 refine ac_then ?_
 refine ac_hit rfl ?_
 refine ac_next ?_
 refine aw_grp1 ?_
 refine wk_start ?_
 refine kv g0 (mv) ?_
 refine kv g0 (asg) ?_
 refine kv g0 (asg) ?_
 refine wk_end ?_
 refine ac_next ?_
 refine aw_ret ?_
 obtain rfl := Option.some.inj H
 exact acr hE [.tmp 4, .tmp 5] (.tmp (.tmp .nil)) (.many _ _ _) [(0, 0)] 9999
/-! spec_l20Early -/
def spec_l20Early.l0 : Nat → (List S123) → Int → Int → Int → Option (Int)
 | 0, _, _, _, _ => none
 | k6 + 1, l0, a1, a2, p5 => if p5 < (l0.length : Int) then if 0 ≤ p5 then (if ((rd_T123 l0 p5).f0) = a1 then if ((rd_T123 l0 p5).f1) = a2 then some p5 else spec_l20Early.l0 k6 l0 a1 a2 (wrap64 (p5 + 1)) else spec_l20Early.l0 k6 l0 a1 a2 (wrap64 (p5 + 1))) else none else some (-1)
def spec_l20Early.f (k : Nat) (l0 : List S123) (a1 : Int) (a2 : Int) : Option (Int) := spec_l20Early.l0 k l0 a1 a2 0
theorem spec_l20Early.ok {k : Nat} {l0 : List S123} {a1 : Int} {a2 : Int} {r : Int} (H : spec_l20Early.f k l0 a1 a2 = some r) : ACalls Try.prog 84 [] [.sl .o 6 (l0.map e123), .lit (.int .i64 a1), .lit (.int .i64 a2)] [] (.lit (.int .i64 r)) := by
 refine acalls (fn := Try.f84) (nt := 31) Try.func84 rfl rfl (Nat.le_of_ble_eq_true rfl) fun E hE => ?_
 rw [spec_l20Early.f] at H
 refine aw_grp1 ?_
 refine wk_start ?_
 refine kv g0 (asg) ?_
 refine wk_end ?_
 refine ac_next ?_
 refine aw_grp1 ?_
 refine aw_grp1 ?_
 refine wk_start ?_
 refine kv g0 (asg) ?_
 refine wk_end ?_
 refine ac_next ?_
 refine aw_block ?_
 refine aw_loop1 (fun (k_ : Nat) (p5 : Int) => spec_l20Early.l0 k_ l0 a1 a2 p5 = some r) (fun (p5 : Int) => ⟨[(0, .sl .o 6 (l0.map e123)), (1, .lit (.int .i64 a1)), (2, .lit (.int .i64 a2)), (7, .lit (.int .i64 p5))], []⟩) k 0 H (fun K_ h_ => acw hE [] 9999 h_) (fun _ => by intro h_; rw [spec_l20Early.l0.eq_1] at h_; cases h_) ?_
 intro k6 p5 H K11 hK12
 rw [spec_l20Early.l0.eq_2] at H
 refine aw_grp1 ?_
 refine aw_grp1 ?_
 refine wk_start ?_
 refine kv g0 (mv) ?_
 refine kv g0 (mv) ?_
 refine kv g0 (lnS lenE) ?_
 refine kv g0 (lss) ?_
 refine wk_end ?_
 refine ac_next ?_
 by_cases c7 : p5 < (l0.length : Int)
 ·rw [if_pos c7] at H
  refine aw_ifT ?_ (decide_eq_true c7)
  refine aw_skip ?_
  refine ac_next ?_
  refine aw_grp1 ?_
  refine aw_block ?_
  refine aw_grp1 ?_
  refine wk_start ?_
  refine kv g0 (mv) ?_
  refine kv g0 (mv) ?_
  obtain ⟨c8, H⟩ := of_if H
  refine kv g0 (ixS 123 (e123 (rd_T123 l0 p5)) c8 (getE (z := z123) c8 c7)) ?_
  refine kv g0 (faR 0 0) ?_
  refine kv g0 (ldR (.lit (.int .i64 ((rd_T123 l0 p5).f0)))) ?_
  refine kv g0 (mv) ?_
  refine kv g0 (eql) ?_
  refine kv g0 (mv) ?_
  by_cases c9 : ((rd_T123 l0 p5).f0) = a1
  ·rw [if_pos c9] at H
   refine kv (g1 (eT c9)) (mv) ?_
   refine kv (g1 (eT c9)) (mv) ?_
   refine kv (g1 (eT c9)) (ixS 123 (e123 (rd_T123 l0 p5)) c8 (getE (z := z123) c8 c7)) ?_
   refine kv (g1 (eT c9)) (faR 1 1) ?_
   refine kv (g1 (eT c9)) (ldR (.lit (.int .i64 ((rd_T123 l0 p5).f1)))) ?_
   refine kv (g1 (eT c9)) (mv) ?_
   refine kv (g1 (eT c9)) (eql) ?_
   refine kv g0 (pkT (eT c9)) ?_
   refine wk_end ?_
   refine ac_next ?_
   by_cases c10 : ((rd_T123 l0 p5).f1) = a2
   ·rw [if_pos c10] at H
    refine aw_ifT ?_ (eT c10)
    refine aw_grp1 ?_
    refine wk_start ?_
    refine kv g0 (mv) ?_
    refine kv g0 (asg) ?_
    refine wk_end ?_
    refine ac_next ?_
    refine aw_ret ?_
    refine ac_blkR ?_
    refine ac_thenR ?_
    refine ac_thenR ?_
    refine ac_blkR ?_
    refine ac_thenR ?_
    obtain rfl := Option.some.inj H
    exact acr hE [.tmp 6] (.tmp .nil) (.one _) [] 9999
   rw [if_neg c10] at H
   refine aw_ifF ?_ (eF c10)
   refine aw_skip ?_
   refine ac_blkN ?_
   refine ac_next ?_
   refine wk_start ?_
   refine kv g0 (mv) ?_
   refine kv g0 (add6) ?_
   refine kv g0 (asg) ?_
   refine wk_end ?_
   refine ac_k ?_
   exact acw hE [] 9999 (hK12 k6 (wrap64 (p5 + 1)) (Nat.le_refl _) H)
  rw [if_neg c9] at H
  refine kx (hT (eF c9)) ?_
  refine kx (hT (eF c9)) ?_
  refine kx (hT (eF c9)) ?_
  refine kx (hT (eF c9)) ?_
  refine kx (hT (eF c9)) ?_
  refine kx (hT (eF c9)) ?_
  refine kx (hT (eF c9)) ?_
  refine kv g0 (pkF (eF c9)) ?_
  refine wk_end ?_
  refine ac_next ?_
  refine aw_ifF ?_ rfl
  refine aw_skip ?_
  refine ac_blkN ?_
  refine ac_next ?_
  refine wk_start ?_
  refine kv g0 (mv) ?_
  refine kv g0 (add6) ?_
  refine kv g0 (asg) ?_
  refine wk_end ?_
  refine ac_k ?_
  exact acw hE [] 9999 (hK12 k6 (wrap64 (p5 + 1)) (Nat.le_refl _) H)
 rw [if_neg c7] at H
 refine aw_ifF ?_ (decide_eq_false c7)
 refine aw_exit ?_
 refine ac_then ?_
 refine ac_then ?_
 refine ac_hit rfl ?_
 refine ac_next ?_
 refine aw_grp1 ?_
 refine wk_start ?_
 refine kv g0 (asg) ?_
 refine wk_end ?_
 refine ac_next ?_
 refine aw_ret ?_
 obtain rfl := Option.some.inj H
 exact acr hE [.tmp 6] (.tmp .nil) (.one _) [] 9999
/-! spec_KeeperOk -/
mutual
def spec_KeeperOk.l0 : Nat → (List S130) → (List Int) → (List S123) → Int → (List Int) → ((List Int) × Bool) → ((List Int) × Bool) → Int → Option (Bool)
 | 0, _, _, _, _, _, _, _, _ => none
 | k22 + 1, l0_0, l0_1, l0_2, a0_3, l0_4, t8, t10, p21 => if p21 < 3 then if 0 ≤ p21 then (if p21 < (l0_1.length : Int) then (if p21 < (t8.1.length : Int) then (if (rd l0_1 p21) = (wrap64 ((rd t8.1 p21) + 1)) then (if p21 < (l0_4.length : Int) then (if p21 < (t10.1.length : Int) then if (rd l0_4 p21) = (wrap64 ((rd t10.1 p21) + 1)) then spec_KeeperOk.l0 k22 l0_0 l0_1 l0_2 a0_3 l0_4 t8 t10 (wrap64 (p21 + 1)) else some false else none) else none) else some false) else none) else none) else none else spec_KeeperOk.l1 k22 l0_0 l0_1 l0_2 a0_3 l0_4 0
def spec_KeeperOk.l1 : Nat → (List S130) → (List Int) → (List S123) → Int → (List Int) → Int → Option (Bool)
 | 0, _, _, _, _, _, _ => none
 | k51 + 1, l0_0, l0_1, l0_2, a0_3, l0_4, p50 => if p50 < (l0_2.length : Int) then if 0 ≤ p50 then (spec_l01In.f ((rd_T123 l0_2 p50).f0) 0 2).bind fun t54 => (if t54 = true then (if 0 ≤ ((rd_T123 l0_2 p50).f0) then (if ((rd_T123 l0_2 p50).f0) < (l0_1.length : Int) then ((spec_l01In.f ((rd_T123 l0_2 p50).f1) (wrap64 ((rd l0_1 ((rd_T123 l0_2 p50).f0)) + 1)) 1000000000).bind fun t59 => (if t59 = true then ((spec_ItemOk.f ((rd_T123 l0_2 p50).f2.f0) ((rd_T123 l0_2 p50).f2.f1) ((rd_T123 l0_2 p50).f2.f2) ((rd_T123 l0_2 p50).f2.f3)).bind fun t62 => (if t62 = true then (if p50 ≤ (l0_2.length : Int) then ((spec_l20Early.f k51 (l0_2.take p50.toNat) ((rd_T123 l0_2 p50).f0) ((rd_T123 l0_2 p50).f1)).bind fun t66 => if t66 ≥ 0 then some false else spec_KeeperOk.l1 k51 l0_0 l0_1 l0_2 a0_3 l0_4 (wrap64 (p50 + 1))) else none) else some false)) else some false)) else none) else none) else some false) else none else some true
end
def spec_KeeperOk.f (k : Nat) (l0_0 : List S130) (l0_1 : List Int) (l0_2 : List S123) (a0_3 : Int) (l0_4 : List Int) : Option (Bool) := if (l0_1.length : Int) = 3 then (if (l0_4.length : Int) = 3 then (if (l0_0.length : Int) > 200 then some false else ((spec_l01In.f a0_3 0 (l0_0.length : Int)).bind fun t4 => (if t4 = true then if (l0_2.length : Int) > 3 then some false else (spec_l20Counts.f k l0_0 (l0_0.length : Int)).bind fun t8 => (spec_l20Counts.f k l0_0 a0_3).bind fun t10 => if t8.2 = true then if t10.2 = true then spec_KeeperOk.l0 k l0_0 l0_1 l0_2 a0_3 l0_4 t8 t10 0 else some false else some false else some false))) else some false) else some false
theorem spec_KeeperOk.ok {k : Nat} {l0_0 : List S130} {l0_1 : List Int} {l0_2 : List S123} {a0_3 : Int} {l0_4 : List Int} {r : Bool} (H : spec_KeeperOk.f k l0_0 l0_1 l0_2 a0_3 l0_4 = some r) : ACalls Try.prog 12 [] [.agg [.sl .o 6 (l0_0.map e130), .sl .o 1 (l0_1.map (eI .i64)), .sl .o 6 (l0_2.map e123), .lit (.int .i64 a0_3), .sl .o 1 (l0_4.map (eI .i64))]] [] (.lit (.bool r)) := by
 refine acalls (fn := Try.f12) (nt := 139) Try.func12 rfl rfl (Nat.le_of_ble_eq_true rfl) fun E hE => ?_
 rw [spec_KeeperOk.f] at H
 refine aw_grp1 ?_
 refine wk_start ?_
 refine kb g0 (bxA 0) ?_
 refine kv g0 (asg) ?_
 refine wk_end ?_
 refine ac_next ?_
 refine aw_grp1 ?_
 refine aw_grp1 ?_
 refine wk_start ?_
 refine kv g0 (faB 1 1) ?_
 refine kv g0 (ldB) ?_
 refine kv g0 (lnS lenE) ?_
 refine kv g0 (neq) ?_
 refine kv g0 (mv) ?_
 by_cases c1 : (l0_1.length : Int) = 3
 ·rw [if_pos c1] at H
  refine kv (g1 (eM c1)) (faB 4 4) ?_
  refine kv (g1 (eM c1)) (ldB) ?_
  refine kv (g1 (eM c1)) (lnS lenE) ?_
  refine kv (g1 (eM c1)) (neq) ?_
  refine kv g0 (pkF (eM c1)) ?_
  refine kv g0 (mv) ?_
  by_cases c2 : (l0_4.length : Int) = 3
  ·rw [if_pos c2] at H
   refine kv (g1 (eM c2)) (faB 0 0) ?_
   refine kv (g1 (eM c2)) (ldB) ?_
   refine kv (g1 (eM c2)) (lnS lenE) ?_
   refine kv (g1 (eM c2)) (gtr) ?_
   refine kv g0 (pkF (eM c2)) ?_
   refine kv g0 (mv) ?_
   by_cases c3 : (l0_0.length : Int) > 200
   ·rw [if_pos c3] at H
    refine kx (hF (decide_eq_true c3)) ?_
    refine kx (hF (decide_eq_true c3)) ?_
    refine kx (hF (decide_eq_true c3)) ?_
    refine kx (hF (decide_eq_true c3)) ?_
    refine kx (hF (decide_eq_true c3)) ?_
    refine kx (hF (decide_eq_true c3)) ?_
    refine kx (hF (decide_eq_true c3)) ?_
    refine kv g0 (pkT (decide_eq_true c3)) ?_
    refine kv g0 (mv) ?_
    refine kx (hF rfl) ?_
    refine kx (hF rfl) ?_
    refine kx (hF rfl) ?_
    refine kx (hF rfl) ?_
    refine kv g0 (pkT rfl) ?_
    refine wk_end ?_
    refine ac_next ?_
    refine aw_ifT ?_ rfl
    refine aw_grp1 ?_
    refine wk_start ?_
    refine kv g0 (asg) ?_
    refine wk_end ?_
    refine ac_next ?_
    refine aw_ret ?_
    refine ac_thenR ?_
    obtain rfl := Option.some.inj H
    exact acr hE [.tmp 2] (.tmp .nil) (.one _) [] 9999
   rw [if_neg c3] at H
   refine kv (g1 (decide_eq_false c3)) (faB 3 3) ?_
   refine kv (g1 (decide_eq_false c3)) (ldB) ?_
   refine kv (g1 (decide_eq_false c3)) (faB 0 0) ?_
   refine kv (g1 (decide_eq_false c3)) (ldB) ?_
   refine kv (g1 (decide_eq_false c3)) (lnS lenE) ?_
   obtain ⟨t4, A5, H⟩ := of_bind H
   refine kcS0 32 (.lit (.bool t4)) [] (g1 (decide_eq_false c3)) (cal (spec_l01In.ok A5) [] 9999 .n (hf := Try.func81)) rfl rfl ?_
   refine kv (g1 (decide_eq_false c3)) (not_) ?_
   refine kv g0 (pkF (decide_eq_false c3)) ?_
   refine kv g0 (mv) ?_
   by_cases c6 : t4 = true
   ·rw [if_pos c6] at H
    refine kv (g1 (nF c6)) (faB 2 2) ?_
    refine kv (g1 (nF c6)) (ldB) ?_
    refine kv (g1 (nF c6)) (lnS lenE) ?_
    refine kv (g1 (nF c6)) (gtr) ?_
    refine kv g0 (pkF (nF c6)) ?_
    refine wk_end ?_
    refine ac_next ?_
    by_cases c7 : (l0_2.length : Int) > 3
    ·rw [if_pos c7] at H
     refine aw_ifT ?_ (decide_eq_true c7)
     refine aw_grp1 ?_
     refine wk_start ?_
     refine kv g0 (asg) ?_
     refine wk_end ?_
     refine ac_next ?_
     refine aw_ret ?_
     refine ac_thenR ?_
     obtain rfl := Option.some.inj H
     exact acr hE [.tmp 2] (.tmp .nil) (.one _) [] 9999
    rw [if_neg c7] at H
    refine aw_ifF ?_ (decide_eq_false c7)
    refine aw_skip ?_
    refine ac_next ?_
    refine aw_grp1 ?_
    refine wk_start ?_
    refine kv g0 (faB 0 0) ?_
    refine kv g0 (ldB) ?_
    refine kv g0 (faB 0 0) ?_
    refine kv g0 (ldB) ?_
    refine kv g0 (lnS lenE) ?_
    obtain ⟨t8, A9, H⟩ := of_bind H
    refine kcS1 47 (.tup [.row 1, .lit (.bool t8.2)]) [(1, .row 3 1 (t8.1.map (eI .i64)))] g0 (cal (spec_l20Counts.ok A9) [1] 9999 .n (hf := Try.func82)) rfl rfl ?_
    refine kv g0 (mv) ?_
    refine kv g0 (ext) ?_
    refine kv g0 (ext) ?_
    refine kv g0 (asg) ?_
    refine kv g0 (asg) ?_
    refine wk_end ?_
    refine ac_next ?_
    refine aw_grp1 ?_
    refine wk_start ?_
    refine kv g0 (faB 0 0) ?_
    refine kv g0 (ldB) ?_
    refine kv g0 (faB 3 3) ?_
    refine kv g0 (ldB) ?_
    obtain ⟨t10, A11, H⟩ := of_bind H
    refine kcS1 55 (.tup [.row 2, .lit (.bool t10.2)]) [(2, .row 3 1 (t10.1.map (eI .i64)))] g0 (cal (spec_l20Counts.ok A11) [2] 9999 .n (hf := Try.func82)) rfl rfl ?_
    refine kv g0 (mv) ?_
    refine kv g0 (ext) ?_
    refine kv g0 (ext) ?_
    refine kv g0 (asg) ?_
    refine kv g0 (asg) ?_
    refine wk_end ?_
    refine ac_next ?_
    refine aw_grp1 ?_
    refine aw_grp1 ?_
    refine wk_start ?_
    refine kv g0 (mv) ?_
    refine kv g0 (not_) ?_
    refine kv g0 (mv) ?_
    by_cases c12 : t8.2 = true
    ·rw [if_pos c12] at H
     refine kv (g1 (nF c12)) (mv) ?_
     refine kv (g1 (nF c12)) (not_) ?_
     refine kv g0 (pkF (nF c12)) ?_
     refine wk_end ?_
     refine ac_next ?_
     by_cases c13 : t10.2 = true
     ·rw [if_pos c13] at H
      refine aw_ifF ?_ (nF c13)
      refine aw_skip ?_
      refine ac_next ?_
      refine aw_grp1 ?_
      refine aw_grp1 ?_
      refine wk_start ?_
      refine kv g0 (asg) ?_
      refine wk_end ?_
      refine ac_next ?_
      refine aw_block ?_
      refine aw_loop1 (fun (k_ : Nat) (p21 : Int) => spec_KeeperOk.l0 k_ l0_0 l0_1 l0_2 a0_3 l0_4 t8 t10 p21 = some r) (fun (p21 : Int) => ⟨[(1, .box 0 0), (3, .row 1), (5, .row 2), (7, .lit (.int .i64 p21))], [(0, .box 32 [.sl .o 6 (l0_0.map e130), .sl .o 1 (l0_1.map (eI .i64)), .sl .o 6 (l0_2.map e123), .lit (.int .i64 a0_3), .sl .o 1 (l0_4.map (eI .i64))]), (1, .row 3 1 (t8.1.map (eI .i64))), (2, .row 3 1 (t10.1.map (eI .i64)))]⟩) k 0 H (fun K_ h_ => acw hE [(0, 0), (1, 1), (2, 2)] 9999 h_) (fun _ => by intro h_; rw [spec_KeeperOk.l0.eq_1] at h_; cases h_) ?_
      intro k22 p21 H K31 hK32
      rw [spec_KeeperOk.l0.eq_2] at H
      refine aw_grp1 ?_
      refine aw_grp1 ?_
      refine wk_start ?_
      refine kv g0 (mv) ?_
      refine kv g0 (lss) ?_
      refine wk_end ?_
      refine ac_next ?_
      by_cases c23 : p21 < 3
      ·rw [if_pos c23] at H
       refine aw_ifT ?_ (decide_eq_true c23)
       refine aw_skip ?_
       refine ac_next ?_
       refine aw_grp1 ?_
       refine aw_block ?_
       refine aw_grp1 ?_
       refine wk_start ?_
       refine kv g0 (faB 1 1) ?_
       refine kv g0 (ldB) ?_
       refine kv g0 (mv) ?_
       obtain ⟨c24, H⟩ := of_if H
       obtain ⟨c25, H⟩ := of_if H
       refine kv g0 (ixS 3 (eI .i64 (rd l0_1 p21)) c24 (getE (z := (0 : Int)) c24 c25)) ?_
       refine kv g0 (ldR (.lit (.int .i64 (rd l0_1 p21)))) ?_
       refine kv g0 (mv) ?_
       refine kv g0 (mv) ?_
       obtain ⟨c26, H⟩ := of_if H
       refine kv g0 (ixR 3 c24 (ltE c26)) ?_
       refine kv g0 (ldE (eI .i64 (rd t8.1 p21)) (.lit (.int .i64 (rd t8.1 p21))) (getE (z := (0 : Int)) c24 c26)) ?_
       refine kv g0 (add6) ?_
       refine kv g0 (neq) ?_
       refine kv g0 (mv) ?_
       by_cases c27 : (rd l0_1 p21) = (wrap64 ((rd t8.1 p21) + 1))
       ·rw [if_pos c27] at H
        refine kv (g1 (eM c27)) (faB 4 4) ?_
        refine kv (g1 (eM c27)) (ldB) ?_
        refine kv (g1 (eM c27)) (mv) ?_
        obtain ⟨c28, H⟩ := of_if H
        refine kv (g1 (eM c27)) (ixS 3 (eI .i64 (rd l0_4 p21)) c24 (getE (z := (0 : Int)) c24 c28)) ?_
        refine kv (g1 (eM c27)) (ldR (.lit (.int .i64 (rd l0_4 p21)))) ?_
        refine kv (g1 (eM c27)) (mv) ?_
        refine kv (g1 (eM c27)) (mv) ?_
        obtain ⟨c29, H⟩ := of_if H
        refine kv (g1 (eM c27)) (ixR 3 c24 (ltE c29)) ?_
        refine kv (g1 (eM c27)) (ldE (eI .i64 (rd t10.1 p21)) (.lit (.int .i64 (rd t10.1 p21))) (getE (z := (0 : Int)) c24 c29)) ?_
        refine kv (g1 (eM c27)) (add6) ?_
        refine kv (g1 (eM c27)) (neq) ?_
        refine kv g0 (pkF (eM c27)) ?_
        refine wk_end_draw hM (by kernel_rfl) ?_
        refine ac_next ?_
        by_cases c30 : (rd l0_4 p21) = (wrap64 ((rd t10.1 p21) + 1))
        ·rw [if_pos c30] at H
         refine aw_ifF ?_ (eM c30)
         refine aw_skip ?_
         refine ac_blkN ?_
         refine ac_next ?_
         refine wk_start ?_
         refine kv g0 (mv) ?_
         refine kv g0 (add6) ?_
         refine kv g0 (asg) ?_
         refine wk_end ?_
         refine ac_k ?_
         exact acw hE [(0, 0), (1, 1), (2, 2)] 9999 (hK32 k22 (wrap64 (p21 + 1)) (Nat.le_refl _) H)
        rw [if_neg c30] at H
        refine aw_ifT ?_ (eN c30)
        refine aw_grp1 ?_
        refine wk_start ?_
        refine kv g0 (asg) ?_
        refine wk_end ?_
        refine ac_next ?_
        refine aw_ret ?_
        refine ac_blkR ?_
        refine ac_thenR ?_
        refine ac_thenR ?_
        refine ac_blkR ?_
        refine ac_thenR ?_
        obtain rfl := Option.some.inj H
        exact acr hE [.tmp 2] (.tmp .nil) (.one _) [] 9999
       rw [if_neg c27] at H
       refine kx (hF (eN c27)) ?_
       refine kx (hF (eN c27)) ?_
       refine kx (hF (eN c27)) ?_
       refine kx (hF (eN c27)) ?_
       refine kx (hF (eN c27)) ?_
       refine kx (hF (eN c27)) ?_
       refine kx (hF (eN c27)) ?_
       refine kx (hF (eN c27)) ?_
       refine kx (hF (eN c27)) ?_
       refine kx (hF (eN c27)) ?_
       refine kx (hF (eN c27)) ?_
       refine kv g0 (pkT (eN c27)) ?_
       refine wk_end_draw hM (by kernel_rfl) ?_
       refine ac_next ?_
       refine aw_ifT ?_ rfl
       refine aw_grp1 ?_
       refine wk_start ?_
       refine kv g0 (asg) ?_
       refine wk_end ?_
       refine ac_next ?_
       refine aw_ret ?_
       refine ac_blkR ?_
       refine ac_thenR ?_
       refine ac_thenR ?_
       refine ac_blkR ?_
       refine ac_thenR ?_
       obtain rfl := Option.some.inj H
       exact acr hE [.tmp 2] (.tmp .nil) (.one _) [] 9999
      rw [if_neg c23] at H
      refine aw_ifF ?_ (decide_eq_false c23)
      refine aw_exit ?_
      refine ac_then ?_
      refine ac_then ?_
      refine ac_hit rfl ?_
      refine ac_next ?_
      refine aw_grp1 ?_
      refine aw_grp1 ?_
      refine wk_start ?_
      refine kv g0 (asg) ?_
      refine wk_end ?_
      refine ac_next ?_
      refine aw_block ?_
      refine aw_loop1 (fun (k_ : Nat) (p50 : Int) => spec_KeeperOk.l1 k_ l0_0 l0_1 l0_2 a0_3 l0_4 p50 = some r) (fun (p50 : Int) => ⟨[(1, .box 0 0), (8, .lit (.int .i64 p50))], [(0, .box 32 [.sl .o 6 (l0_0.map e130), .sl .o 1 (l0_1.map (eI .i64)), .sl .o 6 (l0_2.map e123), .lit (.int .i64 a0_3), .sl .o 1 (l0_4.map (eI .i64))])]⟩) k22 0 H (fun K_ h_ => acw hE [(0, 0)] 9999 h_) (fun _ => by intro h_; rw [spec_KeeperOk.l1.eq_1] at h_; cases h_) ?_
      intro k51 p50 H K69 hK70
      rw [spec_KeeperOk.l1.eq_2] at H
      refine aw_grp1 ?_
      refine aw_grp1 ?_
      refine wk_start ?_
      refine kv g0 (mv) ?_
      refine kv g0 (faB 2 2) ?_
      refine kv g0 (ldB) ?_
      refine kv g0 (lnS lenE) ?_
      refine kv g0 (lss) ?_
      refine wk_end ?_
      refine ac_next ?_
      by_cases c52 : p50 < (l0_2.length : Int)
      ·rw [if_pos c52] at H
       refine aw_ifT ?_ (decide_eq_true c52)
       refine aw_skip ?_
       refine ac_next ?_
       refine aw_grp1 ?_
       refine aw_block ?_
       refine aw_grp1 ?_
       refine wk_start ?_
       refine kv g0 (faB 2 2) ?_
       refine kv g0 (ldB) ?_
       refine kv g0 (mv) ?_
       obtain ⟨c53, H⟩ := of_if H
       refine kv g0 (ixS 123 (e123 (rd_T123 l0_2 p50)) c53 (getE (z := z123) c53 c52)) ?_
       refine kv g0 (ldRA 6 [.lit (.int .i64 ((rd_T123 l0_2 p50).f0)), .lit (.int .i64 ((rd_T123 l0_2 p50).f1)), .lit (.int .i64 ((rd_T123 l0_2 p50).f2.f0)), .lit (.int .i64 ((rd_T123 l0_2 p50).f2.f1)), .lit (.int .i64 ((rd_T123 l0_2 p50).f2.f2)), .lit (.int .i64 ((rd_T123 l0_2 p50).f2.f3))]) ?_
       refine kb g0 (alc 3 [.int .i64 0, .int .i64 0, .int .i64 0, .int .i64 0, .int .i64 0, .int .i64 0] [.lit (.int .i64 0), .lit (.int .i64 0), .lit (.int .i64 0), .lit (.int .i64 0), .lit (.int .i64 0), .lit (.int .i64 0)]) ?_
       refine ks g0 (stB 6 [.lit (.int .i64 ((rd_T123 l0_2 p50).f0)), .lit (.int .i64 ((rd_T123 l0_2 p50).f1)), .lit (.int .i64 ((rd_T123 l0_2 p50).f2.f0)), .lit (.int .i64 ((rd_T123 l0_2 p50).f2.f1)), .lit (.int .i64 ((rd_T123 l0_2 p50).f2.f2)), .lit (.int .i64 ((rd_T123 l0_2 p50).f2.f3))]) ?_
       refine wk_end ?_
       refine ac_next ?_
       refine aw_grp1 ?_
       refine wk_start ?_
       refine kv g0 (faB 0 0) ?_
       refine kv g0 (ldB) ?_
       obtain ⟨t54, A55, H⟩ := of_bind H
       refine kcS0 106 (.lit (.bool t54)) [] g0 (cal (spec_l01In.ok A55) [] 9999 .n (hf := Try.func81)) rfl rfl ?_
       refine kv g0 (not_) ?_
       refine kv g0 (mv) ?_
       by_cases c56 : t54 = true
       ·rw [if_pos c56] at H
        refine kv (g1 (nF c56)) (faB 1 1) ?_
        refine kv (g1 (nF c56)) (ldB) ?_
        refine kv (g1 (nF c56)) (faB 1 1) ?_
        refine kv (g1 (nF c56)) (ldB) ?_
        refine kv (g1 (nF c56)) (faB 0 0) ?_
        refine kv (g1 (nF c56)) (ldB) ?_
        obtain ⟨c57, H⟩ := of_if H
        obtain ⟨c58, H⟩ := of_if H
        refine kv (g1 (nF c56)) (ixS 3 (eI .i64 (rd l0_1 ((rd_T123 l0_2 p50).f0))) c57 (getE (z := (0 : Int)) c57 c58)) ?_
        refine kv (g1 (nF c56)) (ldR (.lit (.int .i64 (rd l0_1 ((rd_T123 l0_2 p50).f0))))) ?_
        refine kv (g1 (nF c56)) (add6) ?_
        obtain ⟨t59, A60, H⟩ := of_bind H
        refine kcS0 118 (.lit (.bool t59)) [] (g1 (nF c56)) (cal (spec_l01In.ok A60) [] 9999 .n (hf := Try.func81)) rfl rfl ?_
        refine kv (g1 (nF c56)) (not_) ?_
        refine kv g0 (pkF (nF c56)) ?_
        refine kv g0 (mv) ?_
        by_cases c61 : t59 = true
        ·rw [if_pos c61] at H
         refine kv (g1 (nF c61)) (faB 2 2) ?_
         refine kv (g1 (nF c61)) (ldBA 4 [.lit (.int .i64 ((rd_T123 l0_2 p50).f2.f0)), .lit (.int .i64 ((rd_T123 l0_2 p50).f2.f1)), .lit (.int .i64 ((rd_T123 l0_2 p50).f2.f2)), .lit (.int .i64 ((rd_T123 l0_2 p50).f2.f3))]) ?_
         obtain ⟨t62, A63, H⟩ := of_bind H
         refine kcS0 124 (.lit (.bool t62)) [] (g1 (nF c61)) (cal (spec_ItemOk.ok A63) [] 9999 .n (hf := Try.func83)) rfl rfl ?_
         refine kv (g1 (nF c61)) (not_) ?_
         refine kv g0 (pkF (nF c61)) ?_
         refine kv g0 (mv) ?_
         by_cases c64 : t62 = true
         ·rw [if_pos c64] at H
          refine kv (g1 (nF c64)) (faB 2 2) ?_
          refine kv (g1 (nF c64)) (ldB) ?_
          refine kv (g1 (nF c64)) (mv) ?_
          obtain ⟨c65, H⟩ := of_if H
          refine kv (g1 (nF c64)) (slH 123 c53 c65) ?_
          refine kv (g1 (nF c64)) (faB 0 0) ?_
          refine kv (g1 (nF c64)) (ldB) ?_
          refine kv (g1 (nF c64)) (faB 1 1) ?_
          refine kv (g1 (nF c64)) (ldB) ?_
          obtain ⟨t66, A67, H⟩ := of_bind H
          refine kcS0 136 (.lit (.int .i64 t66)) [] (g1 (nF c64)) (cal (spec_l20Early.ok A67) [] 9999 .n (hf := Try.func84)) rfl rfl ?_
          refine kv (g1 (nF c64)) (geq) ?_
          refine kv g0 (pkF (nF c64)) ?_
          refine wk_end_draw hM (by kernel_rfl) ?_
          refine ac_next ?_
          by_cases c68 : t66 ≥ 0
          ·rw [if_pos c68] at H
           refine aw_ifT ?_ (decide_eq_true c68)
           refine aw_grp1 ?_
           refine wk_start ?_
           refine kv g0 (asg) ?_
           refine wk_end ?_
           refine ac_next ?_
           refine aw_ret ?_
           refine ac_blkR ?_
           refine ac_thenR ?_
           refine ac_thenR ?_
           refine ac_blkR ?_
           refine ac_thenR ?_
           obtain rfl := Option.some.inj H
           exact acr hE [.tmp 2] (.tmp .nil) (.one _) [] 9999
          rw [if_neg c68] at H
          refine aw_ifF ?_ (decide_eq_false c68)
          refine aw_skip ?_
          refine ac_blkN ?_
          refine ac_next ?_
          refine wk_start ?_
          refine kv g0 (mv) ?_
          refine kv g0 (add6) ?_
          refine kv g0 (asg) ?_
          refine wk_end ?_
          refine ac_k ?_
          exact acw hE [(0, 0)] 9999 (hK70 k51 (wrap64 (p50 + 1)) (Nat.le_refl _) H)
         rw [if_neg c64] at H
         refine kx (hF (nT (bF c64))) ?_
         refine kx (hF (nT (bF c64))) ?_
         refine kx (hF (nT (bF c64))) ?_
         refine kx (hF (nT (bF c64))) ?_
         refine kx (hF (nT (bF c64))) ?_
         refine kx (hF (nT (bF c64))) ?_
         refine kx (hF (nT (bF c64))) ?_
         refine kx (hF (nT (bF c64))) ?_
         refine kx (hF (nT (bF c64))) ?_
         refine kx (hF (nT (bF c64))) ?_
         refine kv g0 (pkT (nT (bF c64))) ?_
         refine wk_end_draw hM (by kernel_rfl) ?_
         refine ac_next ?_
         refine aw_ifT ?_ rfl
         refine aw_grp1 ?_
         refine wk_start ?_
         refine kv g0 (asg) ?_
         refine wk_end ?_
         refine ac_next ?_
         refine aw_ret ?_
         refine ac_blkR ?_
         refine ac_thenR ?_
         refine ac_thenR ?_
         refine ac_blkR ?_
         refine ac_thenR ?_
         obtain rfl := Option.some.inj H
         exact acr hE [.tmp 2] (.tmp .nil) (.one _) [] 9999
        rw [if_neg c61] at H
        refine kx (hF (nT (bF c61))) ?_
        refine kx (hF (nT (bF c61))) ?_
        refine kx (hF (nT (bF c61))) ?_
        refine kx (hF (nT (bF c61))) ?_
        refine kv g0 (pkT (nT (bF c61))) ?_
        refine kv g0 (mv) ?_
        refine kx (hF rfl) ?_
        refine kx (hF rfl) ?_
        refine kx (hF rfl) ?_
        refine kx (hF rfl) ?_
        refine kx (hF rfl) ?_
        refine kx (hF rfl) ?_
        refine kx (hF rfl) ?_
        refine kx (hF rfl) ?_
        refine kx (hF rfl) ?_
        refine kx (hF rfl) ?_
        refine kv g0 (pkT rfl) ?_
        refine wk_end_draw hM (by kernel_rfl) ?_
        refine ac_next ?_
        refine aw_ifT ?_ rfl
        refine aw_grp1 ?_
        refine wk_start ?_
        refine kv g0 (asg) ?_
        refine wk_end ?_
        refine ac_next ?_
        refine aw_ret ?_
        refine ac_blkR ?_
        refine ac_thenR ?_
        refine ac_thenR ?_
        refine ac_blkR ?_
        refine ac_thenR ?_
        obtain rfl := Option.some.inj H
        exact acr hE [.tmp 2] (.tmp .nil) (.one _) [] 9999
       rw [if_neg c56] at H
       refine kx (hF (nT (bF c56))) ?_
       refine kx (hF (nT (bF c56))) ?_
       refine kx (hF (nT (bF c56))) ?_
       refine kx (hF (nT (bF c56))) ?_
       refine kx (hF (nT (bF c56))) ?_
       refine kx (hF (nT (bF c56))) ?_
       refine kx (hF (nT (bF c56))) ?_
       refine kx (hF (nT (bF c56))) ?_
       refine kx (hF (nT (bF c56))) ?_
       refine kx (hF (nT (bF c56))) ?_
       refine kx (hF (nT (bF c56))) ?_
       refine kv g0 (pkT (nT (bF c56))) ?_
       refine kv g0 (mv) ?_
       refine kx (hF rfl) ?_
       refine kx (hF rfl) ?_
       refine kx (hF rfl) ?_
       refine kx (hF rfl) ?_
       refine kv g0 (pkT rfl) ?_
       refine kv g0 (mv) ?_
       refine kx (hF rfl) ?_
       refine kx (hF rfl) ?_
       refine kx (hF rfl) ?_
       refine kx (hF rfl) ?_
       refine kx (hF rfl) ?_
       refine kx (hF rfl) ?_
       refine kx (hF rfl) ?_
       refine kx (hF rfl) ?_
       refine kx (hF rfl) ?_
       refine kx (hF rfl) ?_
       refine kv g0 (pkT rfl) ?_
       refine wk_end_draw hM (by kernel_rfl) ?_
       refine ac_next ?_
       refine aw_ifT ?_ rfl
       refine aw_grp1 ?_
       refine wk_start ?_
       refine kv g0 (asg) ?_
       refine wk_end ?_
       refine ac_next ?_
       refine aw_ret ?_
       refine ac_blkR ?_
       refine ac_thenR ?_
       refine ac_thenR ?_
       refine ac_blkR ?_
       refine ac_thenR ?_
       obtain rfl := Option.some.inj H
       exact acr hE [.tmp 2] (.tmp .nil) (.one _) [] 9999
      rw [if_neg c52] at H
      refine aw_ifF ?_ (decide_eq_false c52)
      refine aw_exit ?_
      refine ac_then ?_
      refine ac_then ?_
      refine ac_hit rfl ?_
      refine ac_next ?_
      refine aw_grp1 ?_
      refine wk_start ?_
      refine kv g0 (asg) ?_
      refine wk_end ?_
      refine ac_next ?_
      refine aw_ret ?_
      obtain rfl := Option.some.inj H
      exact acr hE [.tmp 2] (.tmp .nil) (.one _) [] 9999
     rw [if_neg c13] at H
     refine aw_ifT ?_ (nT (bF c13))
     refine aw_grp1 ?_
     refine wk_start ?_
     refine kv g0 (asg) ?_
     refine wk_end ?_
     refine ac_next ?_
     refine aw_ret ?_
     refine ac_thenR ?_
     obtain rfl := Option.some.inj H
     exact acr hE [.tmp 2] (.tmp .nil) (.one _) [] 9999
    rw [if_neg c12] at H
    refine kx (hF (nT (bF c12))) ?_
    refine kx (hF (nT (bF c12))) ?_
    refine kv g0 (pkT (nT (bF c12))) ?_
    refine wk_end ?_
    refine ac_next ?_
    refine aw_ifT ?_ rfl
    refine aw_grp1 ?_
    refine wk_start ?_
    refine kv g0 (asg) ?_
    refine wk_end ?_
    refine ac_next ?_
    refine aw_ret ?_
    refine ac_thenR ?_
    obtain rfl := Option.some.inj H
    exact acr hE [.tmp 2] (.tmp .nil) (.one _) [] 9999
   rw [if_neg c6] at H
   refine kx (hF (nT (bF c6))) ?_
   refine kx (hF (nT (bF c6))) ?_
   refine kx (hF (nT (bF c6))) ?_
   refine kx (hF (nT (bF c6))) ?_
   refine kv g0 (pkT (nT (bF c6))) ?_
   refine wk_end ?_
   refine ac_next ?_
   refine aw_ifT ?_ rfl
   refine aw_grp1 ?_
   refine wk_start ?_
   refine kv g0 (asg) ?_
   refine wk_end ?_
   refine ac_next ?_
   refine aw_ret ?_
   refine ac_thenR ?_
   obtain rfl := Option.some.inj H
   exact acr hE [.tmp 2] (.tmp .nil) (.one _) [] 9999
  rw [if_neg c2] at H
  refine kx (hF (eN c2)) ?_
  refine kx (hF (eN c2)) ?_
  refine kx (hF (eN c2)) ?_
  refine kx (hF (eN c2)) ?_
  refine kv g0 (pkT (eN c2)) ?_
  refine kv g0 (mv) ?_
  refine kx (hF rfl) ?_
  refine kx (hF rfl) ?_
  refine kx (hF rfl) ?_
  refine kx (hF rfl) ?_
  refine kx (hF rfl) ?_
  refine kx (hF rfl) ?_
  refine kx (hF rfl) ?_
  refine kv g0 (pkT rfl) ?_
  refine kv g0 (mv) ?_
  refine kx (hF rfl) ?_
  refine kx (hF rfl) ?_
  refine kx (hF rfl) ?_
  refine kx (hF rfl) ?_
  refine kv g0 (pkT rfl) ?_
  refine wk_end ?_
  refine ac_next ?_
  refine aw_ifT ?_ rfl
  refine aw_grp1 ?_
  refine wk_start ?_
  refine kv g0 (asg) ?_
  refine wk_end ?_
  refine ac_next ?_
  refine aw_ret ?_
  refine ac_thenR ?_
  obtain rfl := Option.some.inj H
  exact acr hE [.tmp 2] (.tmp .nil) (.one _) [] 9999
 rw [if_neg c1] at H
 refine kx (hF (eN c1)) ?_
 refine kx (hF (eN c1)) ?_
 refine kx (hF (eN c1)) ?_
 refine kx (hF (eN c1)) ?_
 refine kv g0 (pkT (eN c1)) ?_
 refine kv g0 (mv) ?_
 refine kx (hF rfl) ?_
 refine kx (hF rfl) ?_
 refine kx (hF rfl) ?_
 refine kx (hF rfl) ?_
 refine kv g0 (pkT rfl) ?_
 refine kv g0 (mv) ?_
 refine kx (hF rfl) ?_
 refine kx (hF rfl) ?_
 refine kx (hF rfl) ?_
 refine kx (hF rfl) ?_
 refine kx (hF rfl) ?_
 refine kx (hF rfl) ?_
 refine kx (hF rfl) ?_
 refine kv g0 (pkT rfl) ?_
 refine kv g0 (mv) ?_
 refine kx (hF rfl) ?_
 refine kx (hF rfl) ?_
 refine kx (hF rfl) ?_
 refine kx (hF rfl) ?_
 refine kv g0 (pkT rfl) ?_
 refine wk_end ?_
 refine ac_next ?_
 refine aw_ifT ?_ rfl
 refine aw_grp1 ?_
 refine wk_start ?_
 refine kv g0 (asg) ?_
 refine wk_end ?_
 refine ac_next ?_
 refine aw_ret ?_
 refine ac_thenR ?_
 obtain rfl := Option.some.inj H
 exact acr hE [.tmp 2] (.tmp .nil) (.one _) [] 9999
/-! impl_within -/
def impl_within.f (a0 : Int) (a1 : Int) (a2 : Int) : Option (Bool) := if a0 ≥ a1 then some (decide (a0 ≤ a2)) else some false
theorem impl_within.ok {a0 : Int} {a1 : Int} {a2 : Int} {r : Bool} (H : impl_within.f a0 a1 a2 = some r) : ACalls Try.prog 88 [] [.lit (.int .i64 a0), .lit (.int .i64 a1), .lit (.int .i64 a2)] [] (.lit (.bool r)) := by
 refine acalls (fn := Try.f88) (nt := 15) Try.func88 rfl rfl (Nat.le_of_ble_eq_true rfl) fun E hE => ?_
 rw [impl_within.f] at H
 refine aw_grp1 ?_
 refine wk_start ?_
 refine kv g0 (asg) ?_
 refine wk_end ?_
 refine ac_next ?_
 refine aw_grp1 ?_
 refine wk_start ?_
 refine kv g0 (mv) ?_
 refine kv g0 (mv) ?_
 refine kv g0 (geq) ?_
 refine kv g0 (mv) ?_
 by_cases c1 : a0 ≥ a1
 ·rw [if_pos c1] at H
  refine kv (g1 (decide_eq_true c1)) (mv) ?_
  refine kv (g1 (decide_eq_true c1)) (mv) ?_
  refine kv (g1 (decide_eq_true c1)) (leq) ?_
  refine kv g0 (pkT (decide_eq_true c1)) ?_
  refine kv g0 (asg) ?_
  refine wk_end ?_
  refine ac_next ?_
  refine aw_ret ?_
  obtain rfl := Option.some.inj H
  exact acr hE [.tmp 6] (.tmp .nil) (.one _) [] 9999
 rw [if_neg c1] at H
 refine kx (hT (decide_eq_false c1)) ?_
 refine kx (hT (decide_eq_false c1)) ?_
 refine kx (hT (decide_eq_false c1)) ?_
 refine kv g0 (pkF (decide_eq_false c1)) ?_
 refine kv g0 (asg) ?_
 refine wk_end ?_
 refine ac_next ?_
 refine aw_ret ?_
 obtain rfl := Option.some.inj H
 exact acr hE [.tmp 6] (.tmp .nil) (.one _) [] 9999
/-! impl_isPid -/
def impl_isPid.f (a0 : Int) : Option (Bool) := (impl_within.f a0 0 2).bind fun t1 => some t1
theorem impl_isPid.ok {a0 : Int} {r : Bool} (H : impl_isPid.f a0 = some r) : ACalls Try.prog 89 [] [.lit (.int .i64 a0)] [] (.lit (.bool r)) := by
 refine acalls (fn := Try.f89) (nt := 5) Try.func89 rfl rfl (Nat.le_of_ble_eq_true rfl) fun E hE => ?_
 rw [impl_isPid.f] at H
 refine aw_grp1 ?_
 refine wk_start ?_
 refine kv g0 (asg) ?_
 refine wk_end ?_
 refine ac_next ?_
 refine aw_grp1 ?_
 refine wk_start ?_
 refine kv g0 (mv) ?_
 obtain ⟨t1, A2, H⟩ := of_bind H
 refine kcS0 4 (.lit (.bool t1)) [] g0 (cal (impl_within.ok A2) [] 9999 .n (hf := Try.func88)) rfl rfl ?_
 refine kv g0 (asg) ?_
 refine wk_end ?_
 refine ac_next ?_
 refine aw_ret ?_
 obtain rfl := Option.some.inj H
 exact acr hE [.tmp 2] (.tmp .nil) (.one _) [] 9999
/-! impl_HalfOk -/
def impl_HalfOk.f (a0 : Int) : Option (Bool) := (impl_within.f a0 0 4294967295).bind fun t1 => some t1
theorem impl_HalfOk.ok {a0 : Int} {r : Bool} (H : impl_HalfOk.f a0 = some r) : ACalls Try.prog 161 [] [.lit (.int .i64 a0)] [] (.lit (.bool r)) := by
 refine acalls (fn := Try.f161) (nt := 5) Try.func161 rfl rfl (Nat.le_of_ble_eq_true rfl) fun E hE => ?_
 rw [impl_HalfOk.f] at H
 refine aw_grp1 ?_
 refine wk_start ?_
 refine kv g0 (asg) ?_
 refine wk_end ?_
 refine ac_next ?_
 refine aw_grp1 ?_
 refine wk_start ?_
 refine kv g0 (mv) ?_
 obtain ⟨t1, A2, H⟩ := of_bind H
 refine kcS0 4 (.lit (.bool t1)) [] g0 (cal (impl_within.ok A2) [] 9999 .n (hf := Try.func88)) rfl rfl ?_
 refine kv g0 (asg) ?_
 refine wk_end ?_
 refine ac_next ?_
 refine aw_ret ?_
 obtain rfl := Option.some.inj H
 exact acr hE [.tmp 2] (.tmp .nil) (.one _) [] 9999
/-! impl_ItemOk -/
def impl_ItemOk.f (a0_0 : Int) (a0_1 : Int) (a0_2 : Int) (a0_3 : Int) : Option (Bool) := if a0_0 = 1 then ((impl_HalfOk.f a0_1).bind fun t2 => (if t2 = true then ((impl_HalfOk.f a0_2).bind fun t5 => (if t5 = true then some (a0_3 == 0) else some false)) else some false)) else if a0_0 = 2 then ((impl_within.f a0_3 1 1000000000).bind fun t9 => (if t9 = true then (if a0_1 = 0 then some (a0_2 == 0) else some false) else some false)) else some false
theorem impl_ItemOk.ok {a0_0 : Int} {a0_1 : Int} {a0_2 : Int} {a0_3 : Int} {r : Bool} (H : impl_ItemOk.f a0_0 a0_1 a0_2 a0_3 = some r) : ACalls Try.prog 90 [] [.agg [.lit (.int .i64 a0_0), .lit (.int .i64 a0_1), .lit (.int .i64 a0_2), .lit (.int .i64 a0_3)]] [] (.lit (.bool r)) := by
 refine acalls (fn := Try.f90) (nt := 35) Try.func90 rfl rfl (Nat.le_of_ble_eq_true rfl) fun E hE => ?_
 rw [impl_ItemOk.f] at H
 refine aw_grp1 ?_
 refine wk_start ?_
 refine kb g0 (bxA 0) ?_
 refine kv g0 (asg) ?_
 refine wk_end ?_
 refine ac_next ?_
 refine aw_grp1 ?_
 refine aw_grp1 ?_
 refine wk_start ?_
 refine kv g0 (faB 0 0) ?_
 refine kv g0 (ldB) ?_
 refine wk_end ?_
 refine ac_next ?_
 refine aw_block ?_
 refine aw_grp1 ?_
 refine wk_start ?_
 refine kv g0 (eql) ?_
 refine kv g0 (asg) ?_
 refine wk_end ?_
 refine ac_next ?_
 by_cases c1 : a0_0 = 1
 ·rw [if_pos c1] at H
  refine aw_ifT ?_ (eT c1)
  refine aw_grp1 ?_
  refine wk_start ?_
  refine kv g0 (faB 1 1) ?_
  refine kv g0 (ldB) ?_
  obtain ⟨t2, A3, H⟩ := of_bind H
  refine kcS0 9 (.lit (.bool t2)) [] g0 (cal (impl_HalfOk.ok A3) [] 9999 .n (hf := Try.func161)) rfl rfl ?_
  refine kv g0 (mv) ?_
  by_cases c4 : t2 = true
  ·rw [if_pos c4] at H
   refine kv (g1 c4) (faB 2 2) ?_
   refine kv (g1 c4) (ldB) ?_
   obtain ⟨t5, A6, H⟩ := of_bind H
   refine kcS0 13 (.lit (.bool t5)) [] (g1 c4) (cal (impl_HalfOk.ok A6) [] 9999 .n (hf := Try.func161)) rfl rfl ?_
   refine kv g0 (pkT c4) ?_
   refine kv g0 (mv) ?_
   by_cases c7 : t5 = true
   ·rw [if_pos c7] at H
    refine kv (g1 c7) (faB 3 3) ?_
    refine kv (g1 c7) (ldB) ?_
    refine kv (g1 c7) (eql) ?_
    refine kv g0 (pkT c7) ?_
    refine kv g0 (asg) ?_
    refine wk_end ?_
    refine ac_next ?_
    refine aw_ret ?_
    refine ac_blkR ?_
    refine ac_thenR ?_
    obtain rfl := Option.some.inj H
    exact acr hE [.tmp 2] (.tmp .nil) (.one _) [] 9999
   rw [if_neg c7] at H
   refine kx (hT (bF c7)) ?_
   refine kx (hT (bF c7)) ?_
   refine kx (hT (bF c7)) ?_
   refine kv g0 (pkF (bF c7)) ?_
   refine kv g0 (asg) ?_
   refine wk_end ?_
   refine ac_next ?_
   refine aw_ret ?_
   refine ac_blkR ?_
   refine ac_thenR ?_
   obtain rfl := Option.some.inj H
   exact acr hE [.tmp 2] (.tmp .nil) (.one _) [] 9999
  rw [if_neg c4] at H
  refine kx (hT (bF c4)) ?_
  refine kx (hT (bF c4)) ?_
  refine kx (hT (bF c4)) ?_
  refine kv g0 (pkF (bF c4)) ?_
  refine kv g0 (mv) ?_
  refine kx (hT rfl) ?_
  refine kx (hT rfl) ?_
  refine kx (hT rfl) ?_
  refine kv g0 (pkF rfl) ?_
  refine kv g0 (asg) ?_
  refine wk_end ?_
  refine ac_next ?_
  refine aw_ret ?_
  refine ac_blkR ?_
  refine ac_thenR ?_
  obtain rfl := Option.some.inj H
  exact acr hE [.tmp 2] (.tmp .nil) (.one _) [] 9999
 rw [if_neg c1] at H
 refine aw_ifF ?_ (eF c1)
 refine aw_grp1 ?_
 refine wk_start ?_
 refine kv g0 (eql) ?_
 refine kv g0 (asg) ?_
 refine wk_end ?_
 refine ac_next ?_
 by_cases c8 : a0_0 = 2
 ·rw [if_pos c8] at H
  refine aw_ifT ?_ (eT c8)
  refine aw_grp1 ?_
  refine wk_start ?_
  refine kv g0 (faB 3 3) ?_
  refine kv g0 (ldB) ?_
  obtain ⟨t9, A10, H⟩ := of_bind H
  refine kcS0 24 (.lit (.bool t9)) [] g0 (cal (impl_within.ok A10) [] 9999 .n (hf := Try.func88)) rfl rfl ?_
  refine kv g0 (mv) ?_
  by_cases c11 : t9 = true
  ·rw [if_pos c11] at H
   refine kv (g1 c11) (faB 1 1) ?_
   refine kv (g1 c11) (ldB) ?_
   refine kv (g1 c11) (eql) ?_
   refine kv g0 (pkT c11) ?_
   refine kv g0 (mv) ?_
   by_cases c12 : a0_1 = 0
   ·rw [if_pos c12] at H
    refine kv (g1 (eT c12)) (faB 2 2) ?_
    refine kv (g1 (eT c12)) (ldB) ?_
    refine kv (g1 (eT c12)) (eql) ?_
    refine kv g0 (pkT (eT c12)) ?_
    refine kv g0 (asg) ?_
    refine wk_end ?_
    refine ac_next ?_
    refine aw_ret ?_
    refine ac_blkR ?_
    refine ac_thenR ?_
    obtain rfl := Option.some.inj H
    exact acr hE [.tmp 2] (.tmp .nil) (.one _) [] 9999
   rw [if_neg c12] at H
   refine kx (hT (eF c12)) ?_
   refine kx (hT (eF c12)) ?_
   refine kx (hT (eF c12)) ?_
   refine kv g0 (pkF (eF c12)) ?_
   refine kv g0 (asg) ?_
   refine wk_end ?_
   refine ac_next ?_
   refine aw_ret ?_
   refine ac_blkR ?_
   refine ac_thenR ?_
   obtain rfl := Option.some.inj H
   exact acr hE [.tmp 2] (.tmp .nil) (.one _) [] 9999
  rw [if_neg c11] at H
  refine kx (hT (bF c11)) ?_
  refine kx (hT (bF c11)) ?_
  refine kx (hT (bF c11)) ?_
  refine kv g0 (pkF (bF c11)) ?_
  refine kv g0 (mv) ?_
  refine kx (hT rfl) ?_
  refine kx (hT rfl) ?_
  refine kx (hT rfl) ?_
  refine kv g0 (pkF rfl) ?_
  refine kv g0 (asg) ?_
  refine wk_end ?_
  refine ac_next ?_
  refine aw_ret ?_
  refine ac_blkR ?_
  refine ac_thenR ?_
  obtain rfl := Option.some.inj H
  exact acr hE [.tmp 2] (.tmp .nil) (.one _) [] 9999
 rw [if_neg c8] at H
 refine aw_ifF ?_ (eF c8)
 refine aw_skip ?_
 refine ac_blkN ?_
 refine ac_next ?_
 refine aw_grp1 ?_
 refine wk_start ?_
 refine kv g0 (asg) ?_
 refine wk_end ?_
 refine ac_next ?_
 refine aw_ret ?_
 obtain rfl := Option.some.inj H
 exact acr hE [.tmp 2] (.tmp .nil) (.one _) [] 9999
/-! impl_earlyAt -/
def impl_earlyAt.l0 : Nat → (List S123) → Int → Int → Int → Option (Int)
 | 0, _, _, _, _ => none
 | k6 + 1, l0, a1, a2, p5 => if p5 < (l0.length : Int) then if 0 ≤ p5 then if ((rd_T123 l0 p5).f0) = a1 then if ((rd_T123 l0 p5).f1) = a2 then some p5 else impl_earlyAt.l0 k6 l0 a1 a2 (wrap64 (p5 + 1)) else impl_earlyAt.l0 k6 l0 a1 a2 (wrap64 (p5 + 1)) else none else some (-1)
def impl_earlyAt.f (k : Nat) (l0 : List S123) (a1 : Int) (a2 : Int) : Option (Int) := impl_earlyAt.l0 k l0 a1 a2 0
theorem impl_earlyAt.ok {k : Nat} {l0 : List S123} {a1 : Int} {a2 : Int} {r : Int} (H : impl_earlyAt.f k l0 a1 a2 = some r) : ACalls Try.prog 91 [] [.sl .o 6 (l0.map e123), .lit (.int .i64 a1), .lit (.int .i64 a2)] [] (.lit (.int .i64 r)) := by
 refine acalls (fn := Try.f91) (nt := 28) Try.func91 rfl rfl (Nat.le_of_ble_eq_true rfl) fun E hE => ?_
 rw [impl_earlyAt.f] at H
 refine aw_grp1 ?_
 refine wk_start ?_
 refine kv g0 (asg) ?_
 refine wk_end ?_
 refine ac_next ?_
 refine aw_grp1 ?_
 refine aw_grp1 ?_
 refine wk_start ?_
 refine kv g0 (mv) ?_
 refine kv g0 (lnS lenE) ?_
 refine kv g0 (mv) ?_
 refine wk_end ?_
 refine ac_next ?_
 refine aw_block ?_
 refine aw_loop1 (fun (k_ : Nat) (p5 : Int) => impl_earlyAt.l0 k_ l0 a1 a2 p5 = some r) (fun (p5 : Int) => ⟨[(1, .lit (.int .i64 a1)), (2, .lit (.int .i64 a2)), (9, .sl .o 6 (l0.map e123)), (10, .lit (.int .i64 (l0.length : Int))), (11, .lit (.int .i64 p5))], []⟩) k 0 H (fun K_ h_ => acw hE [] 9999 h_) (fun _ => by intro h_; rw [impl_earlyAt.l0.eq_1] at h_; cases h_) ?_
 intro k6 p5 H K11 hK12
 rw [impl_earlyAt.l0.eq_2] at H
 refine aw_grp1 ?_
 refine wk_start ?_
 refine kv g0 (lss) ?_
 refine wk_end ?_
 refine ac_next ?_
 refine aw_grp1 ?_
 by_cases c7 : p5 < (l0.length : Int)
 ·rw [if_pos c7] at H
  refine aw_ifT ?_ (decide_eq_true c7)
  refine aw_skip ?_
  refine ac_next ?_
  refine aw_grp1 ?_
  refine aw_block ?_
  refine aw_grp1 ?_
  refine wk_start ?_
  refine kv g0 (mv) ?_
  obtain ⟨c8, H⟩ := of_if H
  refine kv g0 (ixS 123 (e123 (rd_T123 l0 p5)) c8 (getE (z := z123) c8 c7)) ?_
  refine kv g0 (ldRA 6 [.lit (.int .i64 ((rd_T123 l0 p5).f0)), .lit (.int .i64 ((rd_T123 l0 p5).f1)), .lit (.int .i64 ((rd_T123 l0 p5).f2.f0)), .lit (.int .i64 ((rd_T123 l0 p5).f2.f1)), .lit (.int .i64 ((rd_T123 l0 p5).f2.f2)), .lit (.int .i64 ((rd_T123 l0 p5).f2.f3))]) ?_
  refine kb g0 (alc 0 [.int .i64 0, .int .i64 0, .int .i64 0, .int .i64 0, .int .i64 0, .int .i64 0] [.lit (.int .i64 0), .lit (.int .i64 0), .lit (.int .i64 0), .lit (.int .i64 0), .lit (.int .i64 0), .lit (.int .i64 0)]) ?_
  refine kv g0 (asg) ?_
  refine ks g0 (stB 6 [.lit (.int .i64 ((rd_T123 l0 p5).f0)), .lit (.int .i64 ((rd_T123 l0 p5).f1)), .lit (.int .i64 ((rd_T123 l0 p5).f2.f0)), .lit (.int .i64 ((rd_T123 l0 p5).f2.f1)), .lit (.int .i64 ((rd_T123 l0 p5).f2.f2)), .lit (.int .i64 ((rd_T123 l0 p5).f2.f3))]) ?_
  refine wk_end ?_
  refine ac_next ?_
  refine aw_grp1 ?_
  refine wk_start ?_
  refine kv g0 (faB 0 0) ?_
  refine kv g0 (ldB) ?_
  refine kv g0 (mv) ?_
  refine kv g0 (eql) ?_
  refine kv g0 (mv) ?_
  by_cases c9 : ((rd_T123 l0 p5).f0) = a1
  ·rw [if_pos c9] at H
   refine kv (g1 (eT c9)) (faB 1 1) ?_
   refine kv (g1 (eT c9)) (ldB) ?_
   refine kv (g1 (eT c9)) (mv) ?_
   refine kv (g1 (eT c9)) (eql) ?_
   refine kv g0 (pkT (eT c9)) ?_
   refine wk_end ?_
   refine ac_next ?_
   by_cases c10 : ((rd_T123 l0 p5).f1) = a2
   ·rw [if_pos c10] at H
    refine aw_ifT ?_ (eT c10)
    refine aw_grp1 ?_
    refine wk_start ?_
    refine kv g0 (mv) ?_
    refine kv g0 (asg) ?_
    refine wk_end ?_
    refine ac_next ?_
    refine aw_ret ?_
    refine ac_blkR ?_
    refine ac_thenR ?_
    refine ac_thenR ?_
    refine ac_blkR ?_
    refine ac_thenR ?_
    obtain rfl := Option.some.inj H
    exact acr hE [.tmp 6] (.tmp .nil) (.one _) [] 9999
   rw [if_neg c10] at H
   refine aw_ifF ?_ (eF c10)
   refine aw_skip ?_
   refine ac_blkN ?_
   refine ac_next ?_
   refine wk_start ?_
   refine kv g0 (add6) ?_
   refine kv g0 (mv) ?_
   refine wk_end ?_
   refine ac_k ?_
   exact acw hE [] 9999 (hK12 k6 (wrap64 (p5 + 1)) (Nat.le_refl _) H)
  rw [if_neg c9] at H
  refine kx (hT (eF c9)) ?_
  refine kx (hT (eF c9)) ?_
  refine kx (hT (eF c9)) ?_
  refine kx (hT (eF c9)) ?_
  refine kv g0 (pkF (eF c9)) ?_
  refine wk_end ?_
  refine ac_next ?_
  refine aw_ifF ?_ rfl
  refine aw_skip ?_
  refine ac_blkN ?_
  refine ac_next ?_
  refine wk_start ?_
  refine kv g0 (add6) ?_
  refine kv g0 (mv) ?_
  refine wk_end ?_
  refine ac_k ?_
  exact acw hE [] 9999 (hK12 k6 (wrap64 (p5 + 1)) (Nat.le_refl _) H)
 rw [if_neg c7] at H
 refine aw_ifF ?_ (decide_eq_false c7)
 refine aw_exit ?_
 refine ac_then ?_
 refine ac_then ?_
 refine ac_hit rfl ?_
 refine ac_next ?_
 refine aw_grp1 ?_
 refine wk_start ?_
 refine kv g0 (asg) ?_
 refine wk_end ?_
 refine ac_next ?_
 refine aw_ret ?_
 obtain rfl := Option.some.inj H
 exact acr hE [.tmp 6] (.tmp .nil) (.one _) [] 9999
/-! impl_KeeperOk -/
mutual
def impl_KeeperOk.l0 : Nat → (List S130) → (List Int) → (List S123) → Int → (List Int) → Int → Option (Bool)
 | 0, _, _, _, _, _, _ => none
 | k18 + 1, l0_0, l0_1, l0_2, a0_3, l0_4, p17 => if p17 < 3 then if 0 ≤ p17 then (if p17 < (l0_1.length : Int) then ((impl_within.f (rd l0_1 p17) 1 1000000000).bind fun t22 => (if t22 = true then (if p17 < (l0_4.length : Int) then ((impl_within.f (rd l0_4 p17) 1 (rd l0_1 p17)).bind fun t26 => if t26 = true then impl_KeeperOk.l0 k18 l0_0 l0_1 l0_2 a0_3 l0_4 (wrap64 (p17 + 1)) else some false) else none) else some false)) else none) else none else impl_KeeperOk.l1 k18 l0_0 l0_1 l0_2 a0_3 l0_4 (List.replicate 3 (0 : Int)) (List.replicate 3 (0 : Int)) 0
def impl_KeeperOk.j0 : Nat → (List S130) → (List Int) → (List S123) → Int → (List Int) → (List Int) → Int → (List Int) → Option (Bool)
 | 0, _, _, _, _, _, _, _, _ => none
 | k66 + 1, l0_0, l0_1, l0_2, a0_3, l0_4, q48, p50, q65 => if ((rd_T130 l0_0 p50).f0) < ((q48.set ((rd_T130 l0_0 p50).f0).toNat (wrap64 ((rd q48 ((rd_T130 l0_0 p50).f0)) + 1))).length : Int) then if ((rd_T130 l0_0 p50).f1) = (rd (q48.set ((rd_T130 l0_0 p50).f0).toNat (wrap64 ((rd q48 ((rd_T130 l0_0 p50).f0)) + 1))) ((rd_T130 l0_0 p50).f0)) then impl_KeeperOk.l1 k66 l0_0 l0_1 l0_2 a0_3 l0_4 (q48.set ((rd_T130 l0_0 p50).f0).toNat (wrap64 ((rd q48 ((rd_T130 l0_0 p50).f0)) + 1))) q65 (wrap64 (p50 + 1)) else some false else none
def impl_KeeperOk.l1 : Nat → (List S130) → (List Int) → (List S123) → Int → (List Int) → (List Int) → (List Int) → Int → Option (Bool)
 | 0, _, _, _, _, _, _, _, _ => none
 | k51 + 1, l0_0, l0_1, l0_2, a0_3, l0_4, q48, q49, p50 => if p50 < (l0_0.length : Int) then if 0 ≤ p50 then (impl_isPid.f ((rd_T130 l0_0 p50).f0)).bind fun t54 => (if t54 = true then ((impl_ItemOk.f ((rd_T130 l0_0 p50).f2.f0) ((rd_T130 l0_0 p50).f2.f1) ((rd_T130 l0_0 p50).f2.f2) ((rd_T130 l0_0 p50).f2.f3)).bind fun t57 => if t57 = true then if 0 ≤ ((rd_T130 l0_0 p50).f0) then (if ((rd_T130 l0_0 p50).f0) < 3 then (if ((rd_T130 l0_0 p50).f0) < (q48.length : Int) then if p50 < a0_3 then (if ((rd_T130 l0_0 p50).f0) < (q49.length : Int) then impl_KeeperOk.j0 k51 l0_0 l0_1 l0_2 a0_3 l0_4 q48 p50 (q49.set ((rd_T130 l0_0 p50).f0).toNat (wrap64 ((rd q49 ((rd_T130 l0_0 p50).f0)) + 1))) else none) else impl_KeeperOk.j0 k51 l0_0 l0_1 l0_2 a0_3 l0_4 q48 p50 q49 else none) else none) else none else some false) else some false) else none else impl_KeeperOk.l2 k51 l0_0 l0_1 l0_2 a0_3 l0_4 q48 q49 0
def impl_KeeperOk.l2 : Nat → (List S130) → (List Int) → (List S123) → Int → (List Int) → (List Int) → (List Int) → Int → Option (Bool)
 | 0, _, _, _, _, _, _, _, _ => none
 | k81 + 1, l0_0, l0_1, l0_2, a0_3, l0_4, q48, q49, p80 => if p80 < 3 then if 0 ≤ p80 then (if p80 < (q48.length : Int) then (if p80 < (l0_1.length : Int) then (if (rd q48 p80) = (wrap64 ((rd l0_1 p80) - 1)) then (if p80 < (q49.length : Int) then (if p80 < (l0_4.length : Int) then if (rd q49 p80) = (wrap64 ((rd l0_4 p80) - 1)) then impl_KeeperOk.l2 k81 l0_0 l0_1 l0_2 a0_3 l0_4 q48 q49 (wrap64 (p80 + 1)) else some false else none) else none) else some false) else none) else none) else none else impl_KeeperOk.l3 k81 l0_0 l0_1 l0_2 a0_3 l0_4 0
def impl_KeeperOk.l3 : Nat → (List S130) → (List Int) → (List S123) → Int → (List Int) → Int → Option (Bool)
 | 0, _, _, _, _, _, _ => none
 | k109 + 1, l0_0, l0_1, l0_2, a0_3, l0_4, p108 => if p108 < (l0_2.length : Int) then if 0 ≤ p108 then (impl_isPid.f ((rd_T123 l0_2 p108).f0)).bind fun t112 => (if t112 = true then ((impl_ItemOk.f ((rd_T123 l0_2 p108).f2.f0) ((rd_T123 l0_2 p108).f2.f1) ((rd_T123 l0_2 p108).f2.f2) ((rd_T123 l0_2 p108).f2.f3)).bind fun t115 => (if t115 = true then (if 0 ≤ ((rd_T123 l0_2 p108).f0) then (if ((rd_T123 l0_2 p108).f0) < (l0_1.length : Int) then (if ((rd_T123 l0_2 p108).f1) ≤ (rd l0_1 ((rd_T123 l0_2 p108).f0)) then some false else (if ((rd_T123 l0_2 p108).f1) > 1000000000 then some false else (if p108 ≤ (l0_2.length : Int) then ((impl_earlyAt.f k109 (l0_2.take p108.toNat) ((rd_T123 l0_2 p108).f0) ((rd_T123 l0_2 p108).f1)).bind fun t123 => if t123 ≥ 0 then some false else impl_KeeperOk.l3 k109 l0_0 l0_1 l0_2 a0_3 l0_4 (wrap64 (p108 + 1))) else none))) else none) else none) else some false)) else some false) else none else some true
end
def impl_KeeperOk.f (k : Nat) (l0_0 : List S130) (l0_1 : List Int) (l0_2 : List S123) (a0_3 : Int) (l0_4 : List Int) : Option (Bool) := if (l0_1.length : Int) = 3 then (if (l0_4.length : Int) = 3 then (if (l0_0.length : Int) > 200 then some false else ((impl_within.f a0_3 0 (l0_0.length : Int)).bind fun t4 => (if t4 = true then if (l0_2.length : Int) > 3 then some false else impl_KeeperOk.l0 k l0_0 l0_1 l0_2 a0_3 l0_4 0 else some false))) else some false) else some false
theorem impl_KeeperOk.ok {k : Nat} {l0_0 : List S130} {l0_1 : List Int} {l0_2 : List S123} {a0_3 : Int} {l0_4 : List Int} {r : Bool} (H : impl_KeeperOk.f k l0_0 l0_1 l0_2 a0_3 l0_4 = some r) : ACalls Try.prog 14 [] [.agg [.sl .o 6 (l0_0.map e130), .sl .o 1 (l0_1.map (eI .i64)), .sl .o 6 (l0_2.map e123), .lit (.int .i64 a0_3), .sl .o 1 (l0_4.map (eI .i64))]] [] (.lit (.bool r)) := by
 refine acalls (fn := Try.f14) (nt := 182) Try.func14 rfl rfl (Nat.le_of_ble_eq_true rfl) fun E hE => ?_
 rw [impl_KeeperOk.f] at H
 refine aw_grp1 ?_
 refine wk_start ?_
 refine kb g0 (bxA 0) ?_
 refine kv g0 (asg) ?_
 refine wk_end ?_
 refine ac_next ?_
 refine aw_grp1 ?_
 refine aw_grp1 ?_
 refine wk_start ?_
 refine kv g0 (faB 1 1) ?_
 refine kv g0 (ldB) ?_
 refine kv g0 (lnS lenE) ?_
 refine kv g0 (neq) ?_
 refine kv g0 (mv) ?_
 by_cases c1 : (l0_1.length : Int) = 3
 ·rw [if_pos c1] at H
  refine kv (g1 (eM c1)) (faB 4 4) ?_
  refine kv (g1 (eM c1)) (ldB) ?_
  refine kv (g1 (eM c1)) (lnS lenE) ?_
  refine kv (g1 (eM c1)) (neq) ?_
  refine kv g0 (pkF (eM c1)) ?_
  refine kv g0 (mv) ?_
  by_cases c2 : (l0_4.length : Int) = 3
  ·rw [if_pos c2] at H
   refine kv (g1 (eM c2)) (faB 0 0) ?_
   refine kv (g1 (eM c2)) (ldB) ?_
   refine kv (g1 (eM c2)) (lnS lenE) ?_
   refine kv (g1 (eM c2)) (gtr) ?_
   refine kv g0 (pkF (eM c2)) ?_
   refine kv g0 (mv) ?_
   by_cases c3 : (l0_0.length : Int) > 200
   ·rw [if_pos c3] at H
    refine kx (hF (decide_eq_true c3)) ?_
    refine kx (hF (decide_eq_true c3)) ?_
    refine kx (hF (decide_eq_true c3)) ?_
    refine kx (hF (decide_eq_true c3)) ?_
    refine kx (hF (decide_eq_true c3)) ?_
    refine kx (hF (decide_eq_true c3)) ?_
    refine kx (hF (decide_eq_true c3)) ?_
    refine kv g0 (pkT (decide_eq_true c3)) ?_
    refine kv g0 (mv) ?_
    refine kx (hF rfl) ?_
    refine kx (hF rfl) ?_
    refine kx (hF rfl) ?_
    refine kx (hF rfl) ?_
    refine kv g0 (pkT rfl) ?_
    refine wk_end ?_
    refine ac_next ?_
    refine aw_ifT ?_ rfl
    refine aw_grp1 ?_
    refine wk_start ?_
    refine kv g0 (asg) ?_
    refine wk_end ?_
    refine ac_next ?_
    refine aw_ret ?_
    refine ac_thenR ?_
    obtain rfl := Option.some.inj H
    exact acr hE [.tmp 2] (.tmp .nil) (.one _) [] 9999
   rw [if_neg c3] at H
   refine kv (g1 (decide_eq_false c3)) (faB 3 3) ?_
   refine kv (g1 (decide_eq_false c3)) (ldB) ?_
   refine kv (g1 (decide_eq_false c3)) (faB 0 0) ?_
   refine kv (g1 (decide_eq_false c3)) (ldB) ?_
   refine kv (g1 (decide_eq_false c3)) (lnS lenE) ?_
   obtain ⟨t4, A5, H⟩ := of_bind H
   refine kcS0 33 (.lit (.bool t4)) [] (g1 (decide_eq_false c3)) (cal (impl_within.ok A5) [] 9999 .n (hf := Try.func88)) rfl rfl ?_
   refine kv (g1 (decide_eq_false c3)) (not_) ?_
   refine kv g0 (pkF (decide_eq_false c3)) ?_
   refine kv g0 (mv) ?_
   by_cases c6 : t4 = true
   ·rw [if_pos c6] at H
    refine kv (g1 (nF c6)) (faB 2 2) ?_
    refine kv (g1 (nF c6)) (ldB) ?_
    refine kv (g1 (nF c6)) (lnS lenE) ?_
    refine kv (g1 (nF c6)) (gtr) ?_
    refine kv g0 (pkF (nF c6)) ?_
    refine wk_end ?_
    refine ac_next ?_
    by_cases c7 : (l0_2.length : Int) > 3
    ·rw [if_pos c7] at H
     refine aw_ifT ?_ (decide_eq_true c7)
     refine aw_grp1 ?_
     refine wk_start ?_
     refine kv g0 (asg) ?_
     refine wk_end ?_
     refine ac_next ?_
     refine aw_ret ?_
     refine ac_thenR ?_
     obtain rfl := Option.some.inj H
     exact acr hE [.tmp 2] (.tmp .nil) (.one _) [] 9999
    rw [if_neg c7] at H
    refine aw_ifF ?_ (decide_eq_false c7)
    refine aw_skip ?_
    refine ac_next ?_
    refine aw_grp1 ?_
    refine aw_grp1 ?_
    refine wk_start ?_
    refine kv g0 (mv) ?_
    refine wk_end ?_
    refine ac_next ?_
    refine aw_block ?_
    refine aw_loop1 (fun (k_ : Nat) (p17 : Int) => impl_KeeperOk.l0 k_ l0_0 l0_1 l0_2 a0_3 l0_4 p17 = some r) (fun (p17 : Int) => ⟨[(1, .box 0 0), (42, .lit (.int .i64 p17))], [(0, .box 32 [.sl .o 6 (l0_0.map e130), .sl .o 1 (l0_1.map (eI .i64)), .sl .o 6 (l0_2.map e123), .lit (.int .i64 a0_3), .sl .o 1 (l0_4.map (eI .i64))])]⟩) k 0 H (fun K_ h_ => acw hE [(0, 0)] 9999 h_) (fun _ => by intro h_; rw [impl_KeeperOk.l0.eq_1] at h_; cases h_) ?_
    intro k18 p17 H K29 hK30
    rw [impl_KeeperOk.l0.eq_2] at H
    refine aw_grp1 ?_
    refine wk_start ?_
    refine kv g0 (lss) ?_
    refine wk_end ?_
    refine ac_next ?_
    refine aw_grp1 ?_
    by_cases c19 : p17 < 3
    ·rw [if_pos c19] at H
     refine aw_ifT ?_ (decide_eq_true c19)
     refine aw_skip ?_
     refine ac_next ?_
     refine aw_grp1 ?_
     refine aw_block ?_
     refine aw_grp1 ?_
     refine wk_start ?_
     refine kv g0 (mv) ?_
     refine kv g0 (asg) ?_
     refine wk_end ?_
     refine ac_next ?_
     refine aw_grp1 ?_
     refine wk_start ?_
     refine kv g0 (faB 1 1) ?_
     refine kv g0 (ldB) ?_
     refine kv g0 (mv) ?_
     obtain ⟨c20, H⟩ := of_if H
     obtain ⟨c21, H⟩ := of_if H
     refine kv g0 (ixS 3 (eI .i64 (rd l0_1 p17)) c20 (getE (z := (0 : Int)) c20 c21)) ?_
     refine kv g0 (ldR (.lit (.int .i64 (rd l0_1 p17)))) ?_
     obtain ⟨t22, A23, H⟩ := of_bind H
     refine kcS0 50 (.lit (.bool t22)) [] g0 (cal (impl_within.ok A23) [] 9999 .n (hf := Try.func88)) rfl rfl ?_
     refine kv g0 (not_) ?_
     refine kv g0 (mv) ?_
     by_cases c24 : t22 = true
     ·rw [if_pos c24] at H
      refine kv (g1 (nF c24)) (faB 4 4) ?_
      refine kv (g1 (nF c24)) (ldB) ?_
      refine kv (g1 (nF c24)) (mv) ?_
      obtain ⟨c25, H⟩ := of_if H
      refine kv (g1 (nF c24)) (ixS 3 (eI .i64 (rd l0_4 p17)) c20 (getE (z := (0 : Int)) c20 c25)) ?_
      refine kv (g1 (nF c24)) (ldR (.lit (.int .i64 (rd l0_4 p17)))) ?_
      refine kv (g1 (nF c24)) (faB 1 1) ?_
      refine kv (g1 (nF c24)) (ldB) ?_
      refine kv (g1 (nF c24)) (mv) ?_
      refine kv (g1 (nF c24)) (ixS 3 (eI .i64 (rd l0_1 p17)) c20 (getE (z := (0 : Int)) c20 c21)) ?_
      refine kv (g1 (nF c24)) (ldR (.lit (.int .i64 (rd l0_1 p17)))) ?_
      obtain ⟨t26, A27, H⟩ := of_bind H
      refine kcS0 63 (.lit (.bool t26)) [] (g1 (nF c24)) (cal (impl_within.ok A27) [] 9999 .n (hf := Try.func88)) rfl rfl ?_
      refine kv (g1 (nF c24)) (not_) ?_
      refine kv g0 (pkF (nF c24)) ?_
      refine wk_end_draw hM (by kernel_rfl) ?_
      refine ac_next ?_
      by_cases c28 : t26 = true
      ·rw [if_pos c28] at H
       refine aw_ifF ?_ (nF c28)
       refine aw_skip ?_
       refine ac_blkN ?_
       refine ac_next ?_
       refine wk_start ?_
       refine kv g0 (add6) ?_
       refine kv g0 (mv) ?_
       refine wk_end ?_
       refine ac_k ?_
       exact acw hE [(0, 0)] 9999 (hK30 k18 (wrap64 (p17 + 1)) (Nat.le_refl _) H)
      rw [if_neg c28] at H
      refine aw_ifT ?_ (nT (bF c28))
      refine aw_grp1 ?_
      refine wk_start ?_
      refine kv g0 (asg) ?_
      refine wk_end ?_
      refine ac_next ?_
      refine aw_ret ?_
      refine ac_blkR ?_
      refine ac_thenR ?_
      refine ac_thenR ?_
      refine ac_blkR ?_
      refine ac_thenR ?_
      obtain rfl := Option.some.inj H
      exact acr hE [.tmp 2] (.tmp .nil) (.one _) [] 9999
     rw [if_neg c24] at H
     refine kx (hF (nT (bF c24))) ?_
     refine kx (hF (nT (bF c24))) ?_
     refine kx (hF (nT (bF c24))) ?_
     refine kx (hF (nT (bF c24))) ?_
     refine kx (hF (nT (bF c24))) ?_
     refine kx (hF (nT (bF c24))) ?_
     refine kx (hF (nT (bF c24))) ?_
     refine kx (hF (nT (bF c24))) ?_
     refine kx (hF (nT (bF c24))) ?_
     refine kx (hF (nT (bF c24))) ?_
     refine kx (hF (nT (bF c24))) ?_
     refine kx (hF (nT (bF c24))) ?_
     refine kv g0 (pkT (nT (bF c24))) ?_
     refine wk_end_draw hM (by kernel_rfl) ?_
     refine ac_next ?_
     refine aw_ifT ?_ rfl
     refine aw_grp1 ?_
     refine wk_start ?_
     refine kv g0 (asg) ?_
     refine wk_end ?_
     refine ac_next ?_
     refine aw_ret ?_
     refine ac_blkR ?_
     refine ac_thenR ?_
     refine ac_thenR ?_
     refine ac_blkR ?_
     refine ac_thenR ?_
     obtain rfl := Option.some.inj H
     exact acr hE [.tmp 2] (.tmp .nil) (.one _) [] 9999
    rw [if_neg c19] at H
    refine aw_ifF ?_ (decide_eq_false c19)
    refine aw_exit ?_
    refine ac_then ?_
    refine ac_then ?_
    refine ac_hit rfl ?_
    refine ac_next ?_
    refine aw_grp1 ?_
    refine wk_start ?_
    refine kb g0 (alc 1 [.int .i64 0, .int .i64 0, .int .i64 0] ((List.replicate 3 (0 : Int)).map (eI .i64))) ?_
    refine kb g0 (alc 2 [.int .i64 0, .int .i64 0, .int .i64 0] ((List.replicate 3 (0 : Int)).map (eI .i64))) ?_
    refine wk_end ?_
    refine ac_next ?_
    refine aw_grp1 ?_
    refine aw_grp1 ?_
    refine wk_start ?_
    refine kv g0 (faB 0 0) ?_
    refine kv g0 (ldB) ?_
    refine kv g0 (lnS lenE) ?_
    refine kv g0 (mv) ?_
    refine wk_end ?_
    refine ac_next ?_
    refine aw_block ?_
    refine aw_loop3 (fun (k_ : Nat) (q48 : List Int) (q49 : List Int) (p50 : Int) => impl_KeeperOk.l1 k_ l0_0 l0_1 l0_2 a0_3 l0_4 q48 q49 p50 = some r) (fun (q48 : List Int) (q49 : List Int) (p50 : Int) => ⟨[(1, .box 0 0), (4, .box 1 0), (5, .box 2 0), (68, .sl .o 6 (l0_0.map e130)), (69, .lit (.int .i64 (l0_0.length : Int))), (70, .lit (.int .i64 p50))], [(0, .box 32 [.sl .o 6 (l0_0.map e130), .sl .o 1 (l0_1.map (eI .i64)), .sl .o 6 (l0_2.map e123), .lit (.int .i64 a0_3), .sl .o 1 (l0_4.map (eI .i64))]), (1, .box 129 (q48.map (eI .i64))), (2, .box 129 (q49.map (eI .i64)))]⟩) k18 (List.replicate 3 (0 : Int)) (List.replicate 3 (0 : Int)) 0 H (fun K_ h_ => acw hE [(0, 0), (1, 1), (2, 2)] 9999 h_) (fun _ _ _ => by intro h_; rw [impl_KeeperOk.l1.eq_1] at h_; cases h_) ?_
    intro k51 q48 q49 p50 H K70 hK71
    rw [impl_KeeperOk.l1.eq_2] at H
    refine aw_grp1 ?_
    refine wk_start ?_
    refine kv g0 (lss) ?_
    refine wk_end ?_
    refine ac_next ?_
    refine aw_grp1 ?_
    by_cases c52 : p50 < (l0_0.length : Int)
    ·rw [if_pos c52] at H
     refine aw_ifT ?_ (decide_eq_true c52)
     refine aw_skip ?_
     refine ac_next ?_
     refine aw_grp1 ?_
     refine aw_block ?_
     refine aw_grp1 ?_
     refine wk_start ?_
     refine kv g0 (mv) ?_
     obtain ⟨c53, H⟩ := of_if H
     refine kv g0 (ixS 130 (e130 (rd_T130 l0_0 p50)) c53 (getE (z := z130) c53 c52)) ?_
     refine kv g0 (ldRA 6 [.lit (.int .i64 ((rd_T130 l0_0 p50).f0)), .lit (.int .i64 ((rd_T130 l0_0 p50).f1)), .lit (.int .i64 ((rd_T130 l0_0 p50).f2.f0)), .lit (.int .i64 ((rd_T130 l0_0 p50).f2.f1)), .lit (.int .i64 ((rd_T130 l0_0 p50).f2.f2)), .lit (.int .i64 ((rd_T130 l0_0 p50).f2.f3))]) ?_
     refine kb g0 (alc 3 [.int .i64 0, .int .i64 0, .int .i64 0, .int .i64 0, .int .i64 0, .int .i64 0] [.lit (.int .i64 0), .lit (.int .i64 0), .lit (.int .i64 0), .lit (.int .i64 0), .lit (.int .i64 0), .lit (.int .i64 0)]) ?_
     refine kv g0 (asg) ?_
     refine ks g0 (stB 6 [.lit (.int .i64 ((rd_T130 l0_0 p50).f0)), .lit (.int .i64 ((rd_T130 l0_0 p50).f1)), .lit (.int .i64 ((rd_T130 l0_0 p50).f2.f0)), .lit (.int .i64 ((rd_T130 l0_0 p50).f2.f1)), .lit (.int .i64 ((rd_T130 l0_0 p50).f2.f2)), .lit (.int .i64 ((rd_T130 l0_0 p50).f2.f3))]) ?_
     refine wk_end ?_
     refine ac_next ?_
     refine aw_grp1 ?_
     refine aw_grp1 ?_
     refine wk_start ?_
     refine kv g0 (faB 0 0) ?_
     refine kv g0 (ldB) ?_
     obtain ⟨t54, A55, H⟩ := of_bind H
     refine kcS0 77 (.lit (.bool t54)) [] g0 (cal (impl_isPid.ok A55) [] 9999 .n (hf := Try.func89)) rfl rfl ?_
     refine kv g0 (not_) ?_
     refine kv g0 (mv) ?_
     by_cases c56 : t54 = true
     ·rw [if_pos c56] at H
      refine kv (g1 (nF c56)) (faB 2 2) ?_
      refine kv (g1 (nF c56)) (ldBA 4 [.lit (.int .i64 ((rd_T130 l0_0 p50).f2.f0)), .lit (.int .i64 ((rd_T130 l0_0 p50).f2.f1)), .lit (.int .i64 ((rd_T130 l0_0 p50).f2.f2)), .lit (.int .i64 ((rd_T130 l0_0 p50).f2.f3))]) ?_
      obtain ⟨t57, A58, H⟩ := of_bind H
      refine kcS0 82 (.lit (.bool t57)) [] (g1 (nF c56)) (cal (impl_ItemOk.ok A58) [] 9999 .n (hf := Try.func90)) rfl rfl ?_
      refine kv (g1 (nF c56)) (not_) ?_
      refine kv g0 (pkF (nF c56)) ?_
      refine wk_end ?_
      refine ac_next ?_
      by_cases c59 : t57 = true
      ·rw [if_pos c59] at H
       refine aw_ifF ?_ (nF c59)
       refine aw_skip ?_
       refine ac_next ?_
       refine aw_grp1 ?_
       refine wk_start ?_
       refine kv g0 (faB 0 0) ?_
       refine kv g0 (ldB) ?_
       obtain ⟨c60, H⟩ := of_if H
       obtain ⟨c61, H⟩ := of_if H
       obtain ⟨c62, H⟩ := of_if H
       refine kv g0 (ixX 3 c60 c61) ?_
       refine kv g0 (ldX (z := (0 : Int)) c60 c62 (.lit (.int .i64 (rd q48 ((rd_T130 l0_0 p50).f0)))) rfl) ?_
       refine kv g0 (add6) ?_
       refine kv g0 (ixX 3 c60 c61) ?_
       refine ks g0 (stX (e := wrap64 ((rd q48 ((rd_T130 l0_0 p50).f0)) + 1)) c60 c62 rfl) ?_
       refine wk_end ?_
       refine ac_next ?_
       refine aw_cut1 (J := fun K_ => ∀ (k_ : Nat) (q65 : List Int), k_ ≤ k51 → impl_KeeperOk.j0 k_ l0_0 l0_1 l0_2 a0_3 l0_4 q48 p50 q65 = some r → ACont E 182 ⟨[(1, .box 0 0), (4, .box 1 0), (5, .box 2 0), (7, .box 3 0), (68, .sl .o 6 (l0_0.map e130)), (69, .lit (.int .i64 (l0_0.length : Int))), (70, .lit (.int .i64 p50))], [(0, .box 32 [.sl .o 6 (l0_0.map e130), .sl .o 1 (l0_1.map (eI .i64)), .sl .o 6 (l0_2.map e123), .lit (.int .i64 a0_3), .sl .o 1 (l0_4.map (eI .i64))]), (1, .box 129 ((q48.set ((rd_T130 l0_0 p50).f0).toNat (wrap64 ((rd q48 ((rd_T130 l0_0 p50).f0)) + 1))).map (eI .i64))), (2, .box 129 (q65.map (eI .i64))), (3, .box 130 [.lit (.int .i64 ((rd_T130 l0_0 p50).f0)), .lit (.int .i64 ((rd_T130 l0_0 p50).f1)), .lit (.int .i64 ((rd_T130 l0_0 p50).f2.f0)), .lit (.int .i64 ((rd_T130 l0_0 p50).f2.f1)), .lit (.int .i64 ((rd_T130 l0_0 p50).f2.f2)), .lit (.int .i64 ((rd_T130 l0_0 p50).f2.f3))])]⟩ K_) ?_ ?_
       ·intro K_ hJ69
        refine aw_grp1 ?_
        refine wk_start ?_
        refine kv g0 (mv) ?_
        refine kv g0 (faB 3 3) ?_
        refine kv g0 (ldB) ?_
        refine kv g0 (lss) ?_
        refine wk_end ?_
        refine ac_next ?_
        by_cases c63 : p50 < a0_3
        ·rw [if_pos c63] at H
         refine aw_ifT ?_ (decide_eq_true c63)
         refine wk_start ?_
         refine kv g0 (faB 0 0) ?_
         refine kv g0 (ldB) ?_
         obtain ⟨c64, H⟩ := of_if H
         refine kv g0 (ixX 3 c60 c61) ?_
         refine kv g0 (ldX (z := (0 : Int)) c60 c64 (.lit (.int .i64 (rd q49 ((rd_T130 l0_0 p50).f0)))) rfl) ?_
         refine kv g0 (add6) ?_
         refine kv g0 (ixX 3 c60 c61) ?_
         refine ks g0 (stX (e := wrap64 ((rd q49 ((rd_T130 l0_0 p50).f0)) + 1)) c60 c64 rfl) ?_
         refine wk_end ?_
         refine ac_k ?_
         exact acw hE [(0, 0), (1, 1), (2, 2), (3, 3)] 9999 (hJ69 k51 (q49.set ((rd_T130 l0_0 p50).f0).toNat (wrap64 ((rd q49 ((rd_T130 l0_0 p50).f0)) + 1))) (Nat.le_refl _) H)
        rw [if_neg c63] at H
        refine aw_ifF ?_ (decide_eq_false c63)
        refine aw_skip ?_
        refine ac_k ?_
        exact acw hE [(0, 0), (1, 1), (2, 2), (3, 3)] 9999 (hJ69 k51 q49 (Nat.le_refl _) H)
       intro k_ q65 hk_ H
       rcases k_ with _ | k66
       ·rw [impl_KeeperOk.j0.eq_1] at H; cases H
       have hk66 : k66 ≤ k51 := by omega
       clear hk_
       rw [impl_KeeperOk.j0.eq_2] at H
       refine aw_grp1 ?_
       refine wk_start ?_
       refine kv g0 (faB 1 1) ?_
       refine kv g0 (ldB) ?_
       refine kv g0 (faB 0 0) ?_
       refine kv g0 (ldB) ?_
       obtain ⟨c67, H⟩ := of_if H
       refine kv g0 (ixX 3 c60 c61) ?_
       refine kv g0 (ldX (z := (0 : Int)) c60 c67 (.lit (.int .i64 (rd (q48.set ((rd_T130 l0_0 p50).f0).toNat (wrap64 ((rd q48 ((rd_T130 l0_0 p50).f0)) + 1))) ((rd_T130 l0_0 p50).f0)))) rfl) ?_
       refine kv g0 (neq) ?_
       refine wk_end_draw hM (by kernel_rfl) ?_
       refine ac_next ?_
       by_cases c68 : ((rd_T130 l0_0 p50).f1) = (rd (q48.set ((rd_T130 l0_0 p50).f0).toNat (wrap64 ((rd q48 ((rd_T130 l0_0 p50).f0)) + 1))) ((rd_T130 l0_0 p50).f0))
       ·rw [if_pos c68] at H
        refine aw_ifF ?_ (eM c68)
        refine aw_skip ?_
        refine ac_blkN ?_
        refine ac_next ?_
        refine wk_start ?_
        refine kv g0 (add6) ?_
        refine kv g0 (mv) ?_
        refine wk_end ?_
        refine ac_k ?_
        exact acw hE [(0, 0), (1, 1), (2, 2)] 9999 (hK71 k66 (q48.set ((rd_T130 l0_0 p50).f0).toNat (wrap64 ((rd q48 ((rd_T130 l0_0 p50).f0)) + 1))) q65 (wrap64 (p50 + 1)) (by omega) H)
       rw [if_neg c68] at H
       refine aw_ifT ?_ (eN c68)
       refine aw_grp1 ?_
       refine wk_start ?_
       refine kv g0 (asg) ?_
       refine wk_end ?_
       refine ac_next ?_
       refine aw_ret ?_
       refine ac_blkR ?_
       refine ac_thenR ?_
       refine ac_thenR ?_
       refine ac_blkR ?_
       refine ac_thenR ?_
       obtain rfl := Option.some.inj H
       exact acr hE [.tmp 2] (.tmp .nil) (.one _) [] 9999
      rw [if_neg c59] at H
      refine aw_ifT ?_ (nT (bF c59))
      refine aw_grp1 ?_
      refine wk_start ?_
      refine kv g0 (asg) ?_
      refine wk_end ?_
      refine ac_next ?_
      refine aw_ret ?_
      refine ac_thenR ?_
      refine ac_blkR ?_
      refine ac_thenR ?_
      refine ac_thenR ?_
      refine ac_blkR ?_
      refine ac_thenR ?_
      obtain rfl := Option.some.inj H
      exact acr hE [.tmp 2] (.tmp .nil) (.one _) [] 9999
     rw [if_neg c56] at H
     refine kx (hF (nT (bF c56))) ?_
     refine kx (hF (nT (bF c56))) ?_
     refine kx (hF (nT (bF c56))) ?_
     refine kx (hF (nT (bF c56))) ?_
     refine kv g0 (pkT (nT (bF c56))) ?_
     refine wk_end ?_
     refine ac_next ?_
     refine aw_ifT ?_ rfl
     refine aw_grp1 ?_
     refine wk_start ?_
     refine kv g0 (asg) ?_
     refine wk_end ?_
     refine ac_next ?_
     refine aw_ret ?_
     refine ac_thenR ?_
     refine ac_blkR ?_
     refine ac_thenR ?_
     refine ac_thenR ?_
     refine ac_blkR ?_
     refine ac_thenR ?_
     obtain rfl := Option.some.inj H
     exact acr hE [.tmp 2] (.tmp .nil) (.one _) [] 9999
    rw [if_neg c52] at H
    refine aw_ifF ?_ (decide_eq_false c52)
    refine aw_exit ?_
    refine ac_then ?_
    refine ac_then ?_
    refine ac_hit rfl ?_
    refine ac_next ?_
    refine aw_grp1 ?_
    refine aw_grp1 ?_
    refine wk_start ?_
    refine kv g0 (mv) ?_
    refine wk_end ?_
    refine ac_next ?_
    refine aw_block ?_
    refine aw_loop1 (fun (k_ : Nat) (p80 : Int) => impl_KeeperOk.l2 k_ l0_0 l0_1 l0_2 a0_3 l0_4 q48 q49 p80 = some r) (fun (p80 : Int) => ⟨[(1, .box 0 0), (4, .box 1 0), (5, .box 2 0), (109, .lit (.int .i64 p80))], [(0, .box 32 [.sl .o 6 (l0_0.map e130), .sl .o 1 (l0_1.map (eI .i64)), .sl .o 6 (l0_2.map e123), .lit (.int .i64 a0_3), .sl .o 1 (l0_4.map (eI .i64))]), (1, .box 129 (q48.map (eI .i64))), (2, .box 129 (q49.map (eI .i64)))]⟩) k51 0 H (fun K_ h_ => acw hE [(0, 0), (1, 1), (2, 2)] 9999 h_) (fun _ => by intro h_; rw [impl_KeeperOk.l2.eq_1] at h_; cases h_) ?_
    intro k81 p80 H K90 hK91
    rw [impl_KeeperOk.l2.eq_2] at H
    refine aw_grp1 ?_
    refine wk_start ?_
    refine kv g0 (lss) ?_
    refine wk_end ?_
    refine ac_next ?_
    refine aw_grp1 ?_
    by_cases c82 : p80 < 3
    ·rw [if_pos c82] at H
     refine aw_ifT ?_ (decide_eq_true c82)
     refine aw_skip ?_
     refine ac_next ?_
     refine aw_grp1 ?_
     refine aw_block ?_
     refine aw_grp1 ?_
     refine wk_start ?_
     refine kv g0 (mv) ?_
     refine kv g0 (asg) ?_
     refine wk_end ?_
     refine ac_next ?_
     refine aw_grp1 ?_
     refine wk_start ?_
     refine kv g0 (mv) ?_
     obtain ⟨c83, H⟩ := of_if H
     obtain ⟨c84, H⟩ := of_if H
     refine kv g0 (ixX 3 c83 c82) ?_
     refine kv g0 (ldX (z := (0 : Int)) c83 c84 (.lit (.int .i64 (rd q48 p80))) rfl) ?_
     refine kv g0 (faB 1 1) ?_
     refine kv g0 (ldB) ?_
     refine kv g0 (mv) ?_
     obtain ⟨c85, H⟩ := of_if H
     refine kv g0 (ixS 3 (eI .i64 (rd l0_1 p80)) c83 (getE (z := (0 : Int)) c83 c85)) ?_
     refine kv g0 (ldR (.lit (.int .i64 (rd l0_1 p80)))) ?_
     refine kv g0 (sub6) ?_
     refine kv g0 (neq) ?_
     refine kv g0 (mv) ?_
     by_cases c86 : (rd q48 p80) = (wrap64 ((rd l0_1 p80) - 1))
     ·rw [if_pos c86] at H
      refine kv (g1 (eM c86)) (mv) ?_
      obtain ⟨c87, H⟩ := of_if H
      refine kv (g1 (eM c86)) (ixX 3 c83 c82) ?_
      refine kv (g1 (eM c86)) (ldX (z := (0 : Int)) c83 c87 (.lit (.int .i64 (rd q49 p80))) rfl) ?_
      refine kv (g1 (eM c86)) (faB 4 4) ?_
      refine kv (g1 (eM c86)) (ldB) ?_
      refine kv (g1 (eM c86)) (mv) ?_
      obtain ⟨c88, H⟩ := of_if H
      refine kv (g1 (eM c86)) (ixS 3 (eI .i64 (rd l0_4 p80)) c83 (getE (z := (0 : Int)) c83 c88)) ?_
      refine kv (g1 (eM c86)) (ldR (.lit (.int .i64 (rd l0_4 p80)))) ?_
      refine kv (g1 (eM c86)) (sub6) ?_
      refine kv (g1 (eM c86)) (neq) ?_
      refine kv g0 (pkF (eM c86)) ?_
      refine wk_end_draw hM (by kernel_rfl) ?_
      refine ac_next ?_
      by_cases c89 : (rd q49 p80) = (wrap64 ((rd l0_4 p80) - 1))
      ·rw [if_pos c89] at H
       refine aw_ifF ?_ (eM c89)
       refine aw_skip ?_
       refine ac_blkN ?_
       refine ac_next ?_
       refine wk_start ?_
       refine kv g0 (add6) ?_
       refine kv g0 (mv) ?_
       refine wk_end ?_
       refine ac_k ?_
       exact acw hE [(0, 0), (1, 1), (2, 2)] 9999 (hK91 k81 (wrap64 (p80 + 1)) (Nat.le_refl _) H)
      rw [if_neg c89] at H
      refine aw_ifT ?_ (eN c89)
      refine aw_grp1 ?_
      refine wk_start ?_
      refine kv g0 (asg) ?_
      refine wk_end ?_
      refine ac_next ?_
      refine aw_ret ?_
      refine ac_blkR ?_
      refine ac_thenR ?_
      refine ac_thenR ?_
      refine ac_blkR ?_
      refine ac_thenR ?_
      obtain rfl := Option.some.inj H
      exact acr hE [.tmp 2] (.tmp .nil) (.one _) [] 9999
     rw [if_neg c86] at H
     refine kx (hF (eN c86)) ?_
     refine kx (hF (eN c86)) ?_
     refine kx (hF (eN c86)) ?_
     refine kx (hF (eN c86)) ?_
     refine kx (hF (eN c86)) ?_
     refine kx (hF (eN c86)) ?_
     refine kx (hF (eN c86)) ?_
     refine kx (hF (eN c86)) ?_
     refine kx (hF (eN c86)) ?_
     refine kx (hF (eN c86)) ?_
     refine kv g0 (pkT (eN c86)) ?_
     refine wk_end_draw hM (by kernel_rfl) ?_
     refine ac_next ?_
     refine aw_ifT ?_ rfl
     refine aw_grp1 ?_
     refine wk_start ?_
     refine kv g0 (asg) ?_
     refine wk_end ?_
     refine ac_next ?_
     refine aw_ret ?_
     refine ac_blkR ?_
     refine ac_thenR ?_
     refine ac_thenR ?_
     refine ac_blkR ?_
     refine ac_thenR ?_
     obtain rfl := Option.some.inj H
     exact acr hE [.tmp 2] (.tmp .nil) (.one _) [] 9999
    rw [if_neg c82] at H
    refine aw_ifF ?_ (decide_eq_false c82)
    refine aw_exit ?_
    refine ac_then ?_
    refine ac_then ?_
    refine ac_hit rfl ?_
    refine ac_next ?_
    refine aw_grp1 ?_
    refine aw_grp1 ?_
    refine wk_start ?_
    refine kv g0 (faB 2 2) ?_
    refine kv g0 (ldB) ?_
    refine kv g0 (lnS lenE) ?_
    refine kv g0 (mv) ?_
    refine wk_end ?_
    refine ac_next ?_
    refine aw_block ?_
    refine aw_loop1 (fun (k_ : Nat) (p108 : Int) => impl_KeeperOk.l3 k_ l0_0 l0_1 l0_2 a0_3 l0_4 p108 = some r) (fun (p108 : Int) => ⟨[(1, .box 0 0), (136, .sl .o 6 (l0_2.map e123)), (137, .lit (.int .i64 (l0_2.length : Int))), (138, .lit (.int .i64 p108))], [(0, .box 32 [.sl .o 6 (l0_0.map e130), .sl .o 1 (l0_1.map (eI .i64)), .sl .o 6 (l0_2.map e123), .lit (.int .i64 a0_3), .sl .o 1 (l0_4.map (eI .i64))])]⟩) k81 0 H (fun K_ h_ => acw hE [(0, 0)] 9999 h_) (fun _ => by intro h_; rw [impl_KeeperOk.l3.eq_1] at h_; cases h_) ?_
    intro k109 p108 H K126 hK127
    rw [impl_KeeperOk.l3.eq_2] at H
    refine aw_grp1 ?_
    refine wk_start ?_
    refine kv g0 (lss) ?_
    refine wk_end ?_
    refine ac_next ?_
    refine aw_grp1 ?_
    by_cases c110 : p108 < (l0_2.length : Int)
    ·rw [if_pos c110] at H
     refine aw_ifT ?_ (decide_eq_true c110)
     refine aw_skip ?_
     refine ac_next ?_
     refine aw_grp1 ?_
     refine aw_block ?_
     refine aw_grp1 ?_
     refine wk_start ?_
     refine kv g0 (mv) ?_
     obtain ⟨c111, H⟩ := of_if H
     refine kv g0 (ixS 123 (e123 (rd_T123 l0_2 p108)) c111 (getE (z := z123) c111 c110)) ?_
     refine kv g0 (ldRA 6 [.lit (.int .i64 ((rd_T123 l0_2 p108).f0)), .lit (.int .i64 ((rd_T123 l0_2 p108).f1)), .lit (.int .i64 ((rd_T123 l0_2 p108).f2.f0)), .lit (.int .i64 ((rd_T123 l0_2 p108).f2.f1)), .lit (.int .i64 ((rd_T123 l0_2 p108).f2.f2)), .lit (.int .i64 ((rd_T123 l0_2 p108).f2.f3))]) ?_
     refine kb g0 (alc 4 [.int .i64 0, .int .i64 0, .int .i64 0, .int .i64 0, .int .i64 0, .int .i64 0] [.lit (.int .i64 0), .lit (.int .i64 0), .lit (.int .i64 0), .lit (.int .i64 0), .lit (.int .i64 0), .lit (.int .i64 0)]) ?_
     refine kv g0 (asg) ?_
     refine ks g0 (stB 6 [.lit (.int .i64 ((rd_T123 l0_2 p108).f0)), .lit (.int .i64 ((rd_T123 l0_2 p108).f1)), .lit (.int .i64 ((rd_T123 l0_2 p108).f2.f0)), .lit (.int .i64 ((rd_T123 l0_2 p108).f2.f1)), .lit (.int .i64 ((rd_T123 l0_2 p108).f2.f2)), .lit (.int .i64 ((rd_T123 l0_2 p108).f2.f3))]) ?_
     refine wk_end ?_
     refine ac_next ?_
     refine aw_grp1 ?_
     refine wk_start ?_
     refine kv g0 (faB 0 0) ?_
     refine kv g0 (ldB) ?_
     obtain ⟨t112, A113, H⟩ := of_bind H
     refine kcS0 145 (.lit (.bool t112)) [] g0 (cal (impl_isPid.ok A113) [] 9999 .n (hf := Try.func89)) rfl rfl ?_
     refine kv g0 (not_) ?_
     refine kv g0 (mv) ?_
     by_cases c114 : t112 = true
     ·rw [if_pos c114] at H
      refine kv (g1 (nF c114)) (faB 2 2) ?_
      refine kv (g1 (nF c114)) (ldBA 4 [.lit (.int .i64 ((rd_T123 l0_2 p108).f2.f0)), .lit (.int .i64 ((rd_T123 l0_2 p108).f2.f1)), .lit (.int .i64 ((rd_T123 l0_2 p108).f2.f2)), .lit (.int .i64 ((rd_T123 l0_2 p108).f2.f3))]) ?_
      obtain ⟨t115, A116, H⟩ := of_bind H
      refine kcS0 150 (.lit (.bool t115)) [] (g1 (nF c114)) (cal (impl_ItemOk.ok A116) [] 9999 .n (hf := Try.func90)) rfl rfl ?_
      refine kv (g1 (nF c114)) (not_) ?_
      refine kv g0 (pkF (nF c114)) ?_
      refine kv g0 (mv) ?_
      by_cases c117 : t115 = true
      ·rw [if_pos c117] at H
       refine kv (g1 (nF c117)) (faB 1 1) ?_
       refine kv (g1 (nF c117)) (ldB) ?_
       refine kv (g1 (nF c117)) (faB 1 1) ?_
       refine kv (g1 (nF c117)) (ldB) ?_
       refine kv (g1 (nF c117)) (faB 0 0) ?_
       refine kv (g1 (nF c117)) (ldB) ?_
       obtain ⟨c118, H⟩ := of_if H
       obtain ⟨c119, H⟩ := of_if H
       refine kv (g1 (nF c117)) (ixS 3 (eI .i64 (rd l0_1 ((rd_T123 l0_2 p108).f0))) c118 (getE (z := (0 : Int)) c118 c119)) ?_
       refine kv (g1 (nF c117)) (ldR (.lit (.int .i64 (rd l0_1 ((rd_T123 l0_2 p108).f0))))) ?_
       refine kv (g1 (nF c117)) (leq) ?_
       refine kv g0 (pkF (nF c117)) ?_
       refine kv g0 (mv) ?_
       by_cases c120 : ((rd_T123 l0_2 p108).f1) ≤ (rd l0_1 ((rd_T123 l0_2 p108).f0))
       ·rw [if_pos c120] at H
        refine kx (hF (decide_eq_true c120)) ?_
        refine kx (hF (decide_eq_true c120)) ?_
        refine kx (hF (decide_eq_true c120)) ?_
        refine kv g0 (pkT (decide_eq_true c120)) ?_
        refine kv g0 (mv) ?_
        refine kx (hF rfl) ?_
        refine kx (hF rfl) ?_
        refine kx (hF rfl) ?_
        refine kx (hF rfl) ?_
        refine kx (hF rfl) ?_
        refine kx (hF rfl) ?_
        refine kx (hF rfl) ?_
        refine kx (hF rfl) ?_
        refine kx (hF rfl) ?_
        refine kx (hF rfl) ?_
        refine kv g0 (pkT rfl) ?_
        refine wk_end_draw hM (by kernel_rfl) ?_
        refine ac_next ?_
        refine aw_ifT ?_ rfl
        refine aw_grp1 ?_
        refine wk_start ?_
        refine kv g0 (asg) ?_
        refine wk_end ?_
        refine ac_next ?_
        refine aw_ret ?_
        refine ac_blkR ?_
        refine ac_thenR ?_
        refine ac_thenR ?_
        refine ac_blkR ?_
        refine ac_thenR ?_
        obtain rfl := Option.some.inj H
        exact acr hE [.tmp 2] (.tmp .nil) (.one _) [] 9999
       rw [if_neg c120] at H
       refine kv (g1 (decide_eq_false c120)) (faB 1 1) ?_
       refine kv (g1 (decide_eq_false c120)) (ldB) ?_
       refine kv (g1 (decide_eq_false c120)) (gtr) ?_
       refine kv g0 (pkF (decide_eq_false c120)) ?_
       refine kv g0 (mv) ?_
       by_cases c121 : ((rd_T123 l0_2 p108).f1) > 1000000000
       ·rw [if_pos c121] at H
        refine kx (hF (decide_eq_true c121)) ?_
        refine kx (hF (decide_eq_true c121)) ?_
        refine kx (hF (decide_eq_true c121)) ?_
        refine kx (hF (decide_eq_true c121)) ?_
        refine kx (hF (decide_eq_true c121)) ?_
        refine kx (hF (decide_eq_true c121)) ?_
        refine kx (hF (decide_eq_true c121)) ?_
        refine kx (hF (decide_eq_true c121)) ?_
        refine kx (hF (decide_eq_true c121)) ?_
        refine kx (hF (decide_eq_true c121)) ?_
        refine kv g0 (pkT (decide_eq_true c121)) ?_
        refine wk_end_draw hM (by kernel_rfl) ?_
        refine ac_next ?_
        refine aw_ifT ?_ rfl
        refine aw_grp1 ?_
        refine wk_start ?_
        refine kv g0 (asg) ?_
        refine wk_end ?_
        refine ac_next ?_
        refine aw_ret ?_
        refine ac_blkR ?_
        refine ac_thenR ?_
        refine ac_thenR ?_
        refine ac_blkR ?_
        refine ac_thenR ?_
        obtain rfl := Option.some.inj H
        exact acr hE [.tmp 2] (.tmp .nil) (.one _) [] 9999
       rw [if_neg c121] at H
       refine kv (g1 (decide_eq_false c121)) (faB 2 2) ?_
       refine kv (g1 (decide_eq_false c121)) (ldB) ?_
       refine kv (g1 (decide_eq_false c121)) (mv) ?_
       obtain ⟨c122, H⟩ := of_if H
       refine kv (g1 (decide_eq_false c121)) (slH 123 c111 c122) ?_
       refine kv (g1 (decide_eq_false c121)) (faB 0 0) ?_
       refine kv (g1 (decide_eq_false c121)) (ldB) ?_
       refine kv (g1 (decide_eq_false c121)) (faB 1 1) ?_
       refine kv (g1 (decide_eq_false c121)) (ldB) ?_
       obtain ⟨t123, A124, H⟩ := of_bind H
       refine kcS0 178 (.lit (.int .i64 t123)) [] (g1 (decide_eq_false c121)) (cal (impl_earlyAt.ok A124) [] 9999 .n (hf := Try.func91)) rfl rfl ?_
       refine kv (g1 (decide_eq_false c121)) (geq) ?_
       refine kv g0 (pkF (decide_eq_false c121)) ?_
       refine wk_end_draw hM (by kernel_rfl) ?_
       refine ac_next ?_
       by_cases c125 : t123 ≥ 0
       ·rw [if_pos c125] at H
        refine aw_ifT ?_ (decide_eq_true c125)
        refine aw_grp1 ?_
        refine wk_start ?_
        refine kv g0 (asg) ?_
        refine wk_end ?_
        refine ac_next ?_
        refine aw_ret ?_
        refine ac_blkR ?_
        refine ac_thenR ?_
        refine ac_thenR ?_
        refine ac_blkR ?_
        refine ac_thenR ?_
        obtain rfl := Option.some.inj H
        exact acr hE [.tmp 2] (.tmp .nil) (.one _) [] 9999
       rw [if_neg c125] at H
       refine aw_ifF ?_ (decide_eq_false c125)
       refine aw_skip ?_
       refine ac_blkN ?_
       refine ac_next ?_
       refine wk_start ?_
       refine kv g0 (add6) ?_
       refine kv g0 (mv) ?_
       refine wk_end ?_
       refine ac_k ?_
       exact acw hE [(0, 0)] 9999 (hK127 k109 (wrap64 (p108 + 1)) (Nat.le_refl _) H)
      rw [if_neg c117] at H
      refine kx (hF (nT (bF c117))) ?_
      refine kx (hF (nT (bF c117))) ?_
      refine kx (hF (nT (bF c117))) ?_
      refine kx (hF (nT (bF c117))) ?_
      refine kx (hF (nT (bF c117))) ?_
      refine kx (hF (nT (bF c117))) ?_
      refine kx (hF (nT (bF c117))) ?_
      refine kx (hF (nT (bF c117))) ?_
      refine kx (hF (nT (bF c117))) ?_
      refine kv g0 (pkT (nT (bF c117))) ?_
      refine kv g0 (mv) ?_
      refine kx (hF rfl) ?_
      refine kx (hF rfl) ?_
      refine kx (hF rfl) ?_
      refine kv g0 (pkT rfl) ?_
      refine kv g0 (mv) ?_
      refine kx (hF rfl) ?_
      refine kx (hF rfl) ?_
      refine kx (hF rfl) ?_
      refine kx (hF rfl) ?_
      refine kx (hF rfl) ?_
      refine kx (hF rfl) ?_
      refine kx (hF rfl) ?_
      refine kx (hF rfl) ?_
      refine kx (hF rfl) ?_
      refine kx (hF rfl) ?_
      refine kv g0 (pkT rfl) ?_
      refine wk_end_draw hM (by kernel_rfl) ?_
      refine ac_next ?_
      refine aw_ifT ?_ rfl
      refine aw_grp1 ?_
      refine wk_start ?_
      refine kv g0 (asg) ?_
      refine wk_end ?_
      refine ac_next ?_
      refine aw_ret ?_
      refine ac_blkR ?_
      refine ac_thenR ?_
      refine ac_thenR ?_
      refine ac_blkR ?_
      refine ac_thenR ?_
      obtain rfl := Option.some.inj H
      exact acr hE [.tmp 2] (.tmp .nil) (.one _) [] 9999
     rw [if_neg c114] at H
     refine kx (hF (nT (bF c114))) ?_
     refine kx (hF (nT (bF c114))) ?_
     refine kx (hF (nT (bF c114))) ?_
     refine kx (hF (nT (bF c114))) ?_
     refine kv g0 (pkT (nT (bF c114))) ?_
     refine kv g0 (mv) ?_
     refine kx (hF rfl) ?_
     refine kx (hF rfl) ?_
     refine kx (hF rfl) ?_
     refine kx (hF rfl) ?_
     refine kx (hF rfl) ?_
     refine kx (hF rfl) ?_
     refine kx (hF rfl) ?_
     refine kx (hF rfl) ?_
     refine kx (hF rfl) ?_
     refine kv g0 (pkT rfl) ?_
     refine kv g0 (mv) ?_
     refine kx (hF rfl) ?_
     refine kx (hF rfl) ?_
     refine kx (hF rfl) ?_
     refine kv g0 (pkT rfl) ?_
     refine kv g0 (mv) ?_
     refine kx (hF rfl) ?_
     refine kx (hF rfl) ?_
     refine kx (hF rfl) ?_
     refine kx (hF rfl) ?_
     refine kx (hF rfl) ?_
     refine kx (hF rfl) ?_
     refine kx (hF rfl) ?_
     refine kx (hF rfl) ?_
     refine kx (hF rfl) ?_
     refine kx (hF rfl) ?_
     refine kv g0 (pkT rfl) ?_
     refine wk_end_draw hM (by kernel_rfl) ?_
     refine ac_next ?_
     refine aw_ifT ?_ rfl
     refine aw_grp1 ?_
     refine wk_start ?_
     refine kv g0 (asg) ?_
     refine wk_end ?_
     refine ac_next ?_
     refine aw_ret ?_
     refine ac_blkR ?_
     refine ac_thenR ?_
     refine ac_thenR ?_
     refine ac_blkR ?_
     refine ac_thenR ?_
     obtain rfl := Option.some.inj H
     exact acr hE [.tmp 2] (.tmp .nil) (.one _) [] 9999
    rw [if_neg c110] at H
    refine aw_ifF ?_ (decide_eq_false c110)
    refine aw_exit ?_
    refine ac_then ?_
    refine ac_then ?_
    refine ac_hit rfl ?_
    refine ac_next ?_
    refine aw_grp1 ?_
    refine wk_start ?_
    refine kv g0 (asg) ?_
    refine wk_end ?_
    refine ac_next ?_
    refine aw_ret ?_
    obtain rfl := Option.some.inj H
    exact acr hE [.tmp 2] (.tmp .nil) (.one _) [] 9999
   rw [if_neg c6] at H
   refine kx (hF (nT (bF c6))) ?_
   refine kx (hF (nT (bF c6))) ?_
   refine kx (hF (nT (bF c6))) ?_
   refine kx (hF (nT (bF c6))) ?_
   refine kv g0 (pkT (nT (bF c6))) ?_
   refine wk_end ?_
   refine ac_next ?_
   refine aw_ifT ?_ rfl
   refine aw_grp1 ?_
   refine wk_start ?_
   refine kv g0 (asg) ?_
   refine wk_end ?_
   refine ac_next ?_
   refine aw_ret ?_
   refine ac_thenR ?_
   obtain rfl := Option.some.inj H
   exact acr hE [.tmp 2] (.tmp .nil) (.one _) [] 9999
  rw [if_neg c2] at H
  refine kx (hF (eN c2)) ?_
  refine kx (hF (eN c2)) ?_
  refine kx (hF (eN c2)) ?_
  refine kx (hF (eN c2)) ?_
  refine kv g0 (pkT (eN c2)) ?_
  refine kv g0 (mv) ?_
  refine kx (hF rfl) ?_
  refine kx (hF rfl) ?_
  refine kx (hF rfl) ?_
  refine kx (hF rfl) ?_
  refine kx (hF rfl) ?_
  refine kx (hF rfl) ?_
  refine kx (hF rfl) ?_
  refine kv g0 (pkT rfl) ?_
  refine kv g0 (mv) ?_
  refine kx (hF rfl) ?_
  refine kx (hF rfl) ?_
  refine kx (hF rfl) ?_
  refine kx (hF rfl) ?_
  refine kv g0 (pkT rfl) ?_
  refine wk_end ?_
  refine ac_next ?_
  refine aw_ifT ?_ rfl
  refine aw_grp1 ?_
  refine wk_start ?_
  refine kv g0 (asg) ?_
  refine wk_end ?_
  refine ac_next ?_
  refine aw_ret ?_
  refine ac_thenR ?_
  obtain rfl := Option.some.inj H
  exact acr hE [.tmp 2] (.tmp .nil) (.one _) [] 9999
 rw [if_neg c1] at H
 refine kx (hF (eN c1)) ?_
 refine kx (hF (eN c1)) ?_
 refine kx (hF (eN c1)) ?_
 refine kx (hF (eN c1)) ?_
 refine kv g0 (pkT (eN c1)) ?_
 refine kv g0 (mv) ?_
 refine kx (hF rfl) ?_
 refine kx (hF rfl) ?_
 refine kx (hF rfl) ?_
 refine kx (hF rfl) ?_
 refine kv g0 (pkT rfl) ?_
 refine kv g0 (mv) ?_
 refine kx (hF rfl) ?_
 refine kx (hF rfl) ?_
 refine kx (hF rfl) ?_
 refine kx (hF rfl) ?_
 refine kx (hF rfl) ?_
 refine kx (hF rfl) ?_
 refine kx (hF rfl) ?_
 refine kv g0 (pkT rfl) ?_
 refine kv g0 (mv) ?_
 refine kx (hF rfl) ?_
 refine kx (hF rfl) ?_
 refine kx (hF rfl) ?_
 refine kx (hF rfl) ?_
 refine kv g0 (pkT rfl) ?_
 refine wk_end ?_
 refine ac_next ?_
 refine aw_ifT ?_ rfl
 refine aw_grp1 ?_
 refine wk_start ?_
 refine kv g0 (asg) ?_
 refine wk_end ?_
 refine ac_next ?_
 refine aw_ret ?_
 refine ac_thenR ?_
 obtain rfl := Option.some.inj H
 exact acr hE [.tmp 2] (.tmp .nil) (.one _) [] 9999
end Go.Proofs.Ytbapmfjdnnajiaa.PFnExactKeeperOk
