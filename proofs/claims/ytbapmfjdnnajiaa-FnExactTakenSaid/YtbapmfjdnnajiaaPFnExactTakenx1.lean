import Derived.Test.YtbapmfjdnnajiaaPFnExactTakenx0
set_option linter.unusedVariables false
set_option linter.unusedSimpArgs false
set_option maxRecDepth 100000
namespace Go.Proofs.Ytbapmfjdnnajiaa.PFnExactTaken
open Go Go.RowKit Go.Proofs.YtbapmfjdnnajiaaA
/-! laws_szItemS -/
def laws_szItemS.f (l0 : List S178) (a1 : Int) : Option (Int) := if (wrap64 (a1 - (l0.length : Int))) < 0 then some (-1) else some (wrap64 (a1 - (l0.length : Int)))
theorem laws_szItemS.ok {l0 : List S178} {a1 : Int} {r : Int} (H : laws_szItemS.f l0 a1 = some r) : ACalls Try.prog 153 [] [.sl .o 4 (l0.map e178), .lit (.int .i64 a1)] [] (.lit (.int .i64 r)) := by
 refine acalls (fn := Try.f153) (nt := 12) Try.func153 rfl rfl (Nat.le_of_ble_eq_true rfl) fun E hE => ?_
 rw [laws_szItemS.f] at H
 refine aw_grp1 ?_
 refine wk_start ?_
 refine kv g0 (asg) ?_
 refine wk_end ?_
 refine ac_next ?_
 refine aw_grp1 ?_
 refine wk_start ?_
 refine kv g0 (mv) ?_
 refine kv g0 (mv) ?_
 refine kv g0 (lnS lenE) ?_
 refine kv g0 (sub6) ?_
 refine kv g0 (asg) ?_
 refine wk_end ?_
 refine ac_next ?_
 refine aw_grp1 ?_
 refine aw_grp1 ?_
 refine wk_start ?_
 refine kv g0 (mv) ?_
 refine kv g0 (lss) ?_
 refine wk_end ?_
 refine ac_next ?_
 by_cases c1 : (wrap64 (a1 - (l0.length : Int))) < 0
 ·rw [if_pos c1] at H
  refine aw_ifT ?_ (decide_eq_true c1)
  refine aw_grp1 ?_
  refine wk_start ?_
  refine kv g0 (asg) ?_
  refine wk_end ?_
  refine ac_next ?_
  refine aw_ret ?_
  refine ac_thenR ?_
  obtain rfl := Option.some.inj H
  exact acr hE [.tmp 4] (.tmp .nil) (.one _) [] 9999
 rw [if_neg c1] at H
 refine aw_ifF ?_ (decide_eq_false c1)
 refine aw_skip ?_
 refine ac_next ?_
 refine aw_grp1 ?_
 refine wk_start ?_
 refine kv g0 (mv) ?_
 refine kv g0 (asg) ?_
 refine wk_end ?_
 refine ac_next ?_
 refine aw_ret ?_
 obtain rfl := Option.some.inj H
 exact acr hE [.tmp 4] (.tmp .nil) (.one _) [] 9999
/-! laws_szSender -/
def laws_szSender.f (a0_0 : Int) (a0_1 : Int) (l0_2 : List S178) (a0_3 : Int) (a0_4 : Int) (a1 : Int) : Option (Int) := (laws_szItemS.f l0_2 a1).bind fun t1 => if t1 < 0 then some (-1) else some t1
theorem laws_szSender.ok {a0_0 : Int} {a0_1 : Int} {l0_2 : List S178} {a0_3 : Int} {a0_4 : Int} {a1 : Int} {r : Int} (H : laws_szSender.f a0_0 a0_1 l0_2 a0_3 a0_4 a1 = some r) : ACalls Try.prog 68 [] [.agg [.lit (.int .i64 a0_0), .lit (.int .i64 a0_1), .sl .o 4 (l0_2.map e178), .lit (.int .i64 a0_3), .lit (.int .i64 a0_4)], .lit (.int .i64 a1)] [] (.lit (.int .i64 r)) := by
 refine acalls (fn := Try.f68) (nt := 12) Try.func68 rfl rfl (Nat.le_of_ble_eq_true rfl) fun E hE => ?_
 rw [laws_szSender.f] at H
 refine aw_grp1 ?_
 refine wk_start ?_
 refine kb g0 (bxA 0) ?_
 refine kv g0 (asg) ?_
 refine wk_end ?_
 refine ac_next ?_
 refine aw_grp1 ?_
 refine wk_start ?_
 refine kv g0 (faB 2 2) ?_
 refine kv g0 (ldB) ?_
 refine kv g0 (mv) ?_
 obtain ⟨t1, A2, H⟩ := of_bind H
 refine kcS0 8 (.lit (.int .i64 t1)) [] g0 (cal (laws_szItemS.ok A2) [] 9999 .n (hf := Try.func153)) rfl rfl ?_
 refine kv g0 (asg) ?_
 refine wk_end ?_
 refine ac_next ?_
 refine aw_grp1 ?_
 refine aw_grp1 ?_
 refine wk_start ?_
 refine kv g0 (mv) ?_
 refine kv g0 (lss) ?_
 refine wk_end ?_
 refine ac_next ?_
 by_cases c3 : t1 < 0
 ·rw [if_pos c3] at H
  refine aw_ifT ?_ (decide_eq_true c3)
  refine aw_grp1 ?_
  refine wk_start ?_
  refine kv g0 (asg) ?_
  refine wk_end ?_
  refine ac_next ?_
  refine aw_ret ?_
  refine ac_thenR ?_
  obtain rfl := Option.some.inj H
  exact acr hE [.tmp 4] (.tmp .nil) (.one _) [] 9999
 rw [if_neg c3] at H
 refine aw_ifF ?_ (decide_eq_false c3)
 refine aw_skip ?_
 refine ac_next ?_
 refine aw_grp1 ?_
 refine wk_start ?_
 refine kv g0 (mv) ?_
 refine kv g0 (asg) ?_
 refine wk_end ?_
 refine ac_next ?_
 refine aw_ret ?_
 obtain rfl := Option.some.inj H
 exact acr hE [.tmp 4] (.tmp .nil) (.one _) [] 9999
/-! laws_szRing -/
def laws_szRing.f (l0_0 : List S178) (a0_1 : Int) (a0_2 : Int) (a0_3 : Int) (a1 : Int) : Option (Int) := (laws_szItemS.f l0_0 a1).bind fun t1 => if t1 < 0 then some (-1) else some t1
theorem laws_szRing.ok {l0_0 : List S178} {a0_1 : Int} {a0_2 : Int} {a0_3 : Int} {a1 : Int} {r : Int} (H : laws_szRing.f l0_0 a0_1 a0_2 a0_3 a1 = some r) : ACalls Try.prog 69 [] [.agg [.sl .o 4 (l0_0.map e178), .lit (.int .i64 a0_1), .lit (.int .i64 a0_2), .lit (.int .i64 a0_3)], .lit (.int .i64 a1)] [] (.lit (.int .i64 r)) := by
 refine acalls (fn := Try.f69) (nt := 12) Try.func69 rfl rfl (Nat.le_of_ble_eq_true rfl) fun E hE => ?_
 rw [laws_szRing.f] at H
 refine aw_grp1 ?_
 refine wk_start ?_
 refine kb g0 (bxA 0) ?_
 refine kv g0 (asg) ?_
 refine wk_end ?_
 refine ac_next ?_
 refine aw_grp1 ?_
 refine wk_start ?_
 refine kv g0 (faB 0 0) ?_
 refine kv g0 (ldB) ?_
 refine kv g0 (mv) ?_
 obtain ⟨t1, A2, H⟩ := of_bind H
 refine kcS0 8 (.lit (.int .i64 t1)) [] g0 (cal (laws_szItemS.ok A2) [] 9999 .n (hf := Try.func153)) rfl rfl ?_
 refine kv g0 (asg) ?_
 refine wk_end ?_
 refine ac_next ?_
 refine aw_grp1 ?_
 refine aw_grp1 ?_
 refine wk_start ?_
 refine kv g0 (mv) ?_
 refine kv g0 (lss) ?_
 refine wk_end ?_
 refine ac_next ?_
 by_cases c3 : t1 < 0
 ·rw [if_pos c3] at H
  refine aw_ifT ?_ (decide_eq_true c3)
  refine aw_grp1 ?_
  refine wk_start ?_
  refine kv g0 (asg) ?_
  refine wk_end ?_
  refine ac_next ?_
  refine aw_ret ?_
  refine ac_thenR ?_
  obtain rfl := Option.some.inj H
  exact acr hE [.tmp 4] (.tmp .nil) (.one _) [] 9999
 rw [if_neg c3] at H
 refine aw_ifF ?_ (decide_eq_false c3)
 refine aw_skip ?_
 refine ac_next ?_
 refine aw_grp1 ?_
 refine wk_start ?_
 refine kv g0 (mv) ?_
 refine kv g0 (asg) ?_
 refine wk_end ?_
 refine ac_next ?_
 refine aw_ret ?_
 obtain rfl := Option.some.inj H
 exact acr hE [.tmp 4] (.tmp .nil) (.one _) [] 9999
/-! laws_toItem -/
def laws_toItem.f (a0_0 : Int) (a0_1 : Int) (a0_2 : Int) (a0_3 : Int) : Option (Int × Int × Int × Int) := some (a0_0, a0_1, a0_2, a0_3)
theorem laws_toItem.ok {a0_0 : Int} {a0_1 : Int} {a0_2 : Int} {a0_3 : Int} {r : Int × Int × Int × Int} (H : laws_toItem.f a0_0 a0_1 a0_2 a0_3 = some r) : ACalls Try.prog 184 [] [.agg [.lit (.int .i64 a0_0), .lit (.int .i64 a0_1), .lit (.int .i64 a0_2), .lit (.int .i64 a0_3)]] [] (.agg [.lit (.int .i64 r.1), .lit (.int .i64 r.2.1), .lit (.int .i64 r.2.2.1), .lit (.int .i64 r.2.2.2)]) := by
 refine acalls (fn := Try.f184) (nt := 17) Try.func184 rfl rfl (Nat.le_of_ble_eq_true rfl) fun E hE => ?_
 rw [laws_toItem.f] at H
 refine aw_grp1 ?_
 refine wk_start ?_
 refine kb g0 (bxA 0) ?_
 refine kb g0 (alc 1 [.int .i64 0, .int .i64 0, .int .i64 0, .int .i64 0] [.lit (.int .i64 0), .lit (.int .i64 0), .lit (.int .i64 0), .lit (.int .i64 0)]) ?_
 refine wk_end ?_
 refine ac_next ?_
 refine aw_grp1 ?_
 refine wk_start ?_
 refine kb g0 (alc 2 [.int .i64 0, .int .i64 0, .int .i64 0, .int .i64 0] [.lit (.int .i64 0), .lit (.int .i64 0), .lit (.int .i64 0), .lit (.int .i64 0)]) ?_
 refine wk_end ?_
 refine ac_next ?_
 refine aw_grp1 ?_
 refine wk_start ?_
 refine kv g0 (faB 0 0) ?_
 refine kv g0 (ldB) ?_
 refine kv g0 (faB 0 0) ?_
 refine ks g0 (stB 1 [.lit (.int .i64 a0_0), .lit (.int .i64 0), .lit (.int .i64 0), .lit (.int .i64 0)]) ?_
 refine wk_end ?_
 refine ac_next ?_
 refine aw_grp1 ?_
 refine wk_start ?_
 refine kv g0 (faB 1 1) ?_
 refine kv g0 (ldB) ?_
 refine kv g0 (faB 1 1) ?_
 refine ks g0 (stB 1 [.lit (.int .i64 a0_0), .lit (.int .i64 a0_1), .lit (.int .i64 0), .lit (.int .i64 0)]) ?_
 refine wk_end ?_
 refine ac_next ?_
 refine aw_grp1 ?_
 refine wk_start ?_
 refine kv g0 (faB 2 2) ?_
 refine kv g0 (ldB) ?_
 refine kv g0 (faB 2 2) ?_
 refine ks g0 (stB 1 [.lit (.int .i64 a0_0), .lit (.int .i64 a0_1), .lit (.int .i64 a0_2), .lit (.int .i64 0)]) ?_
 refine wk_end ?_
 refine ac_next ?_
 refine aw_grp1 ?_
 refine wk_start ?_
 refine kv g0 (faB 3 3) ?_
 refine kv g0 (ldB) ?_
 refine kv g0 (faB 3 3) ?_
 refine ks g0 (stB 1 [.lit (.int .i64 a0_0), .lit (.int .i64 a0_1), .lit (.int .i64 a0_2), .lit (.int .i64 a0_3)]) ?_
 refine wk_end ?_
 refine ac_next ?_
 refine aw_grp1 ?_
 refine wk_start ?_
 refine kv g0 (ldBA 4 [.lit (.int .i64 a0_0), .lit (.int .i64 a0_1), .lit (.int .i64 a0_2), .lit (.int .i64 a0_3)]) ?_
 refine ks g0 (stB 4 [.lit (.int .i64 a0_0), .lit (.int .i64 a0_1), .lit (.int .i64 a0_2), .lit (.int .i64 a0_3)]) ?_
 refine wk_end ?_
 refine ac_next ?_
 refine aw_ret ?_
 obtain rfl := Option.some.inj H
 exact acr hE [.cell 2 43] (rcA 4 .nil) (.one _) [] 9999
/-! laws_toItemS -/
def laws_toItemS.l0 : Nat → (List S178) → (List S43) → Int → Option ((List S43))
 | 0, _, _, _ => none
 | k10 + 1, l0, q8, p9 => if p9 < (l0.length : Int) then if 0 ≤ p9 then ((laws_toItem.f ((rd_T178 l0 p9).f0) ((rd_T178 l0 p9).f1) ((rd_T178 l0 p9).f2) ((rd_T178 l0 p9).f3)).bind fun t13 => (if p9 < (q8.length : Int) then laws_toItemS.l0 k10 l0 (q8.set p9.toNat (⟨t13.1, t13.2.1, t13.2.2.1, t13.2.2.2⟩ : S43)) (wrap64 (p9 + 1)) else none)) else none else some q8
def laws_toItemS.f (k : Nat) (l0 : List S178) : Option ((List S43)) := if 0 ≤ (l0.length : Int) then (if (l0.length : Int).toNat ≤ 8796093022208 then laws_toItemS.l0 k l0 (List.replicate (l0.length : Int).toNat z43) 0 else none) else none
theorem laws_toItemS.ok {k : Nat} {l0 : List S178} {r : (List S43)} (H : laws_toItemS.f k l0 = some r) : ACalls Try.prog 154 [] [.sl .o 4 (l0.map e178)] [(0, .row 43 4 (r.map e43))] (.row 0) := by
 refine acalls (fn := Try.f154) (nt := 23) Try.func154 rfl rfl (Nat.le_of_ble_eq_true rfl) fun E hE => ?_
 rw [laws_toItemS.f] at H
 refine aw_grp1 ?_
 refine wk_start ?_
 refine kv g0 (asg) ?_
 refine wk_end ?_
 refine ac_next ?_
 refine aw_grp1 ?_
 refine wk_start ?_
 refine kv g0 (mv) ?_
 refine kv g0 (lnS lenE) ?_
 obtain ⟨c1, H⟩ := of_if H
 obtain ⟨c2, H⟩ := of_if H
 refine kb g0 (mks 0 43 4 32 [.int .i64 0, .int .i64 0, .int .i64 0, .int .i64 0] (e43 z43) ((List.replicate (l0.length : Int).toNat z43).map e43) c1 (mkb c2 rfl) repE) ?_
 refine kv g0 (asg) ?_
 refine wk_end ?_
 refine ac_next ?_
 refine aw_grp1 ?_
 refine aw_grp1 ?_
 refine wk_start ?_
 refine kv g0 (asg) ?_
 refine wk_end ?_
 refine ac_next ?_
 refine aw_block ?_
 refine aw_loop2 (fun (k_ : Nat) (q8 : List S43) (p9 : Int) => k_ ≤ k ∧ laws_toItemS.l0 k_ l0 q8 p9 = some r) (fun (q8 : List S43) (p9 : Int) => ⟨[(0, .sl .o 4 (l0.map e178)), (3, .row 0), (4, .lit (.int .i64 p9))], [(0, .row 43 4 (q8.map e43))]⟩) k (List.replicate (l0.length : Int).toNat z43) 0 ⟨Nat.le_refl _, H⟩ (fun K_ h_ => acw hE [(0, 0)] 9999 h_) (fun _ _ => by intro h_; have h_ := h_.2; rw [laws_toItemS.l0.eq_1] at h_; cases h_) ?_
 intro k10 q8 p9 hq_ K16 hK17
 have hk10 := hq_.1
 have H := hq_.2
 clear hq_
 rw [laws_toItemS.l0.eq_2] at H
 refine aw_grp1 ?_
 refine aw_grp1 ?_
 refine wk_start ?_
 refine kv g0 (mv) ?_
 refine kv g0 (mv) ?_
 refine kv g0 (lnS lenE) ?_
 refine kv g0 (lss) ?_
 refine wk_end ?_
 refine ac_next ?_
 by_cases c11 : p9 < (l0.length : Int)
 ·rw [if_pos c11] at H
  refine aw_ifT ?_ (decide_eq_true c11)
  refine aw_skip ?_
  refine ac_next ?_
  refine aw_grp1 ?_
  refine aw_block ?_
  refine wk_start ?_
  refine kv g0 (mv) ?_
  refine kv g0 (mv) ?_
  refine kv g0 (mv) ?_
  refine kv g0 (mv) ?_
  obtain ⟨c12, H⟩ := of_if H
  refine kv g0 (ixS 178 (e178 (rd_T178 l0 p9)) c12 (getE (z := z178) c12 c11)) ?_
  refine kv g0 (ldRA 4 [.lit (.int .i64 ((rd_T178 l0 p9).f0)), .lit (.int .i64 ((rd_T178 l0 p9).f1)), .lit (.int .i64 ((rd_T178 l0 p9).f2)), .lit (.int .i64 ((rd_T178 l0 p9).f3))]) ?_
  obtain ⟨t13, A14, H⟩ := of_bind H
  refine kcS0 20 (.agg [.lit (.int .i64 t13.1), .lit (.int .i64 t13.2.1), .lit (.int .i64 t13.2.2.1), .lit (.int .i64 t13.2.2.2)]) [] g0 (cal (laws_toItem.ok A14) [] 9999 .n (hf := Try.func184)) rfl rfl ?_
  obtain ⟨c15, H⟩ := of_if H
  refine kv g0 (ixR 43 c12 (ltE c15)) ?_
  refine ks g0 (stE 4 (e43 (⟨t13.1, t13.2.1, t13.2.2.1, t13.2.2.2⟩ : S43)) ((q8.set p9.toNat (⟨t13.1, t13.2.1, t13.2.2.1, t13.2.2.2⟩ : S43)).map e43) (getE (z := z43) c12 c15) setE) ?_
  refine wk_end ?_
  refine ac_blkN ?_
  refine ac_next ?_
  refine wk_start ?_
  refine kv g0 (mv) ?_
  refine kv g0 (add6) ?_
  refine kv g0 (asg) ?_
  refine wk_end ?_
  refine ac_k ?_
  exact acw hE [(0, 0)] 9999 (hK17 k10 (q8.set p9.toNat (⟨t13.1, t13.2.1, t13.2.2.1, t13.2.2.2⟩ : S43)) (wrap64 (p9 + 1)) (Nat.le_refl _) ⟨by omega, H⟩)
 rw [if_neg c11] at H
 refine aw_ifF ?_ (decide_eq_false c11)
 refine aw_exit ?_
 refine ac_then ?_
 refine ac_then ?_
 refine ac_hit rfl ?_
 refine ac_next ?_
 refine aw_grp1 ?_
 refine wk_start ?_
 refine kv g0 (mv) ?_
 refine kv g0 (asg) ?_
 refine wk_end ?_
 refine ac_next ?_
 refine aw_ret ?_
 obtain rfl := Option.some.inj H
 exact acr hE [.tmp 2] (.tmp .nil) (.one _) [(0, 0)] 9999
/-! laws_toSender -/
def laws_toSender.f (k : Nat) (a0_0 : Int) (a0_1 : Int) (l0_2 : List S178) (a0_3 : Int) (a0_4 : Int) : Option (Int × Int × (List S43) × Int × Int) := (laws_toItemS.f k l0_2).bind fun t1 => some (a0_0, a0_1, t1, a0_3, a0_4)
theorem laws_toSender.ok {k : Nat} {a0_0 : Int} {a0_1 : Int} {l0_2 : List S178} {a0_3 : Int} {a0_4 : Int} {r : Int × Int × (List S43) × Int × Int} (H : laws_toSender.f k a0_0 a0_1 l0_2 a0_3 a0_4 = some r) : ACalls Try.prog 70 [] [.agg [.lit (.int .i64 a0_0), .lit (.int .i64 a0_1), .sl .o 4 (l0_2.map e178), .lit (.int .i64 a0_3), .lit (.int .i64 a0_4)]] [(0, .row 43 4 (r.2.2.1.map e43))] (.agg [.lit (.int .i64 r.1), .lit (.int .i64 r.2.1), .row 0, .lit (.int .i64 r.2.2.2.1), .lit (.int .i64 r.2.2.2.2)]) := by
 refine acalls (fn := Try.f70) (nt := 21) Try.func70 rfl rfl (Nat.le_of_ble_eq_true rfl) fun E hE => ?_
 rw [laws_toSender.f] at H
 refine aw_grp1 ?_
 refine wk_start ?_
 refine kb g0 (bxA 0) ?_
 refine kb g0 (alc 1 [.int .i64 0, .int .i64 0, .slice none 0 0, .int .i64 0, .int .i64 0] [.lit (.int .i64 0), .lit (.int .i64 0), .lit (.slice none 0 0), .lit (.int .i64 0), .lit (.int .i64 0)]) ?_
 refine wk_end ?_
 refine ac_next ?_
 refine aw_grp1 ?_
 refine wk_start ?_
 refine kb g0 (alc 2 [.int .i64 0, .int .i64 0, .slice none 0 0, .int .i64 0, .int .i64 0] [.lit (.int .i64 0), .lit (.int .i64 0), .lit (.slice none 0 0), .lit (.int .i64 0), .lit (.int .i64 0)]) ?_
 refine wk_end ?_
 refine ac_next ?_
 refine aw_grp1 ?_
 refine wk_start ?_
 refine kv g0 (faB 0 0) ?_
 refine kv g0 (ldB) ?_
 refine kv g0 (faB 0 0) ?_
 refine ks g0 (stB 1 [.lit (.int .i64 a0_0), .lit (.int .i64 0), .lit (.slice none 0 0), .lit (.int .i64 0), .lit (.int .i64 0)]) ?_
 refine wk_end ?_
 refine ac_next ?_
 refine aw_grp1 ?_
 refine wk_start ?_
 refine kv g0 (faB 1 1) ?_
 refine kv g0 (ldB) ?_
 refine kv g0 (faB 1 1) ?_
 refine ks g0 (stB 1 [.lit (.int .i64 a0_0), .lit (.int .i64 a0_1), .lit (.slice none 0 0), .lit (.int .i64 0), .lit (.int .i64 0)]) ?_
 refine wk_end ?_
 refine ac_next ?_
 refine aw_grp1 ?_
 refine wk_start ?_
 refine kv g0 (faB 2 2) ?_
 refine kv g0 (ldB) ?_
 obtain ⟨t1, A2, H⟩ := of_bind H
 refine kcS1 12 (.row 3) [(3, .row 43 4 (t1.map e43))] g0 (cal (laws_toItemS.ok A2) [3] 9999 .n (hf := Try.func154)) rfl rfl ?_
 refine kv g0 (faB 2 2) ?_
 refine ks g0 (stB 1 [.lit (.int .i64 a0_0), .lit (.int .i64 a0_1), .row 3, .lit (.int .i64 0), .lit (.int .i64 0)]) ?_
 refine wk_end ?_
 refine ac_next ?_
 refine aw_grp1 ?_
 refine wk_start ?_
 refine kv g0 (faB 3 3) ?_
 refine kv g0 (ldB) ?_
 refine kv g0 (faB 3 3) ?_
 refine ks g0 (stB 1 [.lit (.int .i64 a0_0), .lit (.int .i64 a0_1), .row 3, .lit (.int .i64 a0_3), .lit (.int .i64 0)]) ?_
 refine wk_end ?_
 refine ac_next ?_
 refine aw_grp1 ?_
 refine wk_start ?_
 refine kv g0 (faB 4 4) ?_
 refine kv g0 (ldB) ?_
 refine kv g0 (faB 4 4) ?_
 refine ks g0 (stB 1 [.lit (.int .i64 a0_0), .lit (.int .i64 a0_1), .row 3, .lit (.int .i64 a0_3), .lit (.int .i64 a0_4)]) ?_
 refine wk_end ?_
 refine ac_next ?_
 refine aw_grp1 ?_
 refine wk_start ?_
 refine kv g0 (ldBA 5 [.lit (.int .i64 a0_0), .lit (.int .i64 a0_1), .row 3, .lit (.int .i64 a0_3), .lit (.int .i64 a0_4)]) ?_
 refine ks g0 (stB 5 [.lit (.int .i64 a0_0), .lit (.int .i64 a0_1), .row 3, .lit (.int .i64 a0_3), .lit (.int .i64 a0_4)]) ?_
 refine wk_end ?_
 refine ac_next ?_
 refine aw_ret ?_
 obtain rfl := Option.some.inj H
 exact acr hE [.cell 2 78] (rcA 5 .nil) (.one _) [(0, 3)] 9999
/-! laws_toRing -/
def laws_toRing.f (k : Nat) (l0_0 : List S178) (a0_1 : Int) (a0_2 : Int) (a0_3 : Int) : Option ((List S43) × Int × Int × Int) := (laws_toItemS.f k l0_0).bind fun t1 => some (t1, a0_1, a0_2, a0_3)
theorem laws_toRing.ok {k : Nat} {l0_0 : List S178} {a0_1 : Int} {a0_2 : Int} {a0_3 : Int} {r : (List S43) × Int × Int × Int} (H : laws_toRing.f k l0_0 a0_1 a0_2 a0_3 = some r) : ACalls Try.prog 71 [] [.agg [.sl .o 4 (l0_0.map e178), .lit (.int .i64 a0_1), .lit (.int .i64 a0_2), .lit (.int .i64 a0_3)]] [(0, .row 43 4 (r.1.map e43))] (.agg [.row 0, .lit (.int .i64 r.2.1), .lit (.int .i64 r.2.2.1), .lit (.int .i64 r.2.2.2)]) := by
 refine acalls (fn := Try.f71) (nt := 18) Try.func71 rfl rfl (Nat.le_of_ble_eq_true rfl) fun E hE => ?_
 rw [laws_toRing.f] at H
 refine aw_grp1 ?_
 refine wk_start ?_
 refine kb g0 (bxA 0) ?_
 refine kb g0 (alc 1 [.slice none 0 0, .int .i64 0, .int .i64 0, .int .i64 0] [.lit (.slice none 0 0), .lit (.int .i64 0), .lit (.int .i64 0), .lit (.int .i64 0)]) ?_
 refine wk_end ?_
 refine ac_next ?_
 refine aw_grp1 ?_
 refine wk_start ?_
 refine kb g0 (alc 2 [.slice none 0 0, .int .i64 0, .int .i64 0, .int .i64 0] [.lit (.slice none 0 0), .lit (.int .i64 0), .lit (.int .i64 0), .lit (.int .i64 0)]) ?_
 refine wk_end ?_
 refine ac_next ?_
 refine aw_grp1 ?_
 refine wk_start ?_
 refine kv g0 (faB 0 0) ?_
 refine kv g0 (ldB) ?_
 obtain ⟨t1, A2, H⟩ := of_bind H
 refine kcS1 6 (.row 3) [(3, .row 43 4 (t1.map e43))] g0 (cal (laws_toItemS.ok A2) [3] 9999 .n (hf := Try.func154)) rfl rfl ?_
 refine kv g0 (faB 0 0) ?_
 refine ks g0 (stB 1 [.row 3, .lit (.int .i64 0), .lit (.int .i64 0), .lit (.int .i64 0)]) ?_
 refine wk_end ?_
 refine ac_next ?_
 refine aw_grp1 ?_
 refine wk_start ?_
 refine kv g0 (faB 1 1) ?_
 refine kv g0 (ldB) ?_
 refine kv g0 (faB 1 1) ?_
 refine ks g0 (stB 1 [.row 3, .lit (.int .i64 a0_1), .lit (.int .i64 0), .lit (.int .i64 0)]) ?_
 refine wk_end ?_
 refine ac_next ?_
 refine aw_grp1 ?_
 refine wk_start ?_
 refine kv g0 (faB 2 2) ?_
 refine kv g0 (ldB) ?_
 refine kv g0 (faB 2 2) ?_
 refine ks g0 (stB 1 [.row 3, .lit (.int .i64 a0_1), .lit (.int .i64 a0_2), .lit (.int .i64 0)]) ?_
 refine wk_end ?_
 refine ac_next ?_
 refine aw_grp1 ?_
 refine wk_start ?_
 refine kv g0 (faB 3 3) ?_
 refine kv g0 (ldB) ?_
 refine kv g0 (faB 3 3) ?_
 refine ks g0 (stB 1 [.row 3, .lit (.int .i64 a0_1), .lit (.int .i64 a0_2), .lit (.int .i64 a0_3)]) ?_
 refine wk_end ?_
 refine ac_next ?_
 refine aw_grp1 ?_
 refine wk_start ?_
 refine kv g0 (ldBA 4 [.row 3, .lit (.int .i64 a0_1), .lit (.int .i64 a0_2), .lit (.int .i64 a0_3)]) ?_
 refine ks g0 (stB 4 [.row 3, .lit (.int .i64 a0_1), .lit (.int .i64 a0_2), .lit (.int .i64 a0_3)]) ?_
 refine wk_end ?_
 refine ac_next ?_
 refine aw_ret ?_
 obtain rfl := Option.some.inj H
 exact acr hE [.cell 2 88] (rcA 4 .nil) (.one _) [(0, 3)] 9999
/-! spec_l18Copy -/
def spec_l18Copy.f (a0_0 : Int) (a0_1 : Int) (l0_2 : List S43) (a0_3 : Int) (a0_4 : Int) : Option (Int × Int × (List S43) × Int × Int) := if ([] : List S43).length + l0_2.length < 4398046511104 then some (a0_0, a0_1, ([] : List S43) ++ l0_2, a0_3, a0_4) else none
theorem spec_l18Copy.ok {a0_0 : Int} {a0_1 : Int} {l0_2 : List S43} {a0_3 : Int} {a0_4 : Int} {r : Int × Int × (List S43) × Int × Int} (H : spec_l18Copy.f a0_0 a0_1 l0_2 a0_3 a0_4 = some r) : ACalls Try.prog 135 [] [.agg [.lit (.int .i64 a0_0), .lit (.int .i64 a0_1), .sl .o 4 (l0_2.map e43), .lit (.int .i64 a0_3), .lit (.int .i64 a0_4)]] [(0, .row 43 4 (r.2.2.1.map e43))] (.agg [.lit (.int .i64 r.1), .lit (.int .i64 r.2.1), .row 0, .lit (.int .i64 r.2.2.2.1), .lit (.int .i64 r.2.2.2.2)]) := by
 refine acalls (fn := Try.f135) (nt := 11) Try.func135 rfl rfl (Nat.le_of_ble_eq_true rfl) fun E hE => ?_
 rw [spec_l18Copy.f] at H
 refine aw_grp1 ?_
 refine wk_start ?_
 refine kb g0 (bxA 0) ?_
 refine kb g0 (alc 1 [.int .i64 0, .int .i64 0, .slice none 0 0, .int .i64 0, .int .i64 0] [.lit (.int .i64 0), .lit (.int .i64 0), .lit (.slice none 0 0), .lit (.int .i64 0), .lit (.int .i64 0)]) ?_
 refine wk_end ?_
 refine ac_next ?_
 refine aw_grp1 ?_
 refine wk_start ?_
 refine kv g0 (ldBA 5 [.lit (.int .i64 a0_0), .lit (.int .i64 a0_1), .sl .o 4 (l0_2.map e43), .lit (.int .i64 a0_3), .lit (.int .i64 a0_4)]) ?_
 refine kb g0 (alc 2 [.int .i64 0, .int .i64 0, .slice none 0 0, .int .i64 0, .int .i64 0] [.lit (.int .i64 0), .lit (.int .i64 0), .lit (.slice none 0 0), .lit (.int .i64 0), .lit (.int .i64 0)]) ?_
 refine ks g0 (stB 5 [.lit (.int .i64 a0_0), .lit (.int .i64 a0_1), .sl .o 4 (l0_2.map e43), .lit (.int .i64 a0_3), .lit (.int .i64 a0_4)]) ?_
 refine wk_end ?_
 refine ac_next ?_
 refine aw_grp1 ?_
 refine wk_start ?_
 refine kb g0 (bsl 3 43 4 [.int .i64 0, .int .i64 0, .int .i64 0, .int .i64 0] (([] : List S43).map e43)) ?_
 refine kv g0 (faB 2 2) ?_
 refine kv g0 (ldB) ?_
 obtain ⟨c1, H⟩ := of_if H
 refine kc g0 (apR 4 43 4 32 [.int .i64 0, .int .i64 0, .int .i64 0, .int .i64 0] ((([] : List S43) ++ l0_2).map e43) (.slF (fl43)) (apb c1 rfl) appE) ?_
 refine kv g0 (faB 2 2) ?_
 refine ks g0 (stB 1 [.lit (.int .i64 a0_0), .lit (.int .i64 a0_1), .row 4, .lit (.int .i64 a0_3), .lit (.int .i64 a0_4)]) ?_
 refine wk_end ?_
 refine ac_next ?_
 refine aw_grp1 ?_
 refine wk_start ?_
 refine kv g0 (ldBA 5 [.lit (.int .i64 a0_0), .lit (.int .i64 a0_1), .row 4, .lit (.int .i64 a0_3), .lit (.int .i64 a0_4)]) ?_
 refine ks g0 (stB 5 [.lit (.int .i64 a0_0), .lit (.int .i64 a0_1), .row 4, .lit (.int .i64 a0_3), .lit (.int .i64 a0_4)]) ?_
 refine wk_end ?_
 refine ac_next ?_
 refine aw_ret ?_
 obtain rfl := Option.some.inj H
 exact acr hE [.cell 2 78] (rcA 5 .nil) (.one _) [(0, 4)] 9999
/-! spec_l16Copy -/
def spec_l16Copy.f (l0_0 : List S43) (a0_1 : Int) (a0_2 : Int) (a0_3 : Int) : Option ((List S43) × Int × Int × Int) := if ([] : List S43).length + l0_0.length < 4398046511104 then some (([] : List S43) ++ l0_0, a0_1, a0_2, a0_3) else none
theorem spec_l16Copy.ok {l0_0 : List S43} {a0_1 : Int} {a0_2 : Int} {a0_3 : Int} {r : (List S43) × Int × Int × Int} (H : spec_l16Copy.f l0_0 a0_1 a0_2 a0_3 = some r) : ACalls Try.prog 138 [] [.agg [.sl .o 4 (l0_0.map e43), .lit (.int .i64 a0_1), .lit (.int .i64 a0_2), .lit (.int .i64 a0_3)]] [(0, .row 43 4 (r.1.map e43))] (.agg [.row 0, .lit (.int .i64 r.2.1), .lit (.int .i64 r.2.2.1), .lit (.int .i64 r.2.2.2)]) := by
 refine acalls (fn := Try.f138) (nt := 11) Try.func138 rfl rfl (Nat.le_of_ble_eq_true rfl) fun E hE => ?_
 rw [spec_l16Copy.f] at H
 refine aw_grp1 ?_
 refine wk_start ?_
 refine kb g0 (bxA 0) ?_
 refine kb g0 (alc 1 [.slice none 0 0, .int .i64 0, .int .i64 0, .int .i64 0] [.lit (.slice none 0 0), .lit (.int .i64 0), .lit (.int .i64 0), .lit (.int .i64 0)]) ?_
 refine wk_end ?_
 refine ac_next ?_
 refine aw_grp1 ?_
 refine wk_start ?_
 refine kv g0 (ldBA 4 [.sl .o 4 (l0_0.map e43), .lit (.int .i64 a0_1), .lit (.int .i64 a0_2), .lit (.int .i64 a0_3)]) ?_
 refine kb g0 (alc 2 [.slice none 0 0, .int .i64 0, .int .i64 0, .int .i64 0] [.lit (.slice none 0 0), .lit (.int .i64 0), .lit (.int .i64 0), .lit (.int .i64 0)]) ?_
 refine ks g0 (stB 4 [.sl .o 4 (l0_0.map e43), .lit (.int .i64 a0_1), .lit (.int .i64 a0_2), .lit (.int .i64 a0_3)]) ?_
 refine wk_end ?_
 refine ac_next ?_
 refine aw_grp1 ?_
 refine wk_start ?_
 refine kb g0 (bsl 3 43 4 [.int .i64 0, .int .i64 0, .int .i64 0, .int .i64 0] (([] : List S43).map e43)) ?_
 refine kv g0 (faB 0 0) ?_
 refine kv g0 (ldB) ?_
 obtain ⟨c1, H⟩ := of_if H
 refine kc g0 (apR 4 43 4 32 [.int .i64 0, .int .i64 0, .int .i64 0, .int .i64 0] ((([] : List S43) ++ l0_0).map e43) (.slF (fl43)) (apb c1 rfl) appE) ?_
 refine kv g0 (faB 0 0) ?_
 refine ks g0 (stB 1 [.row 4, .lit (.int .i64 a0_1), .lit (.int .i64 a0_2), .lit (.int .i64 a0_3)]) ?_
 refine wk_end ?_
 refine ac_next ?_
 refine aw_grp1 ?_
 refine wk_start ?_
 refine kv g0 (ldBA 4 [.row 4, .lit (.int .i64 a0_1), .lit (.int .i64 a0_2), .lit (.int .i64 a0_3)]) ?_
 refine ks g0 (stB 4 [.row 4, .lit (.int .i64 a0_1), .lit (.int .i64 a0_2), .lit (.int .i64 a0_3)]) ?_
 refine wk_end ?_
 refine ac_next ?_
 refine aw_ret ?_
 obtain rfl := Option.some.inj H
 exact acr hE [.cell 2 88] (rcA 4 .nil) (.one _) [(0, 4)] 9999
/-! spec_Drained -/
def spec_Drained.f (l0_0 : List S43) (a0_1 : Int) (a0_2 : Int) (a0_3 : Int) : Option ((List S43) × Int × Int × Int × Int × Int × Int × Int × Bool) := (spec_l16Copy.f l0_0 a0_1 a0_2 a0_3).bind fun t1 => if (l0_0.length : Int) > 0 then (if 0 < (l0_0.length : Int) then if 1 ≤ (l0_0.length : Int) then (if ([] : List S43).length + (l0_0.drop 1).length < 4398046511104 then some (([] : List S43) ++ (l0_0.drop 1), t1.2.1, t1.2.2.1, t1.2.2.2, (rd_T43 l0_0 0).f0, (rd_T43 l0_0 0).f1, (rd_T43 l0_0 0).f2, (rd_T43 l0_0 0).f3, true) else none) else none else none) else if a0_2 = 0 then some (t1.1, t1.2.1, t1.2.2.1, t1.2.2.2, 0, 0, 0, 0, false) else some (t1.1, t1.2.1, 0, t1.2.2.2, 2, 0, 0, a0_2, true)
theorem spec_Drained.ok {l0_0 : List S43} {a0_1 : Int} {a0_2 : Int} {a0_3 : Int} {r : (List S43) × Int × Int × Int × Int × Int × Int × Int × Bool} (H : spec_Drained.f l0_0 a0_1 a0_2 a0_3 = some r) : ACalls Try.prog 136 [] [.agg [.sl .o 4 (l0_0.map e43), .lit (.int .i64 a0_1), .lit (.int .i64 a0_2), .lit (.int .i64 a0_3)]] [(0, .row 43 4 (r.1.map e43))] (.tup [.agg [.row 0, .lit (.int .i64 r.2.1), .lit (.int .i64 r.2.2.1), .lit (.int .i64 r.2.2.2.1)], .agg [.lit (.int .i64 r.2.2.2.2.1), .lit (.int .i64 r.2.2.2.2.2.1), .lit (.int .i64 r.2.2.2.2.2.2.1), .lit (.int .i64 r.2.2.2.2.2.2.2.1)], .lit (.bool r.2.2.2.2.2.2.2.2)]) := by
 refine acalls (fn := Try.f136) (nt := 35) Try.func136 rfl rfl (Nat.le_of_ble_eq_true rfl) fun E hE => ?_
 rw [spec_Drained.f] at H
 refine aw_grp1 ?_
 refine wk_start ?_
 refine kb g0 (bxA 0) ?_
 refine kb g0 (alc 1 [.slice none 0 0, .int .i64 0, .int .i64 0, .int .i64 0] [.lit (.slice none 0 0), .lit (.int .i64 0), .lit (.int .i64 0), .lit (.int .i64 0)]) ?_
 refine kb g0 (alc 2 [.int .i64 0, .int .i64 0, .int .i64 0, .int .i64 0] [.lit (.int .i64 0), .lit (.int .i64 0), .lit (.int .i64 0), .lit (.int .i64 0)]) ?_
 refine kv g0 (asg) ?_
 refine wk_end ?_
 refine ac_next ?_
 refine aw_grp1 ?_
 refine wk_start ?_
 refine kv g0 (ldBA 4 [.sl .o 4 (l0_0.map e43), .lit (.int .i64 a0_1), .lit (.int .i64 a0_2), .lit (.int .i64 a0_3)]) ?_
 obtain ⟨t1, A2, H⟩ := of_bind H
 refine kcS1 8 (.agg [.row 3, .lit (.int .i64 t1.2.1), .lit (.int .i64 t1.2.2.1), .lit (.int .i64 t1.2.2.2)]) [(3, .row 43 4 (t1.1.map e43))] g0 (cal (spec_l16Copy.ok A2) [3] 9999 .n (hf := Try.func138)) rfl rfl ?_
 refine kb g0 (alc 4 [.slice none 0 0, .int .i64 0, .int .i64 0, .int .i64 0] [.lit (.slice none 0 0), .lit (.int .i64 0), .lit (.int .i64 0), .lit (.int .i64 0)]) ?_
 refine ks g0 (stB 4 [.row 3, .lit (.int .i64 t1.2.1), .lit (.int .i64 t1.2.2.1), .lit (.int .i64 t1.2.2.2)]) ?_
 refine wk_end ?_
 refine ac_next ?_
 refine aw_grp1 ?_
 refine aw_grp1 ?_
 refine wk_start ?_
 refine kv g0 (faB 0 0) ?_
 refine kv g0 (ldB) ?_
 refine kv g0 (lnS lenE) ?_
 refine kv g0 (gtr) ?_
 refine wk_end ?_
 refine ac_next ?_
 by_cases c3 : (l0_0.length : Int) > 0
 ·rw [if_pos c3] at H
  refine aw_ifT ?_ (decide_eq_true c3)
  refine aw_grp1 ?_
  refine wk_start ?_
  refine kv g0 (faB 0 0) ?_
  refine kv g0 (ldB) ?_
  obtain ⟨c4, H⟩ := of_if H
  refine kv g0 (ixS 43 (e43 (rd_T43 l0_0 0)) (by decide : (0 : Int) ≤ 0) (getE (z := z43) (by decide : (0 : Int) ≤ 0) c4)) ?_
  refine kv g0 (ldRA 4 [.lit (.int .i64 ((rd_T43 l0_0 0).f0)), .lit (.int .i64 ((rd_T43 l0_0 0).f1)), .lit (.int .i64 ((rd_T43 l0_0 0).f2)), .lit (.int .i64 ((rd_T43 l0_0 0).f3))]) ?_
  refine kb g0 (alc 5 [.int .i64 0, .int .i64 0, .int .i64 0, .int .i64 0] [.lit (.int .i64 0), .lit (.int .i64 0), .lit (.int .i64 0), .lit (.int .i64 0)]) ?_
  refine ks g0 (stB 4 [.lit (.int .i64 ((rd_T43 l0_0 0).f0)), .lit (.int .i64 ((rd_T43 l0_0 0).f1)), .lit (.int .i64 ((rd_T43 l0_0 0).f2)), .lit (.int .i64 ((rd_T43 l0_0 0).f3))]) ?_
  refine wk_end ?_
  refine ac_next ?_
  refine aw_grp1 ?_
  refine wk_start ?_
  refine kb g0 (bsl 6 43 4 [.int .i64 0, .int .i64 0, .int .i64 0, .int .i64 0] (([] : List S43).map e43)) ?_
  refine kv g0 (faB 0 0) ?_
  refine kv g0 (ldB) ?_
  obtain ⟨c5, H⟩ := of_if H
  refine kv g0 (slL 43 (by decide : (0 : Int) ≤ 1) c5) ?_
  obtain ⟨c6, H⟩ := of_if H
  refine kc g0 (apR 7 43 4 32 [.int .i64 0, .int .i64 0, .int .i64 0, .int .i64 0] ((([] : List S43) ++ (l0_0.drop 1)).map e43) (.slF (fl43)) (apb c6 rfl) appE) ?_
  refine kv g0 (faB 0 0) ?_
  refine ks g0 (stB 1 [.row 7, .lit (.int .i64 t1.2.1), .lit (.int .i64 t1.2.2.1), .lit (.int .i64 t1.2.2.2)]) ?_
  refine wk_end ?_
  refine ac_next ?_
  refine aw_grp1 ?_
  refine wk_start ?_
  refine kv g0 (ldBA 4 [.row 7, .lit (.int .i64 t1.2.1), .lit (.int .i64 t1.2.2.1), .lit (.int .i64 t1.2.2.2)]) ?_
  refine kv g0 (ldBA 4 [.lit (.int .i64 ((rd_T43 l0_0 0).f0)), .lit (.int .i64 ((rd_T43 l0_0 0).f1)), .lit (.int .i64 ((rd_T43 l0_0 0).f2)), .lit (.int .i64 ((rd_T43 l0_0 0).f3))]) ?_
  refine ks g0 (stB 4 [.row 7, .lit (.int .i64 t1.2.1), .lit (.int .i64 t1.2.2.1), .lit (.int .i64 t1.2.2.2)]) ?_
  refine ks g0 (stB 4 [.lit (.int .i64 ((rd_T43 l0_0 0).f0)), .lit (.int .i64 ((rd_T43 l0_0 0).f1)), .lit (.int .i64 ((rd_T43 l0_0 0).f2)), .lit (.int .i64 ((rd_T43 l0_0 0).f3))]) ?_
  refine kv g0 (asg) ?_
  refine wk_end_draw hM (by kernel_rfl) ?_
  refine ac_next ?_
  refine aw_ret ?_
  refine ac_thenR ?_
  obtain rfl := Option.some.inj H
  exact acr hE [.cell 2 88, .cell 3 43, .tmp 4] (rcA 4 (rcA 4 (.tmp .nil))) (.many _ _ _) [(0, 7)] 9999
 rw [if_neg c3] at H
 refine aw_ifF ?_ (decide_eq_false c3)
 refine aw_skip ?_
 refine ac_next ?_
 refine aw_grp1 ?_
 refine aw_grp1 ?_
 refine wk_start ?_
 refine kv g0 (faB 2 2) ?_
 refine kv g0 (ldB) ?_
 refine kv g0 (neq) ?_
 refine wk_end ?_
 refine ac_next ?_
 by_cases c7 : a0_2 = 0
 ·rw [if_pos c7] at H
  refine aw_ifF ?_ (eM c7)
  refine aw_skip ?_
  refine ac_next ?_
  refine aw_grp1 ?_
  refine wk_start ?_
  refine kv g0 (ldBA 4 [.row 3, .lit (.int .i64 t1.2.1), .lit (.int .i64 t1.2.2.1), .lit (.int .i64 t1.2.2.2)]) ?_
  refine kv g0 (bld [(0, 1), (1, 1), (2, 1), (3, 1)] [.int .i64 0, .int .i64 0, .int .i64 0, .int .i64 0] [.lit (.int .i64 0), .lit (.int .i64 0), .lit (.int .i64 0), .lit (.int .i64 0)]) ?_
  refine ks g0 (stB 4 [.row 3, .lit (.int .i64 t1.2.1), .lit (.int .i64 t1.2.2.1), .lit (.int .i64 t1.2.2.2)]) ?_
  refine ks g0 (stB 4 [.lit (.int .i64 0), .lit (.int .i64 0), .lit (.int .i64 0), .lit (.int .i64 0)]) ?_
  refine kv g0 (asg) ?_
  refine wk_end ?_
  refine ac_next ?_
  refine aw_ret ?_
  obtain rfl := Option.some.inj H
  exact acr hE [.cell 2 88, .cell 3 43, .tmp 4] (rcA 4 (rcA 4 (.tmp .nil))) (.many _ _ _) [(0, 3)] 9999
 rw [if_neg c7] at H
 refine aw_ifT ?_ (eN c7)
 refine aw_grp1 ?_
 refine wk_start ?_
 refine kv g0 (faB 2 2) ?_
 refine ks g0 (stB 1 [.row 3, .lit (.int .i64 t1.2.1), .lit (.int .i64 0), .lit (.int .i64 t1.2.2.2)]) ?_
 refine wk_end ?_
 refine ac_next ?_
 refine aw_grp1 ?_
 refine wk_start ?_
 refine kv g0 (ldBA 4 [.row 3, .lit (.int .i64 t1.2.1), .lit (.int .i64 0), .lit (.int .i64 t1.2.2.2)]) ?_
 refine kv g0 (faB 2 2) ?_
 refine kv g0 (ldB) ?_
 refine kv g0 (bld [(0, 1), (1, 1), (2, 1), (3, 1)] [.int .i64 0, .int .i64 0, .int .i64 0, .int .i64 0] [.lit (.int .i64 2), .lit (.int .i64 0), .lit (.int .i64 0), .lit (.int .i64 a0_2)]) ?_
 refine ks g0 (stB 4 [.row 3, .lit (.int .i64 t1.2.1), .lit (.int .i64 0), .lit (.int .i64 t1.2.2.2)]) ?_
 refine ks g0 (stB 4 [.lit (.int .i64 2), .lit (.int .i64 0), .lit (.int .i64 0), .lit (.int .i64 a0_2)]) ?_
 refine kv g0 (asg) ?_
 refine wk_end_draw hM (by kernel_rfl) ?_
 refine ac_next ?_
 refine aw_ret ?_
 refine ac_thenR ?_
 obtain rfl := Option.some.inj H
 exact acr hE [.cell 2 88, .cell 3 43, .tmp 4] (rcA 4 (rcA 4 (.tmp .nil))) (.many _ _ _) [(0, 3)] 9999
/-! spec_l01In -/
def spec_l01In.f (a0 : Int) (a1 : Int) (a2 : Int) : Option (Bool) := if a0 ≥ a1 then some (decide (a0 ≤ a2)) else some false
theorem spec_l01In.ok {a0 : Int} {a1 : Int} {a2 : Int} {r : Bool} (H : spec_l01In.f a0 a1 a2 = some r) : ACalls Try.prog 81 [] [.lit (.int .i64 a0), .lit (.int .i64 a1), .lit (.int .i64 a2)] [] (.lit (.bool r)) := by
 refine acalls (fn := Try.f81) (nt := 15) Try.func81 rfl rfl (Nat.le_of_ble_eq_true rfl) fun E hE => ?_
 rw [spec_l01In.f] at H
 refine aw_grp1 ?_
 refine wk_start ?_
 refine kv g0 (asg) ?_
 refine wk_end ?_
 refine ac_next ?_
 refine aw_grp1 ?_
 refine wk_start ?_
 refine kv g0 (mv) ?_
 refine kv g0 (mv) ?_
 refine kv g0 (geq) ?_
 refine kv g0 (mv) ?_
 by_cases c1 : a0 ≥ a1
 ·rw [if_pos c1] at H
  refine kv (g1 (decide_eq_true c1)) (mv) ?_
  refine kv (g1 (decide_eq_true c1)) (mv) ?_
  refine kv (g1 (decide_eq_true c1)) (leq) ?_
  refine kv g0 (pkT (decide_eq_true c1)) ?_
  refine kv g0 (asg) ?_
  refine wk_end ?_
  refine ac_next ?_
  refine aw_ret ?_
  obtain rfl := Option.some.inj H
  exact acr hE [.tmp 6] (.tmp .nil) (.one _) [] 9999
 rw [if_neg c1] at H
 refine kx (hT (decide_eq_false c1)) ?_
 refine kx (hT (decide_eq_false c1)) ?_
 refine kx (hT (decide_eq_false c1)) ?_
 refine kv g0 (pkF (decide_eq_false c1)) ?_
 refine kv g0 (asg) ?_
 refine wk_end ?_
 refine ac_next ?_
 refine aw_ret ?_
 obtain rfl := Option.some.inj H
 exact acr hE [.tmp 6] (.tmp .nil) (.one _) [] 9999
/-! spec_HalfOk -/
def spec_HalfOk.f (a0 : Int) : Option (Bool) := (spec_l01In.f a0 0 4294967295).bind fun t1 => some t1
theorem spec_HalfOk.ok {a0 : Int} {r : Bool} (H : spec_HalfOk.f a0 = some r) : ACalls Try.prog 158 [] [.lit (.int .i64 a0)] [] (.lit (.bool r)) := by
 refine acalls (fn := Try.f158) (nt := 5) Try.func158 rfl rfl (Nat.le_of_ble_eq_true rfl) fun E hE => ?_
 rw [spec_HalfOk.f] at H
 refine aw_grp1 ?_
 refine wk_start ?_
 refine kv g0 (asg) ?_
 refine wk_end ?_
 refine ac_next ?_
 refine aw_grp1 ?_
 refine wk_start ?_
 refine kv g0 (mv) ?_
 obtain ⟨t1, A2, H⟩ := of_bind H
 refine kcS0 4 (.lit (.bool t1)) [] g0 (cal (spec_l01In.ok A2) [] 9999 .n (hf := Try.func81)) rfl rfl ?_
 refine kv g0 (asg) ?_
 refine wk_end ?_
 refine ac_next ?_
 refine aw_ret ?_
 obtain rfl := Option.some.inj H
 exact acr hE [.tmp 2] (.tmp .nil) (.one _) [] 9999
/-! spec_ItemOk -/
def spec_ItemOk.f (a0_0 : Int) (a0_1 : Int) (a0_2 : Int) (a0_3 : Int) : Option (Bool) := if a0_0 = 1 then ((spec_HalfOk.f a0_1).bind fun t2 => (if t2 = true then ((spec_HalfOk.f a0_2).bind fun t5 => (if t5 = true then some (a0_3 == 0) else some false)) else some false)) else if a0_0 = 2 then ((spec_l01In.f a0_3 1 1000000000).bind fun t9 => (if t9 = true then (if a0_1 = 0 then some (a0_2 == 0) else some false) else some false)) else some false
theorem spec_ItemOk.ok {a0_0 : Int} {a0_1 : Int} {a0_2 : Int} {a0_3 : Int} {r : Bool} (H : spec_ItemOk.f a0_0 a0_1 a0_2 a0_3 = some r) : ACalls Try.prog 83 [] [.agg [.lit (.int .i64 a0_0), .lit (.int .i64 a0_1), .lit (.int .i64 a0_2), .lit (.int .i64 a0_3)]] [] (.lit (.bool r)) := by
 refine acalls (fn := Try.f83) (nt := 37) Try.func83 rfl rfl (Nat.le_of_ble_eq_true rfl) fun E hE => ?_
 rw [spec_ItemOk.f] at H
 refine aw_grp1 ?_
 refine wk_start ?_
 refine kb g0 (bxA 0) ?_
 refine kv g0 (asg) ?_
 refine wk_end ?_
 refine ac_next ?_
 refine aw_grp1 ?_
 refine aw_grp1 ?_
 refine wk_start ?_
 refine kv g0 (faB 0 0) ?_
 refine kv g0 (ldB) ?_
 refine kv g0 (eql) ?_
 refine wk_end ?_
 refine ac_next ?_
 by_cases c1 : a0_0 = 1
 ·rw [if_pos c1] at H
  refine aw_ifT ?_ (eT c1)
  refine aw_grp1 ?_
  refine wk_start ?_
  refine kv g0 (faB 1 1) ?_
  refine kv g0 (ldB) ?_
  obtain ⟨t2, A3, H⟩ := of_bind H
  refine kcS0 8 (.lit (.bool t2)) [] g0 (cal (spec_HalfOk.ok A3) [] 9999 .n (hf := Try.func158)) rfl rfl ?_
  refine kv g0 (mv) ?_
  by_cases c4 : t2 = true
  ·rw [if_pos c4] at H
   refine kv (g1 c4) (faB 2 2) ?_
   refine kv (g1 c4) (ldB) ?_
   obtain ⟨t5, A6, H⟩ := of_bind H
   refine kcS0 12 (.lit (.bool t5)) [] (g1 c4) (cal (spec_HalfOk.ok A6) [] 9999 .n (hf := Try.func158)) rfl rfl ?_
   refine kv g0 (pkT c4) ?_
   refine kv g0 (mv) ?_
   by_cases c7 : t5 = true
   ·rw [if_pos c7] at H
    refine kv (g1 c7) (faB 3 3) ?_
    refine kv (g1 c7) (ldB) ?_
    refine kv (g1 c7) (eql) ?_
    refine kv g0 (pkT c7) ?_
    refine kv g0 (asg) ?_
    refine wk_end ?_
    refine ac_next ?_
    refine aw_ret ?_
    refine ac_thenR ?_
    obtain rfl := Option.some.inj H
    exact acr hE [.tmp 2] (.tmp .nil) (.one _) [] 9999
   rw [if_neg c7] at H
   refine kx (hT (bF c7)) ?_
   refine kx (hT (bF c7)) ?_
   refine kx (hT (bF c7)) ?_
   refine kv g0 (pkF (bF c7)) ?_
   refine kv g0 (asg) ?_
   refine wk_end ?_
   refine ac_next ?_
   refine aw_ret ?_
   refine ac_thenR ?_
   obtain rfl := Option.some.inj H
   exact acr hE [.tmp 2] (.tmp .nil) (.one _) [] 9999
  rw [if_neg c4] at H
  refine kx (hT (bF c4)) ?_
  refine kx (hT (bF c4)) ?_
  refine kx (hT (bF c4)) ?_
  refine kv g0 (pkF (bF c4)) ?_
  refine kv g0 (mv) ?_
  refine kx (hT rfl) ?_
  refine kx (hT rfl) ?_
  refine kx (hT rfl) ?_
  refine kv g0 (pkF rfl) ?_
  refine kv g0 (asg) ?_
  refine wk_end ?_
  refine ac_next ?_
  refine aw_ret ?_
  refine ac_thenR ?_
  obtain rfl := Option.some.inj H
  exact acr hE [.tmp 2] (.tmp .nil) (.one _) [] 9999
 rw [if_neg c1] at H
 refine aw_ifF ?_ (eF c1)
 refine aw_skip ?_
 refine ac_next ?_
 refine aw_grp1 ?_
 refine wk_start ?_
 refine kv g0 (faB 0 0) ?_
 refine kv g0 (ldB) ?_
 refine kv g0 (eql) ?_
 refine kv g0 (mv) ?_
 by_cases c8 : a0_0 = 2
 ·rw [if_pos c8] at H
  refine kv (g1 (eT c8)) (faB 3 3) ?_
  refine kv (g1 (eT c8)) (ldB) ?_
  obtain ⟨t9, A10, H⟩ := of_bind H
  refine kcS0 25 (.lit (.bool t9)) [] (g1 (eT c8)) (cal (spec_l01In.ok A10) [] 9999 .n (hf := Try.func81)) rfl rfl ?_
  refine kv g0 (pkT (eT c8)) ?_
  refine kv g0 (mv) ?_
  by_cases c11 : t9 = true
  ·rw [if_pos c11] at H
   refine kv (g1 c11) (faB 1 1) ?_
   refine kv (g1 c11) (ldB) ?_
   refine kv (g1 c11) (eql) ?_
   refine kv g0 (pkT c11) ?_
   refine kv g0 (mv) ?_
   by_cases c12 : a0_1 = 0
   ·rw [if_pos c12] at H
    refine kv (g1 (eT c12)) (faB 2 2) ?_
    refine kv (g1 (eT c12)) (ldB) ?_
    refine kv (g1 (eT c12)) (eql) ?_
    refine kv g0 (pkT (eT c12)) ?_
    refine kv g0 (asg) ?_
    refine wk_end ?_
    refine ac_next ?_
    refine aw_ret ?_
    obtain rfl := Option.some.inj H
    exact acr hE [.tmp 2] (.tmp .nil) (.one _) [] 9999
   rw [if_neg c12] at H
   refine kx (hT (eF c12)) ?_
   refine kx (hT (eF c12)) ?_
   refine kx (hT (eF c12)) ?_
   refine kv g0 (pkF (eF c12)) ?_
   refine kv g0 (asg) ?_
   refine wk_end ?_
   refine ac_next ?_
   refine aw_ret ?_
   obtain rfl := Option.some.inj H
   exact acr hE [.tmp 2] (.tmp .nil) (.one _) [] 9999
  rw [if_neg c11] at H
  refine kx (hT (bF c11)) ?_
  refine kx (hT (bF c11)) ?_
  refine kx (hT (bF c11)) ?_
  refine kv g0 (pkF (bF c11)) ?_
  refine kv g0 (mv) ?_
  refine kx (hT rfl) ?_
  refine kx (hT rfl) ?_
  refine kx (hT rfl) ?_
  refine kv g0 (pkF rfl) ?_
  refine kv g0 (asg) ?_
  refine wk_end ?_
  refine ac_next ?_
  refine aw_ret ?_
  obtain rfl := Option.some.inj H
  exact acr hE [.tmp 2] (.tmp .nil) (.one _) [] 9999
 rw [if_neg c8] at H
 refine kx (hT (eF c8)) ?_
 refine kx (hT (eF c8)) ?_
 refine kx (hT (eF c8)) ?_
 refine kv g0 (pkF (eF c8)) ?_
 refine kv g0 (mv) ?_
 refine kx (hT rfl) ?_
 refine kx (hT rfl) ?_
 refine kx (hT rfl) ?_
 refine kv g0 (pkF rfl) ?_
 refine kv g0 (mv) ?_
 refine kx (hT rfl) ?_
 refine kx (hT rfl) ?_
 refine kx (hT rfl) ?_
 refine kv g0 (pkF rfl) ?_
 refine kv g0 (asg) ?_
 refine wk_end ?_
 refine ac_next ?_
 refine aw_ret ?_
 obtain rfl := Option.some.inj H
 exact acr hE [.tmp 2] (.tmp .nil) (.one _) [] 9999
/-! spec_SenderOk -/
def spec_SenderOk.l0 : Nat → Int → Int → (List S43) → Int → Int → Int → Option (Bool)
 | 0, _, _, _, _, _, _ => none
 | k7 + 1, a0_0, a0_1, l0_2, a0_3, a0_4, p6 => if p6 < (l0_2.length : Int) then if 0 ≤ p6 then ((spec_ItemOk.f ((rd_T43 l0_2 p6).f0) ((rd_T43 l0_2 p6).f1) ((rd_T43 l0_2 p6).f2) ((rd_T43 l0_2 p6).f3)).bind fun t10 => if t10 = true then spec_SenderOk.l0 k7 a0_0 a0_1 l0_2 a0_3 a0_4 (wrap64 (p6 + 1)) else some false) else none else (spec_l01In.f a0_0 0 2).bind fun t15 => (if t15 = true then ((spec_l01In.f a0_1 1 1000000000).bind fun t18 => (if t18 = true then (if (l0_2.length : Int) ≤ 3 then ((spec_l01In.f a0_3 0 1000000000).bind fun t22 => (if t22 = true then (if a0_4 = 1 then some true else (if a0_4 = 2 then some true else some (a0_4 == 4))) else some false)) else some false) else some false)) else some false)
def spec_SenderOk.f (k : Nat) (a0_0 : Int) (a0_1 : Int) (l0_2 : List S43) (a0_3 : Int) (a0_4 : Int) : Option (Bool) := spec_SenderOk.l0 k a0_0 a0_1 l0_2 a0_3 a0_4 0
theorem spec_SenderOk.ok {k : Nat} {a0_0 : Int} {a0_1 : Int} {l0_2 : List S43} {a0_3 : Int} {a0_4 : Int} {r : Bool} (H : spec_SenderOk.f k a0_0 a0_1 l0_2 a0_3 a0_4 = some r) : ACalls Try.prog 57 [] [.agg [.lit (.int .i64 a0_0), .lit (.int .i64 a0_1), .sl .o 4 (l0_2.map e43), .lit (.int .i64 a0_3), .lit (.int .i64 a0_4)]] [] (.lit (.bool r)) := by
 refine acalls (fn := Try.f57) (nt := 52) Try.func57 rfl rfl (Nat.le_of_ble_eq_true rfl) fun E hE => ?_
 rw [spec_SenderOk.f] at H
 refine aw_grp1 ?_
 refine wk_start ?_
 refine kb g0 (bxA 0) ?_
 refine kv g0 (asg) ?_
 refine wk_end ?_
 refine ac_next ?_
 refine aw_grp1 ?_
 refine aw_grp1 ?_
 refine wk_start ?_
 refine kv g0 (asg) ?_
 refine wk_end ?_
 refine ac_next ?_
 refine aw_block ?_
 refine aw_loop1 (fun (k_ : Nat) (p6 : Int) => k_ ≤ k ∧ spec_SenderOk.l0 k_ a0_0 a0_1 l0_2 a0_3 a0_4 p6 = some r) (fun (p6 : Int) => ⟨[(1, .box 0 0), (3, .lit (.int .i64 p6))], [(0, .box 78 [.lit (.int .i64 a0_0), .lit (.int .i64 a0_1), .sl .o 4 (l0_2.map e43), .lit (.int .i64 a0_3), .lit (.int .i64 a0_4)])]⟩) k 0 ⟨Nat.le_refl _, H⟩ (fun K_ h_ => acw hE [(0, 0)] 9999 h_) (fun _ => by intro h_; have h_ := h_.2; rw [spec_SenderOk.l0.eq_1] at h_; cases h_) ?_
 intro k7 p6 hq_ K13 hK14
 have hk7 := hq_.1
 have H := hq_.2
 clear hq_
 rw [spec_SenderOk.l0.eq_2] at H
 refine aw_grp1 ?_
 refine aw_grp1 ?_
 refine wk_start ?_
 refine kv g0 (mv) ?_
 refine kv g0 (faB 2 2) ?_
 refine kv g0 (ldB) ?_
 refine kv g0 (lnS lenE) ?_
 refine kv g0 (lss) ?_
 refine wk_end ?_
 refine ac_next ?_
 by_cases c8 : p6 < (l0_2.length : Int)
 ·rw [if_pos c8] at H
  refine aw_ifT ?_ (decide_eq_true c8)
  refine aw_skip ?_
  refine ac_next ?_
  refine aw_grp1 ?_
  refine aw_block ?_
  refine aw_grp1 ?_
  refine wk_start ?_
  refine kv g0 (faB 2 2) ?_
  refine kv g0 (ldB) ?_
  refine kv g0 (mv) ?_
  obtain ⟨c9, H⟩ := of_if H
  refine kv g0 (ixS 43 (e43 (rd_T43 l0_2 p6)) c9 (getE (z := z43) c9 c8)) ?_
  refine kv g0 (ldRA 4 [.lit (.int .i64 ((rd_T43 l0_2 p6).f0)), .lit (.int .i64 ((rd_T43 l0_2 p6).f1)), .lit (.int .i64 ((rd_T43 l0_2 p6).f2)), .lit (.int .i64 ((rd_T43 l0_2 p6).f3))]) ?_
  obtain ⟨t10, A11, H⟩ := of_bind H
  refine kcS0 16 (.lit (.bool t10)) [] g0 (cal (spec_ItemOk.ok A11) [] 9999 .n (hf := Try.func83)) rfl rfl ?_
  refine kv g0 (not_) ?_
  refine wk_end ?_
  refine ac_next ?_
  by_cases c12 : t10 = true
  ·rw [if_pos c12] at H
   refine aw_ifF ?_ (nF c12)
   refine aw_skip ?_
   refine ac_blkN ?_
   refine ac_next ?_
   refine wk_start ?_
   refine kv g0 (mv) ?_
   refine kv g0 (add6) ?_
   refine kv g0 (asg) ?_
   refine wk_end ?_
   refine ac_k ?_
   exact acw hE [(0, 0)] 9999 (hK14 k7 (wrap64 (p6 + 1)) (Nat.le_refl _) ⟨by omega, H⟩)
  rw [if_neg c12] at H
  refine aw_ifT ?_ (nT (bF c12))
  refine aw_grp1 ?_
  refine wk_start ?_
  refine kv g0 (asg) ?_
  refine wk_end ?_
  refine ac_next ?_
  refine aw_ret ?_
  refine ac_blkR ?_
  refine ac_thenR ?_
  refine ac_thenR ?_
  refine ac_blkR ?_
  refine ac_thenR ?_
  obtain rfl := Option.some.inj H
  exact acr hE [.tmp 2] (.tmp .nil) (.one _) [] 9999
 rw [if_neg c8] at H
 refine aw_ifF ?_ (decide_eq_false c8)
 refine aw_exit ?_
 refine ac_then ?_
 refine ac_then ?_
 refine ac_hit rfl ?_
 refine ac_next ?_
 refine aw_grp1 ?_
 refine wk_start ?_
 refine kv g0 (faB 0 0) ?_
 refine kv g0 (ldB) ?_
 obtain ⟨t15, A16, H⟩ := of_bind H
 refine kcS0 20 (.lit (.bool t15)) [] g0 (cal (spec_l01In.ok A16) [] 9999 .n (hf := Try.func81)) rfl rfl ?_
 refine kv g0 (mv) ?_
 by_cases c17 : t15 = true
 ·rw [if_pos c17] at H
  refine kv (g1 c17) (faB 1 1) ?_
  refine kv (g1 c17) (ldB) ?_
  obtain ⟨t18, A19, H⟩ := of_bind H
  refine kcS0 24 (.lit (.bool t18)) [] (g1 c17) (cal (spec_l01In.ok A19) [] 9999 .n (hf := Try.func81)) rfl rfl ?_
  refine kv g0 (pkT c17) ?_
  refine kv g0 (mv) ?_
  by_cases c20 : t18 = true
  ·rw [if_pos c20] at H
   refine kv (g1 c20) (faB 2 2) ?_
   refine kv (g1 c20) (ldB) ?_
   refine kv (g1 c20) (lnS lenE) ?_
   refine kv (g1 c20) (leq) ?_
   refine kv g0 (pkT c20) ?_
   refine kv g0 (mv) ?_
   by_cases c21 : (l0_2.length : Int) ≤ 3
   ·rw [if_pos c21] at H
    refine kv (g1 (decide_eq_true c21)) (faB 3 3) ?_
    refine kv (g1 (decide_eq_true c21)) (ldB) ?_
    obtain ⟨t22, A23, H⟩ := of_bind H
    refine kcS0 35 (.lit (.bool t22)) [] (g1 (decide_eq_true c21)) (cal (spec_l01In.ok A23) [] 9999 .n (hf := Try.func81)) rfl rfl ?_
    refine kv g0 (pkT (decide_eq_true c21)) ?_
    refine kv g0 (mv) ?_
    by_cases c24 : t22 = true
    ·rw [if_pos c24] at H
     refine kv (g1 c24) (faB 4 4) ?_
     refine kv (g1 c24) (ldB) ?_
     refine kv (g1 c24) (eql) ?_
     refine kv (g1 c24) (mv) ?_
     by_cases c25 : a0_4 = 1
     ·rw [if_pos c25] at H
      refine kx (hF (eT c25)) ?_
      refine kx (hF (eT c25)) ?_
      refine kx (hF (eT c25)) ?_
      refine kv (g1 c24) (pkT (eT c25)) ?_
      refine kv (g1 c24) (mv) ?_
      refine kx (hF rfl) ?_
      refine kx (hF rfl) ?_
      refine kx (hF rfl) ?_
      refine kv (g1 c24) (pkT rfl) ?_
      refine kv g0 (pkT c24) ?_
      refine kv g0 (asg) ?_
      refine wk_end ?_
      refine ac_next ?_
      refine aw_ret ?_
      obtain rfl := Option.some.inj H
      exact acr hE [.tmp 2] (.tmp .nil) (.one _) [] 9999
     rw [if_neg c25] at H
     refine kv (g1 (eF c25)) (faB 4 4) ?_
     refine kv (g1 (eF c25)) (ldB) ?_
     refine kv (g1 (eF c25)) (eql) ?_
     refine kv (g1 c24) (pkF (eF c25)) ?_
     refine kv (g1 c24) (mv) ?_
     by_cases c26 : a0_4 = 2
     ·rw [if_pos c26] at H
      refine kx (hF (eT c26)) ?_
      refine kx (hF (eT c26)) ?_
      refine kx (hF (eT c26)) ?_
      refine kv (g1 c24) (pkT (eT c26)) ?_
      refine kv g0 (pkT c24) ?_
      refine kv g0 (asg) ?_
      refine wk_end ?_
      refine ac_next ?_
      refine aw_ret ?_
      obtain rfl := Option.some.inj H
      exact acr hE [.tmp 2] (.tmp .nil) (.one _) [] 9999
     rw [if_neg c26] at H
     refine kv (g1 (eF c26)) (faB 4 4) ?_
     refine kv (g1 (eF c26)) (ldB) ?_
     refine kv (g1 (eF c26)) (eql) ?_
     refine kv (g1 c24) (pkF (eF c26)) ?_
     refine kv g0 (pkT c24) ?_
     refine kv g0 (asg) ?_
     refine wk_end ?_
     refine ac_next ?_
     refine aw_ret ?_
     obtain rfl := Option.some.inj H
     exact acr hE [.tmp 2] (.tmp .nil) (.one _) [] 9999
    rw [if_neg c24] at H
    refine kx (hT (bF c24)) ?_
    refine kx (hT (bF c24)) ?_
    refine kx (hT (bF c24)) ?_
    refine ku (neT (hT (bF c24))) ?_
    refine ku neU ?_
    refine ku neU ?_
    refine ku neU ?_
    refine kx (hT (bF c24)) ?_
    refine ku (neT (hT (bF c24))) ?_
    refine ku neU ?_
    refine ku neU ?_
    refine ku neU ?_
    refine kx (hT (bF c24)) ?_
    refine kv g0 (pkF (bF c24)) ?_
    refine kv g0 (asg) ?_
    refine wk_end ?_
    refine ac_next ?_
    refine aw_ret ?_
    obtain rfl := Option.some.inj H
    exact acr hE [.tmp 2] (.tmp .nil) (.one _) [] 9999
   rw [if_neg c21] at H
   refine kx (hT (decide_eq_false c21)) ?_
   refine kx (hT (decide_eq_false c21)) ?_
   refine kx (hT (decide_eq_false c21)) ?_
   refine kv g0 (pkF (decide_eq_false c21)) ?_
   refine kv g0 (mv) ?_
   refine kx (hT rfl) ?_
   refine kx (hT rfl) ?_
   refine kx (hT rfl) ?_
   refine ku (neT (hT rfl)) ?_
   refine ku neU ?_
   refine ku neU ?_
   refine ku neU ?_
   refine kx (hT rfl) ?_
   refine ku (neT (hT rfl)) ?_
   refine ku neU ?_
   refine ku neU ?_
   refine ku neU ?_
   refine kx (hT rfl) ?_
   refine kv g0 (pkF rfl) ?_
   refine kv g0 (asg) ?_
   refine wk_end ?_
   refine ac_next ?_
   refine aw_ret ?_
   obtain rfl := Option.some.inj H
   exact acr hE [.tmp 2] (.tmp .nil) (.one _) [] 9999
  rw [if_neg c20] at H
  refine kx (hT (bF c20)) ?_
  refine kx (hT (bF c20)) ?_
  refine kx (hT (bF c20)) ?_
  refine kx (hT (bF c20)) ?_
  refine kv g0 (pkF (bF c20)) ?_
  refine kv g0 (mv) ?_
  refine kx (hT rfl) ?_
  refine kx (hT rfl) ?_
  refine kx (hT rfl) ?_
  refine kv g0 (pkF rfl) ?_
  refine kv g0 (mv) ?_
  refine kx (hT rfl) ?_
  refine kx (hT rfl) ?_
  refine kx (hT rfl) ?_
  refine ku (neT (hT rfl)) ?_
  refine ku neU ?_
  refine ku neU ?_
  refine ku neU ?_
  refine kx (hT rfl) ?_
  refine ku (neT (hT rfl)) ?_
  refine ku neU ?_
  refine ku neU ?_
  refine ku neU ?_
  refine kx (hT rfl) ?_
  refine kv g0 (pkF rfl) ?_
  refine kv g0 (asg) ?_
  refine wk_end ?_
  refine ac_next ?_
  refine aw_ret ?_
  obtain rfl := Option.some.inj H
  exact acr hE [.tmp 2] (.tmp .nil) (.one _) [] 9999
 rw [if_neg c17] at H
 refine kx (hT (bF c17)) ?_
 refine kx (hT (bF c17)) ?_
 refine kx (hT (bF c17)) ?_
 refine kv g0 (pkF (bF c17)) ?_
 refine kv g0 (mv) ?_
 refine kx (hT rfl) ?_
 refine kx (hT rfl) ?_
 refine kx (hT rfl) ?_
 refine kx (hT rfl) ?_
 refine kv g0 (pkF rfl) ?_
 refine kv g0 (mv) ?_
 refine kx (hT rfl) ?_
 refine kx (hT rfl) ?_
 refine kx (hT rfl) ?_
 refine kv g0 (pkF rfl) ?_
 refine kv g0 (mv) ?_
 refine kx (hT rfl) ?_
 refine kx (hT rfl) ?_
 refine kx (hT rfl) ?_
 refine ku (neT (hT rfl)) ?_
 refine ku neU ?_
 refine ku neU ?_
 refine ku neU ?_
 refine kx (hT rfl) ?_
 refine ku (neT (hT rfl)) ?_
 refine ku neU ?_
 refine ku neU ?_
 refine ku neU ?_
 refine kx (hT rfl) ?_
 refine kv g0 (pkF rfl) ?_
 refine kv g0 (asg) ?_
 refine wk_end ?_
 refine ac_next ?_
 refine aw_ret ?_
 obtain rfl := Option.some.inj H
 exact acr hE [.tmp 2] (.tmp .nil) (.one _) [] 9999
/-! spec_l16Length -/
def spec_l16Length.f (a0_0 : Int) (a0_1 : Int) (a0_2 : Int) (a0_3 : Int) : Option (Int) := if a0_0 = 2 then some a0_3 else some 1
theorem spec_l16Length.ok {a0_0 : Int} {a0_1 : Int} {a0_2 : Int} {a0_3 : Int} {r : Int} (H : spec_l16Length.f a0_0 a0_1 a0_2 a0_3 = some r) : ACalls Try.prog 178 [] [.agg [.lit (.int .i64 a0_0), .lit (.int .i64 a0_1), .lit (.int .i64 a0_2), .lit (.int .i64 a0_3)]] [] (.lit (.int .i64 r)) := by
 refine acalls (fn := Try.f178) (nt := 8) Try.func178 rfl rfl (Nat.le_of_ble_eq_true rfl) fun E hE => ?_
 rw [spec_l16Length.f] at H
 refine aw_grp1 ?_
 refine wk_start ?_
 refine kb g0 (bxA 0) ?_
 refine kv g0 (asg) ?_
 refine wk_end ?_
 refine ac_next ?_
 refine aw_grp1 ?_
 refine aw_grp1 ?_
 refine wk_start ?_
 refine kv g0 (faB 0 0) ?_
 refine kv g0 (ldB) ?_
 refine kv g0 (eql) ?_
 refine wk_end ?_
 refine ac_next ?_
 by_cases c1 : a0_0 = 2
 ·rw [if_pos c1] at H
  refine aw_ifT ?_ (eT c1)
  refine aw_grp1 ?_
  refine wk_start ?_
  refine kv g0 (faB 3 3) ?_
  refine kv g0 (ldB) ?_
  refine kv g0 (asg) ?_
  refine wk_end ?_
  refine ac_next ?_
  refine aw_ret ?_
  refine ac_thenR ?_
  obtain rfl := Option.some.inj H
  exact acr hE [.tmp 2] (.tmp .nil) (.one _) [] 9999
 rw [if_neg c1] at H
 refine aw_ifF ?_ (eF c1)
 refine aw_skip ?_
 refine ac_next ?_
 refine aw_grp1 ?_
 refine wk_start ?_
 refine kv g0 (asg) ?_
 refine wk_end ?_
 refine ac_next ?_
 refine aw_ret ?_
 obtain rfl := Option.some.inj H
 exact acr hE [.tmp 2] (.tmp .nil) (.one _) [] 9999
/-! spec_RingOk -/
def spec_RingOk.l0 : Nat → (List S43) → Int → Int → Int → Int → Int → Option (Bool)
 | 0, _, _, _, _, _, _ => none
 | k20 + 1, l0_0, a0_1, a0_2, a0_3, p18, p19 => if p19 < (l0_0.length : Int) then if 0 ≤ p19 then ((spec_ItemOk.f ((rd_T43 l0_0 p19).f0) ((rd_T43 l0_0 p19).f1) ((rd_T43 l0_0 p19).f2) ((rd_T43 l0_0 p19).f3)).bind fun t23 => if t23 = true then (spec_l16Length.f ((rd_T43 l0_0 p19).f0) ((rd_T43 l0_0 p19).f1) ((rd_T43 l0_0 p19).f2) ((rd_T43 l0_0 p19).f3)).bind fun t26 => spec_RingOk.l0 k20 l0_0 a0_1 a0_2 a0_3 (wrap64 (p18 + t26)) (wrap64 (p19 + 1)) else some false) else none else some (decide (p18 ≤ a0_3))
def spec_RingOk.f (k : Nat) (l0_0 : List S43) (a0_1 : Int) (a0_2 : Int) (a0_3 : Int) : Option (Bool) := if (l0_0.length : Int) > 4 then some false else ((spec_l01In.f a0_1 0 5).bind fun t2 => (if t2 = true then ((spec_l01In.f a0_2 0 1000000000).bind fun t5 => (if t5 = true then ((spec_l01In.f a0_3 0 1000000000).bind fun t8 => if t8 = true then spec_RingOk.l0 k l0_0 a0_1 a0_2 a0_3 a0_2 0 else some false) else some false)) else some false))
theorem spec_RingOk.ok {k : Nat} {l0_0 : List S43} {a0_1 : Int} {a0_2 : Int} {a0_3 : Int} {r : Bool} (H : spec_RingOk.f k l0_0 a0_1 a0_2 a0_3 = some r) : ACalls Try.prog 137 [] [.agg [.sl .o 4 (l0_0.map e43), .lit (.int .i64 a0_1), .lit (.int .i64 a0_2), .lit (.int .i64 a0_3)]] [] (.lit (.bool r)) := by
 refine acalls (fn := Try.f137) (nt := 55) Try.func137 rfl rfl (Nat.le_of_ble_eq_true rfl) fun E hE => ?_
 rw [spec_RingOk.f] at H
 refine aw_grp1 ?_
 refine wk_start ?_
 refine kb g0 (bxA 0) ?_
 refine kv g0 (asg) ?_
 refine wk_end ?_
 refine ac_next ?_
 refine aw_grp1 ?_
 refine aw_grp1 ?_
 refine wk_start ?_
 refine kv g0 (faB 0 0) ?_
 refine kv g0 (ldB) ?_
 refine kv g0 (lnS lenE) ?_
 refine kv g0 (gtr) ?_
 refine kv g0 (mv) ?_
 by_cases c1 : (l0_0.length : Int) > 4
 ·rw [if_pos c1] at H
  refine kx (hF (decide_eq_true c1)) ?_
  refine kx (hF (decide_eq_true c1)) ?_
  refine kx (hF (decide_eq_true c1)) ?_
  refine kx (hF (decide_eq_true c1)) ?_
  refine kv g0 (pkT (decide_eq_true c1)) ?_
  refine kv g0 (mv) ?_
  refine kx (hF rfl) ?_
  refine kx (hF rfl) ?_
  refine kx (hF rfl) ?_
  refine kx (hF rfl) ?_
  refine kv g0 (pkT rfl) ?_
  refine kv g0 (mv) ?_
  refine kx (hF rfl) ?_
  refine kx (hF rfl) ?_
  refine kx (hF rfl) ?_
  refine kx (hF rfl) ?_
  refine kv g0 (pkT rfl) ?_
  refine wk_end ?_
  refine ac_next ?_
  refine aw_ifT ?_ rfl
  refine aw_grp1 ?_
  refine wk_start ?_
  refine kv g0 (asg) ?_
  refine wk_end ?_
  refine ac_next ?_
  refine aw_ret ?_
  refine ac_thenR ?_
  obtain rfl := Option.some.inj H
  exact acr hE [.tmp 2] (.tmp .nil) (.one _) [] 9999
 rw [if_neg c1] at H
 refine kv (g1 (decide_eq_false c1)) (faB 1 1) ?_
 refine kv (g1 (decide_eq_false c1)) (ldB) ?_
 obtain ⟨t2, A3, H⟩ := of_bind H
 refine kcS0 12 (.lit (.bool t2)) [] (g1 (decide_eq_false c1)) (cal (spec_l01In.ok A3) [] 9999 .n (hf := Try.func81)) rfl rfl ?_
 refine kv (g1 (decide_eq_false c1)) (not_) ?_
 refine kv g0 (pkF (decide_eq_false c1)) ?_
 refine kv g0 (mv) ?_
 by_cases c4 : t2 = true
 ·rw [if_pos c4] at H
  refine kv (g1 (nF c4)) (faB 2 2) ?_
  refine kv (g1 (nF c4)) (ldB) ?_
  obtain ⟨t5, A6, H⟩ := of_bind H
  refine kcS0 18 (.lit (.bool t5)) [] (g1 (nF c4)) (cal (spec_l01In.ok A6) [] 9999 .n (hf := Try.func81)) rfl rfl ?_
  refine kv (g1 (nF c4)) (not_) ?_
  refine kv g0 (pkF (nF c4)) ?_
  refine kv g0 (mv) ?_
  by_cases c7 : t5 = true
  ·rw [if_pos c7] at H
   refine kv (g1 (nF c7)) (faB 3 3) ?_
   refine kv (g1 (nF c7)) (ldB) ?_
   obtain ⟨t8, A9, H⟩ := of_bind H
   refine kcS0 24 (.lit (.bool t8)) [] (g1 (nF c7)) (cal (spec_l01In.ok A9) [] 9999 .n (hf := Try.func81)) rfl rfl ?_
   refine kv (g1 (nF c7)) (not_) ?_
   refine kv g0 (pkF (nF c7)) ?_
   refine wk_end ?_
   refine ac_next ?_
   by_cases c10 : t8 = true
   ·rw [if_pos c10] at H
    refine aw_ifF ?_ (nF c10)
    refine aw_skip ?_
    refine ac_next ?_
    refine aw_grp1 ?_
    refine wk_start ?_
    refine kv g0 (faB 2 2) ?_
    refine kv g0 (ldB) ?_
    refine kv g0 (asg) ?_
    refine wk_end ?_
    refine ac_next ?_
    refine aw_grp1 ?_
    refine aw_grp1 ?_
    refine wk_start ?_
    refine kv g0 (asg) ?_
    refine wk_end ?_
    refine ac_next ?_
    refine aw_block ?_
    refine aw_loop2 (fun (k_ : Nat) (p18 : Int) (p19 : Int) => k_ ≤ k ∧ spec_RingOk.l0 k_ l0_0 a0_1 a0_2 a0_3 p18 p19 = some r) (fun (p18 : Int) (p19 : Int) => ⟨[(1, .box 0 0), (3, .lit (.int .i64 p18)), (4, .lit (.int .i64 p19))], [(0, .box 88 [.sl .o 4 (l0_0.map e43), .lit (.int .i64 a0_1), .lit (.int .i64 a0_2), .lit (.int .i64 a0_3)])]⟩) k a0_2 0 ⟨Nat.le_refl _, H⟩ (fun K_ h_ => acw hE [(0, 0)] 9999 h_) (fun _ _ => by intro h_; have h_ := h_.2; rw [spec_RingOk.l0.eq_1] at h_; cases h_) ?_
    intro k20 p18 p19 hq_ K28 hK29
    have hk20 := hq_.1
    have H := hq_.2
    clear hq_
    rw [spec_RingOk.l0.eq_2] at H
    refine aw_grp1 ?_
    refine aw_grp1 ?_
    refine wk_start ?_
    refine kv g0 (mv) ?_
    refine kv g0 (faB 0 0) ?_
    refine kv g0 (ldB) ?_
    refine kv g0 (lnS lenE) ?_
    refine kv g0 (lss) ?_
    refine wk_end ?_
    refine ac_next ?_
    by_cases c21 : p19 < (l0_0.length : Int)
    ·rw [if_pos c21] at H
     refine aw_ifT ?_ (decide_eq_true c21)
     refine aw_skip ?_
     refine ac_next ?_
     refine aw_grp1 ?_
     refine aw_block ?_
     refine aw_grp1 ?_
     refine aw_grp1 ?_
     refine wk_start ?_
     refine kv g0 (faB 0 0) ?_
     refine kv g0 (ldB) ?_
     refine kv g0 (mv) ?_
     obtain ⟨c22, H⟩ := of_if H
     refine kv g0 (ixS 43 (e43 (rd_T43 l0_0 p19)) c22 (getE (z := z43) c22 c21)) ?_
     refine kv g0 (ldRA 4 [.lit (.int .i64 ((rd_T43 l0_0 p19).f0)), .lit (.int .i64 ((rd_T43 l0_0 p19).f1)), .lit (.int .i64 ((rd_T43 l0_0 p19).f2)), .lit (.int .i64 ((rd_T43 l0_0 p19).f3))]) ?_
     obtain ⟨t23, A24, H⟩ := of_bind H
     refine kcS0 41 (.lit (.bool t23)) [] g0 (cal (spec_ItemOk.ok A24) [] 9999 .n (hf := Try.func83)) rfl rfl ?_
     refine kv g0 (not_) ?_
     refine wk_end ?_
     refine ac_next ?_
     by_cases c25 : t23 = true
     ·rw [if_pos c25] at H
      refine aw_ifF ?_ (nF c25)
      refine aw_skip ?_
      refine ac_next ?_
      refine wk_start ?_
      refine kv g0 (mv) ?_
      refine kv g0 (faB 0 0) ?_
      refine kv g0 (ldB) ?_
      refine kv g0 (mv) ?_
      refine kv g0 (ixS 43 (e43 (rd_T43 l0_0 p19)) c22 (getE (z := z43) c22 c21)) ?_
      refine kv g0 (ldRA 4 [.lit (.int .i64 ((rd_T43 l0_0 p19).f0)), .lit (.int .i64 ((rd_T43 l0_0 p19).f1)), .lit (.int .i64 ((rd_T43 l0_0 p19).f2)), .lit (.int .i64 ((rd_T43 l0_0 p19).f3))]) ?_
      obtain ⟨t26, A27, H⟩ := of_bind H
      refine kcS0 49 (.lit (.int .i64 t26)) [] g0 (cal (spec_l16Length.ok A27) [] 9999 .n (hf := Try.func178)) rfl rfl ?_
      refine kv g0 (add6) ?_
      refine kv g0 (asg) ?_
      refine wk_end ?_
      refine ac_blkN ?_
      refine ac_next ?_
      refine wk_start ?_
      refine kv g0 (mv) ?_
      refine kv g0 (add6) ?_
      refine kv g0 (asg) ?_
      refine wk_end ?_
      refine ac_k ?_
      exact acw hE [(0, 0)] 9999 (hK29 k20 (wrap64 (p18 + t26)) (wrap64 (p19 + 1)) (Nat.le_refl _) ⟨by omega, H⟩)
     rw [if_neg c25] at H
     refine aw_ifT ?_ (nT (bF c25))
     refine aw_grp1 ?_
     refine wk_start ?_
     refine kv g0 (asg) ?_
     refine wk_end ?_
     refine ac_next ?_
     refine aw_ret ?_
     refine ac_thenR ?_
     refine ac_blkR ?_
     refine ac_thenR ?_
     refine ac_thenR ?_
     refine ac_blkR ?_
     refine ac_thenR ?_
     obtain rfl := Option.some.inj H
     exact acr hE [.tmp 2] (.tmp .nil) (.one _) [] 9999
    rw [if_neg c21] at H
    refine aw_ifF ?_ (decide_eq_false c21)
    refine aw_exit ?_
    refine ac_then ?_
    refine ac_then ?_
    refine ac_hit rfl ?_
    refine ac_next ?_
    refine aw_grp1 ?_
    refine wk_start ?_
    refine kv g0 (mv) ?_
    refine kv g0 (faB 3 3) ?_
    refine kv g0 (ldB) ?_
    refine kv g0 (leq) ?_
    refine kv g0 (asg) ?_
    refine wk_end ?_
    refine ac_next ?_
    refine aw_ret ?_
    obtain rfl := Option.some.inj H
    exact acr hE [.tmp 2] (.tmp .nil) (.one _) [] 9999
   rw [if_neg c10] at H
   refine aw_ifT ?_ (nT (bF c10))
   refine aw_grp1 ?_
   refine wk_start ?_
   refine kv g0 (asg) ?_
   refine wk_end ?_
   refine ac_next ?_
   refine aw_ret ?_
   refine ac_thenR ?_
   obtain rfl := Option.some.inj H
   exact acr hE [.tmp 2] (.tmp .nil) (.one _) [] 9999
  rw [if_neg c7] at H
  refine kx (hF (nT (bF c7))) ?_
  refine kx (hF (nT (bF c7))) ?_
  refine kx (hF (nT (bF c7))) ?_
  refine kx (hF (nT (bF c7))) ?_
  refine kv g0 (pkT (nT (bF c7))) ?_
  refine wk_end ?_
  refine ac_next ?_
  refine aw_ifT ?_ rfl
  refine aw_grp1 ?_
  refine wk_start ?_
  refine kv g0 (asg) ?_
  refine wk_end ?_
  refine ac_next ?_
  refine aw_ret ?_
  refine ac_thenR ?_
  obtain rfl := Option.some.inj H
  exact acr hE [.tmp 2] (.tmp .nil) (.one _) [] 9999
 rw [if_neg c4] at H
 refine kx (hF (nT (bF c4))) ?_
 refine kx (hF (nT (bF c4))) ?_
 refine kx (hF (nT (bF c4))) ?_
 refine kx (hF (nT (bF c4))) ?_
 refine kv g0 (pkT (nT (bF c4))) ?_
 refine kv g0 (mv) ?_
 refine kx (hF rfl) ?_
 refine kx (hF rfl) ?_
 refine kx (hF rfl) ?_
 refine kx (hF rfl) ?_
 refine kv g0 (pkT rfl) ?_
 refine wk_end ?_
 refine ac_next ?_
 refine aw_ifT ?_ rfl
 refine aw_grp1 ?_
 refine wk_start ?_
 refine kv g0 (asg) ?_
 refine wk_end ?_
 refine ac_next ?_
 refine aw_ret ?_
 refine ac_thenR ?_
 obtain rfl := Option.some.inj H
 exact acr hE [.tmp 2] (.tmp .nil) (.one _) [] 9999
/-! spec_Taken -/
def spec_Taken.j0 : Nat → (List S43) → Int → Int → Int → Int → (Int × Int × (List S43) × Int × Int) → ((List S43) × Int × Int × Int × Int × Int × Int × Int × Bool) → Bool → Option (Int × Int × (List S43) × Int × Int × (List S43) × Int × Int × Int × Bool)
 | 0, _, _, _, _, _, _, _, _ => none
 | k16 + 1, l1_0, a1_1, a1_2, a1_3, a2, t1, t3, p15 => if p15 = true then ((spec_l16Copy.f l1_0 a1_1 a1_2 a1_3).bind fun t18 => some (t1.1, t1.2.1, t1.2.2.1, t1.2.2.2.1, t1.2.2.2.2, t18.1, t18.2.1, t18.2.2.1, t18.2.2.2, false)) else if t1.2.2.1.length + ([(⟨t3.2.2.2.2.1, t3.2.2.2.2.2.1, t3.2.2.2.2.2.2.1, t3.2.2.2.2.2.2.2.1⟩ : S43)] : List S43).length < 4398046511104 then some (t1.1, t1.2.1, t1.2.2.1 ++ ([(⟨t3.2.2.2.2.1, t3.2.2.2.2.2.1, t3.2.2.2.2.2.2.1, t3.2.2.2.2.2.2.2.1⟩ : S43)] : List S43), a2, 1, t3.1, t3.2.1, t3.2.2.1, t3.2.2.2.1, true) else none
def spec_Taken.f (k : Nat) (a0_0 : Int) (a0_1 : Int) (l0_2 : List S43) (a0_3 : Int) (a0_4 : Int) (l1_0 : List S43) (a1_1 : Int) (a1_2 : Int) (a1_3 : Int) (a2 : Int) : Option (Int × Int × (List S43) × Int × Int × (List S43) × Int × Int × Int × Bool) := (spec_l18Copy.f a0_0 a0_1 l0_2 a0_3 a0_4).bind fun t1 => (spec_Drained.f l1_0 a1_1 a1_2 a1_3).bind fun t3 => (spec_SenderOk.f k a0_0 a0_1 l0_2 a0_3 a0_4).bind fun t5 => (if t5 = true then ((spec_RingOk.f k l1_0 a1_1 a1_2 a1_3).bind fun t8 => (if t8 = true then (if t3.2.2.2.2.2.2.2.2 = true then (if (l0_2.length : Int) ≥ 3 then spec_Taken.j0 k l1_0 a1_1 a1_2 a1_3 a2 t1 t3 true else ((spec_l01In.f a2 0 1000000000).bind fun t13 => spec_Taken.j0 k l1_0 a1_1 a1_2 a1_3 a2 t1 t3 (!t13))) else spec_Taken.j0 k l1_0 a1_1 a1_2 a1_3 a2 t1 t3 true) else spec_Taken.j0 k l1_0 a1_1 a1_2 a1_3 a2 t1 t3 true)) else spec_Taken.j0 k l1_0 a1_1 a1_2 a1_3 a2 t1 t3 true)
theorem spec_Taken.ok {k : Nat} {a0_0 : Int} {a0_1 : Int} {l0_2 : List S43} {a0_3 : Int} {a0_4 : Int} {l1_0 : List S43} {a1_1 : Int} {a1_2 : Int} {a1_3 : Int} {a2 : Int} {r : Int × Int × (List S43) × Int × Int × (List S43) × Int × Int × Int × Bool} (H : spec_Taken.f k a0_0 a0_1 l0_2 a0_3 a0_4 l1_0 a1_1 a1_2 a1_3 a2 = some r) : ACalls Try.prog 49 [] [.agg [.lit (.int .i64 a0_0), .lit (.int .i64 a0_1), .sl .o 4 (l0_2.map e43), .lit (.int .i64 a0_3), .lit (.int .i64 a0_4)], .agg [.sl .o 4 (l1_0.map e43), .lit (.int .i64 a1_1), .lit (.int .i64 a1_2), .lit (.int .i64 a1_3)], .lit (.int .i64 a2)] [(0, .row 43 4 (r.2.2.1.map e43)), (1, .row 43 4 (r.2.2.2.2.2.1.map e43))] (.tup [.agg [.lit (.int .i64 r.1), .lit (.int .i64 r.2.1), .row 0, .lit (.int .i64 r.2.2.2.1), .lit (.int .i64 r.2.2.2.2.1)], .agg [.row 1, .lit (.int .i64 r.2.2.2.2.2.2.1), .lit (.int .i64 r.2.2.2.2.2.2.2.1), .lit (.int .i64 r.2.2.2.2.2.2.2.2.1)], .lit (.bool r.2.2.2.2.2.2.2.2.2)]) := by
 refine acalls (fn := Try.f49) (nt := 58) Try.func49 rfl rfl (Nat.le_of_ble_eq_true rfl) fun E hE => ?_
 rw [spec_Taken.f] at H
 refine aw_grp1 ?_
 refine wk_start ?_
 refine kb g0 (bxA 0) ?_
 refine kb g0 (bxA 1) ?_
 refine kb g0 (alc 2 [.int .i64 0, .int .i64 0, .slice none 0 0, .int .i64 0, .int .i64 0] [.lit (.int .i64 0), .lit (.int .i64 0), .lit (.slice none 0 0), .lit (.int .i64 0), .lit (.int .i64 0)]) ?_
 refine kb g0 (alc 3 [.slice none 0 0, .int .i64 0, .int .i64 0, .int .i64 0] [.lit (.slice none 0 0), .lit (.int .i64 0), .lit (.int .i64 0), .lit (.int .i64 0)]) ?_
 refine kv g0 (asg) ?_
 refine wk_end ?_
 refine ac_next ?_
 refine aw_grp1 ?_
 refine wk_start ?_
 refine kv g0 (ldBA 5 [.lit (.int .i64 a0_0), .lit (.int .i64 a0_1), .sl .o 4 (l0_2.map e43), .lit (.int .i64 a0_3), .lit (.int .i64 a0_4)]) ?_
 obtain ⟨t1, A2, H⟩ := of_bind H
 refine kcS1 14 (.agg [.lit (.int .i64 t1.1), .lit (.int .i64 t1.2.1), .row 4, .lit (.int .i64 t1.2.2.2.1), .lit (.int .i64 t1.2.2.2.2)]) [(4, .row 43 4 (t1.2.2.1.map e43))] g0 (cal (spec_l18Copy.ok A2) [4] 9999 .n (hf := Try.func135)) rfl rfl ?_
 refine kb g0 (alc 5 [.int .i64 0, .int .i64 0, .slice none 0 0, .int .i64 0, .int .i64 0] [.lit (.int .i64 0), .lit (.int .i64 0), .lit (.slice none 0 0), .lit (.int .i64 0), .lit (.int .i64 0)]) ?_
 refine ks g0 (stB 5 [.lit (.int .i64 t1.1), .lit (.int .i64 t1.2.1), .row 4, .lit (.int .i64 t1.2.2.2.1), .lit (.int .i64 t1.2.2.2.2)]) ?_
 refine wk_end ?_
 refine ac_next ?_
 refine aw_grp1 ?_
 refine wk_start ?_
 refine kv g0 (ldBA 4 [.sl .o 4 (l1_0.map e43), .lit (.int .i64 a1_1), .lit (.int .i64 a1_2), .lit (.int .i64 a1_3)]) ?_
 obtain ⟨t3, A4, H⟩ := of_bind H
 refine kcS1 17 (.tup [.agg [.row 6, .lit (.int .i64 t3.2.1), .lit (.int .i64 t3.2.2.1), .lit (.int .i64 t3.2.2.2.1)], .agg [.lit (.int .i64 t3.2.2.2.2.1), .lit (.int .i64 t3.2.2.2.2.2.1), .lit (.int .i64 t3.2.2.2.2.2.2.1), .lit (.int .i64 t3.2.2.2.2.2.2.2.1)], .lit (.bool t3.2.2.2.2.2.2.2.2)]) [(6, .row 43 4 (t3.1.map e43))] g0 (cal (spec_Drained.ok A4) [6] 9999 .n (hf := Try.func136)) rfl rfl ?_
 refine kv g0 (mv) ?_
 refine kv g0 (ext) ?_
 refine kv g0 (ext) ?_
 refine kv g0 (ext) ?_
 refine kb g0 (alc 7 [.slice none 0 0, .int .i64 0, .int .i64 0, .int .i64 0] [.lit (.slice none 0 0), .lit (.int .i64 0), .lit (.int .i64 0), .lit (.int .i64 0)]) ?_
 refine kb g0 (alc 8 [.int .i64 0, .int .i64 0, .int .i64 0, .int .i64 0] [.lit (.int .i64 0), .lit (.int .i64 0), .lit (.int .i64 0), .lit (.int .i64 0)]) ?_
 refine ks g0 (stB 4 [.row 6, .lit (.int .i64 t3.2.1), .lit (.int .i64 t3.2.2.1), .lit (.int .i64 t3.2.2.2.1)]) ?_
 refine ks g0 (stB 4 [.lit (.int .i64 t3.2.2.2.2.1), .lit (.int .i64 t3.2.2.2.2.2.1), .lit (.int .i64 t3.2.2.2.2.2.2.1), .lit (.int .i64 t3.2.2.2.2.2.2.2.1)]) ?_
 refine kv g0 (asg) ?_
 refine wk_end ?_
 refine ac_next ?_
 refine aw_grp1 ?_
 refine aw_cut1 (J := fun K_ => ∀ (k_ : Nat) (p15 : Bool), k_ ≤ k → spec_Taken.j0 k_ l1_0 a1_1 a1_2 a1_3 a2 t1 t3 p15 = some r → ACont E 58 ⟨[(2, .lit (.int .i64 a2)), (4, .box 1 0), (6, .box 2 0), (7, .box 3 0), (9, .box 5 0), (10, .box 7 0), (11, .box 8 0), (43, .lit (.bool p15))], [(1, .box 88 [.sl .o 4 (l1_0.map e43), .lit (.int .i64 a1_1), .lit (.int .i64 a1_2), .lit (.int .i64 a1_3)]), (2, .box 78 [.lit (.int .i64 0), .lit (.int .i64 0), .lit (.slice none 0 0), .lit (.int .i64 0), .lit (.int .i64 0)]), (3, .box 88 [.lit (.slice none 0 0), .lit (.int .i64 0), .lit (.int .i64 0), .lit (.int .i64 0)]), (4, .row 43 4 (t1.2.2.1.map e43)), (5, .box 78 [.lit (.int .i64 t1.1), .lit (.int .i64 t1.2.1), .row 4, .lit (.int .i64 t1.2.2.2.1), .lit (.int .i64 t1.2.2.2.2)]), (6, .row 43 4 (t3.1.map e43)), (7, .box 88 [.row 6, .lit (.int .i64 t3.2.1), .lit (.int .i64 t3.2.2.1), .lit (.int .i64 t3.2.2.2.1)]), (8, .box 43 [.lit (.int .i64 t3.2.2.2.2.1), .lit (.int .i64 t3.2.2.2.2.2.1), .lit (.int .i64 t3.2.2.2.2.2.2.1), .lit (.int .i64 t3.2.2.2.2.2.2.2.1)])]⟩ K_) ?_ ?_
 ·intro K_ hJ20
  refine wk_start ?_
  refine kv g0 (ldBA 5 [.lit (.int .i64 a0_0), .lit (.int .i64 a0_1), .sl .o 4 (l0_2.map e43), .lit (.int .i64 a0_3), .lit (.int .i64 a0_4)]) ?_
  obtain ⟨t5, A6, H⟩ := of_bind H
  refine kcS0 22 (.lit (.bool t5)) [] g0 (cal (spec_SenderOk.ok A6) [] 9999 .n (hf := Try.func57)) rfl rfl ?_
  refine kv g0 (not_) ?_
  refine kv g0 (mv) ?_
  by_cases c7 : t5 = true
  ·rw [if_pos c7] at H
   refine kv (g1 (nF c7)) (ldBA 4 [.sl .o 4 (l1_0.map e43), .lit (.int .i64 a1_1), .lit (.int .i64 a1_2), .lit (.int .i64 a1_3)]) ?_
   obtain ⟨t8, A9, H⟩ := of_bind H
   refine kcS0 26 (.lit (.bool t8)) [] (g1 (nF c7)) (cal (spec_RingOk.ok A9) [] 9999 .n (hf := Try.func137)) rfl rfl ?_
   refine kv (g1 (nF c7)) (not_) ?_
   refine kv g0 (pkF (nF c7)) ?_
   refine kv g0 (mv) ?_
   by_cases c10 : t8 = true
   ·rw [if_pos c10] at H
    refine kv (g1 (nF c10)) (mv) ?_
    refine kv (g1 (nF c10)) (not_) ?_
    refine kv g0 (pkF (nF c10)) ?_
    refine kv g0 (mv) ?_
    by_cases c11 : t3.2.2.2.2.2.2.2.2 = true
    ·rw [if_pos c11] at H
     refine kv (g1 (nF c11)) (faB 2 2) ?_
     refine kv (g1 (nF c11)) (ldB) ?_
     refine kv (g1 (nF c11)) (lnS lenE) ?_
     refine kv (g1 (nF c11)) (geq) ?_
     refine kv g0 (pkF (nF c11)) ?_
     refine kv g0 (mv) ?_
     by_cases c12 : (l0_2.length : Int) ≥ 3
     ·rw [if_pos c12] at H
      refine kx (hF (decide_eq_true c12)) ?_
      refine kx (hF (decide_eq_true c12)) ?_
      refine kx (hF (decide_eq_true c12)) ?_
      refine kv g0 (pkT (decide_eq_true c12)) ?_
      refine wk_end ?_
      refine ac_k ?_
      exact acw hE [(1, 1), (2, 2), (3, 3), (4, 4), (5, 5), (6, 6), (7, 7), (8, 8)] 9999 (hJ20 k true (Nat.le_refl _) H)
     rw [if_neg c12] at H
     refine kv (g1 (decide_eq_false c12)) (mv) ?_
     obtain ⟨t13, A14, H⟩ := of_bind H
     refine kcS0 41 (.lit (.bool t13)) [] (g1 (decide_eq_false c12)) (cal (spec_l01In.ok A14) [] 9999 .n (hf := Try.func81)) rfl rfl ?_
     refine kv (g1 (decide_eq_false c12)) (not_) ?_
     refine kv g0 (pkF (decide_eq_false c12)) ?_
     refine wk_end ?_
     refine ac_k ?_
     exact acw hE [(1, 1), (2, 2), (3, 3), (4, 4), (5, 5), (6, 6), (7, 7), (8, 8)] 9999 (hJ20 k (!t13) (Nat.le_refl _) H)
    rw [if_neg c11] at H
    refine kx (hF (nT (bF c11))) ?_
    refine kx (hF (nT (bF c11))) ?_
    refine kx (hF (nT (bF c11))) ?_
    refine kx (hF (nT (bF c11))) ?_
    refine kv g0 (pkT (nT (bF c11))) ?_
    refine kv g0 (mv) ?_
    refine kx (hF rfl) ?_
    refine kx (hF rfl) ?_
    refine kx (hF rfl) ?_
    refine kv g0 (pkT rfl) ?_
    refine wk_end ?_
    refine ac_k ?_
    exact acw hE [(1, 1), (2, 2), (3, 3), (4, 4), (5, 5), (6, 6), (7, 7), (8, 8)] 9999 (hJ20 k true (Nat.le_refl _) H)
   rw [if_neg c10] at H
   refine kx (hF (nT (bF c10))) ?_
   refine kx (hF (nT (bF c10))) ?_
   refine kv g0 (pkT (nT (bF c10))) ?_
   refine kv g0 (mv) ?_
   refine kx (hF rfl) ?_
   refine kx (hF rfl) ?_
   refine kx (hF rfl) ?_
   refine kx (hF rfl) ?_
   refine kv g0 (pkT rfl) ?_
   refine kv g0 (mv) ?_
   refine kx (hF rfl) ?_
   refine kx (hF rfl) ?_
   refine kx (hF rfl) ?_
   refine kv g0 (pkT rfl) ?_
   refine wk_end ?_
   refine ac_k ?_
   exact acw hE [(1, 1), (2, 2), (3, 3), (4, 4), (5, 5), (6, 6), (7, 7), (8, 8)] 9999 (hJ20 k true (Nat.le_refl _) H)
  rw [if_neg c7] at H
  refine kx (hF (nT (bF c7))) ?_
  refine kx (hF (nT (bF c7))) ?_
  refine kx (hF (nT (bF c7))) ?_
  refine kv g0 (pkT (nT (bF c7))) ?_
  refine kv g0 (mv) ?_
  refine kx (hF rfl) ?_
  refine kx (hF rfl) ?_
  refine kv g0 (pkT rfl) ?_
  refine kv g0 (mv) ?_
  refine kx (hF rfl) ?_
  refine kx (hF rfl) ?_
  refine kx (hF rfl) ?_
  refine kx (hF rfl) ?_
  refine kv g0 (pkT rfl) ?_
  refine kv g0 (mv) ?_
  refine kx (hF rfl) ?_
  refine kx (hF rfl) ?_
  refine kx (hF rfl) ?_
  refine kv g0 (pkT rfl) ?_
  refine wk_end ?_
  refine ac_k ?_
  exact acw hE [(1, 1), (2, 2), (3, 3), (4, 4), (5, 5), (6, 6), (7, 7), (8, 8)] 9999 (hJ20 k true (Nat.le_refl _) H)
 intro k_ p15 hk_ H
 rcases k_ with _ | k16
 ·rw [spec_Taken.j0.eq_1] at H; cases H
 have hk16 : k16 ≤ k := by omega
 clear hk_
 rw [spec_Taken.j0.eq_2] at H
 by_cases c17 : p15 = true
 ·rw [if_pos c17] at H
  refine aw_ifT ?_ c17
  refine aw_grp1 ?_
  refine wk_start ?_
  refine kv g0 (ldBA 5 [.lit (.int .i64 t1.1), .lit (.int .i64 t1.2.1), .row 4, .lit (.int .i64 t1.2.2.2.1), .lit (.int .i64 t1.2.2.2.2)]) ?_
  refine kv g0 (ldBA 4 [.sl .o 4 (l1_0.map e43), .lit (.int .i64 a1_1), .lit (.int .i64 a1_2), .lit (.int .i64 a1_3)]) ?_
  obtain ⟨t18, A19, H⟩ := of_bind H
  refine kcS1 46 (.agg [.row 9, .lit (.int .i64 t18.2.1), .lit (.int .i64 t18.2.2.1), .lit (.int .i64 t18.2.2.2)]) [(9, .row 43 4 (t18.1.map e43))] g0 (cal (spec_l16Copy.ok A19) [9] 9999 .n (hf := Try.func138)) rfl rfl ?_
  refine ks g0 (stB 5 [.lit (.int .i64 t1.1), .lit (.int .i64 t1.2.1), .row 4, .lit (.int .i64 t1.2.2.2.1), .lit (.int .i64 t1.2.2.2.2)]) ?_
  refine ks g0 (stB 4 [.row 9, .lit (.int .i64 t18.2.1), .lit (.int .i64 t18.2.2.1), .lit (.int .i64 t18.2.2.2)]) ?_
  refine kv g0 (asg) ?_
  refine wk_end_draw hM (by kernel_rfl) ?_
  refine ac_next ?_
  refine aw_ret ?_
  refine ac_thenR ?_
  obtain rfl := Option.some.inj H
  exact acr hE [.cell 6 78, .cell 7 88, .tmp 8] (rcA 5 (rcA 4 (.tmp .nil))) (.many _ _ _) [(0, 4), (1, 9)] 9999
 rw [if_neg c17] at H
 refine aw_ifF ?_ (bF c17)
 refine aw_skip ?_
 refine ac_next ?_
 refine aw_grp1 ?_
 refine wk_start ?_
 refine kv g0 (faB 2 2) ?_
 refine kv g0 (ldB) ?_
 refine kv g0 (ldBA 4 [.lit (.int .i64 t3.2.2.2.2.1), .lit (.int .i64 t3.2.2.2.2.2.1), .lit (.int .i64 t3.2.2.2.2.2.2.1), .lit (.int .i64 t3.2.2.2.2.2.2.2.1)]) ?_
 refine kb g0 (bsl 10 43 4 [.int .i64 0, .int .i64 0, .int .i64 0, .int .i64 0] (([(⟨t3.2.2.2.2.1, t3.2.2.2.2.2.1, t3.2.2.2.2.2.2.1, t3.2.2.2.2.2.2.2.1⟩ : S43)] : List S43).map e43)) ?_
 obtain ⟨c21, H⟩ := of_if H
 refine kc g0 (apR 11 43 4 32 [.int .i64 0, .int .i64 0, .int .i64 0, .int .i64 0] ((t1.2.2.1 ++ ([(⟨t3.2.2.2.2.1, t3.2.2.2.2.2.1, t3.2.2.2.2.2.2.1, t3.2.2.2.2.2.2.2.1⟩ : S43)] : List S43)).map e43) (.row rfl) (apb c21 rfl) appE) ?_
 refine kv g0 (faB 2 2) ?_
 refine ks g0 (stB 1 [.lit (.int .i64 t1.1), .lit (.int .i64 t1.2.1), .row 11, .lit (.int .i64 t1.2.2.2.1), .lit (.int .i64 t1.2.2.2.2)]) ?_
 refine wk_end ?_
 refine ac_next ?_
 refine aw_grp1 ?_
 refine wk_start ?_
 refine kv g0 (mv) ?_
 refine kv g0 (faB 3 3) ?_
 refine ks g0 (stB 1 [.lit (.int .i64 t1.1), .lit (.int .i64 t1.2.1), .row 11, .lit (.int .i64 a2), .lit (.int .i64 t1.2.2.2.2)]) ?_
 refine wk_end ?_
 refine ac_next ?_
 refine aw_grp1 ?_
 refine wk_start ?_
 refine kv g0 (faB 4 4) ?_
 refine ks g0 (stB 1 [.lit (.int .i64 t1.1), .lit (.int .i64 t1.2.1), .row 11, .lit (.int .i64 a2), .lit (.int .i64 1)]) ?_
 refine wk_end ?_
 refine ac_next ?_
 refine aw_grp1 ?_
 refine wk_start ?_
 refine kv g0 (ldBA 5 [.lit (.int .i64 t1.1), .lit (.int .i64 t1.2.1), .row 11, .lit (.int .i64 a2), .lit (.int .i64 1)]) ?_
 refine kv g0 (ldBA 4 [.row 6, .lit (.int .i64 t3.2.1), .lit (.int .i64 t3.2.2.1), .lit (.int .i64 t3.2.2.2.1)]) ?_
 refine ks g0 (stB 5 [.lit (.int .i64 t1.1), .lit (.int .i64 t1.2.1), .row 11, .lit (.int .i64 a2), .lit (.int .i64 1)]) ?_
 refine ks g0 (stB 4 [.row 6, .lit (.int .i64 t3.2.1), .lit (.int .i64 t3.2.2.1), .lit (.int .i64 t3.2.2.2.1)]) ?_
 refine kv g0 (asg) ?_
 refine wk_end_draw hM (by kernel_rfl) ?_
 refine ac_next ?_
 refine aw_ret ?_
 obtain rfl := Option.some.inj H
 exact acr hE [.cell 6 78, .cell 7 88, .tmp 8] (rcA 5 (rcA 4 (.tmp .nil))) (.many _ _ _) [(0, 11), (1, 6)] 9999
/-! impl_copyItems -/
def impl_copyItems.f (l0 : List S43) : Option ((List S43)) := if ([] : List S43).length + l0.length < 4398046511104 then some (([] : List S43) ++ l0) else none
theorem impl_copyItems.ok {l0 : List S43} {r : (List S43)} (H : impl_copyItems.f l0 = some r) : ACalls Try.prog 128 [] [.sl .o 4 (l0.map e43)] [(0, .row 43 4 (r.map e43))] (.row 0) := by
 refine acalls (fn := Try.f128) (nt := 6) Try.func128 rfl rfl (Nat.le_of_ble_eq_true rfl) fun E hE => ?_
 rw [impl_copyItems.f] at H
 refine aw_grp1 ?_
 refine wk_start ?_
 refine kv g0 (asg) ?_
 refine wk_end ?_
 refine ac_next ?_
 refine aw_grp1 ?_
 refine wk_start ?_
 refine kb g0 (bsl 0 43 4 [.int .i64 0, .int .i64 0, .int .i64 0, .int .i64 0] (([] : List S43).map e43)) ?_
 refine kv g0 (mv) ?_
 obtain ⟨c1, H⟩ := of_if H
 refine kc g0 (apR 1 43 4 32 [.int .i64 0, .int .i64 0, .int .i64 0, .int .i64 0] ((([] : List S43) ++ l0).map e43) (.slF (fl43)) (apb c1 rfl) appE) ?_
 refine kv g0 (asg) ?_
 refine wk_end ?_
 refine ac_next ?_
 refine aw_ret ?_
 obtain rfl := Option.some.inj H
 exact acr hE [.tmp 2] (.tmp .nil) (.one _) [(0, 1)] 9999
/-! impl_copyRing -/
def impl_copyRing.f (l0_0 : List S43) (a0_1 : Int) (a0_2 : Int) (a0_3 : Int) : Option ((List S43) × Int × Int × Int) := (impl_copyItems.f l0_0).bind fun t1 => some (t1, a0_1, a0_2, a0_3)
theorem impl_copyRing.ok {l0_0 : List S43} {a0_1 : Int} {a0_2 : Int} {a0_3 : Int} {r : (List S43) × Int × Int × Int} (H : impl_copyRing.f l0_0 a0_1 a0_2 a0_3 = some r) : ACalls Try.prog 134 [] [.agg [.sl .o 4 (l0_0.map e43), .lit (.int .i64 a0_1), .lit (.int .i64 a0_2), .lit (.int .i64 a0_3)]] [(0, .row 43 4 (r.1.map e43))] (.agg [.row 0, .lit (.int .i64 r.2.1), .lit (.int .i64 r.2.2.1), .lit (.int .i64 r.2.2.2)]) := by
 refine acalls (fn := Try.f134) (nt := 8) Try.func134 rfl rfl (Nat.le_of_ble_eq_true rfl) fun E hE => ?_
 rw [impl_copyRing.f] at H
 refine aw_grp1 ?_
 refine wk_start ?_
 refine kb g0 (bxA 0) ?_
 refine kb g0 (alc 1 [.slice none 0 0, .int .i64 0, .int .i64 0, .int .i64 0] [.lit (.slice none 0 0), .lit (.int .i64 0), .lit (.int .i64 0), .lit (.int .i64 0)]) ?_
 refine wk_end ?_
 refine ac_next ?_
 refine aw_grp1 ?_
 refine wk_start ?_
 refine kv g0 (faB 0 0) ?_
 refine kv g0 (ldB) ?_
 obtain ⟨t1, A2, H⟩ := of_bind H
 refine kcS1 5 (.row 2) [(2, .row 43 4 (t1.map e43))] g0 (cal (impl_copyItems.ok A2) [2] 9999 .n (hf := Try.func128)) rfl rfl ?_
 refine kv g0 (faB 0 0) ?_
 refine ks g0 (stB 1 [.row 2, .lit (.int .i64 a0_1), .lit (.int .i64 a0_2), .lit (.int .i64 a0_3)]) ?_
 refine wk_end ?_
 refine ac_next ?_
 refine aw_grp1 ?_
 refine wk_start ?_
 refine kv g0 (ldBA 4 [.row 2, .lit (.int .i64 a0_1), .lit (.int .i64 a0_2), .lit (.int .i64 a0_3)]) ?_
 refine ks g0 (stB 4 [.row 2, .lit (.int .i64 a0_1), .lit (.int .i64 a0_2), .lit (.int .i64 a0_3)]) ?_
 refine wk_end ?_
 refine ac_next ?_
 refine aw_ret ?_
 obtain rfl := Option.some.inj H
 exact acr hE [.cell 2 88] (rcA 4 .nil) (.one _) [(0, 2)] 9999
/-! impl_Drained -/
def impl_Drained.f (l0_0 : List S43) (a0_1 : Int) (a0_2 : Int) (a0_3 : Int) : Option ((List S43) × Int × Int × Int × Int × Int × Int × Int × Bool) := (impl_copyRing.f l0_0 a0_1 a0_2 a0_3).bind fun t1 => if (t1.1.length : Int) > 0 then (if 0 < (t1.1.length : Int) then if 1 ≤ (t1.1.length : Int) then ((impl_copyItems.f (t1.1.drop 1)).bind fun t6 => some (t6, t1.2.1, t1.2.2.1, t1.2.2.2, (rd_T43 t1.1 0).f0, (rd_T43 t1.1 0).f1, (rd_T43 t1.1 0).f2, (rd_T43 t1.1 0).f3, true)) else none else none) else if t1.2.2.1 = 0 then some (t1.1, t1.2.1, t1.2.2.1, t1.2.2.2, 0, 0, 0, 0, false) else some (t1.1, t1.2.1, 0, t1.2.2.2, 2, 0, 0, t1.2.2.1, true)
theorem impl_Drained.ok {l0_0 : List S43} {a0_1 : Int} {a0_2 : Int} {a0_3 : Int} {r : (List S43) × Int × Int × Int × Int × Int × Int × Int × Bool} (H : impl_Drained.f l0_0 a0_1 a0_2 a0_3 = some r) : ACalls Try.prog 132 [] [.agg [.sl .o 4 (l0_0.map e43), .lit (.int .i64 a0_1), .lit (.int .i64 a0_2), .lit (.int .i64 a0_3)]] [(0, .row 43 4 (r.1.map e43))] (.tup [.agg [.row 0, .lit (.int .i64 r.2.1), .lit (.int .i64 r.2.2.1), .lit (.int .i64 r.2.2.2.1)], .agg [.lit (.int .i64 r.2.2.2.2.1), .lit (.int .i64 r.2.2.2.2.2.1), .lit (.int .i64 r.2.2.2.2.2.2.1), .lit (.int .i64 r.2.2.2.2.2.2.2.1)], .lit (.bool r.2.2.2.2.2.2.2.2)]) := by
 refine acalls (fn := Try.f132) (nt := 38) Try.func132 rfl rfl (Nat.le_of_ble_eq_true rfl) fun E hE => ?_
 rw [impl_Drained.f] at H
 refine aw_grp1 ?_
 refine wk_start ?_
 refine kb g0 (bxA 0) ?_
 refine kb g0 (alc 1 [.slice none 0 0, .int .i64 0, .int .i64 0, .int .i64 0] [.lit (.slice none 0 0), .lit (.int .i64 0), .lit (.int .i64 0), .lit (.int .i64 0)]) ?_
 refine kb g0 (alc 2 [.int .i64 0, .int .i64 0, .int .i64 0, .int .i64 0] [.lit (.int .i64 0), .lit (.int .i64 0), .lit (.int .i64 0), .lit (.int .i64 0)]) ?_
 refine kv g0 (asg) ?_
 refine wk_end ?_
 refine ac_next ?_
 refine aw_grp1 ?_
 refine wk_start ?_
 refine kv g0 (ldBA 4 [.sl .o 4 (l0_0.map e43), .lit (.int .i64 a0_1), .lit (.int .i64 a0_2), .lit (.int .i64 a0_3)]) ?_
 obtain ⟨t1, A2, H⟩ := of_bind H
 refine kcS1 9 (.agg [.row 3, .lit (.int .i64 t1.2.1), .lit (.int .i64 t1.2.2.1), .lit (.int .i64 t1.2.2.2)]) [(3, .row 43 4 (t1.1.map e43))] g0 (cal (impl_copyRing.ok A2) [3] 9999 .n (hf := Try.func134)) rfl rfl ?_
 refine kb g0 (alc 4 [.slice none 0 0, .int .i64 0, .int .i64 0, .int .i64 0] [.lit (.slice none 0 0), .lit (.int .i64 0), .lit (.int .i64 0), .lit (.int .i64 0)]) ?_
 refine ks g0 (stB 4 [.row 3, .lit (.int .i64 t1.2.1), .lit (.int .i64 t1.2.2.1), .lit (.int .i64 t1.2.2.2)]) ?_
 refine wk_end ?_
 refine ac_next ?_
 refine aw_grp1 ?_
 refine aw_block ?_
 refine aw_grp1 ?_
 refine wk_start ?_
 refine kv g0 (faB 0 0) ?_
 refine kv g0 (ldB) ?_
 refine kv g0 (lnR lenE) ?_
 refine kv g0 (gtr) ?_
 refine kv g0 (asg) ?_
 refine wk_end ?_
 refine ac_next ?_
 by_cases c3 : (t1.1.length : Int) > 0
 ·rw [if_pos c3] at H
  refine aw_ifT ?_ (decide_eq_true c3)
  refine aw_grp1 ?_
  refine wk_start ?_
  refine kv g0 (faB 0 0) ?_
  refine kv g0 (ldB) ?_
  obtain ⟨c4, H⟩ := of_if H
  refine kv g0 (ixR 43 (by decide : (0 : Int) ≤ 0) (ltE c4)) ?_
  refine kv g0 (ldEA 4 (e43 (rd_T43 t1.1 0)) [.lit (.int .i64 ((rd_T43 t1.1 0).f0)), .lit (.int .i64 ((rd_T43 t1.1 0).f1)), .lit (.int .i64 ((rd_T43 t1.1 0).f2)), .lit (.int .i64 ((rd_T43 t1.1 0).f3))] (getE (z := z43) (by decide : (0 : Int) ≤ 0) c4)) ?_
  refine kb g0 (alc 5 [.int .i64 0, .int .i64 0, .int .i64 0, .int .i64 0] [.lit (.int .i64 0), .lit (.int .i64 0), .lit (.int .i64 0), .lit (.int .i64 0)]) ?_
  refine ks g0 (stB 4 [.lit (.int .i64 ((rd_T43 t1.1 0).f0)), .lit (.int .i64 ((rd_T43 t1.1 0).f1)), .lit (.int .i64 ((rd_T43 t1.1 0).f2)), .lit (.int .i64 ((rd_T43 t1.1 0).f3))]) ?_
  refine wk_end ?_
  refine ac_next ?_
  refine aw_grp1 ?_
  refine wk_start ?_
  refine kv g0 (faB 0 0) ?_
  refine kv g0 (ldB) ?_
  obtain ⟨c5, H⟩ := of_if H
  refine kv g0 (srL 43 (by decide : (0 : Int) ≤ 1) c5) ?_
  obtain ⟨t6, A7, H⟩ := of_bind H
  refine kcS1 22 (.row 6) [(6, .row 43 4 (t6.map e43))] g0 (cal (impl_copyItems.ok A7) [6] 9999 .n (hf := Try.func128) (hargs := by rw [← mapD]; rfl)) rfl rfl ?_
  refine kv g0 (faB 0 0) ?_
  refine ks g0 (stB 1 [.row 6, .lit (.int .i64 t1.2.1), .lit (.int .i64 t1.2.2.1), .lit (.int .i64 t1.2.2.2)]) ?_
  refine wk_end ?_
  refine ac_next ?_
  refine aw_grp1 ?_
  refine wk_start ?_
  refine kv g0 (ldBA 4 [.row 6, .lit (.int .i64 t1.2.1), .lit (.int .i64 t1.2.2.1), .lit (.int .i64 t1.2.2.2)]) ?_
  refine kv g0 (ldBA 4 [.lit (.int .i64 ((rd_T43 t1.1 0).f0)), .lit (.int .i64 ((rd_T43 t1.1 0).f1)), .lit (.int .i64 ((rd_T43 t1.1 0).f2)), .lit (.int .i64 ((rd_T43 t1.1 0).f3))]) ?_
  refine ks g0 (stB 4 [.row 6, .lit (.int .i64 t1.2.1), .lit (.int .i64 t1.2.2.1), .lit (.int .i64 t1.2.2.2)]) ?_
  refine ks g0 (stB 4 [.lit (.int .i64 ((rd_T43 t1.1 0).f0)), .lit (.int .i64 ((rd_T43 t1.1 0).f1)), .lit (.int .i64 ((rd_T43 t1.1 0).f2)), .lit (.int .i64 ((rd_T43 t1.1 0).f3))]) ?_
  refine kv g0 (asg) ?_
  refine wk_end_draw hM (by kernel_rfl) ?_
  refine ac_next ?_
  refine aw_ret ?_
  refine ac_blkR ?_
  refine ac_thenR ?_
  obtain rfl := Option.some.inj H
  exact acr hE [.cell 2 88, .cell 3 43, .tmp 4] (rcA 4 (rcA 4 (.tmp .nil))) (.many _ _ _) [(0, 6)] 9999
 rw [if_neg c3] at H
 refine aw_ifF ?_ (decide_eq_false c3)
 refine aw_grp1 ?_
 refine wk_start ?_
 refine kv g0 (faB 2 2) ?_
 refine kv g0 (ldB) ?_
 refine kv g0 (neq) ?_
 refine kv g0 (asg) ?_
 refine wk_end ?_
 refine ac_next ?_
 by_cases c8 : t1.2.2.1 = 0
 ·rw [if_pos c8] at H
  refine aw_ifF ?_ (eM c8)
  refine aw_skip ?_
  refine ac_blkN ?_
  refine ac_next ?_
  refine aw_grp1 ?_
  refine wk_start ?_
  refine kv g0 (ldBA 4 [.row 3, .lit (.int .i64 t1.2.1), .lit (.int .i64 t1.2.2.1), .lit (.int .i64 t1.2.2.2)]) ?_
  refine kv g0 (bld [(0, 1), (1, 1), (2, 1), (3, 1)] [.int .i64 0, .int .i64 0, .int .i64 0, .int .i64 0] [.lit (.int .i64 0), .lit (.int .i64 0), .lit (.int .i64 0), .lit (.int .i64 0)]) ?_
  refine ks g0 (stB 4 [.row 3, .lit (.int .i64 t1.2.1), .lit (.int .i64 t1.2.2.1), .lit (.int .i64 t1.2.2.2)]) ?_
  refine ks g0 (stB 4 [.lit (.int .i64 0), .lit (.int .i64 0), .lit (.int .i64 0), .lit (.int .i64 0)]) ?_
  refine kv g0 (asg) ?_
  refine wk_end ?_
  refine ac_next ?_
  refine aw_ret ?_
  obtain rfl := Option.some.inj H
  exact acr hE [.cell 2 88, .cell 3 43, .tmp 4] (rcA 4 (rcA 4 (.tmp .nil))) (.many _ _ _) [(0, 3)] 9999
 rw [if_neg c8] at H
 refine aw_ifT ?_ (eN c8)
 refine aw_grp1 ?_
 refine wk_start ?_
 refine kv g0 (faB 2 2) ?_
 refine kv g0 (ldB) ?_
 refine kv g0 (bld [(0, 1), (1, 1), (2, 1), (3, 1)] [.int .i64 0, .int .i64 0, .int .i64 0, .int .i64 0] [.lit (.int .i64 2), .lit (.int .i64 0), .lit (.int .i64 0), .lit (.int .i64 t1.2.2.1)]) ?_
 refine kb g0 (alc 7 [.int .i64 0, .int .i64 0, .int .i64 0, .int .i64 0] [.lit (.int .i64 0), .lit (.int .i64 0), .lit (.int .i64 0), .lit (.int .i64 0)]) ?_
 refine ks g0 (stB 4 [.lit (.int .i64 2), .lit (.int .i64 0), .lit (.int .i64 0), .lit (.int .i64 t1.2.2.1)]) ?_
 refine wk_end ?_
 refine ac_next ?_
 refine aw_grp1 ?_
 refine wk_start ?_
 refine kv g0 (faB 2 2) ?_
 refine ks g0 (stB 1 [.row 3, .lit (.int .i64 t1.2.1), .lit (.int .i64 0), .lit (.int .i64 t1.2.2.2)]) ?_
 refine wk_end ?_
 refine ac_next ?_
 refine aw_grp1 ?_
 refine wk_start ?_
 refine kv g0 (ldBA 4 [.row 3, .lit (.int .i64 t1.2.1), .lit (.int .i64 0), .lit (.int .i64 t1.2.2.2)]) ?_
 refine kv g0 (ldBA 4 [.lit (.int .i64 2), .lit (.int .i64 0), .lit (.int .i64 0), .lit (.int .i64 t1.2.2.1)]) ?_
 refine ks g0 (stB 4 [.row 3, .lit (.int .i64 t1.2.1), .lit (.int .i64 0), .lit (.int .i64 t1.2.2.2)]) ?_
 refine ks g0 (stB 4 [.lit (.int .i64 2), .lit (.int .i64 0), .lit (.int .i64 0), .lit (.int .i64 t1.2.2.1)]) ?_
 refine kv g0 (asg) ?_
 refine wk_end_draw hM (by kernel_rfl) ?_
 refine ac_next ?_
 refine aw_ret ?_
 refine ac_blkR ?_
 refine ac_thenR ?_
 obtain rfl := Option.some.inj H
 exact acr hE [.cell 2 88, .cell 3 43, .tmp 4] (rcA 4 (rcA 4 (.tmp .nil))) (.many _ _ _) [(0, 3)] 9999
/-! impl_within -/
def impl_within.f (a0 : Int) (a1 : Int) (a2 : Int) : Option (Bool) := if a0 ≥ a1 then some (decide (a0 ≤ a2)) else some false
theorem impl_within.ok {a0 : Int} {a1 : Int} {a2 : Int} {r : Bool} (H : impl_within.f a0 a1 a2 = some r) : ACalls Try.prog 88 [] [.lit (.int .i64 a0), .lit (.int .i64 a1), .lit (.int .i64 a2)] [] (.lit (.bool r)) := by
 refine acalls (fn := Try.f88) (nt := 15) Try.func88 rfl rfl (Nat.le_of_ble_eq_true rfl) fun E hE => ?_
 rw [impl_within.f] at H
 refine aw_grp1 ?_
 refine wk_start ?_
 refine kv g0 (asg) ?_
 refine wk_end ?_
 refine ac_next ?_
 refine aw_grp1 ?_
 refine wk_start ?_
 refine kv g0 (mv) ?_
 refine kv g0 (mv) ?_
 refine kv g0 (geq) ?_
 refine kv g0 (mv) ?_
 by_cases c1 : a0 ≥ a1
 ·rw [if_pos c1] at H
  refine kv (g1 (decide_eq_true c1)) (mv) ?_
  refine kv (g1 (decide_eq_true c1)) (mv) ?_
  refine kv (g1 (decide_eq_true c1)) (leq) ?_
  refine kv g0 (pkT (decide_eq_true c1)) ?_
  refine kv g0 (asg) ?_
  refine wk_end ?_
  refine ac_next ?_
  refine aw_ret ?_
  obtain rfl := Option.some.inj H
  exact acr hE [.tmp 6] (.tmp .nil) (.one _) [] 9999
 rw [if_neg c1] at H
 refine kx (hT (decide_eq_false c1)) ?_
 refine kx (hT (decide_eq_false c1)) ?_
 refine kx (hT (decide_eq_false c1)) ?_
 refine kv g0 (pkF (decide_eq_false c1)) ?_
 refine kv g0 (asg) ?_
 refine wk_end ?_
 refine ac_next ?_
 refine aw_ret ?_
 obtain rfl := Option.some.inj H
 exact acr hE [.tmp 6] (.tmp .nil) (.one _) [] 9999
/-! impl_isPid -/
def impl_isPid.f (a0 : Int) : Option (Bool) := (impl_within.f a0 0 2).bind fun t1 => some t1
theorem impl_isPid.ok {a0 : Int} {r : Bool} (H : impl_isPid.f a0 = some r) : ACalls Try.prog 89 [] [.lit (.int .i64 a0)] [] (.lit (.bool r)) := by
 refine acalls (fn := Try.f89) (nt := 5) Try.func89 rfl rfl (Nat.le_of_ble_eq_true rfl) fun E hE => ?_
 rw [impl_isPid.f] at H
 refine aw_grp1 ?_
 refine wk_start ?_
 refine kv g0 (asg) ?_
 refine wk_end ?_
 refine ac_next ?_
 refine aw_grp1 ?_
 refine wk_start ?_
 refine kv g0 (mv) ?_
 obtain ⟨t1, A2, H⟩ := of_bind H
 refine kcS0 4 (.lit (.bool t1)) [] g0 (cal (impl_within.ok A2) [] 9999 .n (hf := Try.func88)) rfl rfl ?_
 refine kv g0 (asg) ?_
 refine wk_end ?_
 refine ac_next ?_
 refine aw_ret ?_
 obtain rfl := Option.some.inj H
 exact acr hE [.tmp 2] (.tmp .nil) (.one _) [] 9999
/-! impl_HalfOk -/
def impl_HalfOk.f (a0 : Int) : Option (Bool) := (impl_within.f a0 0 4294967295).bind fun t1 => some t1
theorem impl_HalfOk.ok {a0 : Int} {r : Bool} (H : impl_HalfOk.f a0 = some r) : ACalls Try.prog 161 [] [.lit (.int .i64 a0)] [] (.lit (.bool r)) := by
 refine acalls (fn := Try.f161) (nt := 5) Try.func161 rfl rfl (Nat.le_of_ble_eq_true rfl) fun E hE => ?_
 rw [impl_HalfOk.f] at H
 refine aw_grp1 ?_
 refine wk_start ?_
 refine kv g0 (asg) ?_
 refine wk_end ?_
 refine ac_next ?_
 refine aw_grp1 ?_
 refine wk_start ?_
 refine kv g0 (mv) ?_
 obtain ⟨t1, A2, H⟩ := of_bind H
 refine kcS0 4 (.lit (.bool t1)) [] g0 (cal (impl_within.ok A2) [] 9999 .n (hf := Try.func88)) rfl rfl ?_
 refine kv g0 (asg) ?_
 refine wk_end ?_
 refine ac_next ?_
 refine aw_ret ?_
 obtain rfl := Option.some.inj H
 exact acr hE [.tmp 2] (.tmp .nil) (.one _) [] 9999
/-! impl_ItemOk -/
def impl_ItemOk.f (a0_0 : Int) (a0_1 : Int) (a0_2 : Int) (a0_3 : Int) : Option (Bool) := if a0_0 = 1 then ((impl_HalfOk.f a0_1).bind fun t2 => (if t2 = true then ((impl_HalfOk.f a0_2).bind fun t5 => (if t5 = true then some (a0_3 == 0) else some false)) else some false)) else if a0_0 = 2 then ((impl_within.f a0_3 1 1000000000).bind fun t9 => (if t9 = true then (if a0_1 = 0 then some (a0_2 == 0) else some false) else some false)) else some false
theorem impl_ItemOk.ok {a0_0 : Int} {a0_1 : Int} {a0_2 : Int} {a0_3 : Int} {r : Bool} (H : impl_ItemOk.f a0_0 a0_1 a0_2 a0_3 = some r) : ACalls Try.prog 90 [] [.agg [.lit (.int .i64 a0_0), .lit (.int .i64 a0_1), .lit (.int .i64 a0_2), .lit (.int .i64 a0_3)]] [] (.lit (.bool r)) := by
 refine acalls (fn := Try.f90) (nt := 35) Try.func90 rfl rfl (Nat.le_of_ble_eq_true rfl) fun E hE => ?_
 rw [impl_ItemOk.f] at H
 refine aw_grp1 ?_
 refine wk_start ?_
 refine kb g0 (bxA 0) ?_
 refine kv g0 (asg) ?_
 refine wk_end ?_
 refine ac_next ?_
 refine aw_grp1 ?_
 refine aw_grp1 ?_
 refine wk_start ?_
 refine kv g0 (faB 0 0) ?_
 refine kv g0 (ldB) ?_
 refine wk_end ?_
 refine ac_next ?_
 refine aw_block ?_
 refine aw_grp1 ?_
 refine wk_start ?_
 refine kv g0 (eql) ?_
 refine kv g0 (asg) ?_
 refine wk_end ?_
 refine ac_next ?_
 by_cases c1 : a0_0 = 1
 ·rw [if_pos c1] at H
  refine aw_ifT ?_ (eT c1)
  refine aw_grp1 ?_
  refine wk_start ?_
  refine kv g0 (faB 1 1) ?_
  refine kv g0 (ldB) ?_
  obtain ⟨t2, A3, H⟩ := of_bind H
  refine kcS0 9 (.lit (.bool t2)) [] g0 (cal (impl_HalfOk.ok A3) [] 9999 .n (hf := Try.func161)) rfl rfl ?_
  refine kv g0 (mv) ?_
  by_cases c4 : t2 = true
  ·rw [if_pos c4] at H
   refine kv (g1 c4) (faB 2 2) ?_
   refine kv (g1 c4) (ldB) ?_
   obtain ⟨t5, A6, H⟩ := of_bind H
   refine kcS0 13 (.lit (.bool t5)) [] (g1 c4) (cal (impl_HalfOk.ok A6) [] 9999 .n (hf := Try.func161)) rfl rfl ?_
   refine kv g0 (pkT c4) ?_
   refine kv g0 (mv) ?_
   by_cases c7 : t5 = true
   ·rw [if_pos c7] at H
    refine kv (g1 c7) (faB 3 3) ?_
    refine kv (g1 c7) (ldB) ?_
    refine kv (g1 c7) (eql) ?_
    refine kv g0 (pkT c7) ?_
    refine kv g0 (asg) ?_
    refine wk_end ?_
    refine ac_next ?_
    refine aw_ret ?_
    refine ac_blkR ?_
    refine ac_thenR ?_
    obtain rfl := Option.some.inj H
    exact acr hE [.tmp 2] (.tmp .nil) (.one _) [] 9999
   rw [if_neg c7] at H
   refine kx (hT (bF c7)) ?_
   refine kx (hT (bF c7)) ?_
   refine kx (hT (bF c7)) ?_
   refine kv g0 (pkF (bF c7)) ?_
   refine kv g0 (asg) ?_
   refine wk_end ?_
   refine ac_next ?_
   refine aw_ret ?_
   refine ac_blkR ?_
   refine ac_thenR ?_
   obtain rfl := Option.some.inj H
   exact acr hE [.tmp 2] (.tmp .nil) (.one _) [] 9999
  rw [if_neg c4] at H
  refine kx (hT (bF c4)) ?_
  refine kx (hT (bF c4)) ?_
  refine kx (hT (bF c4)) ?_
  refine kv g0 (pkF (bF c4)) ?_
  refine kv g0 (mv) ?_
  refine kx (hT rfl) ?_
  refine kx (hT rfl) ?_
  refine kx (hT rfl) ?_
  refine kv g0 (pkF rfl) ?_
  refine kv g0 (asg) ?_
  refine wk_end ?_
  refine ac_next ?_
  refine aw_ret ?_
  refine ac_blkR ?_
  refine ac_thenR ?_
  obtain rfl := Option.some.inj H
  exact acr hE [.tmp 2] (.tmp .nil) (.one _) [] 9999
 rw [if_neg c1] at H
 refine aw_ifF ?_ (eF c1)
 refine aw_grp1 ?_
 refine wk_start ?_
 refine kv g0 (eql) ?_
 refine kv g0 (asg) ?_
 refine wk_end ?_
 refine ac_next ?_
 by_cases c8 : a0_0 = 2
 ·rw [if_pos c8] at H
  refine aw_ifT ?_ (eT c8)
  refine aw_grp1 ?_
  refine wk_start ?_
  refine kv g0 (faB 3 3) ?_
  refine kv g0 (ldB) ?_
  obtain ⟨t9, A10, H⟩ := of_bind H
  refine kcS0 24 (.lit (.bool t9)) [] g0 (cal (impl_within.ok A10) [] 9999 .n (hf := Try.func88)) rfl rfl ?_
  refine kv g0 (mv) ?_
  by_cases c11 : t9 = true
  ·rw [if_pos c11] at H
   refine kv (g1 c11) (faB 1 1) ?_
   refine kv (g1 c11) (ldB) ?_
   refine kv (g1 c11) (eql) ?_
   refine kv g0 (pkT c11) ?_
   refine kv g0 (mv) ?_
   by_cases c12 : a0_1 = 0
   ·rw [if_pos c12] at H
    refine kv (g1 (eT c12)) (faB 2 2) ?_
    refine kv (g1 (eT c12)) (ldB) ?_
    refine kv (g1 (eT c12)) (eql) ?_
    refine kv g0 (pkT (eT c12)) ?_
    refine kv g0 (asg) ?_
    refine wk_end ?_
    refine ac_next ?_
    refine aw_ret ?_
    refine ac_blkR ?_
    refine ac_thenR ?_
    obtain rfl := Option.some.inj H
    exact acr hE [.tmp 2] (.tmp .nil) (.one _) [] 9999
   rw [if_neg c12] at H
   refine kx (hT (eF c12)) ?_
   refine kx (hT (eF c12)) ?_
   refine kx (hT (eF c12)) ?_
   refine kv g0 (pkF (eF c12)) ?_
   refine kv g0 (asg) ?_
   refine wk_end ?_
   refine ac_next ?_
   refine aw_ret ?_
   refine ac_blkR ?_
   refine ac_thenR ?_
   obtain rfl := Option.some.inj H
   exact acr hE [.tmp 2] (.tmp .nil) (.one _) [] 9999
  rw [if_neg c11] at H
  refine kx (hT (bF c11)) ?_
  refine kx (hT (bF c11)) ?_
  refine kx (hT (bF c11)) ?_
  refine kv g0 (pkF (bF c11)) ?_
  refine kv g0 (mv) ?_
  refine kx (hT rfl) ?_
  refine kx (hT rfl) ?_
  refine kx (hT rfl) ?_
  refine kv g0 (pkF rfl) ?_
  refine kv g0 (asg) ?_
  refine wk_end ?_
  refine ac_next ?_
  refine aw_ret ?_
  refine ac_blkR ?_
  refine ac_thenR ?_
  obtain rfl := Option.some.inj H
  exact acr hE [.tmp 2] (.tmp .nil) (.one _) [] 9999
 rw [if_neg c8] at H
 refine aw_ifF ?_ (eF c8)
 refine aw_skip ?_
 refine ac_blkN ?_
 refine ac_next ?_
 refine aw_grp1 ?_
 refine wk_start ?_
 refine kv g0 (asg) ?_
 refine wk_end ?_
 refine ac_next ?_
 refine aw_ret ?_
 obtain rfl := Option.some.inj H
 exact acr hE [.tmp 2] (.tmp .nil) (.one _) [] 9999
/-! impl_areItems -/
def impl_areItems.l0 : Nat → (List S43) → Int → Option (Bool)
 | 0, _, _ => none
 | k7 + 1, l0, p6 => if p6 < (l0.length : Int) then if 0 ≤ p6 then (impl_ItemOk.f ((rd_T43 l0 p6).f0) ((rd_T43 l0 p6).f1) ((rd_T43 l0 p6).f2) ((rd_T43 l0 p6).f3)).bind fun t10 => if t10 = true then impl_areItems.l0 k7 l0 (wrap64 (p6 + 1)) else some false else none else some true
def impl_areItems.f (k : Nat) (l0 : List S43) : Option (Bool) := impl_areItems.l0 k l0 0
theorem impl_areItems.ok {k : Nat} {l0 : List S43} {r : Bool} (H : impl_areItems.f k l0 = some r) : ACalls Try.prog 129 [] [.sl .o 4 (l0.map e43)] [] (.lit (.bool r)) := by
 refine acalls (fn := Try.f129) (nt := 15) Try.func129 rfl rfl (Nat.le_of_ble_eq_true rfl) fun E hE => ?_
 rw [impl_areItems.f] at H
 refine aw_grp1 ?_
 refine wk_start ?_
 refine kv g0 (asg) ?_
 refine wk_end ?_
 refine ac_next ?_
 refine aw_grp1 ?_
 refine aw_grp1 ?_
 refine wk_start ?_
 refine kv g0 (mv) ?_
 refine kv g0 (lnS lenE) ?_
 refine kv g0 (mv) ?_
 refine wk_end ?_
 refine ac_next ?_
 refine aw_block ?_
 refine aw_loop1 (fun (k_ : Nat) (p6 : Int) => k_ ≤ k ∧ impl_areItems.l0 k_ l0 p6 = some r) (fun (p6 : Int) => ⟨[(5, .sl .o 4 (l0.map e43)), (6, .lit (.int .i64 (l0.length : Int))), (7, .lit (.int .i64 p6))], []⟩) k 0 ⟨Nat.le_refl _, H⟩ (fun K_ h_ => acw hE [] 9999 h_) (fun _ => by intro h_; have h_ := h_.2; rw [impl_areItems.l0.eq_1] at h_; cases h_) ?_
 intro k7 p6 hq_ K13 hK14
 have hk7 := hq_.1
 have H := hq_.2
 clear hq_
 rw [impl_areItems.l0.eq_2] at H
 refine aw_grp1 ?_
 refine wk_start ?_
 refine kv g0 (lss) ?_
 refine wk_end ?_
 refine ac_next ?_
 refine aw_grp1 ?_
 by_cases c8 : p6 < (l0.length : Int)
 ·rw [if_pos c8] at H
  refine aw_ifT ?_ (decide_eq_true c8)
  refine aw_skip ?_
  refine ac_next ?_
  refine aw_grp1 ?_
  refine aw_block ?_
  refine aw_grp1 ?_
  refine wk_start ?_
  obtain ⟨c9, H⟩ := of_if H
  refine kv g0 (ixS 43 (e43 (rd_T43 l0 p6)) c9 (getE (z := z43) c9 c8)) ?_
  refine kv g0 (ldRA 4 [.lit (.int .i64 ((rd_T43 l0 p6).f0)), .lit (.int .i64 ((rd_T43 l0 p6).f1)), .lit (.int .i64 ((rd_T43 l0 p6).f2)), .lit (.int .i64 ((rd_T43 l0 p6).f3))]) ?_
  refine kb g0 (alc 0 [.int .i64 0, .int .i64 0, .int .i64 0, .int .i64 0] [.lit (.int .i64 0), .lit (.int .i64 0), .lit (.int .i64 0), .lit (.int .i64 0)]) ?_
  refine ks g0 (stB 4 [.lit (.int .i64 ((rd_T43 l0 p6).f0)), .lit (.int .i64 ((rd_T43 l0 p6).f1)), .lit (.int .i64 ((rd_T43 l0 p6).f2)), .lit (.int .i64 ((rd_T43 l0 p6).f3))]) ?_
  refine wk_end ?_
  refine ac_next ?_
  refine aw_grp1 ?_
  refine wk_start ?_
  refine kv g0 (ldBA 4 [.lit (.int .i64 ((rd_T43 l0 p6).f0)), .lit (.int .i64 ((rd_T43 l0 p6).f1)), .lit (.int .i64 ((rd_T43 l0 p6).f2)), .lit (.int .i64 ((rd_T43 l0 p6).f3))]) ?_
  obtain ⟨t10, A11, H⟩ := of_bind H
  refine kcS0 12 (.lit (.bool t10)) [] g0 (cal (impl_ItemOk.ok A11) [] 9999 .n (hf := Try.func90)) rfl rfl ?_
  refine kv g0 (not_) ?_
  refine wk_end ?_
  refine ac_next ?_
  by_cases c12 : t10 = true
  ·rw [if_pos c12] at H
   refine aw_ifF ?_ (nF c12)
   refine aw_skip ?_
   refine ac_blkN ?_
   refine ac_next ?_
   refine wk_start ?_
   refine kv g0 (add6) ?_
   refine kv g0 (mv) ?_
   refine wk_end ?_
   refine ac_k ?_
   exact acw hE [] 9999 (hK14 k7 (wrap64 (p6 + 1)) (Nat.le_refl _) ⟨by omega, H⟩)
  rw [if_neg c12] at H
  refine aw_ifT ?_ (nT (bF c12))
  refine aw_grp1 ?_
  refine wk_start ?_
  refine kv g0 (asg) ?_
  refine wk_end ?_
  refine ac_next ?_
  refine aw_ret ?_
  refine ac_blkR ?_
  refine ac_thenR ?_
  refine ac_thenR ?_
  refine ac_blkR ?_
  refine ac_thenR ?_
  obtain rfl := Option.some.inj H
  exact acr hE [.tmp 2] (.tmp .nil) (.one _) [] 9999
 rw [if_neg c8] at H
 refine aw_ifF ?_ (decide_eq_false c8)
 refine aw_exit ?_
 refine ac_then ?_
 refine ac_then ?_
 refine ac_hit rfl ?_
 refine ac_next ?_
 refine aw_grp1 ?_
 refine wk_start ?_
 refine kv g0 (asg) ?_
 refine wk_end ?_
 refine ac_next ?_
 refine aw_ret ?_
 obtain rfl := Option.some.inj H
 exact acr hE [.tmp 2] (.tmp .nil) (.one _) [] 9999
/-! impl_SenderOk -/
def impl_SenderOk.f (k : Nat) (a0_0 : Int) (a0_1 : Int) (l0_2 : List S43) (a0_3 : Int) (a0_4 : Int) : Option (Bool) := (impl_isPid.f a0_0).bind fun t1 => (if t1 = true then ((impl_within.f a0_1 1 1000000000).bind fun t4 => (if t4 = true then (if (l0_2.length : Int) ≤ 3 then ((impl_areItems.f k l0_2).bind fun t8 => (if t8 = true then ((impl_within.f a0_3 0 1000000000).bind fun t11 => (if t11 = true then (if a0_4 = 1 then some true else (if a0_4 = 2 then some true else some (a0_4 == 4))) else some false)) else some false)) else some false) else some false)) else some false)
theorem impl_SenderOk.ok {k : Nat} {a0_0 : Int} {a0_1 : Int} {l0_2 : List S43} {a0_3 : Int} {a0_4 : Int} {r : Bool} (H : impl_SenderOk.f k a0_0 a0_1 l0_2 a0_3 a0_4 = some r) : ACalls Try.prog 46 [] [.agg [.lit (.int .i64 a0_0), .lit (.int .i64 a0_1), .sl .o 4 (l0_2.map e43), .lit (.int .i64 a0_3), .lit (.int .i64 a0_4)]] [] (.lit (.bool r)) := by
 refine acalls (fn := Try.f46) (nt := 42) Try.func46 rfl rfl (Nat.le_of_ble_eq_true rfl) fun E hE => ?_
 rw [impl_SenderOk.f] at H
 refine aw_grp1 ?_
 refine wk_start ?_
 refine kb g0 (bxA 0) ?_
 refine kv g0 (asg) ?_
 refine wk_end ?_
 refine ac_next ?_
 refine aw_grp1 ?_
 refine wk_start ?_
 refine kv g0 (faB 0 0) ?_
 refine kv g0 (ldB) ?_
 obtain ⟨t1, A2, H⟩ := of_bind H
 refine kcS0 5 (.lit (.bool t1)) [] g0 (cal (impl_isPid.ok A2) [] 9999 .n (hf := Try.func89)) rfl rfl ?_
 refine kv g0 (mv) ?_
 by_cases c3 : t1 = true
 ·rw [if_pos c3] at H
  refine kv (g1 c3) (faB 1 1) ?_
  refine kv (g1 c3) (ldB) ?_
  obtain ⟨t4, A5, H⟩ := of_bind H
  refine kcS0 9 (.lit (.bool t4)) [] (g1 c3) (cal (impl_within.ok A5) [] 9999 .n (hf := Try.func88)) rfl rfl ?_
  refine kv g0 (pkT c3) ?_
  refine kv g0 (mv) ?_
  by_cases c6 : t4 = true
  ·rw [if_pos c6] at H
   refine kv (g1 c6) (faB 2 2) ?_
   refine kv (g1 c6) (ldB) ?_
   refine kv (g1 c6) (lnS lenE) ?_
   refine kv (g1 c6) (leq) ?_
   refine kv g0 (pkT c6) ?_
   refine kv g0 (mv) ?_
   by_cases c7 : (l0_2.length : Int) ≤ 3
   ·rw [if_pos c7] at H
    refine kv (g1 (decide_eq_true c7)) (faB 2 2) ?_
    refine kv (g1 (decide_eq_true c7)) (ldB) ?_
    obtain ⟨t8, A9, H⟩ := of_bind H
    refine kcS0 20 (.lit (.bool t8)) [] (g1 (decide_eq_true c7)) (cal (impl_areItems.ok A9) [] 9999 .n (hf := Try.func129)) rfl rfl ?_
    refine kv g0 (pkT (decide_eq_true c7)) ?_
    refine kv g0 (mv) ?_
    by_cases c10 : t8 = true
    ·rw [if_pos c10] at H
     refine kv (g1 c10) (faB 3 3) ?_
     refine kv (g1 c10) (ldB) ?_
     obtain ⟨t11, A12, H⟩ := of_bind H
     refine kcS0 25 (.lit (.bool t11)) [] (g1 c10) (cal (impl_within.ok A12) [] 9999 .n (hf := Try.func88)) rfl rfl ?_
     refine kv g0 (pkT c10) ?_
     refine kv g0 (mv) ?_
     by_cases c13 : t11 = true
     ·rw [if_pos c13] at H
      refine kv (g1 c13) (faB 4 4) ?_
      refine kv (g1 c13) (ldB) ?_
      refine kv (g1 c13) (eql) ?_
      refine kv (g1 c13) (mv) ?_
      by_cases c14 : a0_4 = 1
      ·rw [if_pos c14] at H
       refine kx (hF (eT c14)) ?_
       refine kx (hF (eT c14)) ?_
       refine kx (hF (eT c14)) ?_
       refine kv (g1 c13) (pkT (eT c14)) ?_
       refine kv (g1 c13) (mv) ?_
       refine kx (hF rfl) ?_
       refine kx (hF rfl) ?_
       refine kx (hF rfl) ?_
       refine kv (g1 c13) (pkT rfl) ?_
       refine kv g0 (pkT c13) ?_
       refine kv g0 (asg) ?_
       refine wk_end ?_
       refine ac_next ?_
       refine aw_ret ?_
       obtain rfl := Option.some.inj H
       exact acr hE [.tmp 2] (.tmp .nil) (.one _) [] 9999
      rw [if_neg c14] at H
      refine kv (g1 (eF c14)) (faB 4 4) ?_
      refine kv (g1 (eF c14)) (ldB) ?_
      refine kv (g1 (eF c14)) (eql) ?_
      refine kv (g1 c13) (pkF (eF c14)) ?_
      refine kv (g1 c13) (mv) ?_
      by_cases c15 : a0_4 = 2
      ·rw [if_pos c15] at H
       refine kx (hF (eT c15)) ?_
       refine kx (hF (eT c15)) ?_
       refine kx (hF (eT c15)) ?_
       refine kv (g1 c13) (pkT (eT c15)) ?_
       refine kv g0 (pkT c13) ?_
       refine kv g0 (asg) ?_
       refine wk_end ?_
       refine ac_next ?_
       refine aw_ret ?_
       obtain rfl := Option.some.inj H
       exact acr hE [.tmp 2] (.tmp .nil) (.one _) [] 9999
      rw [if_neg c15] at H
      refine kv (g1 (eF c15)) (faB 4 4) ?_
      refine kv (g1 (eF c15)) (ldB) ?_
      refine kv (g1 (eF c15)) (eql) ?_
      refine kv (g1 c13) (pkF (eF c15)) ?_
      refine kv g0 (pkT c13) ?_
      refine kv g0 (asg) ?_
      refine wk_end ?_
      refine ac_next ?_
      refine aw_ret ?_
      obtain rfl := Option.some.inj H
      exact acr hE [.tmp 2] (.tmp .nil) (.one _) [] 9999
     rw [if_neg c13] at H
     refine kx (hT (bF c13)) ?_
     refine kx (hT (bF c13)) ?_
     refine kx (hT (bF c13)) ?_
     refine ku (neT (hT (bF c13))) ?_
     refine ku neU ?_
     refine ku neU ?_
     refine ku neU ?_
     refine kx (hT (bF c13)) ?_
     refine ku (neT (hT (bF c13))) ?_
     refine ku neU ?_
     refine ku neU ?_
     refine ku neU ?_
     refine kx (hT (bF c13)) ?_
     refine kv g0 (pkF (bF c13)) ?_
     refine kv g0 (asg) ?_
     refine wk_end ?_
     refine ac_next ?_
     refine aw_ret ?_
     obtain rfl := Option.some.inj H
     exact acr hE [.tmp 2] (.tmp .nil) (.one _) [] 9999
    rw [if_neg c10] at H
    refine kx (hT (bF c10)) ?_
    refine kx (hT (bF c10)) ?_
    refine kx (hT (bF c10)) ?_
    refine kv g0 (pkF (bF c10)) ?_
    refine kv g0 (mv) ?_
    refine kx (hT rfl) ?_
    refine kx (hT rfl) ?_
    refine kx (hT rfl) ?_
    refine ku (neT (hT rfl)) ?_
    refine ku neU ?_
    refine ku neU ?_
    refine ku neU ?_
    refine kx (hT rfl) ?_
    refine ku (neT (hT rfl)) ?_
    refine ku neU ?_
    refine ku neU ?_
    refine ku neU ?_
    refine kx (hT rfl) ?_
    refine kv g0 (pkF rfl) ?_
    refine kv g0 (asg) ?_
    refine wk_end ?_
    refine ac_next ?_
    refine aw_ret ?_
    obtain rfl := Option.some.inj H
    exact acr hE [.tmp 2] (.tmp .nil) (.one _) [] 9999
   rw [if_neg c7] at H
   refine kx (hT (decide_eq_false c7)) ?_
   refine kx (hT (decide_eq_false c7)) ?_
   refine kx (hT (decide_eq_false c7)) ?_
   refine kv g0 (pkF (decide_eq_false c7)) ?_
   refine kv g0 (mv) ?_
   refine kx (hT rfl) ?_
   refine kx (hT rfl) ?_
   refine kx (hT rfl) ?_
   refine kv g0 (pkF rfl) ?_
   refine kv g0 (mv) ?_
   refine kx (hT rfl) ?_
   refine kx (hT rfl) ?_
   refine kx (hT rfl) ?_
   refine ku (neT (hT rfl)) ?_
   refine ku neU ?_
   refine ku neU ?_
   refine ku neU ?_
   refine kx (hT rfl) ?_
   refine ku (neT (hT rfl)) ?_
   refine ku neU ?_
   refine ku neU ?_
   refine ku neU ?_
   refine kx (hT rfl) ?_
   refine kv g0 (pkF rfl) ?_
   refine kv g0 (asg) ?_
   refine wk_end ?_
   refine ac_next ?_
   refine aw_ret ?_
   obtain rfl := Option.some.inj H
   exact acr hE [.tmp 2] (.tmp .nil) (.one _) [] 9999
  rw [if_neg c6] at H
  refine kx (hT (bF c6)) ?_
  refine kx (hT (bF c6)) ?_
  refine kx (hT (bF c6)) ?_
  refine kx (hT (bF c6)) ?_
  refine kv g0 (pkF (bF c6)) ?_
  refine kv g0 (mv) ?_
  refine kx (hT rfl) ?_
  refine kx (hT rfl) ?_
  refine kx (hT rfl) ?_
  refine kv g0 (pkF rfl) ?_
  refine kv g0 (mv) ?_
  refine kx (hT rfl) ?_
  refine kx (hT rfl) ?_
  refine kx (hT rfl) ?_
  refine kv g0 (pkF rfl) ?_
  refine kv g0 (mv) ?_
  refine kx (hT rfl) ?_
  refine kx (hT rfl) ?_
  refine kx (hT rfl) ?_
  refine ku (neT (hT rfl)) ?_
  refine ku neU ?_
  refine ku neU ?_
  refine ku neU ?_
  refine kx (hT rfl) ?_
  refine ku (neT (hT rfl)) ?_
  refine ku neU ?_
  refine ku neU ?_
  refine ku neU ?_
  refine kx (hT rfl) ?_
  refine kv g0 (pkF rfl) ?_
  refine kv g0 (asg) ?_
  refine wk_end ?_
  refine ac_next ?_
  refine aw_ret ?_
  obtain rfl := Option.some.inj H
  exact acr hE [.tmp 2] (.tmp .nil) (.one _) [] 9999
 rw [if_neg c3] at H
 refine kx (hT (bF c3)) ?_
 refine kx (hT (bF c3)) ?_
 refine kx (hT (bF c3)) ?_
 refine kv g0 (pkF (bF c3)) ?_
 refine kv g0 (mv) ?_
 refine kx (hT rfl) ?_
 refine kx (hT rfl) ?_
 refine kx (hT rfl) ?_
 refine kx (hT rfl) ?_
 refine kv g0 (pkF rfl) ?_
 refine kv g0 (mv) ?_
 refine kx (hT rfl) ?_
 refine kx (hT rfl) ?_
 refine kx (hT rfl) ?_
 refine kv g0 (pkF rfl) ?_
 refine kv g0 (mv) ?_
 refine kx (hT rfl) ?_
 refine kx (hT rfl) ?_
 refine kx (hT rfl) ?_
 refine kv g0 (pkF rfl) ?_
 refine kv g0 (mv) ?_
 refine kx (hT rfl) ?_
 refine kx (hT rfl) ?_
 refine kx (hT rfl) ?_
 refine ku (neT (hT rfl)) ?_
 refine ku neU ?_
 refine ku neU ?_
 refine ku neU ?_
 refine kx (hT rfl) ?_
 refine ku (neT (hT rfl)) ?_
 refine ku neU ?_
 refine ku neU ?_
 refine ku neU ?_
 refine kx (hT rfl) ?_
 refine kv g0 (pkF rfl) ?_
 refine kv g0 (asg) ?_
 refine wk_end ?_
 refine ac_next ?_
 refine aw_ret ?_
 obtain rfl := Option.some.inj H
 exact acr hE [.tmp 2] (.tmp .nil) (.one _) [] 9999
/-! impl_RingOk -/
def impl_RingOk.l0 : Nat → (List S43) → Int → Int → Int → Int → Int → Option (Bool)
 | 0, _, _, _, _, _, _ => none
 | k19 + 1, l0_0, a0_1, a0_2, a0_3, p17, p18 => if p18 < (l0_0.length : Int) then if 0 ≤ p18 then if ((rd_T43 l0_0 p18).f0) = 1 then impl_RingOk.l0 k19 l0_0 a0_1 a0_2 a0_3 (wrap64 (p17 + 1)) (wrap64 (p18 + 1)) else impl_RingOk.l0 k19 l0_0 a0_1 a0_2 a0_3 (wrap64 (p17 + ((rd_T43 l0_0 p18).f3))) (wrap64 (p18 + 1)) else none else some (decide (p17 ≤ a0_3))
def impl_RingOk.f (k : Nat) (l0_0 : List S43) (a0_1 : Int) (a0_2 : Int) (a0_3 : Int) : Option (Bool) := if (l0_0.length : Int) > 4 then some false else ((impl_areItems.f k l0_0).bind fun t2 => (if t2 = true then ((impl_within.f a0_1 0 5).bind fun t5 => (if t5 = true then ((impl_within.f a0_2 0 1000000000).bind fun t8 => (if t8 = true then ((impl_within.f a0_3 0 1000000000).bind fun t11 => if t11 = true then impl_RingOk.l0 k l0_0 a0_1 a0_2 a0_3 a0_2 0 else some false) else some false)) else some false)) else some false))
theorem impl_RingOk.ok {k : Nat} {l0_0 : List S43} {a0_1 : Int} {a0_2 : Int} {a0_3 : Int} {r : Bool} (H : impl_RingOk.f k l0_0 a0_1 a0_2 a0_3 = some r) : ACalls Try.prog 133 [] [.agg [.sl .o 4 (l0_0.map e43), .lit (.int .i64 a0_1), .lit (.int .i64 a0_2), .lit (.int .i64 a0_3)]] [] (.lit (.bool r)) := by
 refine acalls (fn := Try.f133) (nt := 57) Try.func133 rfl rfl (Nat.le_of_ble_eq_true rfl) fun E hE => ?_
 rw [impl_RingOk.f] at H
 refine aw_grp1 ?_
 refine wk_start ?_
 refine kb g0 (bxA 0) ?_
 refine kv g0 (asg) ?_
 refine wk_end ?_
 refine ac_next ?_
 refine aw_grp1 ?_
 refine aw_grp1 ?_
 refine wk_start ?_
 refine kv g0 (faB 0 0) ?_
 refine kv g0 (ldB) ?_
 refine kv g0 (lnS lenE) ?_
 refine kv g0 (gtr) ?_
 refine kv g0 (mv) ?_
 by_cases c1 : (l0_0.length : Int) > 4
 ·rw [if_pos c1] at H
  refine kx (hF (decide_eq_true c1)) ?_
  refine kx (hF (decide_eq_true c1)) ?_
  refine kx (hF (decide_eq_true c1)) ?_
  refine kx (hF (decide_eq_true c1)) ?_
  refine kv g0 (pkT (decide_eq_true c1)) ?_
  refine kv g0 (mv) ?_
  refine kx (hF rfl) ?_
  refine kx (hF rfl) ?_
  refine kx (hF rfl) ?_
  refine kx (hF rfl) ?_
  refine kv g0 (pkT rfl) ?_
  refine kv g0 (mv) ?_
  refine kx (hF rfl) ?_
  refine kx (hF rfl) ?_
  refine kx (hF rfl) ?_
  refine kx (hF rfl) ?_
  refine kv g0 (pkT rfl) ?_
  refine kv g0 (mv) ?_
  refine kx (hF rfl) ?_
  refine kx (hF rfl) ?_
  refine kx (hF rfl) ?_
  refine kx (hF rfl) ?_
  refine kv g0 (pkT rfl) ?_
  refine wk_end ?_
  refine ac_next ?_
  refine aw_ifT ?_ rfl
  refine aw_grp1 ?_
  refine wk_start ?_
  refine kv g0 (asg) ?_
  refine wk_end ?_
  refine ac_next ?_
  refine aw_ret ?_
  refine ac_thenR ?_
  obtain rfl := Option.some.inj H
  exact acr hE [.tmp 2] (.tmp .nil) (.one _) [] 9999
 rw [if_neg c1] at H
 refine kv (g1 (decide_eq_false c1)) (faB 0 0) ?_
 refine kv (g1 (decide_eq_false c1)) (ldB) ?_
 obtain ⟨t2, A3, H⟩ := of_bind H
 refine kcS0 13 (.lit (.bool t2)) [] (g1 (decide_eq_false c1)) (cal (impl_areItems.ok A3) [] 9999 .n (hf := Try.func129)) rfl rfl ?_
 refine kv (g1 (decide_eq_false c1)) (not_) ?_
 refine kv g0 (pkF (decide_eq_false c1)) ?_
 refine kv g0 (mv) ?_
 by_cases c4 : t2 = true
 ·rw [if_pos c4] at H
  refine kv (g1 (nF c4)) (faB 1 1) ?_
  refine kv (g1 (nF c4)) (ldB) ?_
  obtain ⟨t5, A6, H⟩ := of_bind H
  refine kcS0 19 (.lit (.bool t5)) [] (g1 (nF c4)) (cal (impl_within.ok A6) [] 9999 .n (hf := Try.func88)) rfl rfl ?_
  refine kv (g1 (nF c4)) (not_) ?_
  refine kv g0 (pkF (nF c4)) ?_
  refine kv g0 (mv) ?_
  by_cases c7 : t5 = true
  ·rw [if_pos c7] at H
   refine kv (g1 (nF c7)) (faB 2 2) ?_
   refine kv (g1 (nF c7)) (ldB) ?_
   obtain ⟨t8, A9, H⟩ := of_bind H
   refine kcS0 25 (.lit (.bool t8)) [] (g1 (nF c7)) (cal (impl_within.ok A9) [] 9999 .n (hf := Try.func88)) rfl rfl ?_
   refine kv (g1 (nF c7)) (not_) ?_
   refine kv g0 (pkF (nF c7)) ?_
   refine kv g0 (mv) ?_
   by_cases c10 : t8 = true
   ·rw [if_pos c10] at H
    refine kv (g1 (nF c10)) (faB 3 3) ?_
    refine kv (g1 (nF c10)) (ldB) ?_
    obtain ⟨t11, A12, H⟩ := of_bind H
    refine kcS0 31 (.lit (.bool t11)) [] (g1 (nF c10)) (cal (impl_within.ok A12) [] 9999 .n (hf := Try.func88)) rfl rfl ?_
    refine kv (g1 (nF c10)) (not_) ?_
    refine kv g0 (pkF (nF c10)) ?_
    refine wk_end ?_
    refine ac_next ?_
    by_cases c13 : t11 = true
    ·rw [if_pos c13] at H
     refine aw_ifF ?_ (nF c13)
     refine aw_skip ?_
     refine ac_next ?_
     refine aw_grp1 ?_
     refine wk_start ?_
     refine kv g0 (faB 2 2) ?_
     refine kv g0 (ldB) ?_
     refine kv g0 (asg) ?_
     refine wk_end ?_
     refine ac_next ?_
     refine aw_grp1 ?_
     refine aw_grp1 ?_
     refine wk_start ?_
     refine kv g0 (faB 0 0) ?_
     refine kv g0 (ldB) ?_
     refine kv g0 (lnS lenE) ?_
     refine kv g0 (mv) ?_
     refine wk_end ?_
     refine ac_next ?_
     refine aw_block ?_
     refine aw_loop2 (fun (k_ : Nat) (p17 : Int) (p18 : Int) => k_ ≤ k ∧ impl_RingOk.l0 k_ l0_0 a0_1 a0_2 a0_3 p17 p18 = some r) (fun (p17 : Int) (p18 : Int) => ⟨[(1, .box 0 0), (3, .lit (.int .i64 p17)), (37, .sl .o 4 (l0_0.map e43)), (38, .lit (.int .i64 (l0_0.length : Int))), (39, .lit (.int .i64 p18))], [(0, .box 88 [.sl .o 4 (l0_0.map e43), .lit (.int .i64 a0_1), .lit (.int .i64 a0_2), .lit (.int .i64 a0_3)])]⟩) k a0_2 0 ⟨Nat.le_refl _, H⟩ (fun K_ h_ => acw hE [(0, 0)] 9999 h_) (fun _ _ => by intro h_; have h_ := h_.2; rw [impl_RingOk.l0.eq_1] at h_; cases h_) ?_
     intro k19 p17 p18 hq_ K23 hK24
     have hk19 := hq_.1
     have H := hq_.2
     clear hq_
     rw [impl_RingOk.l0.eq_2] at H
     refine aw_grp1 ?_
     refine wk_start ?_
     refine kv g0 (lss) ?_
     refine wk_end ?_
     refine ac_next ?_
     refine aw_grp1 ?_
     by_cases c20 : p18 < (l0_0.length : Int)
     ·rw [if_pos c20] at H
      refine aw_ifT ?_ (decide_eq_true c20)
      refine aw_skip ?_
      refine ac_next ?_
      refine aw_grp1 ?_
      refine aw_block ?_
      refine aw_grp1 ?_
      refine wk_start ?_
      obtain ⟨c21, H⟩ := of_if H
      refine kv g0 (ixS 43 (e43 (rd_T43 l0_0 p18)) c21 (getE (z := z43) c21 c20)) ?_
      refine kv g0 (ldRA 4 [.lit (.int .i64 ((rd_T43 l0_0 p18).f0)), .lit (.int .i64 ((rd_T43 l0_0 p18).f1)), .lit (.int .i64 ((rd_T43 l0_0 p18).f2)), .lit (.int .i64 ((rd_T43 l0_0 p18).f3))]) ?_
      refine kb g0 (alc 1 [.int .i64 0, .int .i64 0, .int .i64 0, .int .i64 0] [.lit (.int .i64 0), .lit (.int .i64 0), .lit (.int .i64 0), .lit (.int .i64 0)]) ?_
      refine ks g0 (stB 4 [.lit (.int .i64 ((rd_T43 l0_0 p18).f0)), .lit (.int .i64 ((rd_T43 l0_0 p18).f1)), .lit (.int .i64 ((rd_T43 l0_0 p18).f2)), .lit (.int .i64 ((rd_T43 l0_0 p18).f3))]) ?_
      refine wk_end ?_
      refine ac_next ?_
      refine aw_grp1 ?_
      refine wk_start ?_
      refine kv g0 (faB 0 0) ?_
      refine kv g0 (ldB) ?_
      refine kv g0 (eql) ?_
      refine wk_end ?_
      refine ac_next ?_
      by_cases c22 : ((rd_T43 l0_0 p18).f0) = 1
      ·rw [if_pos c22] at H
       refine aw_ifT ?_ (eT c22)
       refine wk_start ?_
       refine kv g0 (mv) ?_
       refine kv g0 (add6) ?_
       refine kv g0 (asg) ?_
       refine wk_end ?_
       refine ac_blkN ?_
       refine ac_next ?_
       refine wk_start ?_
       refine kv g0 (add6) ?_
       refine kv g0 (mv) ?_
       refine wk_end ?_
       refine ac_k ?_
       exact acw hE [(0, 0)] 9999 (hK24 k19 (wrap64 (p17 + 1)) (wrap64 (p18 + 1)) (Nat.le_refl _) ⟨by omega, H⟩)
      rw [if_neg c22] at H
      refine aw_ifF ?_ (eF c22)
      refine wk_start ?_
      refine kv g0 (mv) ?_
      refine kv g0 (faB 3 3) ?_
      refine kv g0 (ldB) ?_
      refine kv g0 (add6) ?_
      refine kv g0 (asg) ?_
      refine wk_end ?_
      refine ac_blkN ?_
      refine ac_next ?_
      refine wk_start ?_
      refine kv g0 (add6) ?_
      refine kv g0 (mv) ?_
      refine wk_end ?_
      refine ac_k ?_
      exact acw hE [(0, 0)] 9999 (hK24 k19 (wrap64 (p17 + ((rd_T43 l0_0 p18).f3))) (wrap64 (p18 + 1)) (Nat.le_refl _) ⟨by omega, H⟩)
     rw [if_neg c20] at H
     refine aw_ifF ?_ (decide_eq_false c20)
     refine aw_exit ?_
     refine ac_then ?_
     refine ac_then ?_
     refine ac_hit rfl ?_
     refine ac_next ?_
     refine aw_grp1 ?_
     refine wk_start ?_
     refine kv g0 (mv) ?_
     refine kv g0 (faB 3 3) ?_
     refine kv g0 (ldB) ?_
     refine kv g0 (leq) ?_
     refine kv g0 (asg) ?_
     refine wk_end ?_
     refine ac_next ?_
     refine aw_ret ?_
     obtain rfl := Option.some.inj H
     exact acr hE [.tmp 2] (.tmp .nil) (.one _) [] 9999
    rw [if_neg c13] at H
    refine aw_ifT ?_ (nT (bF c13))
    refine aw_grp1 ?_
    refine wk_start ?_
    refine kv g0 (asg) ?_
    refine wk_end ?_
    refine ac_next ?_
    refine aw_ret ?_
    refine ac_thenR ?_
    obtain rfl := Option.some.inj H
    exact acr hE [.tmp 2] (.tmp .nil) (.one _) [] 9999
   rw [if_neg c10] at H
   refine kx (hF (nT (bF c10))) ?_
   refine kx (hF (nT (bF c10))) ?_
   refine kx (hF (nT (bF c10))) ?_
   refine kx (hF (nT (bF c10))) ?_
   refine kv g0 (pkT (nT (bF c10))) ?_
   refine wk_end ?_
   refine ac_next ?_
   refine aw_ifT ?_ rfl
   refine aw_grp1 ?_
   refine wk_start ?_
   refine kv g0 (asg) ?_
   refine wk_end ?_
   refine ac_next ?_
   refine aw_ret ?_
   refine ac_thenR ?_
   obtain rfl := Option.some.inj H
   exact acr hE [.tmp 2] (.tmp .nil) (.one _) [] 9999
  rw [if_neg c7] at H
  refine kx (hF (nT (bF c7))) ?_
  refine kx (hF (nT (bF c7))) ?_
  refine kx (hF (nT (bF c7))) ?_
  refine kx (hF (nT (bF c7))) ?_
  refine kv g0 (pkT (nT (bF c7))) ?_
  refine kv g0 (mv) ?_
  refine kx (hF rfl) ?_
  refine kx (hF rfl) ?_
  refine kx (hF rfl) ?_
  refine kx (hF rfl) ?_
  refine kv g0 (pkT rfl) ?_
  refine wk_end ?_
  refine ac_next ?_
  refine aw_ifT ?_ rfl
  refine aw_grp1 ?_
  refine wk_start ?_
  refine kv g0 (asg) ?_
  refine wk_end ?_
  refine ac_next ?_
  refine aw_ret ?_
  refine ac_thenR ?_
  obtain rfl := Option.some.inj H
  exact acr hE [.tmp 2] (.tmp .nil) (.one _) [] 9999
 rw [if_neg c4] at H
 refine kx (hF (nT (bF c4))) ?_
 refine kx (hF (nT (bF c4))) ?_
 refine kx (hF (nT (bF c4))) ?_
 refine kx (hF (nT (bF c4))) ?_
 refine kv g0 (pkT (nT (bF c4))) ?_
 refine kv g0 (mv) ?_
 refine kx (hF rfl) ?_
 refine kx (hF rfl) ?_
 refine kx (hF rfl) ?_
 refine kx (hF rfl) ?_
 refine kv g0 (pkT rfl) ?_
 refine kv g0 (mv) ?_
 refine kx (hF rfl) ?_
 refine kx (hF rfl) ?_
 refine kx (hF rfl) ?_
 refine kx (hF rfl) ?_
 refine kv g0 (pkT rfl) ?_
 refine wk_end ?_
 refine ac_next ?_
 refine aw_ifT ?_ rfl
 refine aw_grp1 ?_
 refine wk_start ?_
 refine kv g0 (asg) ?_
 refine wk_end ?_
 refine ac_next ?_
 refine aw_ret ?_
 refine ac_thenR ?_
 obtain rfl := Option.some.inj H
 exact acr hE [.tmp 2] (.tmp .nil) (.one _) [] 9999
/-! impl_copySender -/
def impl_copySender.f (a0_0 : Int) (a0_1 : Int) (l0_2 : List S43) (a0_3 : Int) (a0_4 : Int) : Option (Int × Int × (List S43) × Int × Int) := (impl_copyItems.f l0_2).bind fun t1 => some (a0_0, a0_1, t1, a0_3, a0_4)
theorem impl_copySender.ok {a0_0 : Int} {a0_1 : Int} {l0_2 : List S43} {a0_3 : Int} {a0_4 : Int} {r : Int × Int × (List S43) × Int × Int} (H : impl_copySender.f a0_0 a0_1 l0_2 a0_3 a0_4 = some r) : ACalls Try.prog 127 [] [.agg [.lit (.int .i64 a0_0), .lit (.int .i64 a0_1), .sl .o 4 (l0_2.map e43), .lit (.int .i64 a0_3), .lit (.int .i64 a0_4)]] [(0, .row 43 4 (r.2.2.1.map e43))] (.agg [.lit (.int .i64 r.1), .lit (.int .i64 r.2.1), .row 0, .lit (.int .i64 r.2.2.2.1), .lit (.int .i64 r.2.2.2.2)]) := by
 refine acalls (fn := Try.f127) (nt := 8) Try.func127 rfl rfl (Nat.le_of_ble_eq_true rfl) fun E hE => ?_
 rw [impl_copySender.f] at H
 refine aw_grp1 ?_
 refine wk_start ?_
 refine kb g0 (bxA 0) ?_
 refine kb g0 (alc 1 [.int .i64 0, .int .i64 0, .slice none 0 0, .int .i64 0, .int .i64 0] [.lit (.int .i64 0), .lit (.int .i64 0), .lit (.slice none 0 0), .lit (.int .i64 0), .lit (.int .i64 0)]) ?_
 refine wk_end ?_
 refine ac_next ?_
 refine aw_grp1 ?_
 refine wk_start ?_
 refine kv g0 (faB 2 2) ?_
 refine kv g0 (ldB) ?_
 obtain ⟨t1, A2, H⟩ := of_bind H
 refine kcS1 5 (.row 2) [(2, .row 43 4 (t1.map e43))] g0 (cal (impl_copyItems.ok A2) [2] 9999 .n (hf := Try.func128)) rfl rfl ?_
 refine kv g0 (faB 2 2) ?_
 refine ks g0 (stB 1 [.lit (.int .i64 a0_0), .lit (.int .i64 a0_1), .row 2, .lit (.int .i64 a0_3), .lit (.int .i64 a0_4)]) ?_
 refine wk_end ?_
 refine ac_next ?_
 refine aw_grp1 ?_
 refine wk_start ?_
 refine kv g0 (ldBA 5 [.lit (.int .i64 a0_0), .lit (.int .i64 a0_1), .row 2, .lit (.int .i64 a0_3), .lit (.int .i64 a0_4)]) ?_
 refine ks g0 (stB 5 [.lit (.int .i64 a0_0), .lit (.int .i64 a0_1), .row 2, .lit (.int .i64 a0_3), .lit (.int .i64 a0_4)]) ?_
 refine wk_end ?_
 refine ac_next ?_
 refine aw_ret ?_
 obtain rfl := Option.some.inj H
 exact acr hE [.cell 2 78] (rcA 5 .nil) (.one _) [(0, 2)] 9999
/-! impl_Taken -/
def impl_Taken.j0 : Nat → Int → Int → (List S43) → Int → Int → (List S43) → Int → Int → Int → Int → ((List S43) × Int × Int × Int × Int × Int × Int × Int × Bool) → Bool → Option (Int × Int × (List S43) × Int × Int × (List S43) × Int × Int × Int × Bool)
 | 0, _, _, _, _, _, _, _, _, _, _, _, _ => none
 | k14 + 1, a0_0, a0_1, l0_2, a0_3, a0_4, l1_0, a1_1, a1_2, a1_3, a2, t1, p13 => if p13 = true then ((impl_copySender.f a0_0 a0_1 l0_2 a0_3 a0_4).bind fun t16 => ((impl_copyRing.f l1_0 a1_1 a1_2 a1_3).bind fun t18 => some (t16.1, t16.2.1, t16.2.2.1, t16.2.2.2.1, t16.2.2.2.2, t18.1, t18.2.1, t18.2.2.1, t18.2.2.2, false))) else (impl_copySender.f a0_0 a0_1 l0_2 a0_3 a0_4).bind fun t21 => if t21.2.2.1.length + ([(⟨t1.2.2.2.2.1, t1.2.2.2.2.2.1, t1.2.2.2.2.2.2.1, t1.2.2.2.2.2.2.2.1⟩ : S43)] : List S43).length < 4398046511104 then some (t21.1, t21.2.1, t21.2.2.1 ++ ([(⟨t1.2.2.2.2.1, t1.2.2.2.2.2.1, t1.2.2.2.2.2.2.1, t1.2.2.2.2.2.2.2.1⟩ : S43)] : List S43), a2, 1, t1.1, t1.2.1, t1.2.2.1, t1.2.2.2.1, true) else none
def impl_Taken.f (k : Nat) (a0_0 : Int) (a0_1 : Int) (l0_2 : List S43) (a0_3 : Int) (a0_4 : Int) (l1_0 : List S43) (a1_1 : Int) (a1_2 : Int) (a1_3 : Int) (a2 : Int) : Option (Int × Int × (List S43) × Int × Int × (List S43) × Int × Int × Int × Bool) := (impl_Drained.f l1_0 a1_1 a1_2 a1_3).bind fun t1 => (impl_SenderOk.f k a0_0 a0_1 l0_2 a0_3 a0_4).bind fun t3 => (if t3 = true then ((impl_RingOk.f k l1_0 a1_1 a1_2 a1_3).bind fun t6 => (if t6 = true then (if (l0_2.length : Int) = 3 then impl_Taken.j0 k a0_0 a0_1 l0_2 a0_3 a0_4 l1_0 a1_1 a1_2 a1_3 a2 t1 true else (if t1.2.2.2.2.2.2.2.2 = true then ((impl_within.f a2 0 1000000000).bind fun t11 => impl_Taken.j0 k a0_0 a0_1 l0_2 a0_3 a0_4 l1_0 a1_1 a1_2 a1_3 a2 t1 (!t11)) else impl_Taken.j0 k a0_0 a0_1 l0_2 a0_3 a0_4 l1_0 a1_1 a1_2 a1_3 a2 t1 true)) else impl_Taken.j0 k a0_0 a0_1 l0_2 a0_3 a0_4 l1_0 a1_1 a1_2 a1_3 a2 t1 true)) else impl_Taken.j0 k a0_0 a0_1 l0_2 a0_3 a0_4 l1_0 a1_1 a1_2 a1_3 a2 t1 true)
theorem impl_Taken.ok {k : Nat} {a0_0 : Int} {a0_1 : Int} {l0_2 : List S43} {a0_3 : Int} {a0_4 : Int} {l1_0 : List S43} {a1_1 : Int} {a1_2 : Int} {a1_3 : Int} {a2 : Int} {r : Int × Int × (List S43) × Int × Int × (List S43) × Int × Int × Int × Bool} (H : impl_Taken.f k a0_0 a0_1 l0_2 a0_3 a0_4 l1_0 a1_1 a1_2 a1_3 a2 = some r) : ACalls Try.prog 48 [] [.agg [.lit (.int .i64 a0_0), .lit (.int .i64 a0_1), .sl .o 4 (l0_2.map e43), .lit (.int .i64 a0_3), .lit (.int .i64 a0_4)], .agg [.sl .o 4 (l1_0.map e43), .lit (.int .i64 a1_1), .lit (.int .i64 a1_2), .lit (.int .i64 a1_3)], .lit (.int .i64 a2)] [(0, .row 43 4 (r.2.2.1.map e43)), (1, .row 43 4 (r.2.2.2.2.2.1.map e43))] (.tup [.agg [.lit (.int .i64 r.1), .lit (.int .i64 r.2.1), .row 0, .lit (.int .i64 r.2.2.2.1), .lit (.int .i64 r.2.2.2.2.1)], .agg [.row 1, .lit (.int .i64 r.2.2.2.2.2.2.1), .lit (.int .i64 r.2.2.2.2.2.2.2.1), .lit (.int .i64 r.2.2.2.2.2.2.2.2.1)], .lit (.bool r.2.2.2.2.2.2.2.2.2)]) := by
 refine acalls (fn := Try.f48) (nt := 59) Try.func48 rfl rfl (Nat.le_of_ble_eq_true rfl) fun E hE => ?_
 rw [impl_Taken.f] at H
 refine aw_grp1 ?_
 refine wk_start ?_
 refine kb g0 (bxA 0) ?_
 refine kb g0 (bxA 1) ?_
 refine kb g0 (alc 2 [.int .i64 0, .int .i64 0, .slice none 0 0, .int .i64 0, .int .i64 0] [.lit (.int .i64 0), .lit (.int .i64 0), .lit (.slice none 0 0), .lit (.int .i64 0), .lit (.int .i64 0)]) ?_
 refine kb g0 (alc 3 [.slice none 0 0, .int .i64 0, .int .i64 0, .int .i64 0] [.lit (.slice none 0 0), .lit (.int .i64 0), .lit (.int .i64 0), .lit (.int .i64 0)]) ?_
 refine kv g0 (asg) ?_
 refine wk_end ?_
 refine ac_next ?_
 refine aw_grp1 ?_
 refine wk_start ?_
 refine kv g0 (ldBA 4 [.sl .o 4 (l1_0.map e43), .lit (.int .i64 a1_1), .lit (.int .i64 a1_2), .lit (.int .i64 a1_3)]) ?_
 obtain ⟨t1, A2, H⟩ := of_bind H
 refine kcS1 15 (.tup [.agg [.row 4, .lit (.int .i64 t1.2.1), .lit (.int .i64 t1.2.2.1), .lit (.int .i64 t1.2.2.2.1)], .agg [.lit (.int .i64 t1.2.2.2.2.1), .lit (.int .i64 t1.2.2.2.2.2.1), .lit (.int .i64 t1.2.2.2.2.2.2.1), .lit (.int .i64 t1.2.2.2.2.2.2.2.1)], .lit (.bool t1.2.2.2.2.2.2.2.2)]) [(4, .row 43 4 (t1.1.map e43))] g0 (cal (impl_Drained.ok A2) [4] 9999 .n (hf := Try.func132)) rfl rfl ?_
 refine kv g0 (mv) ?_
 refine kv g0 (ext) ?_
 refine kv g0 (ext) ?_
 refine kv g0 (ext) ?_
 refine kb g0 (alc 5 [.slice none 0 0, .int .i64 0, .int .i64 0, .int .i64 0] [.lit (.slice none 0 0), .lit (.int .i64 0), .lit (.int .i64 0), .lit (.int .i64 0)]) ?_
 refine kb g0 (alc 6 [.int .i64 0, .int .i64 0, .int .i64 0, .int .i64 0] [.lit (.int .i64 0), .lit (.int .i64 0), .lit (.int .i64 0), .lit (.int .i64 0)]) ?_
 refine ks g0 (stB 4 [.row 4, .lit (.int .i64 t1.2.1), .lit (.int .i64 t1.2.2.1), .lit (.int .i64 t1.2.2.2.1)]) ?_
 refine ks g0 (stB 4 [.lit (.int .i64 t1.2.2.2.2.1), .lit (.int .i64 t1.2.2.2.2.2.1), .lit (.int .i64 t1.2.2.2.2.2.2.1), .lit (.int .i64 t1.2.2.2.2.2.2.2.1)]) ?_
 refine kv g0 (asg) ?_
 refine wk_end ?_
 refine ac_next ?_
 refine aw_grp1 ?_
 refine aw_cut1 (J := fun K_ => ∀ (k_ : Nat) (p13 : Bool), k_ ≤ k → impl_Taken.j0 k_ a0_0 a0_1 l0_2 a0_3 a0_4 l1_0 a1_1 a1_2 a1_3 a2 t1 p13 = some r → ACont E 59 ⟨[(2, .lit (.int .i64 a2)), (3, .box 0 0), (4, .box 1 0), (6, .box 2 0), (7, .box 3 0), (9, .box 5 0), (10, .box 6 0), (41, .lit (.bool p13))], [(0, .box 78 [.lit (.int .i64 a0_0), .lit (.int .i64 a0_1), .sl .o 4 (l0_2.map e43), .lit (.int .i64 a0_3), .lit (.int .i64 a0_4)]), (1, .box 88 [.sl .o 4 (l1_0.map e43), .lit (.int .i64 a1_1), .lit (.int .i64 a1_2), .lit (.int .i64 a1_3)]), (2, .box 78 [.lit (.int .i64 0), .lit (.int .i64 0), .lit (.slice none 0 0), .lit (.int .i64 0), .lit (.int .i64 0)]), (3, .box 88 [.lit (.slice none 0 0), .lit (.int .i64 0), .lit (.int .i64 0), .lit (.int .i64 0)]), (4, .row 43 4 (t1.1.map e43)), (5, .box 88 [.row 4, .lit (.int .i64 t1.2.1), .lit (.int .i64 t1.2.2.1), .lit (.int .i64 t1.2.2.2.1)]), (6, .box 43 [.lit (.int .i64 t1.2.2.2.2.1), .lit (.int .i64 t1.2.2.2.2.2.1), .lit (.int .i64 t1.2.2.2.2.2.2.1), .lit (.int .i64 t1.2.2.2.2.2.2.2.1)])]⟩ K_) ?_ ?_
 ·intro K_ hJ20
  refine wk_start ?_
  refine kv g0 (ldBA 5 [.lit (.int .i64 a0_0), .lit (.int .i64 a0_1), .sl .o 4 (l0_2.map e43), .lit (.int .i64 a0_3), .lit (.int .i64 a0_4)]) ?_
  obtain ⟨t3, A4, H⟩ := of_bind H
  refine kcS0 20 (.lit (.bool t3)) [] g0 (cal (impl_SenderOk.ok A4) [] 9999 .n (hf := Try.func46)) rfl rfl ?_
  refine kv g0 (not_) ?_
  refine kv g0 (mv) ?_
  by_cases c5 : t3 = true
  ·rw [if_pos c5] at H
   refine kv (g1 (nF c5)) (ldBA 4 [.sl .o 4 (l1_0.map e43), .lit (.int .i64 a1_1), .lit (.int .i64 a1_2), .lit (.int .i64 a1_3)]) ?_
   obtain ⟨t6, A7, H⟩ := of_bind H
   refine kcS0 24 (.lit (.bool t6)) [] (g1 (nF c5)) (cal (impl_RingOk.ok A7) [] 9999 .n (hf := Try.func133)) rfl rfl ?_
   refine kv (g1 (nF c5)) (not_) ?_
   refine kv g0 (pkF (nF c5)) ?_
   refine kv g0 (mv) ?_
   by_cases c8 : t6 = true
   ·rw [if_pos c8] at H
    refine kv (g1 (nF c8)) (faB 2 2) ?_
    refine kv (g1 (nF c8)) (ldB) ?_
    refine kv (g1 (nF c8)) (lnS lenE) ?_
    refine kv (g1 (nF c8)) (eql) ?_
    refine kv g0 (pkF (nF c8)) ?_
    refine kv g0 (mv) ?_
    by_cases c9 : (l0_2.length : Int) = 3
    ·rw [if_pos c9] at H
     refine kx (hF (eT c9)) ?_
     refine kx (hF (eT c9)) ?_
     refine kv g0 (pkT (eT c9)) ?_
     refine kv g0 (mv) ?_
     refine kx (hF rfl) ?_
     refine kx (hF rfl) ?_
     refine kx (hF rfl) ?_
     refine kv g0 (pkT rfl) ?_
     refine wk_end ?_
     refine ac_k ?_
     exact acw hE [(0, 0), (1, 1), (2, 2), (3, 3), (4, 4), (5, 5), (6, 6)] 9999 (hJ20 k true (Nat.le_refl _) H)
    rw [if_neg c9] at H
    refine kv (g1 (eF c9)) (mv) ?_
    refine kv (g1 (eF c9)) (not_) ?_
    refine kv g0 (pkF (eF c9)) ?_
    refine kv g0 (mv) ?_
    by_cases c10 : t1.2.2.2.2.2.2.2.2 = true
    ·rw [if_pos c10] at H
     refine kv (g1 (nF c10)) (mv) ?_
     obtain ⟨t11, A12, H⟩ := of_bind H
     refine kcS0 39 (.lit (.bool t11)) [] (g1 (nF c10)) (cal (impl_within.ok A12) [] 9999 .n (hf := Try.func88)) rfl rfl ?_
     refine kv (g1 (nF c10)) (not_) ?_
     refine kv g0 (pkF (nF c10)) ?_
     refine wk_end ?_
     refine ac_k ?_
     exact acw hE [(0, 0), (1, 1), (2, 2), (3, 3), (4, 4), (5, 5), (6, 6)] 9999 (hJ20 k (!t11) (Nat.le_refl _) H)
    rw [if_neg c10] at H
    refine kx (hF (nT (bF c10))) ?_
    refine kx (hF (nT (bF c10))) ?_
    refine kx (hF (nT (bF c10))) ?_
    refine kv g0 (pkT (nT (bF c10))) ?_
    refine wk_end ?_
    refine ac_k ?_
    exact acw hE [(0, 0), (1, 1), (2, 2), (3, 3), (4, 4), (5, 5), (6, 6)] 9999 (hJ20 k true (Nat.le_refl _) H)
   rw [if_neg c8] at H
   refine kx (hF (nT (bF c8))) ?_
   refine kx (hF (nT (bF c8))) ?_
   refine kx (hF (nT (bF c8))) ?_
   refine kx (hF (nT (bF c8))) ?_
   refine kv g0 (pkT (nT (bF c8))) ?_
   refine kv g0 (mv) ?_
   refine kx (hF rfl) ?_
   refine kx (hF rfl) ?_
   refine kv g0 (pkT rfl) ?_
   refine kv g0 (mv) ?_
   refine kx (hF rfl) ?_
   refine kx (hF rfl) ?_
   refine kx (hF rfl) ?_
   refine kv g0 (pkT rfl) ?_
   refine wk_end ?_
   refine ac_k ?_
   exact acw hE [(0, 0), (1, 1), (2, 2), (3, 3), (4, 4), (5, 5), (6, 6)] 9999 (hJ20 k true (Nat.le_refl _) H)
  rw [if_neg c5] at H
  refine kx (hF (nT (bF c5))) ?_
  refine kx (hF (nT (bF c5))) ?_
  refine kx (hF (nT (bF c5))) ?_
  refine kv g0 (pkT (nT (bF c5))) ?_
  refine kv g0 (mv) ?_
  refine kx (hF rfl) ?_
  refine kx (hF rfl) ?_
  refine kx (hF rfl) ?_
  refine kx (hF rfl) ?_
  refine kv g0 (pkT rfl) ?_
  refine kv g0 (mv) ?_
  refine kx (hF rfl) ?_
  refine kx (hF rfl) ?_
  refine kv g0 (pkT rfl) ?_
  refine kv g0 (mv) ?_
  refine kx (hF rfl) ?_
  refine kx (hF rfl) ?_
  refine kx (hF rfl) ?_
  refine kv g0 (pkT rfl) ?_
  refine wk_end ?_
  refine ac_k ?_
  exact acw hE [(0, 0), (1, 1), (2, 2), (3, 3), (4, 4), (5, 5), (6, 6)] 9999 (hJ20 k true (Nat.le_refl _) H)
 intro k_ p13 hk_ H
 rcases k_ with _ | k14
 ·rw [impl_Taken.j0.eq_1] at H; cases H
 have hk14 : k14 ≤ k := by omega
 clear hk_
 rw [impl_Taken.j0.eq_2] at H
 by_cases c15 : p13 = true
 ·rw [if_pos c15] at H
  refine aw_ifT ?_ c15
  refine aw_grp1 ?_
  refine wk_start ?_
  refine kv g0 (ldBA 5 [.lit (.int .i64 a0_0), .lit (.int .i64 a0_1), .sl .o 4 (l0_2.map e43), .lit (.int .i64 a0_3), .lit (.int .i64 a0_4)]) ?_
  obtain ⟨t16, A17, H⟩ := of_bind H
  refine kcS1 43 (.agg [.lit (.int .i64 t16.1), .lit (.int .i64 t16.2.1), .row 7, .lit (.int .i64 t16.2.2.2.1), .lit (.int .i64 t16.2.2.2.2)]) [(7, .row 43 4 (t16.2.2.1.map e43))] g0 (cal (impl_copySender.ok A17) [7] 9999 .n (hf := Try.func127)) rfl rfl ?_
  refine kv g0 (ldBA 4 [.sl .o 4 (l1_0.map e43), .lit (.int .i64 a1_1), .lit (.int .i64 a1_2), .lit (.int .i64 a1_3)]) ?_
  obtain ⟨t18, A19, H⟩ := of_bind H
  refine kcS1 45 (.agg [.row 8, .lit (.int .i64 t18.2.1), .lit (.int .i64 t18.2.2.1), .lit (.int .i64 t18.2.2.2)]) [(8, .row 43 4 (t18.1.map e43))] g0 (cal (impl_copyRing.ok A19) [8] 9999 .n (hf := Try.func134)) rfl rfl ?_
  refine ks g0 (stB 5 [.lit (.int .i64 t16.1), .lit (.int .i64 t16.2.1), .row 7, .lit (.int .i64 t16.2.2.2.1), .lit (.int .i64 t16.2.2.2.2)]) ?_
  refine ks g0 (stB 4 [.row 8, .lit (.int .i64 t18.2.1), .lit (.int .i64 t18.2.2.1), .lit (.int .i64 t18.2.2.2)]) ?_
  refine kv g0 (asg) ?_
  refine wk_end_draw hM (by kernel_rfl) ?_
  refine ac_next ?_
  refine aw_ret ?_
  refine ac_thenR ?_
  obtain rfl := Option.some.inj H
  exact acr hE [.cell 6 78, .cell 7 88, .tmp 8] (rcA 5 (rcA 4 (.tmp .nil))) (.many _ _ _) [(0, 7), (1, 8)] 9999
 rw [if_neg c15] at H
 refine aw_ifF ?_ (bF c15)
 refine aw_skip ?_
 refine ac_next ?_
 refine aw_grp1 ?_
 refine wk_start ?_
 refine kv g0 (ldBA 5 [.lit (.int .i64 a0_0), .lit (.int .i64 a0_1), .sl .o 4 (l0_2.map e43), .lit (.int .i64 a0_3), .lit (.int .i64 a0_4)]) ?_
 obtain ⟨t21, A22, H⟩ := of_bind H
 refine kcS1 47 (.agg [.lit (.int .i64 t21.1), .lit (.int .i64 t21.2.1), .row 9, .lit (.int .i64 t21.2.2.2.1), .lit (.int .i64 t21.2.2.2.2)]) [(9, .row 43 4 (t21.2.2.1.map e43))] g0 (cal (impl_copySender.ok A22) [9] 9999 .n (hf := Try.func127)) rfl rfl ?_
 refine kb g0 (alc 10 [.int .i64 0, .int .i64 0, .slice none 0 0, .int .i64 0, .int .i64 0] [.lit (.int .i64 0), .lit (.int .i64 0), .lit (.slice none 0 0), .lit (.int .i64 0), .lit (.int .i64 0)]) ?_
 refine ks g0 (stB 5 [.lit (.int .i64 t21.1), .lit (.int .i64 t21.2.1), .row 9, .lit (.int .i64 t21.2.2.2.1), .lit (.int .i64 t21.2.2.2.2)]) ?_
 refine wk_end ?_
 refine ac_next ?_
 refine aw_grp1 ?_
 refine wk_start ?_
 refine kv g0 (faB 2 2) ?_
 refine kv g0 (ldB) ?_
 refine kv g0 (ldBA 4 [.lit (.int .i64 t1.2.2.2.2.1), .lit (.int .i64 t1.2.2.2.2.2.1), .lit (.int .i64 t1.2.2.2.2.2.2.1), .lit (.int .i64 t1.2.2.2.2.2.2.2.1)]) ?_
 refine kb g0 (bsl 11 43 4 [.int .i64 0, .int .i64 0, .int .i64 0, .int .i64 0] (([(⟨t1.2.2.2.2.1, t1.2.2.2.2.2.1, t1.2.2.2.2.2.2.1, t1.2.2.2.2.2.2.2.1⟩ : S43)] : List S43).map e43)) ?_
 obtain ⟨c23, H⟩ := of_if H
 refine kc g0 (apR 12 43 4 32 [.int .i64 0, .int .i64 0, .int .i64 0, .int .i64 0] ((t21.2.2.1 ++ ([(⟨t1.2.2.2.2.1, t1.2.2.2.2.2.1, t1.2.2.2.2.2.2.1, t1.2.2.2.2.2.2.2.1⟩ : S43)] : List S43)).map e43) (.row rfl) (apb c23 rfl) appE) ?_
 refine kv g0 (faB 2 2) ?_
 refine ks g0 (stB 1 [.lit (.int .i64 t21.1), .lit (.int .i64 t21.2.1), .row 12, .lit (.int .i64 t21.2.2.2.1), .lit (.int .i64 t21.2.2.2.2)]) ?_
 refine wk_end ?_
 refine ac_next ?_
 refine aw_grp1 ?_
 refine wk_start ?_
 refine kv g0 (mv) ?_
 refine kv g0 (faB 3 3) ?_
 refine ks g0 (stB 1 [.lit (.int .i64 t21.1), .lit (.int .i64 t21.2.1), .row 12, .lit (.int .i64 a2), .lit (.int .i64 t21.2.2.2.2)]) ?_
 refine wk_end ?_
 refine ac_next ?_
 refine aw_grp1 ?_
 refine wk_start ?_
 refine kv g0 (faB 4 4) ?_
 refine ks g0 (stB 1 [.lit (.int .i64 t21.1), .lit (.int .i64 t21.2.1), .row 12, .lit (.int .i64 a2), .lit (.int .i64 1)]) ?_
 refine wk_end ?_
 refine ac_next ?_
 refine aw_grp1 ?_
 refine wk_start ?_
 refine kv g0 (ldBA 5 [.lit (.int .i64 t21.1), .lit (.int .i64 t21.2.1), .row 12, .lit (.int .i64 a2), .lit (.int .i64 1)]) ?_
 refine kv g0 (ldBA 4 [.row 4, .lit (.int .i64 t1.2.1), .lit (.int .i64 t1.2.2.1), .lit (.int .i64 t1.2.2.2.1)]) ?_
 refine ks g0 (stB 5 [.lit (.int .i64 t21.1), .lit (.int .i64 t21.2.1), .row 12, .lit (.int .i64 a2), .lit (.int .i64 1)]) ?_
 refine ks g0 (stB 4 [.row 4, .lit (.int .i64 t1.2.1), .lit (.int .i64 t1.2.2.1), .lit (.int .i64 t1.2.2.2.1)]) ?_
 refine kv g0 (asg) ?_
 refine wk_end_draw hM (by kernel_rfl) ?_
 refine ac_next ?_
 refine aw_ret ?_
 obtain rfl := Option.some.inj H
 exact acr hE [.cell 6 78, .cell 7 88, .tmp 8] (rcA 5 (rcA 4 (.tmp .nil))) (.many _ _ _) [(0, 12), (1, 4)] 9999
/-! laws_eqItem -/
def laws_eqItem.f (a0_0 : Int) (a0_1 : Int) (a0_2 : Int) (a0_3 : Int) (a1_0 : Int) (a1_1 : Int) (a1_2 : Int) (a1_3 : Int) : Option (Bool) := if a0_0 = a1_0 then if a0_1 = a1_1 then if a0_2 = a1_2 then if a0_3 = a1_3 then some true else some false else some false else some false else some false
theorem laws_eqItem.ok {a0_0 : Int} {a0_1 : Int} {a0_2 : Int} {a0_3 : Int} {a1_0 : Int} {a1_1 : Int} {a1_2 : Int} {a1_3 : Int} {r : Bool} (H : laws_eqItem.f a0_0 a0_1 a0_2 a0_3 a1_0 a1_1 a1_2 a1_3 = some r) : ACalls Try.prog 185 [] [.agg [.lit (.int .i64 a0_0), .lit (.int .i64 a0_1), .lit (.int .i64 a0_2), .lit (.int .i64 a0_3)], .agg [.lit (.int .i64 a1_0), .lit (.int .i64 a1_1), .lit (.int .i64 a1_2), .lit (.int .i64 a1_3)]] [] (.lit (.bool r)) := by
 refine acalls (fn := Try.f185) (nt := 25) Try.func185 rfl rfl (Nat.le_of_ble_eq_true rfl) fun E hE => ?_
 rw [laws_eqItem.f] at H
 refine aw_grp1 ?_
 refine wk_start ?_
 refine kb g0 (bxA 0) ?_
 refine kb g0 (bxA 1) ?_
 refine kv g0 (asg) ?_
 refine wk_end ?_
 refine ac_next ?_
 refine aw_grp1 ?_
 refine aw_grp1 ?_
 refine wk_start ?_
 refine kv g0 (faB 0 0) ?_
 refine kv g0 (ldB) ?_
 refine kv g0 (faB 0 0) ?_
 refine kv g0 (ldB) ?_
 refine kv g0 (neq) ?_
 refine wk_end ?_
 refine ac_next ?_
 by_cases c1 : a0_0 = a1_0
 ·rw [if_pos c1] at H
  refine aw_ifF ?_ (eM c1)
  refine aw_skip ?_
  refine ac_next ?_
  refine aw_grp1 ?_
  refine aw_grp1 ?_
  refine wk_start ?_
  refine kv g0 (faB 1 1) ?_
  refine kv g0 (ldB) ?_
  refine kv g0 (faB 1 1) ?_
  refine kv g0 (ldB) ?_
  refine kv g0 (neq) ?_
  refine wk_end ?_
  refine ac_next ?_
  by_cases c2 : a0_1 = a1_1
  ·rw [if_pos c2] at H
   refine aw_ifF ?_ (eM c2)
   refine aw_skip ?_
   refine ac_next ?_
   refine aw_grp1 ?_
   refine aw_grp1 ?_
   refine wk_start ?_
   refine kv g0 (faB 2 2) ?_
   refine kv g0 (ldB) ?_
   refine kv g0 (faB 2 2) ?_
   refine kv g0 (ldB) ?_
   refine kv g0 (neq) ?_
   refine wk_end ?_
   refine ac_next ?_
   by_cases c3 : a0_2 = a1_2
   ·rw [if_pos c3] at H
    refine aw_ifF ?_ (eM c3)
    refine aw_skip ?_
    refine ac_next ?_
    refine aw_grp1 ?_
    refine aw_grp1 ?_
    refine wk_start ?_
    refine kv g0 (faB 3 3) ?_
    refine kv g0 (ldB) ?_
    refine kv g0 (faB 3 3) ?_
    refine kv g0 (ldB) ?_
    refine kv g0 (neq) ?_
    refine wk_end ?_
    refine ac_next ?_
    by_cases c4 : a0_3 = a1_3
    ·rw [if_pos c4] at H
     refine aw_ifF ?_ (eM c4)
     refine aw_skip ?_
     refine ac_next ?_
     refine aw_grp1 ?_
     refine wk_start ?_
     refine kv g0 (asg) ?_
     refine wk_end ?_
     refine ac_next ?_
     refine aw_ret ?_
     obtain rfl := Option.some.inj H
     exact acr hE [.tmp 4] (.tmp .nil) (.one _) [] 9999
    rw [if_neg c4] at H
    refine aw_ifT ?_ (eN c4)
    refine aw_grp1 ?_
    refine wk_start ?_
    refine kv g0 (asg) ?_
    refine wk_end ?_
    refine ac_next ?_
    refine aw_ret ?_
    refine ac_thenR ?_
    obtain rfl := Option.some.inj H
    exact acr hE [.tmp 4] (.tmp .nil) (.one _) [] 9999
   rw [if_neg c3] at H
   refine aw_ifT ?_ (eN c3)
   refine aw_grp1 ?_
   refine wk_start ?_
   refine kv g0 (asg) ?_
   refine wk_end ?_
   refine ac_next ?_
   refine aw_ret ?_
   refine ac_thenR ?_
   obtain rfl := Option.some.inj H
   exact acr hE [.tmp 4] (.tmp .nil) (.one _) [] 9999
  rw [if_neg c2] at H
  refine aw_ifT ?_ (eN c2)
  refine aw_grp1 ?_
  refine wk_start ?_
  refine kv g0 (asg) ?_
  refine wk_end ?_
  refine ac_next ?_
  refine aw_ret ?_
  refine ac_thenR ?_
  obtain rfl := Option.some.inj H
  exact acr hE [.tmp 4] (.tmp .nil) (.one _) [] 9999
 rw [if_neg c1] at H
 refine aw_ifT ?_ (eN c1)
 refine aw_grp1 ?_
 refine wk_start ?_
 refine kv g0 (asg) ?_
 refine wk_end ?_
 refine ac_next ?_
 refine aw_ret ?_
 refine ac_thenR ?_
 obtain rfl := Option.some.inj H
 exact acr hE [.tmp 4] (.tmp .nil) (.one _) [] 9999
end Go.Proofs.Ytbapmfjdnnajiaa.PFnExactTaken
