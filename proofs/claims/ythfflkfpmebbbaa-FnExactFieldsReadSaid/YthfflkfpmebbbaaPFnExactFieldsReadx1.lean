import Derived.Test.YthfflkfpmebbbaaPFnExactFieldsReadx0
set_option linter.unusedVariables false
set_option linter.unusedSimpArgs false
set_option maxRecDepth 100000
namespace Go.Proofs.Ythfflkfpmebbbaa.PFnExactFieldsRead
open Go Go.RowKit Go.Proofs.YthfflkfpmebbbaaA
/-! laws_szInsS -/
def laws_szInsS.f (l0 : List S58) (a1 : Int) : Option (Int) := if (wrap64 (a1 - (l0.length : Int))) < 0 then some (-1) else some (wrap64 (a1 - (l0.length : Int)))
theorem laws_szInsS.ok {l0 : List S58} {a1 : Int} {r : Int} (H : laws_szInsS.f l0 a1 = some r) : ACalls Try.prog 7 [] [.sl .o 4 (l0.map e58), .lit (.int .i64 a1)] [] (.lit (.int .i64 r)) := by
 refine acalls (fn := Try.f7) (nt := 12) Try.func7 rfl rfl (Nat.le_of_ble_eq_true rfl) fun E hE => ?_
 rw [laws_szInsS.f] at H
 refine aw_grp1 ?_
 refine wk_start ?_
 refine kv g0 (asg) ?_
 refine wk_end ?_
 refine ac_next ?_
 refine aw_grp1 ?_
 refine wk_start ?_
 refine kv g0 (mv) ?_
 refine kv g0 (mv) ?_
 refine kv g0 (lnS lenE) ?_
 refine kv g0 (sub6) ?_
 refine kv g0 (asg) ?_
 refine wk_end ?_
 refine ac_next ?_
 refine aw_grp1 ?_
 refine aw_grp1 ?_
 refine wk_start ?_
 refine kv g0 (mv) ?_
 refine kv g0 (lss) ?_
 refine wk_end ?_
 refine ac_next ?_
 by_cases c1 : (wrap64 (a1 - (l0.length : Int))) < 0
 ·rw [if_pos c1] at H
  refine aw_ifT ?_ (decide_eq_true c1)
  refine aw_grp1 ?_
  refine wk_start ?_
  refine kv g0 (asg) ?_
  refine wk_end ?_
  refine ac_next ?_
  refine aw_ret ?_
  refine ac_thenR ?_
  obtain rfl := Option.some.inj H
  exact acr hE [.tmp 4] (.tmp .nil) (.one _) [] 9999
 rw [if_neg c1] at H
 refine aw_ifF ?_ (decide_eq_false c1)
 refine aw_skip ?_
 refine ac_next ?_
 refine aw_grp1 ?_
 refine wk_start ?_
 refine kv g0 (mv) ?_
 refine kv g0 (asg) ?_
 refine wk_end ?_
 refine ac_next ?_
 refine aw_ret ?_
 obtain rfl := Option.some.inj H
 exact acr hE [.tmp 4] (.tmp .nil) (.one _) [] 9999
/-! laws_toIns -/
def laws_toIns.f (a0_0 : Int) (a0_1 : Int) (a0_2 : Int) (a0_3 : Int) : Option (Int × Int × Int × Int) := some (a0_0, a0_1, a0_2, a0_3)
theorem laws_toIns.ok {a0_0 : Int} {a0_1 : Int} {a0_2 : Int} {a0_3 : Int} {r : Int × Int × Int × Int} (H : laws_toIns.f a0_0 a0_1 a0_2 a0_3 = some r) : ACalls Try.prog 34 [] [.agg [.lit (.int .i64 a0_0), .lit (.int .i64 a0_1), .lit (.int .i64 a0_2), .lit (.int .i64 a0_3)]] [] (.agg [.lit (.int .i64 r.1), .lit (.int .i64 r.2.1), .lit (.int .i64 r.2.2.1), .lit (.int .i64 r.2.2.2)]) := by
 refine acalls (fn := Try.f34) (nt := 17) Try.func34 rfl rfl (Nat.le_of_ble_eq_true rfl) fun E hE => ?_
 rw [laws_toIns.f] at H
 refine aw_grp1 ?_
 refine wk_start ?_
 refine kb g0 (bxA 0) ?_
 refine kb g0 (alc 1 [.int .i64 0, .int .i64 0, .int .i64 0, .int .i64 0] [.lit (.int .i64 0), .lit (.int .i64 0), .lit (.int .i64 0), .lit (.int .i64 0)]) ?_
 refine wk_end ?_
 refine ac_next ?_
 refine aw_grp1 ?_
 refine wk_start ?_
 refine kb g0 (alc 2 [.int .i64 0, .int .i64 0, .int .i64 0, .int .i64 0] [.lit (.int .i64 0), .lit (.int .i64 0), .lit (.int .i64 0), .lit (.int .i64 0)]) ?_
 refine wk_end ?_
 refine ac_next ?_
 refine aw_grp1 ?_
 refine wk_start ?_
 refine kv g0 (faB 0 0) ?_
 refine kv g0 (ldB) ?_
 refine kv g0 (faB 0 0) ?_
 refine ks g0 (stB 1 [.lit (.int .i64 a0_0), .lit (.int .i64 0), .lit (.int .i64 0), .lit (.int .i64 0)]) ?_
 refine wk_end ?_
 refine ac_next ?_
 refine aw_grp1 ?_
 refine wk_start ?_
 refine kv g0 (faB 1 1) ?_
 refine kv g0 (ldB) ?_
 refine kv g0 (faB 1 1) ?_
 refine ks g0 (stB 1 [.lit (.int .i64 a0_0), .lit (.int .i64 a0_1), .lit (.int .i64 0), .lit (.int .i64 0)]) ?_
 refine wk_end ?_
 refine ac_next ?_
 refine aw_grp1 ?_
 refine wk_start ?_
 refine kv g0 (faB 2 2) ?_
 refine kv g0 (ldB) ?_
 refine kv g0 (faB 2 2) ?_
 refine ks g0 (stB 1 [.lit (.int .i64 a0_0), .lit (.int .i64 a0_1), .lit (.int .i64 a0_2), .lit (.int .i64 0)]) ?_
 refine wk_end ?_
 refine ac_next ?_
 refine aw_grp1 ?_
 refine wk_start ?_
 refine kv g0 (faB 3 3) ?_
 refine kv g0 (ldB) ?_
 refine kv g0 (faB 3 3) ?_
 refine ks g0 (stB 1 [.lit (.int .i64 a0_0), .lit (.int .i64 a0_1), .lit (.int .i64 a0_2), .lit (.int .i64 a0_3)]) ?_
 refine wk_end ?_
 refine ac_next ?_
 refine aw_grp1 ?_
 refine wk_start ?_
 refine kv g0 (ldBA 4 [.lit (.int .i64 a0_0), .lit (.int .i64 a0_1), .lit (.int .i64 a0_2), .lit (.int .i64 a0_3)]) ?_
 refine ks g0 (stB 4 [.lit (.int .i64 a0_0), .lit (.int .i64 a0_1), .lit (.int .i64 a0_2), .lit (.int .i64 a0_3)]) ?_
 refine wk_end ?_
 refine ac_next ?_
 refine aw_ret ?_
 obtain rfl := Option.some.inj H
 exact acr hE [.cell 2 46] (rcA 4 .nil) (.one _) [] 9999
/-! laws_toInsS -/
def laws_toInsS.l0 : Nat → (List S58) → (List S46) → Int → Option ((List S46))
 | 0, _, _, _ => none
 | k10 + 1, l0, q8, p9 => if p9 < (l0.length : Int) then if 0 ≤ p9 then ((laws_toIns.f ((rd_T58 l0 p9).f0) ((rd_T58 l0 p9).f1) ((rd_T58 l0 p9).f2) ((rd_T58 l0 p9).f3)).bind fun t13 => (if p9 < (q8.length : Int) then laws_toInsS.l0 k10 l0 (q8.set p9.toNat (⟨t13.1, t13.2.1, t13.2.2.1, t13.2.2.2⟩ : S46)) (wrap64 (p9 + 1)) else none)) else none else some q8
def laws_toInsS.f (k : Nat) (l0 : List S58) : Option ((List S46)) := if 0 ≤ (l0.length : Int) then (if (l0.length : Int).toNat ≤ 8796093022208 then laws_toInsS.l0 k l0 (List.replicate (l0.length : Int).toNat z46) 0 else none) else none
theorem laws_toInsS.ok {k : Nat} {l0 : List S58} {r : (List S46)} (H : laws_toInsS.f k l0 = some r) : ACalls Try.prog 9 [] [.sl .o 4 (l0.map e58)] [(0, .row 46 4 (r.map e46))] (.row 0) := by
 refine acalls (fn := Try.f9) (nt := 23) Try.func9 rfl rfl (Nat.le_of_ble_eq_true rfl) fun E hE => ?_
 rw [laws_toInsS.f] at H
 refine aw_grp1 ?_
 refine wk_start ?_
 refine kv g0 (asg) ?_
 refine wk_end ?_
 refine ac_next ?_
 refine aw_grp1 ?_
 refine wk_start ?_
 refine kv g0 (mv) ?_
 refine kv g0 (lnS lenE) ?_
 obtain ⟨c1, H⟩ := of_if H
 obtain ⟨c2, H⟩ := of_if H
 refine kb g0 (mks 0 46 4 32 [.int .i64 0, .int .i64 0, .int .i64 0, .int .i64 0] (e46 z46) ((List.replicate (l0.length : Int).toNat z46).map e46) c1 (mkb c2 rfl) repE) ?_
 refine kv g0 (asg) ?_
 refine wk_end ?_
 refine ac_next ?_
 refine aw_grp1 ?_
 refine aw_grp1 ?_
 refine wk_start ?_
 refine kv g0 (asg) ?_
 refine wk_end ?_
 refine ac_next ?_
 refine aw_block ?_
 refine aw_loop2 (fun (k_ : Nat) (q8 : List S46) (p9 : Int) => k_ ≤ k ∧ laws_toInsS.l0 k_ l0 q8 p9 = some r) (fun (q8 : List S46) (p9 : Int) => ⟨[(0, .sl .o 4 (l0.map e58)), (3, .row 0), (4, .lit (.int .i64 p9))], [(0, .row 46 4 (q8.map e46))]⟩) k (List.replicate (l0.length : Int).toNat z46) 0 ⟨Nat.le_refl _, H⟩ (fun K_ h_ => acw hE [(0, 0)] 9999 h_) (fun _ _ => by intro h_; have h_ := h_.2; rw [laws_toInsS.l0.eq_1] at h_; cases h_) ?_
 intro k10 q8 p9 hq_ K16 hK17
 have hk10 := hq_.1
 have H := hq_.2
 clear hq_
 rw [laws_toInsS.l0.eq_2] at H
 refine aw_grp1 ?_
 refine aw_grp1 ?_
 refine wk_start ?_
 refine kv g0 (mv) ?_
 refine kv g0 (mv) ?_
 refine kv g0 (lnS lenE) ?_
 refine kv g0 (lss) ?_
 refine wk_end ?_
 refine ac_next ?_
 by_cases c11 : p9 < (l0.length : Int)
 ·rw [if_pos c11] at H
  refine aw_ifT ?_ (decide_eq_true c11)
  refine aw_skip ?_
  refine ac_next ?_
  refine aw_grp1 ?_
  refine aw_block ?_
  refine wk_start ?_
  refine kv g0 (mv) ?_
  refine kv g0 (mv) ?_
  refine kv g0 (mv) ?_
  refine kv g0 (mv) ?_
  obtain ⟨c12, H⟩ := of_if H
  refine kv g0 (ixS 58 (e58 (rd_T58 l0 p9)) c12 (getE (z := z58) c12 c11)) ?_
  refine kv g0 (ldRA 4 [.lit (.int .i64 ((rd_T58 l0 p9).f0)), .lit (.int .i64 ((rd_T58 l0 p9).f1)), .lit (.int .i64 ((rd_T58 l0 p9).f2)), .lit (.int .i64 ((rd_T58 l0 p9).f3))]) ?_
  obtain ⟨t13, A14, H⟩ := of_bind H
  refine kcS0 20 (.agg [.lit (.int .i64 t13.1), .lit (.int .i64 t13.2.1), .lit (.int .i64 t13.2.2.1), .lit (.int .i64 t13.2.2.2)]) [] g0 (cal (laws_toIns.ok A14) [] 9999 .n (hf := Try.func34)) rfl rfl ?_
  obtain ⟨c15, H⟩ := of_if H
  refine kv g0 (ixR 46 c12 (ltE c15)) ?_
  refine ks g0 (stE 4 (e46 (⟨t13.1, t13.2.1, t13.2.2.1, t13.2.2.2⟩ : S46)) ((q8.set p9.toNat (⟨t13.1, t13.2.1, t13.2.2.1, t13.2.2.2⟩ : S46)).map e46) (getE (z := z46) c12 c15) setE) ?_
  refine wk_end ?_
  refine ac_blkN ?_
  refine ac_next ?_
  refine wk_start ?_
  refine kv g0 (mv) ?_
  refine kv g0 (add6) ?_
  refine kv g0 (asg) ?_
  refine wk_end ?_
  refine ac_k ?_
  exact acw hE [(0, 0)] 9999 (hK17 k10 (q8.set p9.toNat (⟨t13.1, t13.2.1, t13.2.2.1, t13.2.2.2⟩ : S46)) (wrap64 (p9 + 1)) (Nat.le_refl _) ⟨by omega, H⟩)
 rw [if_neg c11] at H
 refine aw_ifF ?_ (decide_eq_false c11)
 refine aw_exit ?_
 refine ac_then ?_
 refine ac_then ?_
 refine ac_hit rfl ?_
 refine ac_next ?_
 refine aw_grp1 ?_
 refine wk_start ?_
 refine kv g0 (mv) ?_
 refine kv g0 (asg) ?_
 refine wk_end ?_
 refine ac_next ?_
 refine aw_ret ?_
 obtain rfl := Option.some.inj H
 exact acr hE [.tmp 2] (.tmp .nil) (.one _) [(0, 0)] 9999
/-! spec_l01In -/
def spec_l01In.f (a0 : Int) (a1 : Int) (a2 : Int) : Option (Bool) := if a0 ≥ a1 then some (decide (a0 ≤ a2)) else some false
theorem spec_l01In.ok {a0 : Int} {a1 : Int} {a2 : Int} {r : Bool} (H : spec_l01In.f a0 a1 a2 = some r) : ACalls Try.prog 40 [] [.lit (.int .i64 a0), .lit (.int .i64 a1), .lit (.int .i64 a2)] [] (.lit (.bool r)) := by
 refine acalls (fn := Try.f40) (nt := 15) Try.func40 rfl rfl (Nat.le_of_ble_eq_true rfl) fun E hE => ?_
 rw [spec_l01In.f] at H
 refine aw_grp1 ?_
 refine wk_start ?_
 refine kv g0 (asg) ?_
 refine wk_end ?_
 refine ac_next ?_
 refine aw_grp1 ?_
 refine wk_start ?_
 refine kv g0 (mv) ?_
 refine kv g0 (mv) ?_
 refine kv g0 (geq) ?_
 refine kv g0 (mv) ?_
 by_cases c1 : a0 ≥ a1
 ·rw [if_pos c1] at H
  refine kv (g1 (decide_eq_true c1)) (mv) ?_
  refine kv (g1 (decide_eq_true c1)) (mv) ?_
  refine kv (g1 (decide_eq_true c1)) (leq) ?_
  refine kv g0 (pkT (decide_eq_true c1)) ?_
  refine kv g0 (asg) ?_
  refine wk_end ?_
  refine ac_next ?_
  refine aw_ret ?_
  obtain rfl := Option.some.inj H
  exact acr hE [.tmp 6] (.tmp .nil) (.one _) [] 9999
 rw [if_neg c1] at H
 refine kx (hT (decide_eq_false c1)) ?_
 refine kx (hT (decide_eq_false c1)) ?_
 refine kx (hT (decide_eq_false c1)) ?_
 refine kv g0 (pkF (decide_eq_false c1)) ?_
 refine kv g0 (asg) ?_
 refine wk_end ?_
 refine ac_next ?_
 refine aw_ret ?_
 obtain rfl := Option.some.inj H
 exact acr hE [.tmp 6] (.tmp .nil) (.one _) [] 9999
/-! spec_HalfOk -/
def spec_HalfOk.f (a0 : Int) : Option (Bool) := (spec_l01In.f a0 0 4294967295).bind fun t1 => some t1
theorem spec_HalfOk.ok {a0 : Int} {r : Bool} (H : spec_HalfOk.f a0 = some r) : ACalls Try.prog 52 [] [.lit (.int .i64 a0)] [] (.lit (.bool r)) := by
 refine acalls (fn := Try.f52) (nt := 5) Try.func52 rfl rfl (Nat.le_of_ble_eq_true rfl) fun E hE => ?_
 rw [spec_HalfOk.f] at H
 refine aw_grp1 ?_
 refine wk_start ?_
 refine kv g0 (asg) ?_
 refine wk_end ?_
 refine ac_next ?_
 refine aw_grp1 ?_
 refine wk_start ?_
 refine kv g0 (mv) ?_
 obtain ⟨t1, A2, H⟩ := of_bind H
 refine kcS0 4 (.lit (.bool t1)) [] g0 (cal (spec_l01In.ok A2) [] 9999 .n (hf := Try.func40)) rfl rfl ?_
 refine kv g0 (asg) ?_
 refine wk_end ?_
 refine ac_next ?_
 refine aw_ret ?_
 obtain rfl := Option.some.inj H
 exact acr hE [.tmp 2] (.tmp .nil) (.one _) [] 9999
/-! spec_l06Ask -/
def spec_l06Ask.f (a0 : Int) : Option (Bool) := (spec_l01In.f a0 3 6).bind fun t1 => some t1
theorem spec_l06Ask.ok {a0 : Int} {r : Bool} (H : spec_l06Ask.f a0 = some r) : ACalls Try.prog 69 [] [.lit (.int .i64 a0)] [] (.lit (.bool r)) := by
 refine acalls (fn := Try.f69) (nt := 5) Try.func69 rfl rfl (Nat.le_of_ble_eq_true rfl) fun E hE => ?_
 rw [spec_l06Ask.f] at H
 refine aw_grp1 ?_
 refine wk_start ?_
 refine kv g0 (asg) ?_
 refine wk_end ?_
 refine ac_next ?_
 refine aw_grp1 ?_
 refine wk_start ?_
 refine kv g0 (mv) ?_
 obtain ⟨t1, A2, H⟩ := of_bind H
 refine kcS0 4 (.lit (.bool t1)) [] g0 (cal (spec_l01In.ok A2) [] 9999 .n (hf := Try.func40)) rfl rfl ?_
 refine kv g0 (asg) ?_
 refine wk_end ?_
 refine ac_next ?_
 refine aw_ret ?_
 obtain rfl := Option.some.inj H
 exact acr hE [.tmp 2] (.tmp .nil) (.one _) [] 9999
/-! spec_InsOk -/
def spec_InsOk.j0 : Nat → Int → Int → Int → Int → Option (Bool)
 | 0, _, _, _, _ => none
 | k18 + 1, a0_0, a0_1, a0_2, a0_3 => if a0_0 = 1 then some (decide (a0_1 < 8)) else if a0_0 = 7 then some (decide (a0_1 < 400)) else some true
def spec_InsOk.f (k : Nat) (a0_0 : Int) (a0_1 : Int) (a0_2 : Int) (a0_3 : Int) : Option (Bool) := (spec_l01In.f a0_0 1 8).bind fun t1 => (if t1 = true then ((spec_HalfOk.f a0_1).bind fun t4 => (if t4 = true then ((spec_l01In.f a0_2 0 15).bind fun t7 => (if t7 = true then ((spec_l01In.f a0_3 0 15).bind fun t10 => if t10 = true then (spec_l06Ask.f a0_0).bind fun t13 => (if t13 = true then spec_InsOk.j0 k a0_0 a0_1 a0_2 a0_3 else (if a0_2 = 0 then if a0_3 = 0 then spec_InsOk.j0 k a0_0 a0_1 a0_2 a0_3 else some false else some false)) else some false) else some false)) else some false)) else some false)
theorem spec_InsOk.ok {k : Nat} {a0_0 : Int} {a0_1 : Int} {a0_2 : Int} {a0_3 : Int} {r : Bool} (H : spec_InsOk.f k a0_0 a0_1 a0_2 a0_3 = some r) : ACalls Try.prog 41 [] [.agg [.lit (.int .i64 a0_0), .lit (.int .i64 a0_1), .lit (.int .i64 a0_2), .lit (.int .i64 a0_3)]] [] (.lit (.bool r)) := by
 refine acalls (fn := Try.f41) (nt := 51) Try.func41 rfl rfl (Nat.le_of_ble_eq_true rfl) fun E hE => ?_
 rw [spec_InsOk.f] at H
 refine aw_grp1 ?_
 refine wk_start ?_
 refine kb g0 (bxA 0) ?_
 refine kv g0 (asg) ?_
 refine wk_end ?_
 refine ac_next ?_
 refine aw_grp1 ?_
 refine aw_grp1 ?_
 refine wk_start ?_
 refine kv g0 (faB 0 0) ?_
 refine kv g0 (ldB) ?_
 obtain ⟨t1, A2, H⟩ := of_bind H
 refine kcS0 5 (.lit (.bool t1)) [] g0 (cal (spec_l01In.ok A2) [] 9999 .n (hf := Try.func40)) rfl rfl ?_
 refine kv g0 (not_) ?_
 refine kv g0 (mv) ?_
 by_cases c3 : t1 = true
 ·rw [if_pos c3] at H
  refine kv (g1 (nF c3)) (faB 1 1) ?_
  refine kv (g1 (nF c3)) (ldB) ?_
  obtain ⟨t4, A5, H⟩ := of_bind H
  refine kcS0 10 (.lit (.bool t4)) [] (g1 (nF c3)) (cal (spec_HalfOk.ok A5) [] 9999 .n (hf := Try.func52)) rfl rfl ?_
  refine kv (g1 (nF c3)) (not_) ?_
  refine kv g0 (pkF (nF c3)) ?_
  refine kv g0 (mv) ?_
  by_cases c6 : t4 = true
  ·rw [if_pos c6] at H
   refine kv (g1 (nF c6)) (faB 2 2) ?_
   refine kv (g1 (nF c6)) (ldB) ?_
   obtain ⟨t7, A8, H⟩ := of_bind H
   refine kcS0 16 (.lit (.bool t7)) [] (g1 (nF c6)) (cal (spec_l01In.ok A8) [] 9999 .n (hf := Try.func40)) rfl rfl ?_
   refine kv (g1 (nF c6)) (not_) ?_
   refine kv g0 (pkF (nF c6)) ?_
   refine kv g0 (mv) ?_
   by_cases c9 : t7 = true
   ·rw [if_pos c9] at H
    refine kv (g1 (nF c9)) (faB 3 3) ?_
    refine kv (g1 (nF c9)) (ldB) ?_
    obtain ⟨t10, A11, H⟩ := of_bind H
    refine kcS0 22 (.lit (.bool t10)) [] (g1 (nF c9)) (cal (spec_l01In.ok A11) [] 9999 .n (hf := Try.func40)) rfl rfl ?_
    refine kv (g1 (nF c9)) (not_) ?_
    refine kv g0 (pkF (nF c9)) ?_
    refine wk_end ?_
    refine ac_next ?_
    by_cases c12 : t10 = true
    ·rw [if_pos c12] at H
     refine aw_ifF ?_ (nF c12)
     refine aw_skip ?_
     refine ac_next ?_
     refine aw_cut1 (J := fun K_ => ∀ (k_ : Nat), k_ ≤ k → spec_InsOk.j0 k_ a0_0 a0_1 a0_2 a0_3  = some r → ACont E 51 ⟨[(1, .box 0 0)], [(0, .box 46 [.lit (.int .i64 a0_0), .lit (.int .i64 a0_1), .lit (.int .i64 a0_2), .lit (.int .i64 a0_3)])]⟩ K_) ?_ ?_
     ·intro K_ hJ21
      refine aw_grp1 ?_
      refine wk_start ?_
      refine kv g0 (faB 0 0) ?_
      refine kv g0 (ldB) ?_
      obtain ⟨t13, A14, H⟩ := of_bind H
      refine kcS0 27 (.lit (.bool t13)) [] g0 (cal (spec_l06Ask.ok A14) [] 9999 .n (hf := Try.func69)) rfl rfl ?_
      refine kv g0 (not_) ?_
      refine kv g0 (mv) ?_
      by_cases c15 : t13 = true
      ·rw [if_pos c15] at H
       refine kx (hT (nF c15)) ?_
       refine kx (hT (nF c15)) ?_
       refine kx (hT (nF c15)) ?_
       refine ku (neT (hT (nF c15))) ?_
       refine ku neU ?_
       refine ku neU ?_
       refine ku neU ?_
       refine kx (hT (nF c15)) ?_
       refine kv g0 (pkF (nF c15)) ?_
       refine wk_end ?_
       refine ac_next ?_
       refine aw_ifF ?_ rfl
       refine aw_skip ?_
       refine ac_k ?_
       exact acw hE [(0, 0)] 9999 (hJ21 k (Nat.le_refl _) H)
      rw [if_neg c15] at H
      refine kv (g1 (nT (bF c15))) (faB 2 2) ?_
      refine kv (g1 (nT (bF c15))) (ldB) ?_
      refine kv (g1 (nT (bF c15))) (neq) ?_
      refine kv (g1 (nT (bF c15))) (mv) ?_
      by_cases c16 : a0_2 = 0
      ·rw [if_pos c16] at H
       refine kv (g1 (eM c16)) (faB 3 3) ?_
       refine kv (g1 (eM c16)) (ldB) ?_
       refine kv (g1 (eM c16)) (neq) ?_
       refine kv (g1 (nT (bF c15))) (pkF (eM c16)) ?_
       refine kv g0 (pkT (nT (bF c15))) ?_
       refine wk_end ?_
       refine ac_next ?_
       by_cases c17 : a0_3 = 0
       ·rw [if_pos c17] at H
        refine aw_ifF ?_ (eM c17)
        refine aw_skip ?_
        refine ac_k ?_
        exact acw hE [(0, 0)] 9999 (hJ21 k (Nat.le_refl _) H)
       rw [if_neg c17] at H
       refine aw_ifT ?_ (eN c17)
       refine aw_grp1 ?_
       refine wk_start ?_
       refine kv g0 (asg) ?_
       refine wk_end ?_
       refine ac_next ?_
       refine aw_ret ?_
       refine ac_thenR ?_
       obtain rfl := Option.some.inj H
       exact acr hE [.tmp 2] (.tmp .nil) (.one _) [] 9999
      rw [if_neg c16] at H
      refine kx (hF (eN c16)) ?_
      refine kx (hF (eN c16)) ?_
      refine kx (hF (eN c16)) ?_
      refine kv (g1 (nT (bF c15))) (pkT (eN c16)) ?_
      refine kv g0 (pkT (nT (bF c15))) ?_
      refine wk_end ?_
      refine ac_next ?_
      refine aw_ifT ?_ rfl
      refine aw_grp1 ?_
      refine wk_start ?_
      refine kv g0 (asg) ?_
      refine wk_end ?_
      refine ac_next ?_
      refine aw_ret ?_
      refine ac_thenR ?_
      obtain rfl := Option.some.inj H
      exact acr hE [.tmp 2] (.tmp .nil) (.one _) [] 9999
     intro k_  hk_ H
     rcases k_ with _ | k18
     ·rw [spec_InsOk.j0.eq_1] at H; cases H
     have hk18 : k18 ≤ k := by omega
     clear hk_
     rw [spec_InsOk.j0.eq_2] at H
     refine aw_grp1 ?_
     refine aw_grp1 ?_
     refine wk_start ?_
     refine kv g0 (faB 0 0) ?_
     refine kv g0 (ldB) ?_
     refine wk_end ?_
     refine ac_next ?_
     refine aw_block ?_
     refine aw_grp1 ?_
     refine wk_start ?_
     refine kv g0 (eql) ?_
     refine kv g0 (asg) ?_
     refine wk_end ?_
     refine ac_next ?_
     by_cases c19 : a0_0 = 1
     ·rw [if_pos c19] at H
      refine aw_ifT ?_ (eT c19)
      refine aw_grp1 ?_
      refine wk_start ?_
      refine kv g0 (faB 1 1) ?_
      refine kv g0 (ldB) ?_
      refine kv g0 (lss) ?_
      refine kv g0 (asg) ?_
      refine wk_end ?_
      refine ac_next ?_
      refine aw_ret ?_
      refine ac_blkR ?_
      refine ac_thenR ?_
      obtain rfl := Option.some.inj H
      exact acr hE [.tmp 2] (.tmp .nil) (.one _) [] 9999
     rw [if_neg c19] at H
     refine aw_ifF ?_ (eF c19)
     refine aw_grp1 ?_
     refine wk_start ?_
     refine kv g0 (eql) ?_
     refine kv g0 (asg) ?_
     refine wk_end ?_
     refine ac_next ?_
     by_cases c20 : a0_0 = 7
     ·rw [if_pos c20] at H
      refine aw_ifT ?_ (eT c20)
      refine aw_grp1 ?_
      refine wk_start ?_
      refine kv g0 (faB 1 1) ?_
      refine kv g0 (ldB) ?_
      refine kv g0 (lss) ?_
      refine kv g0 (asg) ?_
      refine wk_end ?_
      refine ac_next ?_
      refine aw_ret ?_
      refine ac_blkR ?_
      refine ac_thenR ?_
      obtain rfl := Option.some.inj H
      exact acr hE [.tmp 2] (.tmp .nil) (.one _) [] 9999
     rw [if_neg c20] at H
     refine aw_ifF ?_ (eF c20)
     refine aw_skip ?_
     refine ac_blkN ?_
     refine ac_next ?_
     refine aw_grp1 ?_
     refine wk_start ?_
     refine kv g0 (asg) ?_
     refine wk_end ?_
     refine ac_next ?_
     refine aw_ret ?_
     obtain rfl := Option.some.inj H
     exact acr hE [.tmp 2] (.tmp .nil) (.one _) [] 9999
    rw [if_neg c12] at H
    refine aw_ifT ?_ (nT (bF c12))
    refine aw_grp1 ?_
    refine wk_start ?_
    refine kv g0 (asg) ?_
    refine wk_end ?_
    refine ac_next ?_
    refine aw_ret ?_
    refine ac_thenR ?_
    obtain rfl := Option.some.inj H
    exact acr hE [.tmp 2] (.tmp .nil) (.one _) [] 9999
   rw [if_neg c9] at H
   refine kx (hF (nT (bF c9))) ?_
   refine kx (hF (nT (bF c9))) ?_
   refine kx (hF (nT (bF c9))) ?_
   refine kx (hF (nT (bF c9))) ?_
   refine kv g0 (pkT (nT (bF c9))) ?_
   refine wk_end ?_
   refine ac_next ?_
   refine aw_ifT ?_ rfl
   refine aw_grp1 ?_
   refine wk_start ?_
   refine kv g0 (asg) ?_
   refine wk_end ?_
   refine ac_next ?_
   refine aw_ret ?_
   refine ac_thenR ?_
   obtain rfl := Option.some.inj H
   exact acr hE [.tmp 2] (.tmp .nil) (.one _) [] 9999
  rw [if_neg c6] at H
  refine kx (hF (nT (bF c6))) ?_
  refine kx (hF (nT (bF c6))) ?_
  refine kx (hF (nT (bF c6))) ?_
  refine kx (hF (nT (bF c6))) ?_
  refine kv g0 (pkT (nT (bF c6))) ?_
  refine kv g0 (mv) ?_
  refine kx (hF rfl) ?_
  refine kx (hF rfl) ?_
  refine kx (hF rfl) ?_
  refine kx (hF rfl) ?_
  refine kv g0 (pkT rfl) ?_
  refine wk_end ?_
  refine ac_next ?_
  refine aw_ifT ?_ rfl
  refine aw_grp1 ?_
  refine wk_start ?_
  refine kv g0 (asg) ?_
  refine wk_end ?_
  refine ac_next ?_
  refine aw_ret ?_
  refine ac_thenR ?_
  obtain rfl := Option.some.inj H
  exact acr hE [.tmp 2] (.tmp .nil) (.one _) [] 9999
 rw [if_neg c3] at H
 refine kx (hF (nT (bF c3))) ?_
 refine kx (hF (nT (bF c3))) ?_
 refine kx (hF (nT (bF c3))) ?_
 refine kx (hF (nT (bF c3))) ?_
 refine kv g0 (pkT (nT (bF c3))) ?_
 refine kv g0 (mv) ?_
 refine kx (hF rfl) ?_
 refine kx (hF rfl) ?_
 refine kx (hF rfl) ?_
 refine kx (hF rfl) ?_
 refine kv g0 (pkT rfl) ?_
 refine kv g0 (mv) ?_
 refine kx (hF rfl) ?_
 refine kx (hF rfl) ?_
 refine kx (hF rfl) ?_
 refine kx (hF rfl) ?_
 refine kv g0 (pkT rfl) ?_
 refine wk_end ?_
 refine ac_next ?_
 refine aw_ifT ?_ rfl
 refine aw_grp1 ?_
 refine wk_start ?_
 refine kv g0 (asg) ?_
 refine wk_end ?_
 refine ac_next ?_
 refine aw_ret ?_
 refine ac_thenR ?_
 obtain rfl := Option.some.inj H
 exact acr hE [.tmp 2] (.tmp .nil) (.one _) [] 9999
/-! spec_l07Far -/
def spec_l07Far.f (a0_0 : Int) (a0_1 : Int) (a0_2 : Int) (a0_3 : Int) : Option (Int) := if a0_0 = 7 then some a0_1 else if a0_2 > a0_3 then some a0_2 else some a0_3
theorem spec_l07Far.ok {a0_0 : Int} {a0_1 : Int} {a0_2 : Int} {a0_3 : Int} {r : Int} (H : spec_l07Far.f a0_0 a0_1 a0_2 a0_3 = some r) : ACalls Try.prog 42 [] [.agg [.lit (.int .i64 a0_0), .lit (.int .i64 a0_1), .lit (.int .i64 a0_2), .lit (.int .i64 a0_3)]] [] (.lit (.int .i64 r)) := by
 refine acalls (fn := Try.f42) (nt := 17) Try.func42 rfl rfl (Nat.le_of_ble_eq_true rfl) fun E hE => ?_
 rw [spec_l07Far.f] at H
 refine aw_grp1 ?_
 refine wk_start ?_
 refine kb g0 (bxA 0) ?_
 refine kv g0 (asg) ?_
 refine wk_end ?_
 refine ac_next ?_
 refine aw_grp1 ?_
 refine aw_grp1 ?_
 refine wk_start ?_
 refine kv g0 (faB 0 0) ?_
 refine kv g0 (ldB) ?_
 refine kv g0 (eql) ?_
 refine wk_end ?_
 refine ac_next ?_
 by_cases c1 : a0_0 = 7
 ·rw [if_pos c1] at H
  refine aw_ifT ?_ (eT c1)
  refine aw_grp1 ?_
  refine wk_start ?_
  refine kv g0 (faB 1 1) ?_
  refine kv g0 (ldB) ?_
  refine kv g0 (asg) ?_
  refine wk_end ?_
  refine ac_next ?_
  refine aw_ret ?_
  refine ac_thenR ?_
  obtain rfl := Option.some.inj H
  exact acr hE [.tmp 2] (.tmp .nil) (.one _) [] 9999
 rw [if_neg c1] at H
 refine aw_ifF ?_ (eF c1)
 refine aw_skip ?_
 refine ac_next ?_
 refine aw_grp1 ?_
 refine aw_grp1 ?_
 refine wk_start ?_
 refine kv g0 (faB 2 2) ?_
 refine kv g0 (ldB) ?_
 refine kv g0 (faB 3 3) ?_
 refine kv g0 (ldB) ?_
 refine kv g0 (gtr) ?_
 refine wk_end ?_
 refine ac_next ?_
 by_cases c2 : a0_2 > a0_3
 ·rw [if_pos c2] at H
  refine aw_ifT ?_ (decide_eq_true c2)
  refine aw_grp1 ?_
  refine wk_start ?_
  refine kv g0 (faB 2 2) ?_
  refine kv g0 (ldB) ?_
  refine kv g0 (asg) ?_
  refine wk_end ?_
  refine ac_next ?_
  refine aw_ret ?_
  refine ac_thenR ?_
  obtain rfl := Option.some.inj H
  exact acr hE [.tmp 2] (.tmp .nil) (.one _) [] 9999
 rw [if_neg c2] at H
 refine aw_ifF ?_ (decide_eq_false c2)
 refine aw_skip ?_
 refine ac_next ?_
 refine aw_grp1 ?_
 refine wk_start ?_
 refine kv g0 (faB 3 3) ?_
 refine kv g0 (ldB) ?_
 refine kv g0 (asg) ?_
 refine wk_end ?_
 refine ac_next ?_
 refine aw_ret ?_
 obtain rfl := Option.some.inj H
 exact acr hE [.tmp 2] (.tmp .nil) (.one _) [] 9999
/-! spec_CheckProgram -/
def spec_CheckProgram.l0 : Nat → (List S46) → Int → Option (Bool)
 | 0, _, _ => none
 | k14 + 1, l0, p13 => if p13 < (l0.length : Int) then if 0 ≤ p13 then ((spec_InsOk.f k14 ((rd_T46 l0 p13).f0) ((rd_T46 l0 p13).f1) ((rd_T46 l0 p13).f2) ((rd_T46 l0 p13).f3)).bind fun t17 => (if t17 = true then (if ((rd_T46 l0 p13).f0) = 8 then spec_CheckProgram.l0 k14 l0 (wrap64 (p13 + 1)) else ((spec_l07Far.f ((rd_T46 l0 p13).f0) ((rd_T46 l0 p13).f1) ((rd_T46 l0 p13).f2) ((rd_T46 l0 p13).f3)).bind fun t21 => if (wrap64 ((wrap64 (p13 + 1)) + t21)) ≥ (l0.length : Int) then some false else spec_CheckProgram.l0 k14 l0 (wrap64 (p13 + 1)))) else some false)) else none else if 0 ≤ (wrap64 ((l0.length : Int) - 1)) then (if (wrap64 ((l0.length : Int) - 1)) < (l0.length : Int) then some (((rd_T46 l0 (wrap64 ((l0.length : Int) - 1))).f0) == 8) else none) else none
def spec_CheckProgram.f (k : Nat) (l0 : List S46) : Option (Bool) := (spec_l01In.f (l0.length : Int) 1 400).bind fun t1 => if t1 = true then spec_CheckProgram.l0 k l0 0 else some false
theorem spec_CheckProgram.ok {k : Nat} {l0 : List S46} {r : Bool} (H : spec_CheckProgram.f k l0 = some r) : ACalls Try.prog 21 [] [.sl .o 4 (l0.map e46)] [] (.lit (.bool r)) := by
 refine acalls (fn := Try.f21) (nt := 49) Try.func21 rfl rfl (Nat.le_of_ble_eq_true rfl) fun E hE => ?_
 rw [spec_CheckProgram.f] at H
 refine aw_grp1 ?_
 refine wk_start ?_
 refine kv g0 (asg) ?_
 refine wk_end ?_
 refine ac_next ?_
 refine aw_grp1 ?_
 refine aw_grp1 ?_
 refine wk_start ?_
 refine kv g0 (mv) ?_
 refine kv g0 (lnS lenE) ?_
 obtain ⟨t1, A2, H⟩ := of_bind H
 refine kcS0 6 (.lit (.bool t1)) [] g0 (cal (spec_l01In.ok A2) [] 9999 .n (hf := Try.func40)) rfl rfl ?_
 refine kv g0 (not_) ?_
 refine wk_end ?_
 refine ac_next ?_
 by_cases c3 : t1 = true
 ·rw [if_pos c3] at H
  refine aw_ifF ?_ (nF c3)
  refine aw_skip ?_
  refine ac_next ?_
  refine aw_grp1 ?_
  refine aw_grp1 ?_
  refine wk_start ?_
  refine kv g0 (asg) ?_
  refine wk_end ?_
  refine ac_next ?_
  refine aw_block ?_
  refine aw_loop1 (fun (k_ : Nat) (p13 : Int) => k_ ≤ k ∧ spec_CheckProgram.l0 k_ l0 p13 = some r) (fun (p13 : Int) => ⟨[(0, .sl .o 4 (l0.map e46)), (3, .lit (.int .i64 p13))], []⟩) k 0 ⟨Nat.le_refl _, H⟩ (fun K_ h_ => acw hE [] 9999 h_) (fun _ => by intro h_; have h_ := h_.2; rw [spec_CheckProgram.l0.eq_1] at h_; cases h_) ?_
  intro k14 p13 hq_ K24 hK25
  have hk14 := hq_.1
  have H := hq_.2
  clear hq_
  rw [spec_CheckProgram.l0.eq_2] at H
  refine aw_grp1 ?_
  refine aw_grp1 ?_
  refine wk_start ?_
  refine kv g0 (mv) ?_
  refine kv g0 (mv) ?_
  refine kv g0 (lnS lenE) ?_
  refine kv g0 (lss) ?_
  refine wk_end ?_
  refine ac_next ?_
  by_cases c15 : p13 < (l0.length : Int)
  ·rw [if_pos c15] at H
   refine aw_ifT ?_ (decide_eq_true c15)
   refine aw_skip ?_
   refine ac_next ?_
   refine aw_grp1 ?_
   refine aw_block ?_
   refine aw_grp1 ?_
   refine wk_start ?_
   refine kv g0 (mv) ?_
   refine kv g0 (mv) ?_
   obtain ⟨c16, H⟩ := of_if H
   refine kv g0 (ixS 46 (e46 (rd_T46 l0 p13)) c16 (getE (z := z46) c16 c15)) ?_
   refine kv g0 (ldRA 4 [.lit (.int .i64 ((rd_T46 l0 p13).f0)), .lit (.int .i64 ((rd_T46 l0 p13).f1)), .lit (.int .i64 ((rd_T46 l0 p13).f2)), .lit (.int .i64 ((rd_T46 l0 p13).f3))]) ?_
   obtain ⟨t17, A18, H⟩ := of_bind H
   refine kcS0 18 (.lit (.bool t17)) [] g0 (cal (spec_InsOk.ok A18) [] 9999 .n (hf := Try.func41)) rfl rfl ?_
   refine kv g0 (not_) ?_
   refine kv g0 (mv) ?_
   by_cases c19 : t17 = true
   ·rw [if_pos c19] at H
    refine kv (g1 (nF c19)) (mv) ?_
    refine kv (g1 (nF c19)) (mv) ?_
    refine kv (g1 (nF c19)) (ixS 46 (e46 (rd_T46 l0 p13)) c16 (getE (z := z46) c16 c15)) ?_
    refine kv (g1 (nF c19)) (faR 0 0) ?_
    refine kv (g1 (nF c19)) (ldR (.lit (.int .i64 ((rd_T46 l0 p13).f0)))) ?_
    refine kv (g1 (nF c19)) (neq) ?_
    refine kv (g1 (nF c19)) (mv) ?_
    by_cases c20 : ((rd_T46 l0 p13).f0) = 8
    ·rw [if_pos c20] at H
     refine kx (hT (eM c20)) ?_
     refine kx (hT (eM c20)) ?_
     refine kx (hT (eM c20)) ?_
     refine kx (hT (eM c20)) ?_
     refine kx (hT (eM c20)) ?_
     refine kx (hT (eM c20)) ?_
     refine kx (hT (eM c20)) ?_
     refine kx (hT (eM c20)) ?_
     refine kx (hT (eM c20)) ?_
     refine kx (hT (eM c20)) ?_
     refine kx (hT (eM c20)) ?_
     refine kv (g1 (nF c19)) (pkF (eM c20)) ?_
     refine kv g0 (pkF (nF c19)) ?_
     refine wk_end ?_
     refine ac_next ?_
     refine aw_ifF ?_ rfl
     refine aw_skip ?_
     refine ac_blkN ?_
     refine ac_next ?_
     refine wk_start ?_
     refine kv g0 (mv) ?_
     refine kv g0 (add6) ?_
     refine kv g0 (asg) ?_
     refine wk_end ?_
     refine ac_k ?_
     exact acw hE [] 9999 (hK25 k14 (wrap64 (p13 + 1)) (Nat.le_refl _) ⟨by omega, H⟩)
    rw [if_neg c20] at H
    refine kv (g1 (eN c20)) (mv) ?_
    refine kv (g1 (eN c20)) (add6) ?_
    refine kv (g1 (eN c20)) (mv) ?_
    refine kv (g1 (eN c20)) (mv) ?_
    refine kv (g1 (eN c20)) (ixS 46 (e46 (rd_T46 l0 p13)) c16 (getE (z := z46) c16 c15)) ?_
    refine kv (g1 (eN c20)) (ldRA 4 [.lit (.int .i64 ((rd_T46 l0 p13).f0)), .lit (.int .i64 ((rd_T46 l0 p13).f1)), .lit (.int .i64 ((rd_T46 l0 p13).f2)), .lit (.int .i64 ((rd_T46 l0 p13).f3))]) ?_
    obtain ⟨t21, A22, H⟩ := of_bind H
    refine kcS0 34 (.lit (.int .i64 t21)) [] (g1 (eN c20)) (cal (spec_l07Far.ok A22) [] 9999 .n (hf := Try.func42)) rfl rfl ?_
    refine kv (g1 (eN c20)) (add6) ?_
    refine kv (g1 (eN c20)) (mv) ?_
    refine kv (g1 (eN c20)) (lnS lenE) ?_
    refine kv (g1 (eN c20)) (geq) ?_
    refine kv (g1 (nF c19)) (pkT (eN c20)) ?_
    refine kv g0 (pkF (nF c19)) ?_
    refine wk_end ?_
    refine ac_next ?_
    by_cases c23 : (wrap64 ((wrap64 (p13 + 1)) + t21)) ≥ (l0.length : Int)
    ·rw [if_pos c23] at H
     refine aw_ifT ?_ (decide_eq_true c23)
     refine aw_grp1 ?_
     refine wk_start ?_
     refine kv g0 (asg) ?_
     refine wk_end ?_
     refine ac_next ?_
     refine aw_ret ?_
     refine ac_blkR ?_
     refine ac_thenR ?_
     refine ac_thenR ?_
     refine ac_blkR ?_
     refine ac_thenR ?_
     obtain rfl := Option.some.inj H
     exact acr hE [.tmp 2] (.tmp .nil) (.one _) [] 9999
    rw [if_neg c23] at H
    refine aw_ifF ?_ (decide_eq_false c23)
    refine aw_skip ?_
    refine ac_blkN ?_
    refine ac_next ?_
    refine wk_start ?_
    refine kv g0 (mv) ?_
    refine kv g0 (add6) ?_
    refine kv g0 (asg) ?_
    refine wk_end ?_
    refine ac_k ?_
    exact acw hE [] 9999 (hK25 k14 (wrap64 (p13 + 1)) (Nat.le_refl _) ⟨by omega, H⟩)
   rw [if_neg c19] at H
   refine kx (hF (nT (bF c19))) ?_
   refine kx (hF (nT (bF c19))) ?_
   refine kx (hF (nT (bF c19))) ?_
   refine kx (hF (nT (bF c19))) ?_
   refine kx (hF (nT (bF c19))) ?_
   refine kx (hF (nT (bF c19))) ?_
   refine ku (neT (hF (nT (bF c19)))) ?_
   refine ku neU ?_
   refine ku neU ?_
   refine ku neU ?_
   refine ku neU ?_
   refine ku neU ?_
   refine ku neU ?_
   refine ku neU ?_
   refine ku neU ?_
   refine ku neU ?_
   refine ku neU ?_
   refine ku neU ?_
   refine kx (hF (nT (bF c19))) ?_
   refine kv g0 (pkT (nT (bF c19))) ?_
   refine wk_end ?_
   refine ac_next ?_
   refine aw_ifT ?_ rfl
   refine aw_grp1 ?_
   refine wk_start ?_
   refine kv g0 (asg) ?_
   refine wk_end ?_
   refine ac_next ?_
   refine aw_ret ?_
   refine ac_blkR ?_
   refine ac_thenR ?_
   refine ac_thenR ?_
   refine ac_blkR ?_
   refine ac_thenR ?_
   obtain rfl := Option.some.inj H
   exact acr hE [.tmp 2] (.tmp .nil) (.one _) [] 9999
  rw [if_neg c15] at H
  refine aw_ifF ?_ (decide_eq_false c15)
  refine aw_exit ?_
  refine ac_then ?_
  refine ac_then ?_
  refine ac_hit rfl ?_
  refine ac_next ?_
  refine aw_grp1 ?_
  refine wk_start ?_
  refine kv g0 (mv) ?_
  refine kv g0 (mv) ?_
  refine kv g0 (lnS lenE) ?_
  refine kv g0 (sub6) ?_
  obtain ⟨c26, H⟩ := of_if H
  obtain ⟨c27, H⟩ := of_if H
  refine kv g0 (ixS 46 (e46 (rd_T46 l0 (wrap64 ((l0.length : Int) - 1)))) c26 (getE (z := z46) c26 c27)) ?_
  refine kv g0 (faR 0 0) ?_
  refine kv g0 (ldR (.lit (.int .i64 ((rd_T46 l0 (wrap64 ((l0.length : Int) - 1))).f0)))) ?_
  refine kv g0 (eql) ?_
  refine kv g0 (asg) ?_
  refine wk_end ?_
  refine ac_next ?_
  refine aw_ret ?_
  obtain rfl := Option.some.inj H
  exact acr hE [.tmp 2] (.tmp .nil) (.one _) [] 9999
 rw [if_neg c3] at H
 refine aw_ifT ?_ (nT (bF c3))
 refine aw_grp1 ?_
 refine wk_start ?_
 refine kv g0 (asg) ?_
 refine wk_end ?_
 refine ac_next ?_
 refine aw_ret ?_
 refine ac_thenR ?_
 obtain rfl := Option.some.inj H
 exact acr hE [.tmp 2] (.tmp .nil) (.one _) [] 9999
/-! spec_Reached -/
def spec_Reached.l0 : Nat → (List S46) → (List Bool) → Int → Option ((List Bool))
 | 0, _, _, _ => none
 | k21 + 1, l0, q19, p20 => if p20 < (l0.length : Int) then if 0 ≤ p20 then if p20 < (q19.length : Int) then (if (rdOf false q19 p20) = true then if ((rd_T46 l0 p20).f0) = 8 then spec_Reached.l0 k21 l0 q19 (wrap64 (p20 + 1)) else if ((rd_T46 l0 p20).f0) = 7 then (if 0 ≤ (wrap64 ((wrap64 (p20 + 1)) + ((rd_T46 l0 p20).f1))) then (if (wrap64 ((wrap64 (p20 + 1)) + ((rd_T46 l0 p20).f1))) < (q19.length : Int) then spec_Reached.l0 k21 l0 (q19.set (wrap64 ((wrap64 (p20 + 1)) + ((rd_T46 l0 p20).f1))).toNat true) (wrap64 (p20 + 1)) else none) else none) else if 0 ≤ (wrap64 ((wrap64 (p20 + 1)) + ((rd_T46 l0 p20).f2))) then (if (wrap64 ((wrap64 (p20 + 1)) + ((rd_T46 l0 p20).f2))) < (q19.length : Int) then if 0 ≤ (wrap64 ((wrap64 (p20 + 1)) + ((rd_T46 l0 p20).f3))) then (if (wrap64 ((wrap64 (p20 + 1)) + ((rd_T46 l0 p20).f3))) < (q19.length : Int) then spec_Reached.l0 k21 l0 ((q19.set (wrap64 ((wrap64 (p20 + 1)) + ((rd_T46 l0 p20).f2))).toNat true).set (wrap64 ((wrap64 (p20 + 1)) + ((rd_T46 l0 p20).f3))).toNat true) (wrap64 (p20 + 1)) else none) else none else none) else none else spec_Reached.l0 k21 l0 q19 (wrap64 (p20 + 1))) else none else none else some q19
def spec_Reached.f (k : Nat) (l0 : List S46) : Option ((List Bool)) := (spec_CheckProgram.f k l0).bind fun t1 => if t1 = true then if 0 ≤ (l0.length : Int) then (if (l0.length : Int).toNat ≤ 281474976710656 then if 0 < ((List.replicate (l0.length : Int).toNat false).length : Int) then spec_Reached.l0 k l0 ((List.replicate (l0.length : Int).toNat false).set 0 true) 0 else none else none) else none else some ([] : List Bool)
theorem spec_Reached.ok {k : Nat} {l0 : List S46} {r : (List Bool)} (H : spec_Reached.f k l0 = some r) : ACalls Try.prog 61 [] [.sl .o 4 (l0.map e46)] [(0, .row 4 1 (r.map eB))] (.row 0) := by
 refine acalls (fn := Try.f61) (nt := 60) Try.func61 rfl rfl (Nat.le_of_ble_eq_true rfl) fun E hE => ?_
 rw [spec_Reached.f] at H
 refine aw_grp1 ?_
 refine wk_start ?_
 refine kv g0 (asg) ?_
 refine wk_end ?_
 refine ac_next ?_
 refine aw_grp1 ?_
 refine aw_grp1 ?_
 refine wk_start ?_
 refine kv g0 (mv) ?_
 obtain ⟨t1, A2, H⟩ := of_bind H
 refine kcS0 7 (.lit (.bool t1)) [] g0 (cal (spec_CheckProgram.ok A2) [] 9999 .n (hf := Try.func21)) rfl rfl ?_
 refine kv g0 (not_) ?_
 refine wk_end ?_
 refine ac_next ?_
 by_cases c3 : t1 = true
 ·rw [if_pos c3] at H
  refine aw_ifF ?_ (nF c3)
  refine aw_skip ?_
  refine ac_next ?_
  refine aw_grp1 ?_
  refine wk_start ?_
  refine kv g0 (mv) ?_
  refine kv g0 (lnS lenE) ?_
  obtain ⟨c4, H⟩ := of_if H
  obtain ⟨c5, H⟩ := of_if H
  refine kb g0 (mks 1 4 1 1 [.bool false] (eB false) ((List.replicate (l0.length : Int).toNat false).map eB) c4 (mkb c5 rfl) repE) ?_
  refine kv g0 (asg) ?_
  refine wk_end ?_
  refine ac_next ?_
  refine aw_grp1 ?_
  refine wk_start ?_
  refine kv g0 (mv) ?_
  obtain ⟨c6, H⟩ := of_if H
  refine kv g0 (ixR 4 (by decide : (0 : Int) ≤ 0) (ltE c6)) ?_
  refine ks g0 (stE 1 (eB true) (((List.replicate (l0.length : Int).toNat false).set 0 true).map eB) (getE (z := false) (by decide : (0 : Int) ≤ 0) c6) setE) ?_
  refine wk_end ?_
  refine ac_next ?_
  refine aw_grp1 ?_
  refine aw_grp1 ?_
  refine wk_start ?_
  refine kv g0 (asg) ?_
  refine wk_end ?_
  refine ac_next ?_
  refine aw_block ?_
  refine aw_loop2 (fun (k_ : Nat) (q19 : List Bool) (p20 : Int) => k_ ≤ k ∧ spec_Reached.l0 k_ l0 q19 p20 = some r) (fun (q19 : List Bool) (p20 : Int) => ⟨[(0, .sl .o 4 (l0.map e46)), (3, .row 1), (4, .lit (.int .i64 p20))], [(1, .row 4 1 (q19.map eB))]⟩) k ((List.replicate (l0.length : Int).toNat false).set 0 true) 0 ⟨Nat.le_refl _, H⟩ (fun K_ h_ => acw hE [(1, 1)] 9999 h_) (fun _ _ => by intro h_; have h_ := h_.2; rw [spec_Reached.l0.eq_1] at h_; cases h_) ?_
  intro k21 q19 p20 hq_ K34 hK35
  have hk21 := hq_.1
  have H := hq_.2
  clear hq_
  rw [spec_Reached.l0.eq_2] at H
  refine aw_grp1 ?_
  refine aw_grp1 ?_
  refine wk_start ?_
  refine kv g0 (mv) ?_
  refine kv g0 (mv) ?_
  refine kv g0 (lnS lenE) ?_
  refine kv g0 (lss) ?_
  refine wk_end ?_
  refine ac_next ?_
  by_cases c22 : p20 < (l0.length : Int)
  ·rw [if_pos c22] at H
   refine aw_ifT ?_ (decide_eq_true c22)
   refine aw_skip ?_
   refine ac_next ?_
   refine aw_grp1 ?_
   refine aw_block ?_
   refine aw_grp1 ?_
   refine wk_start ?_
   refine kv g0 (mv) ?_
   refine kv g0 (mv) ?_
   obtain ⟨c23, H⟩ := of_if H
   refine kv g0 (ixS 46 (e46 (rd_T46 l0 p20)) c23 (getE (z := z46) c23 c22)) ?_
   refine kv g0 (ldRA 4 [.lit (.int .i64 ((rd_T46 l0 p20).f0)), .lit (.int .i64 ((rd_T46 l0 p20).f1)), .lit (.int .i64 ((rd_T46 l0 p20).f2)), .lit (.int .i64 ((rd_T46 l0 p20).f3))]) ?_
   refine kb g0 (alc 2 [.int .i64 0, .int .i64 0, .int .i64 0, .int .i64 0] [.lit (.int .i64 0), .lit (.int .i64 0), .lit (.int .i64 0), .lit (.int .i64 0)]) ?_
   refine ks g0 (stB 4 [.lit (.int .i64 ((rd_T46 l0 p20).f0)), .lit (.int .i64 ((rd_T46 l0 p20).f1)), .lit (.int .i64 ((rd_T46 l0 p20).f2)), .lit (.int .i64 ((rd_T46 l0 p20).f3))]) ?_
   refine wk_end ?_
   refine ac_next ?_
   refine aw_grp1 ?_
   refine aw_grp1 ?_
   refine wk_start ?_
   refine kv g0 (mv) ?_
   refine kv g0 (mv) ?_
   obtain ⟨c24, H⟩ := of_if H
   refine kv g0 (ixR 4 c23 (ltE c24)) ?_
   refine kv g0 (ldE (eB (rdOf false q19 p20)) (.lit (.bool (rdOf false q19 p20))) (getE (z := false) c23 c24)) ?_
   refine kv g0 (not_) ?_
   refine kv g0 (mv) ?_
   by_cases c25 : (rdOf false q19 p20) = true
   ·rw [if_pos c25] at H
    refine kv (g1 (nF c25)) (faB 0 0) ?_
    refine kv (g1 (nF c25)) (ldB) ?_
    refine kv (g1 (nF c25)) (eql) ?_
    refine kv g0 (pkF (nF c25)) ?_
    refine wk_end ?_
    refine ac_next ?_
    by_cases c26 : ((rd_T46 l0 p20).f0) = 8
    ·rw [if_pos c26] at H
     refine aw_ifT ?_ (eT c26)
     refine aw_exit ?_
     refine ac_then ?_
     refine ac_hit rfl ?_
     refine ac_next ?_
     refine wk_start ?_
     refine kv g0 (mv) ?_
     refine kv g0 (add6) ?_
     refine kv g0 (asg) ?_
     refine wk_end ?_
     refine ac_k ?_
     exact acw hE [(1, 1)] 9999 (hK35 k21 q19 (wrap64 (p20 + 1)) (Nat.le_refl _) ⟨by omega, H⟩)
    rw [if_neg c26] at H
    refine aw_ifF ?_ (eF c26)
    refine aw_skip ?_
    refine ac_next ?_
    refine aw_grp1 ?_
    refine aw_grp1 ?_
    refine wk_start ?_
    refine kv g0 (faB 0 0) ?_
    refine kv g0 (ldB) ?_
    refine kv g0 (eql) ?_
    refine wk_end ?_
    refine ac_next ?_
    by_cases c27 : ((rd_T46 l0 p20).f0) = 7
    ·rw [if_pos c27] at H
     refine aw_ifT ?_ (eT c27)
     refine aw_grp1 ?_
     refine wk_start ?_
     refine kv g0 (mv) ?_
     refine kv g0 (mv) ?_
     refine kv g0 (add6) ?_
     refine kv g0 (faB 1 1) ?_
     refine kv g0 (ldB) ?_
     refine kv g0 (add6) ?_
     obtain ⟨c28, H⟩ := of_if H
     obtain ⟨c29, H⟩ := of_if H
     refine kv g0 (ixR 4 c28 (ltE c29)) ?_
     refine ks g0 (stE 1 (eB true) ((q19.set (wrap64 ((wrap64 (p20 + 1)) + ((rd_T46 l0 p20).f1))).toNat true).map eB) (getE (z := false) c28 c29) setE) ?_
     refine wk_end ?_
     refine ac_next ?_
     refine aw_exit ?_
     refine ac_then ?_
     refine ac_hit rfl ?_
     refine ac_next ?_
     refine wk_start ?_
     refine kv g0 (mv) ?_
     refine kv g0 (add6) ?_
     refine kv g0 (asg) ?_
     refine wk_end ?_
     refine ac_k ?_
     exact acw hE [(1, 1)] 9999 (hK35 k21 (q19.set (wrap64 ((wrap64 (p20 + 1)) + ((rd_T46 l0 p20).f1))).toNat true) (wrap64 (p20 + 1)) (Nat.le_refl _) ⟨by omega, H⟩)
    rw [if_neg c27] at H
    refine aw_ifF ?_ (eF c27)
    refine aw_skip ?_
    refine ac_next ?_
    refine aw_grp1 ?_
    refine wk_start ?_
    refine kv g0 (mv) ?_
    refine kv g0 (mv) ?_
    refine kv g0 (add6) ?_
    refine kv g0 (faB 2 2) ?_
    refine kv g0 (ldB) ?_
    refine kv g0 (add6) ?_
    obtain ⟨c30, H⟩ := of_if H
    obtain ⟨c31, H⟩ := of_if H
    refine kv g0 (ixR 4 c30 (ltE c31)) ?_
    refine ks g0 (stE 1 (eB true) ((q19.set (wrap64 ((wrap64 (p20 + 1)) + ((rd_T46 l0 p20).f2))).toNat true).map eB) (getE (z := false) c30 c31) setE) ?_
    refine wk_end ?_
    refine ac_next ?_
    refine wk_start ?_
    refine kv g0 (mv) ?_
    refine kv g0 (mv) ?_
    refine kv g0 (add6) ?_
    refine kv g0 (faB 3 3) ?_
    refine kv g0 (ldB) ?_
    refine kv g0 (add6) ?_
    obtain ⟨c32, H⟩ := of_if H
    obtain ⟨c33, H⟩ := of_if H
    refine kv g0 (ixR 4 c32 (ltE (ls c33))) ?_
    refine ks g0 (stE 1 (eB true) (((q19.set (wrap64 ((wrap64 (p20 + 1)) + ((rd_T46 l0 p20).f2))).toNat true).set (wrap64 ((wrap64 (p20 + 1)) + ((rd_T46 l0 p20).f3))).toNat true).map eB) (getE (z := false) c32 (ls c33)) setE) ?_
    refine wk_end ?_
    refine ac_blkN ?_
    refine ac_next ?_
    refine wk_start ?_
    refine kv g0 (mv) ?_
    refine kv g0 (add6) ?_
    refine kv g0 (asg) ?_
    refine wk_end ?_
    refine ac_k ?_
    exact acw hE [(1, 1)] 9999 (hK35 k21 ((q19.set (wrap64 ((wrap64 (p20 + 1)) + ((rd_T46 l0 p20).f2))).toNat true).set (wrap64 ((wrap64 (p20 + 1)) + ((rd_T46 l0 p20).f3))).toNat true) (wrap64 (p20 + 1)) (Nat.le_refl _) ⟨by omega, H⟩)
   rw [if_neg c25] at H
   refine kx (hF (nT (bF c25))) ?_
   refine kx (hF (nT (bF c25))) ?_
   refine kx (hF (nT (bF c25))) ?_
   refine kv g0 (pkT (nT (bF c25))) ?_
   refine wk_end ?_
   refine ac_next ?_
   refine aw_ifT ?_ rfl
   refine aw_exit ?_
   refine ac_then ?_
   refine ac_hit rfl ?_
   refine ac_next ?_
   refine wk_start ?_
   refine kv g0 (mv) ?_
   refine kv g0 (add6) ?_
   refine kv g0 (asg) ?_
   refine wk_end ?_
   refine ac_k ?_
   exact acw hE [(1, 1)] 9999 (hK35 k21 q19 (wrap64 (p20 + 1)) (Nat.le_refl _) ⟨by omega, H⟩)
  rw [if_neg c22] at H
  refine aw_ifF ?_ (decide_eq_false c22)
  refine aw_exit ?_
  refine ac_then ?_
  refine ac_then ?_
  refine ac_hit rfl ?_
  refine ac_next ?_
  refine aw_grp1 ?_
  refine wk_start ?_
  refine kv g0 (mv) ?_
  refine kv g0 (asg) ?_
  refine wk_end ?_
  refine ac_next ?_
  refine aw_ret ?_
  obtain rfl := Option.some.inj H
  exact acr hE [.tmp 2] (.tmp .nil) (.one _) [(0, 1)] 9999
 rw [if_neg c3] at H
 refine aw_ifT ?_ (nT (bF c3))
 refine aw_grp1 ?_
 refine wk_start ?_
 refine kb g0 (bsl 0 4 1 [.bool false] (([] : List Bool).map eB)) ?_
 refine kv g0 (asg) ?_
 refine wk_end ?_
 refine ac_next ?_
 refine aw_ret ?_
 refine ac_thenR ?_
 obtain rfl := Option.some.inj H
 exact acr hE [.tmp 2] (.tmp .nil) (.one _) [(0, 0)] 9999
/-! spec_l09In -/
def spec_l09In.l0 : Nat → (List Int) → Int → Int → Option (Bool)
 | 0, _, _, _ => none
 | k5 + 1, l0, a1, p4 => if p4 < (l0.length : Int) then if 0 ≤ p4 then if (rd l0 p4) = a1 then some true else spec_l09In.l0 k5 l0 a1 (wrap64 (p4 + 1)) else none else some false
def spec_l09In.f (k : Nat) (l0 : List Int) (a1 : Int) : Option (Bool) := spec_l09In.l0 k l0 a1 0
theorem spec_l09In.ok {k : Nat} {l0 : List Int} {a1 : Int} {r : Bool} (H : spec_l09In.f k l0 a1 = some r) : ACalls Try.prog 62 [] [.sl .o 1 (l0.map (eI .i64)), .lit (.int .i64 a1)] [] (.lit (.bool r)) := by
 refine acalls (fn := Try.f62) (nt := 18) Try.func62 rfl rfl (Nat.le_of_ble_eq_true rfl) fun E hE => ?_
 rw [spec_l09In.f] at H
 refine aw_grp1 ?_
 refine wk_start ?_
 refine kv g0 (asg) ?_
 refine wk_end ?_
 refine ac_next ?_
 refine aw_grp1 ?_
 refine aw_grp1 ?_
 refine wk_start ?_
 refine kv g0 (asg) ?_
 refine wk_end ?_
 refine ac_next ?_
 refine aw_block ?_
 refine aw_loop1 (fun (k_ : Nat) (p4 : Int) => k_ ≤ k ∧ spec_l09In.l0 k_ l0 a1 p4 = some r) (fun (p4 : Int) => ⟨[(0, .sl .o 1 (l0.map (eI .i64))), (1, .lit (.int .i64 a1)), (5, .lit (.int .i64 p4))], []⟩) k 0 ⟨Nat.le_refl _, H⟩ (fun K_ h_ => acw hE [] 9999 h_) (fun _ => by intro h_; have h_ := h_.2; rw [spec_l09In.l0.eq_1] at h_; cases h_) ?_
 intro k5 p4 hq_ K9 hK10
 have hk5 := hq_.1
 have H := hq_.2
 clear hq_
 rw [spec_l09In.l0.eq_2] at H
 refine aw_grp1 ?_
 refine aw_grp1 ?_
 refine wk_start ?_
 refine kv g0 (mv) ?_
 refine kv g0 (mv) ?_
 refine kv g0 (lnS lenE) ?_
 refine kv g0 (lss) ?_
 refine wk_end ?_
 refine ac_next ?_
 by_cases c6 : p4 < (l0.length : Int)
 ·rw [if_pos c6] at H
  refine aw_ifT ?_ (decide_eq_true c6)
  refine aw_skip ?_
  refine ac_next ?_
  refine aw_grp1 ?_
  refine aw_block ?_
  refine aw_grp1 ?_
  refine wk_start ?_
  refine kv g0 (mv) ?_
  refine kv g0 (mv) ?_
  obtain ⟨c7, H⟩ := of_if H
  refine kv g0 (ixS 3 (eI .i64 (rd l0 p4)) c7 (getE (z := (0 : Int)) c7 c6)) ?_
  refine kv g0 (ldR (.lit (.int .i64 (rd l0 p4)))) ?_
  refine kv g0 (mv) ?_
  refine kv g0 (eql) ?_
  refine wk_end ?_
  refine ac_next ?_
  by_cases c8 : (rd l0 p4) = a1
  ·rw [if_pos c8] at H
   refine aw_ifT ?_ (eT c8)
   refine aw_grp1 ?_
   refine wk_start ?_
   refine kv g0 (asg) ?_
   refine wk_end ?_
   refine ac_next ?_
   refine aw_ret ?_
   refine ac_blkR ?_
   refine ac_thenR ?_
   refine ac_thenR ?_
   refine ac_blkR ?_
   refine ac_thenR ?_
   obtain rfl := Option.some.inj H
   exact acr hE [.tmp 4] (.tmp .nil) (.one _) [] 9999
  rw [if_neg c8] at H
  refine aw_ifF ?_ (eF c8)
  refine aw_skip ?_
  refine ac_blkN ?_
  refine ac_next ?_
  refine wk_start ?_
  refine kv g0 (mv) ?_
  refine kv g0 (add6) ?_
  refine kv g0 (asg) ?_
  refine wk_end ?_
  refine ac_k ?_
  exact acw hE [] 9999 (hK10 k5 (wrap64 (p4 + 1)) (Nat.le_refl _) ⟨by omega, H⟩)
 rw [if_neg c6] at H
 refine aw_ifF ?_ (decide_eq_false c6)
 refine aw_exit ?_
 refine ac_then ?_
 refine ac_then ?_
 refine ac_hit rfl ?_
 refine ac_next ?_
 refine aw_grp1 ?_
 refine wk_start ?_
 refine kv g0 (asg) ?_
 refine wk_end ?_
 refine ac_next ?_
 refine aw_ret ?_
 obtain rfl := Option.some.inj H
 exact acr hE [.tmp 4] (.tmp .nil) (.one _) [] 9999
/-! spec_l23Put -/
mutual
def spec_l23Put.j0 : Nat → (List Int) → Int → Int → (List Int) → Bool → Option ((List Int))
 | 0, _, _, _, _, _ => none
 | k21 + 1, l0, a1, p12, q19, p20 => if 0 ≤ p12 then (if q19.length + ([(rd l0 p12)] : List Int).length < 17592186044416 then spec_l23Put.l0 k21 l0 a1 (q19 ++ ([(rd l0 p12)] : List Int)) p20 (wrap64 (p12 + 1)) else none) else none
def spec_l23Put.l0 : Nat → (List Int) → Int → (List Int) → Bool → Int → Option ((List Int))
 | 0, _, _, _, _, _ => none
 | k13 + 1, l0, a1, q10, p11, p12 => if p12 < (l0.length : Int) then if p11 = true then spec_l23Put.j0 k13 l0 a1 p12 q10 p11 else (if 0 ≤ p12 then if a1 < (rd l0 p12) then (if q10.length + ([a1] : List Int).length < 17592186044416 then spec_l23Put.j0 k13 l0 a1 p12 (q10 ++ ([a1] : List Int)) true else none) else spec_l23Put.j0 k13 l0 a1 p12 q10 p11 else none) else if p11 = true then some q10 else (if q10.length + ([a1] : List Int).length < 17592186044416 then some (q10 ++ ([a1] : List Int)) else none)
end
def spec_l23Put.f (k : Nat) (l0 : List Int) (a1 : Int) : Option ((List Int)) := spec_l23Put.l0 k l0 a1 ([] : List Int) false 0
theorem spec_l23Put.ok {k : Nat} {l0 : List Int} {a1 : Int} {r : (List Int)} (H : spec_l23Put.f k l0 a1 = some r) : ACalls Try.prog 63 [] [.sl .o 1 (l0.map (eI .i64)), .lit (.int .i64 a1)] [(0, .row 3 1 (r.map (eI .i64)))] (.row 0) := by
 refine acalls (fn := Try.f63) (nt := 43) Try.func63 rfl rfl (Nat.le_of_ble_eq_true rfl) fun E hE => ?_
 rw [spec_l23Put.f] at H
 refine aw_grp1 ?_
 refine wk_start ?_
 refine kv g0 (asg) ?_
 refine wk_end ?_
 refine ac_next ?_
 refine aw_grp1 ?_
 refine wk_start ?_
 refine kb g0 (bsl 0 3 1 [.int .i64 0] (([] : List Int).map (eI .i64))) ?_
 refine kv g0 (asg) ?_
 refine wk_end ?_
 refine ac_next ?_
 refine aw_grp1 ?_
 refine wk_start ?_
 refine kv g0 (asg) ?_
 refine wk_end ?_
 refine ac_next ?_
 refine aw_grp1 ?_
 refine aw_grp1 ?_
 refine wk_start ?_
 refine kv g0 (asg) ?_
 refine wk_end ?_
 refine ac_next ?_
 refine aw_block ?_
 refine aw_loop3 (fun (k_ : Nat) (q10 : List Int) (p11 : Bool) (p12 : Int) => k_ ≤ k ∧ spec_l23Put.l0 k_ l0 a1 q10 p11 p12 = some r) (fun (q10 : List Int) (p11 : Bool) (p12 : Int) => ⟨[(0, .sl .o 1 (l0.map (eI .i64))), (1, .lit (.int .i64 a1)), (5, .row 0), (6, .lit (.bool p11)), (7, .lit (.int .i64 p12))], [(0, .row 3 1 (q10.map (eI .i64)))]⟩) k ([] : List Int) false 0 ⟨Nat.le_refl _, H⟩ (fun K_ h_ => acw hE [(0, 0)] 9999 h_) (fun _ _ _ => by intro h_; have h_ := h_.2; rw [spec_l23Put.l0.eq_1] at h_; cases h_) ?_
 intro k13 q10 p11 p12 hq_ K25 hK26
 have hk13 := hq_.1
 have H := hq_.2
 clear hq_
 rw [spec_l23Put.l0.eq_2] at H
 refine aw_grp1 ?_
 refine aw_grp1 ?_
 refine wk_start ?_
 refine kv g0 (mv) ?_
 refine kv g0 (mv) ?_
 refine kv g0 (lnS lenE) ?_
 refine kv g0 (lss) ?_
 refine wk_end ?_
 refine ac_next ?_
 by_cases c14 : p12 < (l0.length : Int)
 ·rw [if_pos c14] at H
  refine aw_ifT ?_ (decide_eq_true c14)
  refine aw_skip ?_
  refine ac_next ?_
  refine aw_grp1 ?_
  refine aw_block ?_
  refine aw_cut1 (J := fun K_ => ∀ (k_ : Nat) (q19 : List Int) (p20 : Bool), k_ ≤ k13 → spec_l23Put.j0 k_ l0 a1 p12 q19 p20 = some r → ACont E 43 ⟨[(0, .sl .o 1 (l0.map (eI .i64))), (1, .lit (.int .i64 a1)), (5, .row 0), (6, .lit (.bool p20)), (7, .lit (.int .i64 p12))], [(0, .row 3 1 (q19.map (eI .i64)))]⟩ K_) ?_ ?_
  ·intro K_ hJ24
   refine aw_grp1 ?_
   refine wk_start ?_
   refine kv g0 (mv) ?_
   refine kv g0 (not_) ?_
   refine kv g0 (mv) ?_
   by_cases c15 : p11 = true
   ·rw [if_pos c15] at H
    refine kx (hT (nF c15)) ?_
    refine kx (hT (nF c15)) ?_
    refine kx (hT (nF c15)) ?_
    refine kx (hT (nF c15)) ?_
    refine kx (hT (nF c15)) ?_
    refine kx (hT (nF c15)) ?_
    refine kv g0 (pkF (nF c15)) ?_
    refine wk_end ?_
    refine ac_next ?_
    refine aw_ifF ?_ rfl
    refine aw_skip ?_
    refine ac_k ?_
    exact acw hE [(0, 0)] 9999 (hJ24 k13 q10 p11 (Nat.le_refl _) H)
   rw [if_neg c15] at H
   refine kv (g1 (nT (bF c15))) (mv) ?_
   refine kv (g1 (nT (bF c15))) (mv) ?_
   refine kv (g1 (nT (bF c15))) (mv) ?_
   obtain ⟨c16, H⟩ := of_if H
   refine kv (g1 (nT (bF c15))) (ixS 3 (eI .i64 (rd l0 p12)) c16 (getE (z := (0 : Int)) c16 c14)) ?_
   refine kv (g1 (nT (bF c15))) (ldR (.lit (.int .i64 (rd l0 p12)))) ?_
   refine kv (g1 (nT (bF c15))) (lss) ?_
   refine kv g0 (pkT (nT (bF c15))) ?_
   refine wk_end ?_
   refine ac_next ?_
   by_cases c17 : a1 < (rd l0 p12)
   ·rw [if_pos c17] at H
    refine aw_ifT ?_ (decide_eq_true c17)
    refine aw_grp1 ?_
    refine wk_start ?_
    refine kv g0 (mv) ?_
    refine kv g0 (mv) ?_
    refine kb g0 (bsl 1 3 1 [.int .i64 0] (([a1] : List Int).map (eI .i64))) ?_
    obtain ⟨c18, H⟩ := of_if H
    refine kc g0 (apR 2 3 1 8 [.int .i64 0] ((q10 ++ ([a1] : List Int)).map (eI .i64)) (.row rfl) (apb c18 rfl) appE) ?_
    refine kv g0 (asg) ?_
    refine wk_end ?_
    refine ac_next ?_
    refine wk_start ?_
    refine kv g0 (asg) ?_
    refine wk_end ?_
    refine ac_k ?_
    exact acw hE [(0, 2)] 9999 (hJ24 k13 (q10 ++ ([a1] : List Int)) true (Nat.le_refl _) H)
   rw [if_neg c17] at H
   refine aw_ifF ?_ (decide_eq_false c17)
   refine aw_skip ?_
   refine ac_k ?_
   exact acw hE [(0, 0)] 9999 (hJ24 k13 q10 p11 (Nat.le_refl _) H)
  intro k_ q19 p20 hk_ H
  rcases k_ with _ | k21
  ·rw [spec_l23Put.j0.eq_1] at H; cases H
  have hk21 : k21 ≤ k13 := by omega
  clear hk_
  rw [spec_l23Put.j0.eq_2] at H
  refine wk_start ?_
  refine kv g0 (mv) ?_
  refine kv g0 (mv) ?_
  refine kv g0 (mv) ?_
  obtain ⟨c22, H⟩ := of_if H
  refine kv g0 (ixS 3 (eI .i64 (rd l0 p12)) c22 (getE (z := (0 : Int)) c22 c14)) ?_
  refine kv g0 (ldR (.lit (.int .i64 (rd l0 p12)))) ?_
  refine kb g0 (bsl 3 3 1 [.int .i64 0] (([(rd l0 p12)] : List Int).map (eI .i64))) ?_
  obtain ⟨c23, H⟩ := of_if H
  refine kc g0 (apR 4 3 1 8 [.int .i64 0] ((q19 ++ ([(rd l0 p12)] : List Int)).map (eI .i64)) (.row rfl) (apb c23 rfl) appE) ?_
  refine kv g0 (asg) ?_
  refine wk_end ?_
  refine ac_blkN ?_
  refine ac_next ?_
  refine wk_start ?_
  refine kv g0 (mv) ?_
  refine kv g0 (add6) ?_
  refine kv g0 (asg) ?_
  refine wk_end ?_
  refine ac_k ?_
  exact acw hE [(0, 4)] 9999 (hK26 k21 (q19 ++ ([(rd l0 p12)] : List Int)) p20 (wrap64 (p12 + 1)) (by omega) ⟨by omega, H⟩)
 rw [if_neg c14] at H
 refine aw_ifF ?_ (decide_eq_false c14)
 refine aw_exit ?_
 refine ac_then ?_
 refine ac_then ?_
 refine ac_hit rfl ?_
 refine ac_next ?_
 refine aw_grp1 ?_
 refine aw_grp1 ?_
 refine wk_start ?_
 refine kv g0 (mv) ?_
 refine kv g0 (not_) ?_
 refine wk_end ?_
 refine ac_next ?_
 by_cases c27 : p11 = true
 ·rw [if_pos c27] at H
  refine aw_ifF ?_ (nF c27)
  refine aw_skip ?_
  refine ac_next ?_
  refine aw_grp1 ?_
  refine wk_start ?_
  refine kv g0 (mv) ?_
  refine kv g0 (asg) ?_
  refine wk_end ?_
  refine ac_next ?_
  refine aw_ret ?_
  obtain rfl := Option.some.inj H
  exact acr hE [.tmp 4] (.tmp .nil) (.one _) [(0, 0)] 9999
 rw [if_neg c27] at H
 refine aw_ifT ?_ (nT (bF c27))
 refine wk_start ?_
 refine kv g0 (mv) ?_
 refine kv g0 (mv) ?_
 refine kb g0 (bsl 5 3 1 [.int .i64 0] (([a1] : List Int).map (eI .i64))) ?_
 obtain ⟨c28, H⟩ := of_if H
 refine kc g0 (apR 6 3 1 8 [.int .i64 0] ((q10 ++ ([a1] : List Int)).map (eI .i64)) (.row rfl) (apb c28 rfl) appE) ?_
 refine kv g0 (asg) ?_
 refine wk_end ?_
 refine ac_next ?_
 refine aw_grp1 ?_
 refine wk_start ?_
 refine kv g0 (mv) ?_
 refine kv g0 (asg) ?_
 refine wk_end ?_
 refine ac_next ?_
 refine aw_ret ?_
 obtain rfl := Option.some.inj H
 exact acr hE [.tmp 4] (.tmp .nil) (.one _) [(0, 6)] 9999
/-! spec_l23Said -/
def spec_l23Said.l0 : Nat → (List S46) → Int → ((List Bool)) → (List Int) → Int → Option ((List Int))
 | 0, _, _, _, _, _ => none
 | k15 + 1, l0, a1, t1, q13, p14 => if p14 < (t1.length : Int) then if 0 ≤ p14 then (if (rdOf false t1 p14) = true then (if p14 < (l0.length : Int) then (if ((rd_T46 l0 p14).f0) = a1 then ((spec_l09In.f k15 q13 ((rd_T46 l0 p14).f1)).bind fun t21 => if t21 = true then spec_l23Said.l0 k15 l0 a1 t1 q13 (wrap64 (p14 + 1)) else ((spec_l23Put.f k15 q13 ((rd_T46 l0 p14).f1)).bind fun t24 => spec_l23Said.l0 k15 l0 a1 t1 t24 (wrap64 (p14 + 1)))) else spec_l23Said.l0 k15 l0 a1 t1 q13 (wrap64 (p14 + 1))) else none) else spec_l23Said.l0 k15 l0 a1 t1 q13 (wrap64 (p14 + 1))) else none else some q13
def spec_l23Said.f (k : Nat) (l0 : List S46) (a1 : Int) : Option ((List Int)) := (spec_Reached.f k l0).bind fun t1 => spec_l23Said.l0 k l0 a1 t1 ([] : List Int) 0
theorem spec_l23Said.ok {k : Nat} {l0 : List S46} {a1 : Int} {r : (List Int)} (H : spec_l23Said.f k l0 a1 = some r) : ACalls Try.prog 33 [] [.sl .o 4 (l0.map e46), .lit (.int .i64 a1)] [(0, .row 3 1 (r.map (eI .i64)))] (.row 0) := by
 refine acalls (fn := Try.f33) (nt := 48) Try.func33 rfl rfl (Nat.le_of_ble_eq_true rfl) fun E hE => ?_
 rw [spec_l23Said.f] at H
 refine aw_grp1 ?_
 refine wk_start ?_
 refine kv g0 (asg) ?_
 refine wk_end ?_
 refine ac_next ?_
 refine aw_grp1 ?_
 refine wk_start ?_
 refine kb g0 (bsl 0 3 1 [.int .i64 0] (([] : List Int).map (eI .i64))) ?_
 refine kv g0 (asg) ?_
 refine wk_end ?_
 refine ac_next ?_
 refine aw_grp1 ?_
 refine wk_start ?_
 refine kv g0 (mv) ?_
 obtain ⟨t1, A2, H⟩ := of_bind H
 refine kcS1 10 (.row 1) [(1, .row 4 1 (t1.map eB))] g0 (cal (spec_Reached.ok A2) [1] 9999 .n (hf := Try.func61)) rfl rfl ?_
 refine kv g0 (asg) ?_
 refine wk_end ?_
 refine ac_next ?_
 refine aw_grp1 ?_
 refine aw_grp1 ?_
 refine wk_start ?_
 refine kv g0 (asg) ?_
 refine wk_end ?_
 refine ac_next ?_
 refine aw_block ?_
 refine aw_loop2 (fun (k_ : Nat) (q13 : List Int) (p14 : Int) => k_ ≤ k ∧ spec_l23Said.l0 k_ l0 a1 t1 q13 p14 = some r) (fun (q13 : List Int) (p14 : Int) => ⟨[(0, .sl .o 4 (l0.map e46)), (1, .lit (.int .i64 a1)), (5, .row 0), (6, .row 1), (7, .lit (.int .i64 p14))], [(0, .row 3 1 (q13.map (eI .i64))), (1, .row 4 1 (t1.map eB))]⟩) k ([] : List Int) 0 ⟨Nat.le_refl _, H⟩ (fun K_ h_ => acw hE [(0, 0), (1, 1)] 9999 h_) (fun _ _ => by intro h_; have h_ := h_.2; rw [spec_l23Said.l0.eq_1] at h_; cases h_) ?_
 intro k15 q13 p14 hq_ K26 hK27
 have hk15 := hq_.1
 have H := hq_.2
 clear hq_
 rw [spec_l23Said.l0.eq_2] at H
 refine aw_grp1 ?_
 refine aw_grp1 ?_
 refine wk_start ?_
 refine kv g0 (mv) ?_
 refine kv g0 (mv) ?_
 refine kv g0 (lnR lenE) ?_
 refine kv g0 (lss) ?_
 refine wk_end ?_
 refine ac_next ?_
 by_cases c16 : p14 < (t1.length : Int)
 ·rw [if_pos c16] at H
  refine aw_ifT ?_ (decide_eq_true c16)
  refine aw_skip ?_
  refine ac_next ?_
  refine aw_grp1 ?_
  refine aw_block ?_
  refine aw_grp1 ?_
  refine wk_start ?_
  refine kv g0 (mv) ?_
  refine kv g0 (mv) ?_
  obtain ⟨c17, H⟩ := of_if H
  refine kv g0 (ixR 4 c17 (ltE c16)) ?_
  refine kv g0 (ldE (eB (rdOf false t1 p14)) (.lit (.bool (rdOf false t1 p14))) (getE (z := false) c17 c16)) ?_
  refine kv g0 (mv) ?_
  by_cases c18 : (rdOf false t1 p14) = true
  ·rw [if_pos c18] at H
   refine kv (g1 c18) (mv) ?_
   refine kv (g1 c18) (mv) ?_
   obtain ⟨c19, H⟩ := of_if H
   refine kv (g1 c18) (ixS 46 (e46 (rd_T46 l0 p14)) c17 (getE (z := z46) c17 c19)) ?_
   refine kv (g1 c18) (faR 0 0) ?_
   refine kv (g1 c18) (ldR (.lit (.int .i64 ((rd_T46 l0 p14).f0)))) ?_
   refine kv (g1 c18) (mv) ?_
   refine kv (g1 c18) (eql) ?_
   refine kv g0 (pkT c18) ?_
   refine kv g0 (mv) ?_
   by_cases c20 : ((rd_T46 l0 p14).f0) = a1
   ·rw [if_pos c20] at H
    refine kv (g1 (eT c20)) (mv) ?_
    refine kv (g1 (eT c20)) (mv) ?_
    refine kv (g1 (eT c20)) (mv) ?_
    refine kv (g1 (eT c20)) (ixS 46 (e46 (rd_T46 l0 p14)) c17 (getE (z := z46) c17 c19)) ?_
    refine kv (g1 (eT c20)) (faR 1 1) ?_
    refine kv (g1 (eT c20)) (ldR (.lit (.int .i64 ((rd_T46 l0 p14).f1)))) ?_
    obtain ⟨t21, A22, H⟩ := of_bind H
    refine kcS0 37 (.lit (.bool t21)) [] (g1 (eT c20)) (cal (spec_l09In.ok A22) [] 9999 .n (hf := Try.func62)) rfl rfl ?_
    refine kv (g1 (eT c20)) (not_) ?_
    refine kv g0 (pkT (eT c20)) ?_
    refine wk_end ?_
    refine ac_next ?_
    by_cases c23 : t21 = true
    ·rw [if_pos c23] at H
     refine aw_ifF ?_ (nF c23)
     refine aw_skip ?_
     refine ac_blkN ?_
     refine ac_next ?_
     refine wk_start ?_
     refine kv g0 (mv) ?_
     refine kv g0 (add6) ?_
     refine kv g0 (asg) ?_
     refine wk_end ?_
     refine ac_k ?_
     exact acw hE [(0, 0), (1, 1)] 9999 (hK27 k15 q13 (wrap64 (p14 + 1)) (Nat.le_refl _) ⟨by omega, H⟩)
    rw [if_neg c23] at H
    refine aw_ifT ?_ (nT (bF c23))
    refine wk_start ?_
    refine kv g0 (mv) ?_
    refine kv g0 (mv) ?_
    refine kv g0 (mv) ?_
    refine kv g0 (ixS 46 (e46 (rd_T46 l0 p14)) c17 (getE (z := z46) c17 c19)) ?_
    refine kv g0 (faR 1 1) ?_
    refine kv g0 (ldR (.lit (.int .i64 ((rd_T46 l0 p14).f1)))) ?_
    obtain ⟨t24, A25, H⟩ := of_bind H
    refine kcS1 46 (.row 2) [(2, .row 3 1 (t24.map (eI .i64)))] g0 (cal (spec_l23Put.ok A25) [2] 9999 .n (hf := Try.func63)) rfl rfl ?_
    refine kv g0 (asg) ?_
    refine wk_end ?_
    refine ac_blkN ?_
    refine ac_next ?_
    refine wk_start ?_
    refine kv g0 (mv) ?_
    refine kv g0 (add6) ?_
    refine kv g0 (asg) ?_
    refine wk_end ?_
    refine ac_k ?_
    exact acw hE [(0, 2), (1, 1)] 9999 (hK27 k15 t24 (wrap64 (p14 + 1)) (Nat.le_refl _) ⟨by omega, H⟩)
   rw [if_neg c20] at H
   refine kx (hT (eF c20)) ?_
   refine kx (hT (eF c20)) ?_
   refine kx (hT (eF c20)) ?_
   refine kx (hT (eF c20)) ?_
   refine kx (hT (eF c20)) ?_
   refine kx (hT (eF c20)) ?_
   refine kx (hT (eF c20)) ?_
   refine kx (hT (eF c20)) ?_
   refine kv g0 (pkF (eF c20)) ?_
   refine wk_end ?_
   refine ac_next ?_
   refine aw_ifF ?_ rfl
   refine aw_skip ?_
   refine ac_blkN ?_
   refine ac_next ?_
   refine wk_start ?_
   refine kv g0 (mv) ?_
   refine kv g0 (add6) ?_
   refine kv g0 (asg) ?_
   refine wk_end ?_
   refine ac_k ?_
   exact acw hE [(0, 0), (1, 1)] 9999 (hK27 k15 q13 (wrap64 (p14 + 1)) (Nat.le_refl _) ⟨by omega, H⟩)
  rw [if_neg c18] at H
  refine kx (hT (bF c18)) ?_
  refine kx (hT (bF c18)) ?_
  refine kx (hT (bF c18)) ?_
  refine kx (hT (bF c18)) ?_
  refine kx (hT (bF c18)) ?_
  refine kx (hT (bF c18)) ?_
  refine kx (hT (bF c18)) ?_
  refine kv g0 (pkF (bF c18)) ?_
  refine kv g0 (mv) ?_
  refine kx (hT rfl) ?_
  refine kx (hT rfl) ?_
  refine kx (hT rfl) ?_
  refine kx (hT rfl) ?_
  refine kx (hT rfl) ?_
  refine kx (hT rfl) ?_
  refine kx (hT rfl) ?_
  refine kx (hT rfl) ?_
  refine kv g0 (pkF rfl) ?_
  refine wk_end ?_
  refine ac_next ?_
  refine aw_ifF ?_ rfl
  refine aw_skip ?_
  refine ac_blkN ?_
  refine ac_next ?_
  refine wk_start ?_
  refine kv g0 (mv) ?_
  refine kv g0 (add6) ?_
  refine kv g0 (asg) ?_
  refine wk_end ?_
  refine ac_k ?_
  exact acw hE [(0, 0), (1, 1)] 9999 (hK27 k15 q13 (wrap64 (p14 + 1)) (Nat.le_refl _) ⟨by omega, H⟩)
 rw [if_neg c16] at H
 refine aw_ifF ?_ (decide_eq_false c16)
 refine aw_exit ?_
 refine ac_then ?_
 refine ac_then ?_
 refine ac_hit rfl ?_
 refine ac_next ?_
 refine aw_grp1 ?_
 refine wk_start ?_
 refine kv g0 (mv) ?_
 refine kv g0 (asg) ?_
 refine wk_end ?_
 refine ac_next ?_
 refine aw_ret ?_
 obtain rfl := Option.some.inj H
 exact acr hE [.tmp 4] (.tmp .nil) (.one _) [(0, 0)] 9999
/-! spec_FieldsRead -/
def spec_FieldsRead.f (k : Nat) (l0 : List S46) : Option ((List Int)) := (spec_l23Said.f k l0 1).bind fun t1 => some t1
theorem spec_FieldsRead.ok {k : Nat} {l0 : List S46} {r : (List Int)} (H : spec_FieldsRead.f k l0 = some r) : ACalls Try.prog 8 [] [.sl .o 4 (l0.map e46)] [(0, .row 3 1 (r.map (eI .i64)))] (.row 0) := by
 refine acalls (fn := Try.f8) (nt := 5) Try.func8 rfl rfl (Nat.le_of_ble_eq_true rfl) fun E hE => ?_
 rw [spec_FieldsRead.f] at H
 refine aw_grp1 ?_
 refine wk_start ?_
 refine kv g0 (asg) ?_
 refine wk_end ?_
 refine ac_next ?_
 refine aw_grp1 ?_
 refine wk_start ?_
 refine kv g0 (mv) ?_
 obtain ⟨t1, A2, H⟩ := of_bind H
 refine kcS1 4 (.row 0) [(0, .row 3 1 (t1.map (eI .i64)))] g0 (cal (spec_l23Said.ok A2) [0] 9999 .n (hf := Try.func33)) rfl rfl ?_
 refine kv g0 (asg) ?_
 refine wk_end ?_
 refine ac_next ?_
 refine aw_ret ?_
 obtain rfl := Option.some.inj H
 exact acr hE [.tmp 2] (.tmp .nil) (.one _) [(0, 0)] 9999
/-! impl_within -/
def impl_within.f (a0 : Int) (a1 : Int) (a2 : Int) : Option (Bool) := if a0 ≥ a1 then some (decide (a0 ≤ a2)) else some false
theorem impl_within.ok {a0 : Int} {a1 : Int} {a2 : Int} {r : Bool} (H : impl_within.f a0 a1 a2 = some r) : ACalls Try.prog 49 [] [.lit (.int .i64 a0), .lit (.int .i64 a1), .lit (.int .i64 a2)] [] (.lit (.bool r)) := by
 refine acalls (fn := Try.f49) (nt := 15) Try.func49 rfl rfl (Nat.le_of_ble_eq_true rfl) fun E hE => ?_
 rw [impl_within.f] at H
 refine aw_grp1 ?_
 refine wk_start ?_
 refine kv g0 (asg) ?_
 refine wk_end ?_
 refine ac_next ?_
 refine aw_grp1 ?_
 refine wk_start ?_
 refine kv g0 (mv) ?_
 refine kv g0 (mv) ?_
 refine kv g0 (geq) ?_
 refine kv g0 (mv) ?_
 by_cases c1 : a0 ≥ a1
 ·rw [if_pos c1] at H
  refine kv (g1 (decide_eq_true c1)) (mv) ?_
  refine kv (g1 (decide_eq_true c1)) (mv) ?_
  refine kv (g1 (decide_eq_true c1)) (leq) ?_
  refine kv g0 (pkT (decide_eq_true c1)) ?_
  refine kv g0 (asg) ?_
  refine wk_end ?_
  refine ac_next ?_
  refine aw_ret ?_
  obtain rfl := Option.some.inj H
  exact acr hE [.tmp 6] (.tmp .nil) (.one _) [] 9999
 rw [if_neg c1] at H
 refine kx (hT (decide_eq_false c1)) ?_
 refine kx (hT (decide_eq_false c1)) ?_
 refine kx (hT (decide_eq_false c1)) ?_
 refine kv g0 (pkF (decide_eq_false c1)) ?_
 refine kv g0 (asg) ?_
 refine wk_end ?_
 refine ac_next ?_
 refine aw_ret ?_
 obtain rfl := Option.some.inj H
 exact acr hE [.tmp 6] (.tmp .nil) (.one _) [] 9999
/-! impl_Ins_asks -/
def impl_Ins_asks.f (a0_0 : Int) (a0_1 : Int) (a0_2 : Int) (a0_3 : Int) : Option (Bool) := (impl_within.f a0_0 3 6).bind fun t1 => some t1
theorem impl_Ins_asks.ok {a0_0 : Int} {a0_1 : Int} {a0_2 : Int} {a0_3 : Int} {r : Bool} (H : impl_Ins_asks.f a0_0 a0_1 a0_2 a0_3 = some r) : ACalls Try.prog 75 [] [.agg [.lit (.int .i64 a0_0), .lit (.int .i64 a0_1), .lit (.int .i64 a0_2), .lit (.int .i64 a0_3)]] [] (.lit (.bool r)) := by
 refine acalls (fn := Try.f75) (nt := 6) Try.func75 rfl rfl (Nat.le_of_ble_eq_true rfl) fun E hE => ?_
 rw [impl_Ins_asks.f] at H
 refine aw_grp1 ?_
 refine wk_start ?_
 refine kb g0 (bxA 0) ?_
 refine kv g0 (asg) ?_
 refine wk_end ?_
 refine ac_next ?_
 refine aw_grp1 ?_
 refine wk_start ?_
 refine kv g0 (faB 0 0) ?_
 refine kv g0 (ldB) ?_
 obtain ⟨t1, A2, H⟩ := of_bind H
 refine kcS0 5 (.lit (.bool t1)) [] g0 (cal (impl_within.ok A2) [] 9999 .n (hf := Try.func49)) rfl rfl ?_
 refine kv g0 (asg) ?_
 refine wk_end ?_
 refine ac_next ?_
 refine aw_ret ?_
 obtain rfl := Option.some.inj H
 exact acr hE [.tmp 2] (.tmp .nil) (.one _) [] 9999
/-! impl_HalfOk -/
def impl_HalfOk.f (a0 : Int) : Option (Bool) := (impl_within.f a0 0 4294967295).bind fun t1 => some t1
theorem impl_HalfOk.ok {a0 : Int} {r : Bool} (H : impl_HalfOk.f a0 = some r) : ACalls Try.prog 91 [] [.lit (.int .i64 a0)] [] (.lit (.bool r)) := by
 refine acalls (fn := Try.f91) (nt := 5) Try.func91 rfl rfl (Nat.le_of_ble_eq_true rfl) fun E hE => ?_
 rw [impl_HalfOk.f] at H
 refine aw_grp1 ?_
 refine wk_start ?_
 refine kv g0 (asg) ?_
 refine wk_end ?_
 refine ac_next ?_
 refine aw_grp1 ?_
 refine wk_start ?_
 refine kv g0 (mv) ?_
 obtain ⟨t1, A2, H⟩ := of_bind H
 refine kcS0 4 (.lit (.bool t1)) [] g0 (cal (impl_within.ok A2) [] 9999 .n (hf := Try.func49)) rfl rfl ?_
 refine kv g0 (asg) ?_
 refine wk_end ?_
 refine ac_next ?_
 refine aw_ret ?_
 obtain rfl := Option.some.inj H
 exact acr hE [.tmp 2] (.tmp .nil) (.one _) [] 9999
/-! impl_InsOk -/
def impl_InsOk.f (a0_0 : Int) (a0_1 : Int) (a0_2 : Int) (a0_3 : Int) : Option (Bool) := (impl_Ins_asks.f a0_0 a0_1 a0_2 a0_3).bind fun t1 => if t1 = true then ((impl_HalfOk.f a0_1).bind fun t4 => (if t4 = true then ((impl_within.f a0_2 0 15).bind fun t7 => (if t7 = true then ((impl_within.f a0_3 0 15).bind fun t10 => some t10) else some false)) else some false)) else if a0_2 = 0 then if a0_3 = 0 then if a0_0 = 1 then ((impl_within.f a0_1 0 7).bind fun t15 => some t15) else if a0_0 = 7 then ((impl_within.f a0_1 0 399).bind fun t18 => some t18) else if a0_0 = 2 then (impl_HalfOk.f a0_1).bind fun t21 => some t21 else if a0_0 = 8 then ((impl_HalfOk.f a0_1).bind fun t24 => some t24) else some false else some false else some false
theorem impl_InsOk.ok {a0_0 : Int} {a0_1 : Int} {a0_2 : Int} {a0_3 : Int} {r : Bool} (H : impl_InsOk.f a0_0 a0_1 a0_2 a0_3 = some r) : ACalls Try.prog 73 [] [.agg [.lit (.int .i64 a0_0), .lit (.int .i64 a0_1), .lit (.int .i64 a0_2), .lit (.int .i64 a0_3)]] [] (.lit (.bool r)) := by
 refine acalls (fn := Try.f73) (nt := 44) Try.func73 rfl rfl (Nat.le_of_ble_eq_true rfl) fun E hE => ?_
 rw [impl_InsOk.f] at H
 refine aw_grp1 ?_
 refine wk_start ?_
 refine kb g0 (bxA 0) ?_
 refine kv g0 (asg) ?_
 refine wk_end ?_
 refine ac_next ?_
 refine aw_grp1 ?_
 refine aw_grp1 ?_
 refine wk_start ?_
 refine kv g0 (ldBA 4 [.lit (.int .i64 a0_0), .lit (.int .i64 a0_1), .lit (.int .i64 a0_2), .lit (.int .i64 a0_3)]) ?_
 obtain ⟨t1, A2, H⟩ := of_bind H
 refine kcS0 4 (.lit (.bool t1)) [] g0 (cal (impl_Ins_asks.ok A2) [] 9999 .n (hf := Try.func75)) rfl rfl ?_
 refine wk_end ?_
 refine ac_next ?_
 by_cases c3 : t1 = true
 ·rw [if_pos c3] at H
  refine aw_ifT ?_ c3
  refine aw_grp1 ?_
  refine wk_start ?_
  refine kv g0 (faB 1 1) ?_
  refine kv g0 (ldB) ?_
  obtain ⟨t4, A5, H⟩ := of_bind H
  refine kcS0 7 (.lit (.bool t4)) [] g0 (cal (impl_HalfOk.ok A5) [] 9999 .n (hf := Try.func91)) rfl rfl ?_
  refine kv g0 (mv) ?_
  by_cases c6 : t4 = true
  ·rw [if_pos c6] at H
   refine kv (g1 c6) (faB 2 2) ?_
   refine kv (g1 c6) (ldB) ?_
   obtain ⟨t7, A8, H⟩ := of_bind H
   refine kcS0 11 (.lit (.bool t7)) [] (g1 c6) (cal (impl_within.ok A8) [] 9999 .n (hf := Try.func49)) rfl rfl ?_
   refine kv g0 (pkT c6) ?_
   refine kv g0 (mv) ?_
   by_cases c9 : t7 = true
   ·rw [if_pos c9] at H
    refine kv (g1 c9) (faB 3 3) ?_
    refine kv (g1 c9) (ldB) ?_
    obtain ⟨t10, A11, H⟩ := of_bind H
    refine kcS0 16 (.lit (.bool t10)) [] (g1 c9) (cal (impl_within.ok A11) [] 9999 .n (hf := Try.func49)) rfl rfl ?_
    refine kv g0 (pkT c9) ?_
    refine kv g0 (asg) ?_
    refine wk_end ?_
    refine ac_next ?_
    refine aw_ret ?_
    refine ac_thenR ?_
    obtain rfl := Option.some.inj H
    exact acr hE [.tmp 2] (.tmp .nil) (.one _) [] 9999
   rw [if_neg c9] at H
   refine kx (hT (bF c9)) ?_
   refine kx (hT (bF c9)) ?_
   refine kx (hT (bF c9)) ?_
   refine kv g0 (pkF (bF c9)) ?_
   refine kv g0 (asg) ?_
   refine wk_end ?_
   refine ac_next ?_
   refine aw_ret ?_
   refine ac_thenR ?_
   obtain rfl := Option.some.inj H
   exact acr hE [.tmp 2] (.tmp .nil) (.one _) [] 9999
  rw [if_neg c6] at H
  refine kx (hT (bF c6)) ?_
  refine kx (hT (bF c6)) ?_
  refine kx (hT (bF c6)) ?_
  refine kv g0 (pkF (bF c6)) ?_
  refine kv g0 (mv) ?_
  refine kx (hT rfl) ?_
  refine kx (hT rfl) ?_
  refine kx (hT rfl) ?_
  refine kv g0 (pkF rfl) ?_
  refine kv g0 (asg) ?_
  refine wk_end ?_
  refine ac_next ?_
  refine aw_ret ?_
  refine ac_thenR ?_
  obtain rfl := Option.some.inj H
  exact acr hE [.tmp 2] (.tmp .nil) (.one _) [] 9999
 rw [if_neg c3] at H
 refine aw_ifF ?_ (bF c3)
 refine aw_skip ?_
 refine ac_next ?_
 refine aw_grp1 ?_
 refine aw_grp1 ?_
 refine wk_start ?_
 refine kv g0 (faB 2 2) ?_
 refine kv g0 (ldB) ?_
 refine kv g0 (neq) ?_
 refine kv g0 (mv) ?_
 by_cases c12 : a0_2 = 0
 ·rw [if_pos c12] at H
  refine kv (g1 (eM c12)) (faB 3 3) ?_
  refine kv (g1 (eM c12)) (ldB) ?_
  refine kv (g1 (eM c12)) (neq) ?_
  refine kv g0 (pkF (eM c12)) ?_
  refine wk_end ?_
  refine ac_next ?_
  by_cases c13 : a0_3 = 0
  ·rw [if_pos c13] at H
   refine aw_ifF ?_ (eM c13)
   refine aw_skip ?_
   refine ac_next ?_
   refine aw_grp1 ?_
   refine aw_grp1 ?_
   refine wk_start ?_
   refine kv g0 (faB 0 0) ?_
   refine kv g0 (ldB) ?_
   refine wk_end ?_
   refine ac_next ?_
   refine aw_block ?_
   refine aw_grp1 ?_
   refine wk_start ?_
   refine kv g0 (eql) ?_
   refine kv g0 (asg) ?_
   refine wk_end ?_
   refine ac_next ?_
   by_cases c14 : a0_0 = 1
   ·rw [if_pos c14] at H
    refine aw_ifT ?_ (eT c14)
    refine aw_grp1 ?_
    refine wk_start ?_
    refine kv g0 (faB 1 1) ?_
    refine kv g0 (ldB) ?_
    obtain ⟨t15, A16, H⟩ := of_bind H
    refine kcS0 32 (.lit (.bool t15)) [] g0 (cal (impl_within.ok A16) [] 9999 .n (hf := Try.func49)) rfl rfl ?_
    refine kv g0 (asg) ?_
    refine wk_end ?_
    refine ac_next ?_
    refine aw_ret ?_
    refine ac_blkR ?_
    refine ac_thenR ?_
    obtain rfl := Option.some.inj H
    exact acr hE [.tmp 2] (.tmp .nil) (.one _) [] 9999
   rw [if_neg c14] at H
   refine aw_ifF ?_ (eF c14)
   refine aw_grp1 ?_
   refine wk_start ?_
   refine kv g0 (eql) ?_
   refine kv g0 (asg) ?_
   refine wk_end ?_
   refine ac_next ?_
   by_cases c17 : a0_0 = 7
   ·rw [if_pos c17] at H
    refine aw_ifT ?_ (eT c17)
    refine aw_grp1 ?_
    refine wk_start ?_
    refine kv g0 (faB 1 1) ?_
    refine kv g0 (ldB) ?_
    obtain ⟨t18, A19, H⟩ := of_bind H
    refine kcS0 37 (.lit (.bool t18)) [] g0 (cal (impl_within.ok A19) [] 9999 .n (hf := Try.func49)) rfl rfl ?_
    refine kv g0 (asg) ?_
    refine wk_end ?_
    refine ac_next ?_
    refine aw_ret ?_
    refine ac_blkR ?_
    refine ac_thenR ?_
    obtain rfl := Option.some.inj H
    exact acr hE [.tmp 2] (.tmp .nil) (.one _) [] 9999
   rw [if_neg c17] at H
   refine aw_ifF ?_ (eF c17)
   refine aw_grp1 ?_
   refine aw_grp1 ?_
   refine wk_start ?_
   refine kv g0 (eql) ?_
   refine kv g0 (asg) ?_
   refine wk_end ?_
   refine ac_next ?_
   by_cases c20 : a0_0 = 2
   ·rw [if_pos c20] at H
    refine aw_ifT ?_ (eT c20)
    refine aw_skip ?_
    refine ac_next ?_
    refine aw_ifT ?_ (eT c20)
    refine aw_grp1 ?_
    refine wk_start ?_
    refine kv g0 (faB 1 1) ?_
    refine kv g0 (ldB) ?_
    obtain ⟨t21, A22, H⟩ := of_bind H
    refine kcS0 43 (.lit (.bool t21)) [] g0 (cal (impl_HalfOk.ok A22) [] 9999 .n (hf := Try.func91)) rfl rfl ?_
    refine kv g0 (asg) ?_
    refine wk_end ?_
    refine ac_next ?_
    refine aw_ret ?_
    refine ac_blkR ?_
    refine ac_thenR ?_
    obtain rfl := Option.some.inj H
    exact acr hE [.tmp 2] (.tmp .nil) (.one _) [] 9999
   rw [if_neg c20] at H
   refine aw_ifF ?_ (eF c20)
   refine wk_start ?_
   refine kv g0 (eql) ?_
   refine kv g0 (asg) ?_
   refine wk_end ?_
   refine ac_next ?_
   by_cases c23 : a0_0 = 8
   ·rw [if_pos c23] at H
    refine aw_ifT ?_ (eT c23)
    refine aw_grp1 ?_
    refine wk_start ?_
    refine kv g0 (faB 1 1) ?_
    refine kv g0 (ldB) ?_
    obtain ⟨t24, A25, H⟩ := of_bind H
    refine kcS0 43 (.lit (.bool t24)) [] g0 (cal (impl_HalfOk.ok A25) [] 9999 .n (hf := Try.func91)) rfl rfl ?_
    refine kv g0 (asg) ?_
    refine wk_end ?_
    refine ac_next ?_
    refine aw_ret ?_
    refine ac_blkR ?_
    refine ac_thenR ?_
    obtain rfl := Option.some.inj H
    exact acr hE [.tmp 2] (.tmp .nil) (.one _) [] 9999
   rw [if_neg c23] at H
   refine aw_ifF ?_ (eF c23)
   refine aw_skip ?_
   refine ac_blkN ?_
   refine ac_next ?_
   refine aw_grp1 ?_
   refine wk_start ?_
   refine kv g0 (asg) ?_
   refine wk_end ?_
   refine ac_next ?_
   refine aw_ret ?_
   obtain rfl := Option.some.inj H
   exact acr hE [.tmp 2] (.tmp .nil) (.one _) [] 9999
  rw [if_neg c13] at H
  refine aw_ifT ?_ (eN c13)
  refine aw_grp1 ?_
  refine wk_start ?_
  refine kv g0 (asg) ?_
  refine wk_end ?_
  refine ac_next ?_
  refine aw_ret ?_
  refine ac_thenR ?_
  obtain rfl := Option.some.inj H
  exact acr hE [.tmp 2] (.tmp .nil) (.one _) [] 9999
 rw [if_neg c12] at H
 refine kx (hF (eN c12)) ?_
 refine kx (hF (eN c12)) ?_
 refine kx (hF (eN c12)) ?_
 refine kv g0 (pkT (eN c12)) ?_
 refine wk_end ?_
 refine ac_next ?_
 refine aw_ifT ?_ rfl
 refine aw_grp1 ?_
 refine wk_start ?_
 refine kv g0 (asg) ?_
 refine wk_end ?_
 refine ac_next ?_
 refine aw_ret ?_
 refine ac_thenR ?_
 obtain rfl := Option.some.inj H
 exact acr hE [.tmp 2] (.tmp .nil) (.one _) [] 9999
/-! impl_farthest -/
def impl_farthest.f (a0_0 : Int) (a0_1 : Int) (a0_2 : Int) (a0_3 : Int) (a1 : Int) : Option (Int) := (impl_Ins_asks.f a0_0 a0_1 a0_2 a0_3).bind fun t1 => if t1 = true then some (wrap64 ((wrap64 (a1 + 1)) + (max a0_2 a0_3))) else if a0_0 = 7 then some (wrap64 ((wrap64 (a1 + 1)) + a0_1)) else some a1
theorem impl_farthest.ok {a0_0 : Int} {a0_1 : Int} {a0_2 : Int} {a0_3 : Int} {a1 : Int} {r : Int} (H : impl_farthest.f a0_0 a0_1 a0_2 a0_3 a1 = some r) : ACalls Try.prog 74 [] [.agg [.lit (.int .i64 a0_0), .lit (.int .i64 a0_1), .lit (.int .i64 a0_2), .lit (.int .i64 a0_3)], .lit (.int .i64 a1)] [] (.lit (.int .i64 r)) := by
 refine acalls (fn := Try.f74) (nt := 26) Try.func74 rfl rfl (Nat.le_of_ble_eq_true rfl) fun E hE => ?_
 rw [impl_farthest.f] at H
 refine aw_grp1 ?_
 refine wk_start ?_
 refine kb g0 (bxA 0) ?_
 refine kv g0 (asg) ?_
 refine wk_end ?_
 refine ac_next ?_
 refine aw_grp1 ?_
 refine aw_block ?_
 refine aw_grp1 ?_
 refine wk_start ?_
 refine kv g0 (ldBA 4 [.lit (.int .i64 a0_0), .lit (.int .i64 a0_1), .lit (.int .i64 a0_2), .lit (.int .i64 a0_3)]) ?_
 obtain ⟨t1, A2, H⟩ := of_bind H
 refine kcS0 7 (.lit (.bool t1)) [] g0 (cal (impl_Ins_asks.ok A2) [] 9999 .n (hf := Try.func75)) rfl rfl ?_
 refine kv g0 (asg) ?_
 refine wk_end ?_
 refine ac_next ?_
 by_cases c3 : t1 = true
 ·rw [if_pos c3] at H
  refine aw_ifT ?_ c3
  refine aw_grp1 ?_
  refine wk_start ?_
  refine kv g0 (mv) ?_
  refine kv g0 (add6) ?_
  refine kv g0 (faB 2 2) ?_
  refine kv g0 (ldB) ?_
  refine kv g0 (faB 3 3) ?_
  refine kv g0 (ldB) ?_
  refine kv g0 (max_) ?_
  refine kv g0 (add6) ?_
  refine kv g0 (asg) ?_
  refine wk_end ?_
  refine ac_next ?_
  refine aw_ret ?_
  refine ac_blkR ?_
  refine ac_thenR ?_
  obtain rfl := Option.some.inj H
  exact acr hE [.tmp 4] (.tmp .nil) (.one _) [] 9999
 rw [if_neg c3] at H
 refine aw_ifF ?_ (bF c3)
 refine aw_grp1 ?_
 refine wk_start ?_
 refine kv g0 (faB 0 0) ?_
 refine kv g0 (ldB) ?_
 refine kv g0 (eql) ?_
 refine kv g0 (asg) ?_
 refine wk_end ?_
 refine ac_next ?_
 by_cases c4 : a0_0 = 7
 ·rw [if_pos c4] at H
  refine aw_ifT ?_ (eT c4)
  refine aw_grp1 ?_
  refine wk_start ?_
  refine kv g0 (mv) ?_
  refine kv g0 (add6) ?_
  refine kv g0 (faB 1 1) ?_
  refine kv g0 (ldB) ?_
  refine kv g0 (add6) ?_
  refine kv g0 (asg) ?_
  refine wk_end ?_
  refine ac_next ?_
  refine aw_ret ?_
  refine ac_blkR ?_
  refine ac_thenR ?_
  obtain rfl := Option.some.inj H
  exact acr hE [.tmp 4] (.tmp .nil) (.one _) [] 9999
 rw [if_neg c4] at H
 refine aw_ifF ?_ (eF c4)
 refine aw_skip ?_
 refine ac_blkN ?_
 refine ac_next ?_
 refine aw_grp1 ?_
 refine wk_start ?_
 refine kv g0 (mv) ?_
 refine kv g0 (asg) ?_
 refine wk_end ?_
 refine ac_next ?_
 refine aw_ret ?_
 obtain rfl := Option.some.inj H
 exact acr hE [.tmp 4] (.tmp .nil) (.one _) [] 9999
/-! impl_CheckProgram -/
def impl_CheckProgram.l0 : Nat → (List S46) → Int → Option (Bool)
 | 0, _, _ => none
 | k16 + 1, l0, p15 => if p15 < (l0.length : Int) then if 0 ≤ p15 then (impl_InsOk.f ((rd_T46 l0 p15).f0) ((rd_T46 l0 p15).f1) ((rd_T46 l0 p15).f2) ((rd_T46 l0 p15).f3)).bind fun t19 => (if t19 = true then ((impl_farthest.f ((rd_T46 l0 p15).f0) ((rd_T46 l0 p15).f1) ((rd_T46 l0 p15).f2) ((rd_T46 l0 p15).f3) p15).bind fun t22 => if t22 ≥ (l0.length : Int) then some false else impl_CheckProgram.l0 k16 l0 (wrap64 (p15 + 1))) else some false) else none else some true
def impl_CheckProgram.f (k : Nat) (l0 : List S46) : Option (Bool) := (impl_within.f (l0.length : Int) 1 400).bind fun t1 => (if t1 = true then (if 0 ≤ (wrap64 ((l0.length : Int) - 1)) then (if (wrap64 ((l0.length : Int) - 1)) < (l0.length : Int) then if ((rd_T46 l0 (wrap64 ((l0.length : Int) - 1))).f0) = 8 then impl_CheckProgram.l0 k l0 0 else some false else none) else none) else some false)
theorem impl_CheckProgram.ok {k : Nat} {l0 : List S46} {r : Bool} (H : impl_CheckProgram.f k l0 = some r) : ACalls Try.prog 48 [] [.sl .o 4 (l0.map e46)] [] (.lit (.bool r)) := by
 refine acalls (fn := Try.f48) (nt := 38) Try.func48 rfl rfl (Nat.le_of_ble_eq_true rfl) fun E hE => ?_
 rw [impl_CheckProgram.f] at H
 refine aw_grp1 ?_
 refine wk_start ?_
 refine kv g0 (asg) ?_
 refine wk_end ?_
 refine ac_next ?_
 refine aw_grp1 ?_
 refine wk_start ?_
 refine kv g0 (mv) ?_
 refine kv g0 (lnS lenE) ?_
 refine kv g0 (asg) ?_
 refine wk_end ?_
 refine ac_next ?_
 refine aw_grp1 ?_
 refine aw_grp1 ?_
 refine wk_start ?_
 refine kv g0 (mv) ?_
 obtain ⟨t1, A2, H⟩ := of_bind H
 refine kcS0 9 (.lit (.bool t1)) [] g0 (cal (impl_within.ok A2) [] 9999 .n (hf := Try.func49)) rfl rfl ?_
 refine kv g0 (not_) ?_
 refine kv g0 (mv) ?_
 by_cases c3 : t1 = true
 ·rw [if_pos c3] at H
  refine kv (g1 (nF c3)) (mv) ?_
  refine kv (g1 (nF c3)) (mv) ?_
  refine kv (g1 (nF c3)) (sub6) ?_
  obtain ⟨c4, H⟩ := of_if H
  obtain ⟨c5, H⟩ := of_if H
  refine kv (g1 (nF c3)) (ixS 46 (e46 (rd_T46 l0 (wrap64 ((l0.length : Int) - 1)))) c4 (getE (z := z46) c4 c5)) ?_
  refine kv (g1 (nF c3)) (faR 0 0) ?_
  refine kv (g1 (nF c3)) (ldR (.lit (.int .i64 ((rd_T46 l0 (wrap64 ((l0.length : Int) - 1))).f0)))) ?_
  refine kv (g1 (nF c3)) (neq) ?_
  refine kv g0 (pkF (nF c3)) ?_
  refine wk_end ?_
  refine ac_next ?_
  by_cases c6 : ((rd_T46 l0 (wrap64 ((l0.length : Int) - 1))).f0) = 8
  ·rw [if_pos c6] at H
   refine aw_ifF ?_ (eM c6)
   refine aw_skip ?_
   refine ac_next ?_
   refine aw_grp1 ?_
   refine aw_grp1 ?_
   refine wk_start ?_
   refine kv g0 (mv) ?_
   refine kv g0 (lnS lenE) ?_
   refine kv g0 (mv) ?_
   refine wk_end ?_
   refine ac_next ?_
   refine aw_block ?_
   refine aw_loop1 (fun (k_ : Nat) (p15 : Int) => k_ ≤ k ∧ impl_CheckProgram.l0 k_ l0 p15 = some r) (fun (p15 : Int) => ⟨[(3, .lit (.int .i64 (l0.length : Int))), (20, .sl .o 4 (l0.map e46)), (21, .lit (.int .i64 (l0.length : Int))), (22, .lit (.int .i64 p15))], []⟩) k 0 ⟨Nat.le_refl _, H⟩ (fun K_ h_ => acw hE [] 9999 h_) (fun _ => by intro h_; have h_ := h_.2; rw [impl_CheckProgram.l0.eq_1] at h_; cases h_) ?_
   intro k16 p15 hq_ K25 hK26
   have hk16 := hq_.1
   have H := hq_.2
   clear hq_
   rw [impl_CheckProgram.l0.eq_2] at H
   refine aw_grp1 ?_
   refine wk_start ?_
   refine kv g0 (lss) ?_
   refine wk_end ?_
   refine ac_next ?_
   refine aw_grp1 ?_
   by_cases c17 : p15 < (l0.length : Int)
   ·rw [if_pos c17] at H
    refine aw_ifT ?_ (decide_eq_true c17)
    refine aw_skip ?_
    refine ac_next ?_
    refine aw_grp1 ?_
    refine aw_block ?_
    refine aw_grp1 ?_
    refine wk_start ?_
    refine kv g0 (mv) ?_
    obtain ⟨c18, H⟩ := of_if H
    refine kv g0 (ixS 46 (e46 (rd_T46 l0 p15)) c18 (getE (z := z46) c18 c17)) ?_
    refine kv g0 (ldRA 4 [.lit (.int .i64 ((rd_T46 l0 p15).f0)), .lit (.int .i64 ((rd_T46 l0 p15).f1)), .lit (.int .i64 ((rd_T46 l0 p15).f2)), .lit (.int .i64 ((rd_T46 l0 p15).f3))]) ?_
    refine kb g0 (alc 0 [.int .i64 0, .int .i64 0, .int .i64 0, .int .i64 0] [.lit (.int .i64 0), .lit (.int .i64 0), .lit (.int .i64 0), .lit (.int .i64 0)]) ?_
    refine kv g0 (asg) ?_
    refine ks g0 (stB 4 [.lit (.int .i64 ((rd_T46 l0 p15).f0)), .lit (.int .i64 ((rd_T46 l0 p15).f1)), .lit (.int .i64 ((rd_T46 l0 p15).f2)), .lit (.int .i64 ((rd_T46 l0 p15).f3))]) ?_
    refine wk_end ?_
    refine ac_next ?_
    refine aw_grp1 ?_
    refine wk_start ?_
    refine kv g0 (ldBA 4 [.lit (.int .i64 ((rd_T46 l0 p15).f0)), .lit (.int .i64 ((rd_T46 l0 p15).f1)), .lit (.int .i64 ((rd_T46 l0 p15).f2)), .lit (.int .i64 ((rd_T46 l0 p15).f3))]) ?_
    obtain ⟨t19, A20, H⟩ := of_bind H
    refine kcS0 28 (.lit (.bool t19)) [] g0 (cal (impl_InsOk.ok A20) [] 9999 .n (hf := Try.func73)) rfl rfl ?_
    refine kv g0 (not_) ?_
    refine kv g0 (mv) ?_
    by_cases c21 : t19 = true
    ·rw [if_pos c21] at H
     refine kv (g1 (nF c21)) (ldBA 4 [.lit (.int .i64 ((rd_T46 l0 p15).f0)), .lit (.int .i64 ((rd_T46 l0 p15).f1)), .lit (.int .i64 ((rd_T46 l0 p15).f2)), .lit (.int .i64 ((rd_T46 l0 p15).f3))]) ?_
     refine kv (g1 (nF c21)) (mv) ?_
     obtain ⟨t22, A23, H⟩ := of_bind H
     refine kcS0 33 (.lit (.int .i64 t22)) [] (g1 (nF c21)) (cal (impl_farthest.ok A23) [] 9999 .n (hf := Try.func74)) rfl rfl ?_
     refine kv (g1 (nF c21)) (mv) ?_
     refine kv (g1 (nF c21)) (geq) ?_
     refine kv g0 (pkF (nF c21)) ?_
     refine wk_end ?_
     refine ac_next ?_
     by_cases c24 : t22 ≥ (l0.length : Int)
     ·rw [if_pos c24] at H
      refine aw_ifT ?_ (decide_eq_true c24)
      refine aw_grp1 ?_
      refine wk_start ?_
      refine kv g0 (asg) ?_
      refine wk_end ?_
      refine ac_next ?_
      refine aw_ret ?_
      refine ac_blkR ?_
      refine ac_thenR ?_
      refine ac_thenR ?_
      refine ac_blkR ?_
      refine ac_thenR ?_
      obtain rfl := Option.some.inj H
      exact acr hE [.tmp 2] (.tmp .nil) (.one _) [] 9999
     rw [if_neg c24] at H
     refine aw_ifF ?_ (decide_eq_false c24)
     refine aw_skip ?_
     refine ac_blkN ?_
     refine ac_next ?_
     refine wk_start ?_
     refine kv g0 (add6) ?_
     refine kv g0 (mv) ?_
     refine wk_end ?_
     refine ac_k ?_
     exact acw hE [] 9999 (hK26 k16 (wrap64 (p15 + 1)) (Nat.le_refl _) ⟨by omega, H⟩)
    rw [if_neg c21] at H
    refine kx (hF (nT (bF c21))) ?_
    refine kx (hF (nT (bF c21))) ?_
    refine kx (hF (nT (bF c21))) ?_
    refine kx (hF (nT (bF c21))) ?_
    refine kx (hF (nT (bF c21))) ?_
    refine kv g0 (pkT (nT (bF c21))) ?_
    refine wk_end ?_
    refine ac_next ?_
    refine aw_ifT ?_ rfl
    refine aw_grp1 ?_
    refine wk_start ?_
    refine kv g0 (asg) ?_
    refine wk_end ?_
    refine ac_next ?_
    refine aw_ret ?_
    refine ac_blkR ?_
    refine ac_thenR ?_
    refine ac_thenR ?_
    refine ac_blkR ?_
    refine ac_thenR ?_
    obtain rfl := Option.some.inj H
    exact acr hE [.tmp 2] (.tmp .nil) (.one _) [] 9999
   rw [if_neg c17] at H
   refine aw_ifF ?_ (decide_eq_false c17)
   refine aw_exit ?_
   refine ac_then ?_
   refine ac_then ?_
   refine ac_hit rfl ?_
   refine ac_next ?_
   refine aw_grp1 ?_
   refine wk_start ?_
   refine kv g0 (asg) ?_
   refine wk_end ?_
   refine ac_next ?_
   refine aw_ret ?_
   obtain rfl := Option.some.inj H
   exact acr hE [.tmp 2] (.tmp .nil) (.one _) [] 9999
  rw [if_neg c6] at H
  refine aw_ifT ?_ (eN c6)
  refine aw_grp1 ?_
  refine wk_start ?_
  refine kv g0 (asg) ?_
  refine wk_end ?_
  refine ac_next ?_
  refine aw_ret ?_
  refine ac_thenR ?_
  obtain rfl := Option.some.inj H
  exact acr hE [.tmp 2] (.tmp .nil) (.one _) [] 9999
 rw [if_neg c3] at H
 refine kx (hF (nT (bF c3))) ?_
 refine kx (hF (nT (bF c3))) ?_
 refine kx (hF (nT (bF c3))) ?_
 refine kx (hF (nT (bF c3))) ?_
 refine kx (hF (nT (bF c3))) ?_
 refine kx (hF (nT (bF c3))) ?_
 refine kx (hF (nT (bF c3))) ?_
 refine kv g0 (pkT (nT (bF c3))) ?_
 refine wk_end ?_
 refine ac_next ?_
 refine aw_ifT ?_ rfl
 refine aw_grp1 ?_
 refine wk_start ?_
 refine kv g0 (asg) ?_
 refine wk_end ?_
 refine ac_next ?_
 refine aw_ret ?_
 refine ac_thenR ?_
 obtain rfl := Option.some.inj H
 exact acr hE [.tmp 2] (.tmp .nil) (.one _) [] 9999
/-! impl_ways -/
def impl_ways.j0 : Nat → Int → Int → Int → Int → Int → Bool → Option ((List Int))
 | 0, _, _, _, _, _, _ => none
 | k7 + 1, a0_0, a0_1, a0_2, a0_3, a1, p6 => if p6 = true then some ([wrap64 ((wrap64 (a1 + 1)) + (min a0_2 a0_3)), wrap64 ((wrap64 (a1 + 1)) + (max a0_2 a0_3))] : List Int) else ((impl_Ins_asks.f a0_0 a0_1 a0_2 a0_3).bind fun t9 => if t9 = true then some ([wrap64 ((wrap64 (a1 + 1)) + a0_2)] : List Int) else some ([wrap64 (a1 + 1)] : List Int))
def impl_ways.f (k : Nat) (a0_0 : Int) (a0_1 : Int) (a0_2 : Int) (a0_3 : Int) (a1 : Int) : Option ((List Int)) := if a0_0 = 8 then some ([] : List Int) else if a0_0 = 7 then some ([wrap64 ((wrap64 (a1 + 1)) + a0_1)] : List Int) else ((impl_Ins_asks.f a0_0 a0_1 a0_2 a0_3).bind fun t3 => (if t3 = true then impl_ways.j0 k a0_0 a0_1 a0_2 a0_3 a1 (a0_2 != a0_3) else impl_ways.j0 k a0_0 a0_1 a0_2 a0_3 a1 false))
theorem impl_ways.ok {k : Nat} {a0_0 : Int} {a0_1 : Int} {a0_2 : Int} {a0_3 : Int} {a1 : Int} {r : (List Int)} (H : impl_ways.f k a0_0 a0_1 a0_2 a0_3 a1 = some r) : ACalls Try.prog 50 [] [.agg [.lit (.int .i64 a0_0), .lit (.int .i64 a0_1), .lit (.int .i64 a0_2), .lit (.int .i64 a0_3)], .lit (.int .i64 a1)] [(0, .row 3 1 (r.map (eI .i64)))] (.row 0) := by
 refine acalls (fn := Try.f50) (nt := 59) Try.func50 rfl rfl (Nat.le_of_ble_eq_true rfl) fun E hE => ?_
 rw [impl_ways.f] at H
 refine aw_grp1 ?_
 refine wk_start ?_
 refine kb g0 (bxA 0) ?_
 refine kv g0 (asg) ?_
 refine wk_end ?_
 refine ac_next ?_
 refine aw_grp1 ?_
 refine aw_block ?_
 refine aw_grp1 ?_
 refine wk_start ?_
 refine kv g0 (faB 0 0) ?_
 refine kv g0 (ldB) ?_
 refine kv g0 (eql) ?_
 refine kv g0 (asg) ?_
 refine wk_end ?_
 refine ac_next ?_
 by_cases c1 : a0_0 = 8
 ·rw [if_pos c1] at H
  refine aw_ifT ?_ (eT c1)
  refine aw_grp1 ?_
  refine wk_start ?_
  refine kb g0 (bsl 1 3 1 [.int .i64 0] (([] : List Int).map (eI .i64))) ?_
  refine kv g0 (asg) ?_
  refine wk_end ?_
  refine ac_next ?_
  refine aw_ret ?_
  refine ac_blkR ?_
  refine ac_thenR ?_
  obtain rfl := Option.some.inj H
  exact acr hE [.tmp 4] (.tmp .nil) (.one _) [(0, 1)] 9999
 rw [if_neg c1] at H
 refine aw_ifF ?_ (eF c1)
 refine aw_grp1 ?_
 refine wk_start ?_
 refine kv g0 (faB 0 0) ?_
 refine kv g0 (ldB) ?_
 refine kv g0 (eql) ?_
 refine kv g0 (asg) ?_
 refine wk_end ?_
 refine ac_next ?_
 by_cases c2 : a0_0 = 7
 ·rw [if_pos c2] at H
  refine aw_ifT ?_ (eT c2)
  refine aw_grp1 ?_
  refine wk_start ?_
  refine kv g0 (mv) ?_
  refine kv g0 (add6) ?_
  refine kv g0 (faB 1 1) ?_
  refine kv g0 (ldB) ?_
  refine kv g0 (add6) ?_
  refine kb g0 (bsl 2 3 1 [.int .i64 0] (([wrap64 ((wrap64 (a1 + 1)) + a0_1)] : List Int).map (eI .i64))) ?_
  refine kv g0 (asg) ?_
  refine wk_end ?_
  refine ac_next ?_
  refine aw_ret ?_
  refine ac_blkR ?_
  refine ac_thenR ?_
  obtain rfl := Option.some.inj H
  exact acr hE [.tmp 4] (.tmp .nil) (.one _) [(0, 2)] 9999
 rw [if_neg c2] at H
 refine aw_ifF ?_ (eF c2)
 refine aw_cut1 (J := fun K_ => ∀ (k_ : Nat) (p6 : Bool), k_ ≤ k → impl_ways.j0 k_ a0_0 a0_1 a0_2 a0_3 a1 p6 = some r → ACont E 59 ⟨[(1, .lit (.int .i64 a1)), (2, .box 0 0), (20, .lit (.bool p6))], [(0, .box 46 [.lit (.int .i64 a0_0), .lit (.int .i64 a0_1), .lit (.int .i64 a0_2), .lit (.int .i64 a0_3)])]⟩ K_) ?_ ?_
 ·intro K_ hJ12
  refine wk_start ?_
  refine kv g0 (ldBA 4 [.lit (.int .i64 a0_0), .lit (.int .i64 a0_1), .lit (.int .i64 a0_2), .lit (.int .i64 a0_3)]) ?_
  obtain ⟨t3, A4, H⟩ := of_bind H
  refine kcS0 22 (.lit (.bool t3)) [] g0 (cal (impl_Ins_asks.ok A4) [] 9999 .n (hf := Try.func75)) rfl rfl ?_
  refine kv g0 (mv) ?_
  by_cases c5 : t3 = true
  ·rw [if_pos c5] at H
   refine kv (g1 c5) (faB 2 2) ?_
   refine kv (g1 c5) (ldB) ?_
   refine kv (g1 c5) (faB 3 3) ?_
   refine kv (g1 c5) (ldB) ?_
   refine kv (g1 c5) (neq) ?_
   refine kv g0 (pkT c5) ?_
   refine kv g0 (asg) ?_
   refine wk_end ?_
   refine ac_k ?_
   exact acw hE [(0, 0)] 9999 (hJ12 k (a0_2 != a0_3) (Nat.le_refl _) H)
  rw [if_neg c5] at H
  refine kx (hT (bF c5)) ?_
  refine kx (hT (bF c5)) ?_
  refine kx (hT (bF c5)) ?_
  refine kx (hT (bF c5)) ?_
  refine kx (hT (bF c5)) ?_
  refine kv g0 (pkF (bF c5)) ?_
  refine kv g0 (asg) ?_
  refine wk_end ?_
  refine ac_k ?_
  exact acw hE [(0, 0)] 9999 (hJ12 k false (Nat.le_refl _) H)
 intro k_ p6 hk_ H
 rcases k_ with _ | k7
 ·rw [impl_ways.j0.eq_1] at H; cases H
 have hk7 : k7 ≤ k := by omega
 clear hk_
 rw [impl_ways.j0.eq_2] at H
 by_cases c8 : p6 = true
 ·rw [if_pos c8] at H
  refine aw_ifT ?_ c8
  refine aw_grp1 ?_
  refine wk_start ?_
  refine kv g0 (mv) ?_
  refine kv g0 (add6) ?_
  refine kv g0 (faB 2 2) ?_
  refine kv g0 (ldB) ?_
  refine kv g0 (faB 3 3) ?_
  refine kv g0 (ldB) ?_
  refine kv g0 (min_) ?_
  refine kv g0 (add6) ?_
  refine kv g0 (mv) ?_
  refine kv g0 (add6) ?_
  refine kv g0 (faB 2 2) ?_
  refine kv g0 (ldB) ?_
  refine kv g0 (faB 3 3) ?_
  refine kv g0 (ldB) ?_
  refine kv g0 (max_) ?_
  refine kv g0 (add6) ?_
  refine kb g0 (bsl 3 3 1 [.int .i64 0] (([wrap64 ((wrap64 (a1 + 1)) + (min a0_2 a0_3)), wrap64 ((wrap64 (a1 + 1)) + (max a0_2 a0_3))] : List Int).map (eI .i64))) ?_
  refine kv g0 (asg) ?_
  refine wk_end ?_
  refine ac_next ?_
  refine aw_ret ?_
  refine ac_blkR ?_
  refine ac_thenR ?_
  obtain rfl := Option.some.inj H
  exact acr hE [.tmp 4] (.tmp .nil) (.one _) [(0, 3)] 9999
 rw [if_neg c8] at H
 refine aw_ifF ?_ (bF c8)
 refine aw_grp1 ?_
 refine wk_start ?_
 refine kv g0 (ldBA 4 [.lit (.int .i64 a0_0), .lit (.int .i64 a0_1), .lit (.int .i64 a0_2), .lit (.int .i64 a0_3)]) ?_
 obtain ⟨t9, A10, H⟩ := of_bind H
 refine kcS0 49 (.lit (.bool t9)) [] g0 (cal (impl_Ins_asks.ok A10) [] 9999 .n (hf := Try.func75)) rfl rfl ?_
 refine kv g0 (asg) ?_
 refine wk_end ?_
 refine ac_next ?_
 by_cases c11 : t9 = true
 ·rw [if_pos c11] at H
  refine aw_ifT ?_ c11
  refine aw_grp1 ?_
  refine wk_start ?_
  refine kv g0 (mv) ?_
  refine kv g0 (add6) ?_
  refine kv g0 (faB 2 2) ?_
  refine kv g0 (ldB) ?_
  refine kv g0 (add6) ?_
  refine kb g0 (bsl 4 3 1 [.int .i64 0] (([wrap64 ((wrap64 (a1 + 1)) + a0_2)] : List Int).map (eI .i64))) ?_
  refine kv g0 (asg) ?_
  refine wk_end ?_
  refine ac_next ?_
  refine aw_ret ?_
  refine ac_blkR ?_
  refine ac_thenR ?_
  obtain rfl := Option.some.inj H
  exact acr hE [.tmp 4] (.tmp .nil) (.one _) [(0, 4)] 9999
 rw [if_neg c11] at H
 refine aw_ifF ?_ (bF c11)
 refine aw_skip ?_
 refine ac_blkN ?_
 refine ac_next ?_
 refine aw_grp1 ?_
 refine wk_start ?_
 refine kv g0 (mv) ?_
 refine kv g0 (add6) ?_
 refine kb g0 (bsl 5 3 1 [.int .i64 0] (([wrap64 (a1 + 1)] : List Int).map (eI .i64))) ?_
 refine kv g0 (asg) ?_
 refine wk_end ?_
 refine ac_next ?_
 refine aw_ret ?_
 obtain rfl := Option.some.inj H
 exact acr hE [.tmp 4] (.tmp .nil) (.one _) [(0, 5)] 9999
/-! impl_Reached -/
mutual
def impl_Reached.l0 : Nat → (List S46) → Int → ((List Int)) → (List Bool) → Int → Option ((List Bool))
 | 0, _, _, _, _, _ => none
 | k41 + 1, l0, p27, t33, q39, p40 => if p40 < (t33.length : Int) then if 0 ≤ p40 then if 0 ≤ (rd t33 p40) then (if (rd t33 p40) < (q39.length : Int) then impl_Reached.l0 k41 l0 p27 t33 (q39.set (rd t33 p40).toNat true) (wrap64 (p40 + 1)) else none) else none else none else impl_Reached.l1 k41 l0 q39 (wrap64 (p27 + 1))
def impl_Reached.l1 : Nat → (List S46) → (List Bool) → Int → Option ((List Bool))
 | 0, _, _, _ => none
 | k28 + 1, l0, q26, p27 => if p27 < (l0.length : Int) then if 0 ≤ p27 then if p27 < (q26.length : Int) then if (rdOf false q26 p27) = true then (impl_ways.f k28 ((rd_T46 l0 p27).f0) ((rd_T46 l0 p27).f1) ((rd_T46 l0 p27).f2) ((rd_T46 l0 p27).f3) p27).bind fun t33 => impl_Reached.l0 k28 l0 p27 t33 q26 0 else impl_Reached.l1 k28 l0 q26 (wrap64 (p27 + 1)) else none else none else some q26
end
def impl_Reached.f (k : Nat) (l0 : List S46) : Option ((List Bool)) := (impl_CheckProgram.f k l0).bind fun t1 => if t1 = true then if 0 ≤ (l0.length : Int) then (if (l0.length : Int).toNat ≤ 281474976710656 then if 0 < ((List.replicate (l0.length : Int).toNat false).length : Int) then impl_Reached.l1 k l0 ((List.replicate (l0.length : Int).toNat false).set 0 true) 0 else none else none) else none else some ([] : List Bool)
theorem impl_Reached.ok {k : Nat} {l0 : List S46} {r : (List Bool)} (H : impl_Reached.f k l0 = some r) : ACalls Try.prog 64 [] [.sl .o 4 (l0.map e46)] [(0, .row 4 1 (r.map eB))] (.row 0) := by
 refine acalls (fn := Try.f64) (nt := 43) Try.func64 rfl rfl (Nat.le_of_ble_eq_true rfl) fun E hE => ?_
 rw [impl_Reached.f] at H
 refine aw_grp1 ?_
 refine wk_start ?_
 refine kv g0 (asg) ?_
 refine wk_end ?_
 refine ac_next ?_
 refine aw_grp1 ?_
 refine aw_grp1 ?_
 refine wk_start ?_
 refine kv g0 (mv) ?_
 obtain ⟨t1, A2, H⟩ := of_bind H
 refine kcS0 9 (.lit (.bool t1)) [] g0 (cal (impl_CheckProgram.ok A2) [] 9999 .n (hf := Try.func48)) rfl rfl ?_
 refine kv g0 (not_) ?_
 refine wk_end ?_
 refine ac_next ?_
 by_cases c3 : t1 = true
 ·rw [if_pos c3] at H
  refine aw_ifF ?_ (nF c3)
  refine aw_skip ?_
  refine ac_next ?_
  refine aw_grp1 ?_
  refine wk_start ?_
  refine kv g0 (mv) ?_
  refine kv g0 (lnS lenE) ?_
  obtain ⟨c4, H⟩ := of_if H
  obtain ⟨c5, H⟩ := of_if H
  refine kb g0 (mks 1 4 1 1 [.bool false] (eB false) ((List.replicate (l0.length : Int).toNat false).map eB) c4 (mkb c5 rfl) repE) ?_
  refine kv g0 (asg) ?_
  refine wk_end ?_
  refine ac_next ?_
  refine aw_grp1 ?_
  refine wk_start ?_
  refine kv g0 (mv) ?_
  obtain ⟨c6, H⟩ := of_if H
  refine kv g0 (ixR 4 (by decide : (0 : Int) ≤ 0) (ltE c6)) ?_
  refine ks g0 (stE 1 (eB true) (((List.replicate (l0.length : Int).toNat false).set 0 true).map eB) (getE (z := false) (by decide : (0 : Int) ≤ 0) c6) setE) ?_
  refine wk_end ?_
  refine ac_next ?_
  refine aw_grp1 ?_
  refine aw_grp1 ?_
  refine wk_start ?_
  refine kv g0 (mv) ?_
  refine kv g0 (lnS lenE) ?_
  refine kv g0 (mv) ?_
  refine wk_end ?_
  refine ac_next ?_
  refine aw_block ?_
  refine aw_loop2 (fun (k_ : Nat) (q26 : List Bool) (p27 : Int) => k_ ≤ k ∧ impl_Reached.l1 k_ l0 q26 p27 = some r) (fun (q26 : List Bool) (p27 : Int) => ⟨[(3, .row 1), (17, .sl .o 4 (l0.map e46)), (18, .lit (.int .i64 (l0.length : Int))), (19, .lit (.int .i64 p27))], [(1, .row 4 1 (q26.map eB))]⟩) k ((List.replicate (l0.length : Int).toNat false).set 0 true) 0 ⟨Nat.le_refl _, H⟩ (fun K_ h_ => acw hE [(1, 1)] 9999 h_) (fun _ _ => by intro h_; have h_ := h_.2; rw [impl_Reached.l1.eq_1] at h_; cases h_) ?_
  intro k28 q26 p27 hq_ K48 hK49
  have hk28 := hq_.1
  have H := hq_.2
  clear hq_
  rw [impl_Reached.l1.eq_2] at H
  refine aw_grp1 ?_
  refine wk_start ?_
  refine kv g0 (lss) ?_
  refine wk_end ?_
  refine ac_next ?_
  refine aw_grp1 ?_
  by_cases c29 : p27 < (l0.length : Int)
  ·rw [if_pos c29] at H
   refine aw_ifT ?_ (decide_eq_true c29)
   refine aw_skip ?_
   refine ac_next ?_
   refine aw_grp1 ?_
   refine aw_block ?_
   refine aw_grp1 ?_
   refine wk_start ?_
   refine kv g0 (mv) ?_
   obtain ⟨c30, H⟩ := of_if H
   refine kv g0 (ixS 46 (e46 (rd_T46 l0 p27)) c30 (getE (z := z46) c30 c29)) ?_
   refine kv g0 (ldRA 4 [.lit (.int .i64 ((rd_T46 l0 p27).f0)), .lit (.int .i64 ((rd_T46 l0 p27).f1)), .lit (.int .i64 ((rd_T46 l0 p27).f2)), .lit (.int .i64 ((rd_T46 l0 p27).f3))]) ?_
   refine kb g0 (alc 2 [.int .i64 0, .int .i64 0, .int .i64 0, .int .i64 0] [.lit (.int .i64 0), .lit (.int .i64 0), .lit (.int .i64 0), .lit (.int .i64 0)]) ?_
   refine kv g0 (asg) ?_
   refine ks g0 (stB 4 [.lit (.int .i64 ((rd_T46 l0 p27).f0)), .lit (.int .i64 ((rd_T46 l0 p27).f1)), .lit (.int .i64 ((rd_T46 l0 p27).f2)), .lit (.int .i64 ((rd_T46 l0 p27).f3))]) ?_
   refine wk_end ?_
   refine ac_next ?_
   refine aw_grp1 ?_
   refine aw_grp1 ?_
   refine wk_start ?_
   refine kv g0 (mv) ?_
   refine kv g0 (mv) ?_
   obtain ⟨c31, H⟩ := of_if H
   refine kv g0 (ixR 4 c30 (ltE c31)) ?_
   refine kv g0 (ldE (eB (rdOf false q26 p27)) (.lit (.bool (rdOf false q26 p27))) (getE (z := false) c30 c31)) ?_
   refine kv g0 (not_) ?_
   refine wk_end ?_
   refine ac_next ?_
   by_cases c32 : (rdOf false q26 p27) = true
   ·rw [if_pos c32] at H
    refine aw_ifF ?_ (nF c32)
    refine aw_skip ?_
    refine ac_next ?_
    refine aw_grp1 ?_
    refine wk_start ?_
    refine kv g0 (ldBA 4 [.lit (.int .i64 ((rd_T46 l0 p27).f0)), .lit (.int .i64 ((rd_T46 l0 p27).f1)), .lit (.int .i64 ((rd_T46 l0 p27).f2)), .lit (.int .i64 ((rd_T46 l0 p27).f3))]) ?_
    refine kv g0 (mv) ?_
    obtain ⟨t33, A34, H⟩ := of_bind H
    refine kcS1 31 (.row 3) [(3, .row 3 1 (t33.map (eI .i64)))] g0 (cal (impl_ways.ok A34) [3] 9999 .n (hf := Try.func50)) rfl rfl ?_
    refine kv g0 (lnR lenE) ?_
    refine kv g0 (mv) ?_
    refine wk_end ?_
    refine ac_next ?_
    refine aw_block ?_
    refine aw_loop2 (fun (k_ : Nat) (q39 : List Bool) (p40 : Int) => k_ ≤ k28 ∧ impl_Reached.l0 k_ l0 p27 t33 q39 p40 = some r) (fun (q39 : List Bool) (p40 : Int) => ⟨[(3, .row 1), (17, .sl .o 4 (l0.map e46)), (18, .lit (.int .i64 (l0.length : Int))), (19, .lit (.int .i64 p27)), (31, .row 3), (32, .lit (.int .i64 (t33.length : Int))), (33, .lit (.int .i64 p40))], [(1, .row 4 1 (q39.map eB)), (3, .row 3 1 (t33.map (eI .i64)))]⟩) k28 q26 0 ⟨Nat.le_refl _, H⟩ (fun K_ h_ => acw hE [(1, 1), (3, 3)] 9999 h_) (fun _ _ => by intro h_; have h_ := h_.2; rw [impl_Reached.l0.eq_1] at h_; cases h_) ?_
    intro k41 q39 p40 hq_ K46 hK47
    have hk41 := hq_.1
    have H := hq_.2
    clear hq_
    rw [impl_Reached.l0.eq_2] at H
    refine aw_grp1 ?_
    refine wk_start ?_
    refine kv g0 (lss) ?_
    refine wk_end ?_
    refine ac_next ?_
    refine aw_grp1 ?_
    by_cases c42 : p40 < (t33.length : Int)
    ·rw [if_pos c42] at H
     refine aw_ifT ?_ (decide_eq_true c42)
     refine aw_skip ?_
     refine ac_next ?_
     refine aw_grp1 ?_
     refine aw_block ?_
     refine aw_grp1 ?_
     refine wk_start ?_
     obtain ⟨c43, H⟩ := of_if H
     refine kv g0 (ixR 3 c43 (ltE c42)) ?_
     refine kv g0 (ldE (eI .i64 (rd t33 p40)) (.lit (.int .i64 (rd t33 p40))) (getE (z := (0 : Int)) c43 c42)) ?_
     refine kv g0 (asg) ?_
     refine wk_end ?_
     refine ac_next ?_
     refine wk_start ?_
     refine kv g0 (mv) ?_
     refine kv g0 (mv) ?_
     obtain ⟨c44, H⟩ := of_if H
     obtain ⟨c45, H⟩ := of_if H
     refine kv g0 (ixR 4 c44 (ltE c45)) ?_
     refine ks g0 (stE 1 (eB true) ((q39.set (rd t33 p40).toNat true).map eB) (getE (z := false) c44 c45) setE) ?_
     refine wk_end ?_
     refine ac_blkN ?_
     refine ac_next ?_
     refine wk_start ?_
     refine kv g0 (add6) ?_
     refine kv g0 (mv) ?_
     refine wk_end ?_
     refine ac_k ?_
     exact acw hE [(1, 1), (3, 3)] 9999 (hK47 k41 (q39.set (rd t33 p40).toNat true) (wrap64 (p40 + 1)) (Nat.le_refl _) ⟨by omega, H⟩)
    rw [if_neg c42] at H
    refine aw_ifF ?_ (decide_eq_false c42)
    refine aw_exit ?_
    refine ac_then ?_
    refine ac_then ?_
    refine ac_hit rfl ?_
    refine ac_blkN ?_
    refine ac_next ?_
    refine wk_start ?_
    refine kv g0 (add6) ?_
    refine kv g0 (mv) ?_
    refine wk_end ?_
    refine ac_k ?_
    exact acw hE [(1, 1)] 9999 (hK49 k41 q39 (wrap64 (p27 + 1)) (by omega) ⟨by omega, H⟩)
   rw [if_neg c32] at H
   refine aw_ifT ?_ (nT (bF c32))
   refine aw_exit ?_
   refine ac_then ?_
   refine ac_hit rfl ?_
   refine ac_next ?_
   refine wk_start ?_
   refine kv g0 (add6) ?_
   refine kv g0 (mv) ?_
   refine wk_end ?_
   refine ac_k ?_
   exact acw hE [(1, 1)] 9999 (hK49 k28 q26 (wrap64 (p27 + 1)) (Nat.le_refl _) ⟨by omega, H⟩)
  rw [if_neg c29] at H
  refine aw_ifF ?_ (decide_eq_false c29)
  refine aw_exit ?_
  refine ac_then ?_
  refine ac_then ?_
  refine ac_hit rfl ?_
  refine ac_next ?_
  refine aw_grp1 ?_
  refine wk_start ?_
  refine kv g0 (mv) ?_
  refine kv g0 (asg) ?_
  refine wk_end ?_
  refine ac_next ?_
  refine aw_ret ?_
  obtain rfl := Option.some.inj H
  exact acr hE [.tmp 2] (.tmp .nil) (.one _) [(0, 1)] 9999
 rw [if_neg c3] at H
 refine aw_ifT ?_ (nT (bF c3))
 refine aw_grp1 ?_
 refine wk_start ?_
 refine kb g0 (bsl 0 4 1 [.bool false] (([] : List Bool).map eB)) ?_
 refine kv g0 (asg) ?_
 refine wk_end ?_
 refine ac_next ?_
 refine aw_ret ?_
 refine ac_thenR ?_
 obtain rfl := Option.some.inj H
 exact acr hE [.tmp 2] (.tmp .nil) (.one _) [(0, 0)] 9999
/-! slices_Sort_int_int -/
def slices_Sort_int_int.f (l0 : List Int) : Option (List Int) := if l0.length < 4611686018427387904 then some (l0.mergeSort fun x y => decide (x ≤ y)) else none
theorem slices_Sort_int_int.ok {l0 : List Int} {r : List Int} (H : slices_Sort_int_int.f l0 = some r) : ACalls Try.prog 65 [(0, .row 3 1 (l0.map (eI .i64)))] [.row 0] [(0, .row 3 1 (r.map (eI .i64)))] (.tup []) := by
 unfold slices_Sort_int_int.f at H
 obtain ⟨h, H⟩ := of_if H
 obtain rfl := Option.some.inj H
 exact sort_calls Try.lays189 3 l0 h
/-! slices_Compact_int_int -/
def slices_Compact_int_int.f (l0 : List Int) : Option (List Int) := if l0.length ≤ 9223372036854775807 then some (Go.Lib.compact l0) else none
theorem slices_Compact_int_int.ok {l0 : List Int} {r : List Int} (H : slices_Compact_int_int.f l0 = some r) : ACalls Try.prog 66 [(0, .row 3 1 (l0.map (eI .i64)))] [.row 0] [(0, .gone), (1, .row 3 1 (r.map (eI .i64)))] (.row 1) := by
 unfold slices_Compact_int_int.f at H
 obtain ⟨h, H⟩ := of_if H
 obtain rfl := Option.some.inj H
 exact compact_calls Try.laysNm220 3 l0 h
/-! impl_numbersIn -/
def impl_numbersIn.l0 : Nat → (List S46) → Int → ((List Bool)) → (List Int) → Int → Option ((List Int))
 | 0, _, _, _, _, _ => none
 | k11 + 1, l0, a1, t1, q9, p10 => if p10 < (t1.length : Int) then if 0 ≤ p10 then if (rdOf false t1 p10) = true then (if p10 < (l0.length : Int) then if ((rd_T46 l0 p10).f0) = a1 then (if q9.length + ([(rd_T46 l0 p10).f1] : List Int).length < 17592186044416 then impl_numbersIn.l0 k11 l0 a1 t1 (q9 ++ ([(rd_T46 l0 p10).f1] : List Int)) (wrap64 (p10 + 1)) else none) else impl_numbersIn.l0 k11 l0 a1 t1 q9 (wrap64 (p10 + 1)) else none) else impl_numbersIn.l0 k11 l0 a1 t1 q9 (wrap64 (p10 + 1)) else none else (slices_Sort_int_int.f q9).bind fun t20 => (slices_Compact_int_int.f t20).bind fun t22 => some t22
def impl_numbersIn.f (k : Nat) (l0 : List S46) (a1 : Int) : Option ((List Int)) := (impl_Reached.f k l0).bind fun t1 => impl_numbersIn.l0 k l0 a1 t1 ([] : List Int) 0
theorem impl_numbersIn.ok {k : Nat} {l0 : List S46} {a1 : Int} {r : (List Int)} (H : impl_numbersIn.f k l0 a1 = some r) : ACalls Try.prog 35 [] [.sl .o 4 (l0.map e46), .lit (.int .i64 a1)] [(0, .row 3 1 (r.map (eI .i64)))] (.row 0) := by
 refine acalls (fn := Try.f35) (nt := 40) Try.func35 rfl rfl (Nat.le_of_ble_eq_true rfl) fun E hE => ?_
 rw [impl_numbersIn.f] at H
 refine aw_grp1 ?_
 refine wk_start ?_
 refine kv g0 (asg) ?_
 refine wk_end ?_
 refine ac_next ?_
 refine aw_grp1 ?_
 refine wk_start ?_
 refine kb g0 (bsl 0 3 1 [.int .i64 0] (([] : List Int).map (eI .i64))) ?_
 refine kv g0 (asg) ?_
 refine wk_end ?_
 refine ac_next ?_
 refine aw_grp1 ?_
 refine aw_grp1 ?_
 refine wk_start ?_
 refine kv g0 (mv) ?_
 obtain ⟨t1, A2, H⟩ := of_bind H
 refine kcS1 10 (.row 1) [(1, .row 4 1 (t1.map eB))] g0 (cal (impl_Reached.ok A2) [1] 9999 .n (hf := Try.func64)) rfl rfl ?_
 refine kv g0 (lnR lenE) ?_
 refine kv g0 (mv) ?_
 refine wk_end ?_
 refine ac_next ?_
 refine aw_block ?_
 refine aw_loop2 (fun (k_ : Nat) (q9 : List Int) (p10 : Int) => k_ ≤ k ∧ impl_numbersIn.l0 k_ l0 a1 t1 q9 p10 = some r) (fun (q9 : List Int) (p10 : Int) => ⟨[(0, .sl .o 4 (l0.map e46)), (1, .lit (.int .i64 a1)), (5, .row 0), (10, .row 1), (11, .lit (.int .i64 (t1.length : Int))), (12, .lit (.int .i64 p10))], [(0, .row 3 1 (q9.map (eI .i64))), (1, .row 4 1 (t1.map eB))]⟩) k ([] : List Int) 0 ⟨Nat.le_refl _, H⟩ (fun K_ h_ => acw hE [(0, 0), (1, 1)] 9999 h_) (fun _ _ => by intro h_; have h_ := h_.2; rw [impl_numbersIn.l0.eq_1] at h_; cases h_) ?_
 intro k11 q9 p10 hq_ K18 hK19
 have hk11 := hq_.1
 have H := hq_.2
 clear hq_
 rw [impl_numbersIn.l0.eq_2] at H
 refine aw_grp1 ?_
 refine wk_start ?_
 refine kv g0 (lss) ?_
 refine wk_end ?_
 refine ac_next ?_
 refine aw_grp1 ?_
 by_cases c12 : p10 < (t1.length : Int)
 ·rw [if_pos c12] at H
  refine aw_ifT ?_ (decide_eq_true c12)
  refine aw_skip ?_
  refine ac_next ?_
  refine aw_grp1 ?_
  refine aw_block ?_
  refine aw_grp1 ?_
  refine wk_start ?_
  refine kv g0 (mv) ?_
  obtain ⟨c13, H⟩ := of_if H
  refine kv g0 (ixR 4 c13 (ltE c12)) ?_
  refine kv g0 (ldE (eB (rdOf false t1 p10)) (.lit (.bool (rdOf false t1 p10))) (getE (z := false) c13 c12)) ?_
  refine kv g0 (asg) ?_
  refine kv g0 (asg) ?_
  refine wk_end ?_
  refine ac_next ?_
  refine aw_grp1 ?_
  refine wk_start ?_
  refine kv g0 (mv) ?_
  refine kv g0 (mv) ?_
  by_cases c14 : (rdOf false t1 p10) = true
  ·rw [if_pos c14] at H
   refine kv (g1 c14) (mv) ?_
   refine kv (g1 c14) (mv) ?_
   obtain ⟨c15, H⟩ := of_if H
   refine kv (g1 c14) (ixS 46 (e46 (rd_T46 l0 p10)) c13 (getE (z := z46) c13 c15)) ?_
   refine kv (g1 c14) (faR 0 0) ?_
   refine kv (g1 c14) (ldR (.lit (.int .i64 ((rd_T46 l0 p10).f0)))) ?_
   refine kv (g1 c14) (mv) ?_
   refine kv (g1 c14) (eql) ?_
   refine kv g0 (pkT c14) ?_
   refine wk_end ?_
   refine ac_next ?_
   by_cases c16 : ((rd_T46 l0 p10).f0) = a1
   ·rw [if_pos c16] at H
    refine aw_ifT ?_ (eT c16)
    refine wk_start ?_
    refine kv g0 (mv) ?_
    refine kv g0 (mv) ?_
    refine kv g0 (mv) ?_
    refine kv g0 (ixS 46 (e46 (rd_T46 l0 p10)) c13 (getE (z := z46) c13 c15)) ?_
    refine kv g0 (faR 1 1) ?_
    refine kv g0 (ldR (.lit (.int .i64 ((rd_T46 l0 p10).f1)))) ?_
    refine kb g0 (bsl 2 3 1 [.int .i64 0] (([(rd_T46 l0 p10).f1] : List Int).map (eI .i64))) ?_
    obtain ⟨c17, H⟩ := of_if H
    refine kc g0 (apR 3 3 1 8 [.int .i64 0] ((q9 ++ ([(rd_T46 l0 p10).f1] : List Int)).map (eI .i64)) (.row rfl) (apb c17 rfl) appE) ?_
    refine kv g0 (asg) ?_
    refine wk_end ?_
    refine ac_blkN ?_
    refine ac_next ?_
    refine wk_start ?_
    refine kv g0 (add6) ?_
    refine kv g0 (mv) ?_
    refine wk_end ?_
    refine ac_k ?_
    exact acw hE [(0, 3), (1, 1)] 9999 (hK19 k11 (q9 ++ ([(rd_T46 l0 p10).f1] : List Int)) (wrap64 (p10 + 1)) (Nat.le_refl _) ⟨by omega, H⟩)
   rw [if_neg c16] at H
   refine aw_ifF ?_ (eF c16)
   refine aw_skip ?_
   refine ac_blkN ?_
   refine ac_next ?_
   refine wk_start ?_
   refine kv g0 (add6) ?_
   refine kv g0 (mv) ?_
   refine wk_end ?_
   refine ac_k ?_
   exact acw hE [(0, 0), (1, 1)] 9999 (hK19 k11 q9 (wrap64 (p10 + 1)) (Nat.le_refl _) ⟨by omega, H⟩)
  rw [if_neg c14] at H
  refine kx (hT (bF c14)) ?_
  refine kx (hT (bF c14)) ?_
  refine kx (hT (bF c14)) ?_
  refine kx (hT (bF c14)) ?_
  refine kx (hT (bF c14)) ?_
  refine kx (hT (bF c14)) ?_
  refine kx (hT (bF c14)) ?_
  refine kv g0 (pkF (bF c14)) ?_
  refine wk_end ?_
  refine ac_next ?_
  refine aw_ifF ?_ rfl
  refine aw_skip ?_
  refine ac_blkN ?_
  refine ac_next ?_
  refine wk_start ?_
  refine kv g0 (add6) ?_
  refine kv g0 (mv) ?_
  refine wk_end ?_
  refine ac_k ?_
  exact acw hE [(0, 0), (1, 1)] 9999 (hK19 k11 q9 (wrap64 (p10 + 1)) (Nat.le_refl _) ⟨by omega, H⟩)
 rw [if_neg c12] at H
 refine aw_ifF ?_ (decide_eq_false c12)
 refine aw_exit ?_
 refine ac_then ?_
 refine ac_then ?_
 refine ac_hit rfl ?_
 refine ac_next ?_
 refine aw_grp1 ?_
 refine wk_start ?_
 refine kv g0 (mv) ?_
 obtain ⟨t20, A21, H⟩ := of_bind H
 refine kcS1 37 (.tup []) [(0, .row 3 1 (t20.map (eI .i64)))] g0 (cal (slices_Sort_int_int.ok A21) [0] 9999 .n (hf := Try.func65)) rfl rfl ?_
 refine wk_end ?_
 refine ac_next ?_
 refine aw_grp1 ?_
 refine wk_start ?_
 refine kv g0 (mv) ?_
 obtain ⟨t22, A23, H⟩ := of_bind H
 refine kcS2 39 (.row 4) [(0, .gone), (4, .row 3 1 (t22.map (eI .i64)))] g0 (cal (slices_Compact_int_int.ok A23) [0, 4] 9999 .n (hf := Try.func66)) rfl rfl ?_
 refine kv g0 (asg) ?_
 refine wk_end ?_
 refine ac_next ?_
 refine aw_ret ?_
 obtain rfl := Option.some.inj H
 exact acr hE [.tmp 4] (.tmp .nil) (.one _) [(0, 4)] 9999
/-! impl_FieldsRead -/
def impl_FieldsRead.f (k : Nat) (l0 : List S46) : Option ((List Int)) := (impl_numbersIn.f k l0 1).bind fun t1 => some t1
theorem impl_FieldsRead.ok {k : Nat} {l0 : List S46} {r : (List Int)} (H : impl_FieldsRead.f k l0 = some r) : ACalls Try.prog 10 [] [.sl .o 4 (l0.map e46)] [(0, .row 3 1 (r.map (eI .i64)))] (.row 0) := by
 refine acalls (fn := Try.f10) (nt := 5) Try.func10 rfl rfl (Nat.le_of_ble_eq_true rfl) fun E hE => ?_
 rw [impl_FieldsRead.f] at H
 refine aw_grp1 ?_
 refine wk_start ?_
 refine kv g0 (asg) ?_
 refine wk_end ?_
 refine ac_next ?_
 refine aw_grp1 ?_
 refine wk_start ?_
 refine kv g0 (mv) ?_
 obtain ⟨t1, A2, H⟩ := of_bind H
 refine kcS1 4 (.row 0) [(0, .row 3 1 (t1.map (eI .i64)))] g0 (cal (impl_numbersIn.ok A2) [0] 9999 .n (hf := Try.func35)) rfl rfl ?_
 refine kv g0 (asg) ?_
 refine wk_end ?_
 refine ac_next ?_
 refine aw_ret ?_
 obtain rfl := Option.some.inj H
 exact acr hE [.tmp 2] (.tmp .nil) (.one _) [(0, 0)] 9999
/-! laws_eqIntS -/
def laws_eqIntS.l0 : Nat → (List Int) → (List Int) → Int → Option (Bool)
 | 0, _, _, _ => none
 | k7 + 1, l0, l1, p6 => if p6 < (l0.length : Int) then if 0 ≤ p6 then (if p6 < (l1.length : Int) then if (rd l0 p6) = (rd l1 p6) then laws_eqIntS.l0 k7 l0 l1 (wrap64 (p6 + 1)) else some false else none) else none else some true
def laws_eqIntS.f (k : Nat) (l0 : List Int) (l1 : List Int) : Option (Bool) := if (l0.length : Int) = (l1.length : Int) then laws_eqIntS.l0 k l0 l1 0 else some false
theorem laws_eqIntS.ok {k : Nat} {l0 : List Int} {l1 : List Int} {r : Bool} (H : laws_eqIntS.f k l0 l1 = some r) : ACalls Try.prog 11 [] [.sl .o 1 (l0.map (eI .i64)), .sl .o 1 (l1.map (eI .i64))] [] (.lit (.bool r)) := by
 refine acalls (fn := Try.f11) (nt := 26) Try.func11 rfl rfl (Nat.le_of_ble_eq_true rfl) fun E hE => ?_
 rw [laws_eqIntS.f] at H
 refine aw_grp1 ?_
 refine wk_start ?_
 refine kv g0 (asg) ?_
 refine wk_end ?_
 refine ac_next ?_
 refine aw_grp1 ?_
 refine aw_grp1 ?_
 refine wk_start ?_
 refine kv g0 (mv) ?_
 refine kv g0 (lnS lenE) ?_
 refine kv g0 (mv) ?_
 refine kv g0 (lnS lenE) ?_
 refine kv g0 (neq) ?_
 refine wk_end ?_
 refine ac_next ?_
 by_cases c1 : (l0.length : Int) = (l1.length : Int)
 ·rw [if_pos c1] at H
  refine aw_ifF ?_ (eM c1)
  refine aw_skip ?_
  refine ac_next ?_
  refine aw_grp1 ?_
  refine aw_grp1 ?_
  refine wk_start ?_
  refine kv g0 (asg) ?_
  refine wk_end ?_
  refine ac_next ?_
  refine aw_block ?_
  refine aw_loop1 (fun (k_ : Nat) (p6 : Int) => k_ ≤ k ∧ laws_eqIntS.l0 k_ l0 l1 p6 = some r) (fun (p6 : Int) => ⟨[(0, .sl .o 1 (l0.map (eI .i64))), (1, .sl .o 1 (l1.map (eI .i64))), (5, .lit (.int .i64 p6))], []⟩) k 0 ⟨Nat.le_refl _, H⟩ (fun K_ h_ => acw hE [] 9999 h_) (fun _ => by intro h_; have h_ := h_.2; rw [laws_eqIntS.l0.eq_1] at h_; cases h_) ?_
  intro k7 p6 hq_ K12 hK13
  have hk7 := hq_.1
  have H := hq_.2
  clear hq_
  rw [laws_eqIntS.l0.eq_2] at H
  refine aw_grp1 ?_
  refine aw_grp1 ?_
  refine wk_start ?_
  refine kv g0 (mv) ?_
  refine kv g0 (mv) ?_
  refine kv g0 (lnS lenE) ?_
  refine kv g0 (lss) ?_
  refine wk_end ?_
  refine ac_next ?_
  by_cases c8 : p6 < (l0.length : Int)
  ·rw [if_pos c8] at H
   refine aw_ifT ?_ (decide_eq_true c8)
   refine aw_skip ?_
   refine ac_next ?_
   refine aw_grp1 ?_
   refine aw_block ?_
   refine aw_grp1 ?_
   refine wk_start ?_
   refine kv g0 (mv) ?_
   refine kv g0 (mv) ?_
   obtain ⟨c9, H⟩ := of_if H
   refine kv g0 (ixS 3 (eI .i64 (rd l0 p6)) c9 (getE (z := (0 : Int)) c9 c8)) ?_
   refine kv g0 (ldR (.lit (.int .i64 (rd l0 p6)))) ?_
   refine kv g0 (mv) ?_
   refine kv g0 (mv) ?_
   obtain ⟨c10, H⟩ := of_if H
   refine kv g0 (ixS 3 (eI .i64 (rd l1 p6)) c9 (getE (z := (0 : Int)) c9 c10)) ?_
   refine kv g0 (ldR (.lit (.int .i64 (rd l1 p6)))) ?_
   refine kv g0 (neq) ?_
   refine wk_end_draw hM (by kernel_rfl) ?_
   refine ac_next ?_
   by_cases c11 : (rd l0 p6) = (rd l1 p6)
   ·rw [if_pos c11] at H
    refine aw_ifF ?_ (eM c11)
    refine aw_skip ?_
    refine ac_blkN ?_
    refine ac_next ?_
    refine wk_start ?_
    refine kv g0 (mv) ?_
    refine kv g0 (add6) ?_
    refine kv g0 (asg) ?_
    refine wk_end ?_
    refine ac_k ?_
    exact acw hE [] 9999 (hK13 k7 (wrap64 (p6 + 1)) (Nat.le_refl _) ⟨by omega, H⟩)
   rw [if_neg c11] at H
   refine aw_ifT ?_ (eN c11)
   refine aw_grp1 ?_
   refine wk_start ?_
   refine kv g0 (asg) ?_
   refine wk_end ?_
   refine ac_next ?_
   refine aw_ret ?_
   refine ac_blkR ?_
   refine ac_thenR ?_
   refine ac_thenR ?_
   refine ac_blkR ?_
   refine ac_thenR ?_
   obtain rfl := Option.some.inj H
   exact acr hE [.tmp 4] (.tmp .nil) (.one _) [] 9999
  rw [if_neg c8] at H
  refine aw_ifF ?_ (decide_eq_false c8)
  refine aw_exit ?_
  refine ac_then ?_
  refine ac_then ?_
  refine ac_hit rfl ?_
  refine ac_next ?_
  refine aw_grp1 ?_
  refine wk_start ?_
  refine kv g0 (asg) ?_
  refine wk_end ?_
  refine ac_next ?_
  refine aw_ret ?_
  obtain rfl := Option.some.inj H
  exact acr hE [.tmp 4] (.tmp .nil) (.one _) [] 9999
 rw [if_neg c1] at H
 refine aw_ifT ?_ (eN c1)
 refine aw_grp1 ?_
 refine wk_start ?_
 refine kv g0 (asg) ?_
 refine wk_end ?_
 refine ac_next ?_
 refine aw_ret ?_
 refine ac_thenR ?_
 obtain rfl := Option.some.inj H
 exact acr hE [.tmp 4] (.tmp .nil) (.one _) [] 9999
/-! laws_eqIns -/
def laws_eqIns.f (a0_0 : Int) (a0_1 : Int) (a0_2 : Int) (a0_3 : Int) (a1_0 : Int) (a1_1 : Int) (a1_2 : Int) (a1_3 : Int) : Option (Bool) := if a0_0 = a1_0 then if a0_1 = a1_1 then if a0_2 = a1_2 then if a0_3 = a1_3 then some true else some false else some false else some false else some false
theorem laws_eqIns.ok {a0_0 : Int} {a0_1 : Int} {a0_2 : Int} {a0_3 : Int} {a1_0 : Int} {a1_1 : Int} {a1_2 : Int} {a1_3 : Int} {r : Bool} (H : laws_eqIns.f a0_0 a0_1 a0_2 a0_3 a1_0 a1_1 a1_2 a1_3 = some r) : ACalls Try.prog 36 [] [.agg [.lit (.int .i64 a0_0), .lit (.int .i64 a0_1), .lit (.int .i64 a0_2), .lit (.int .i64 a0_3)], .agg [.lit (.int .i64 a1_0), .lit (.int .i64 a1_1), .lit (.int .i64 a1_2), .lit (.int .i64 a1_3)]] [] (.lit (.bool r)) := by
 refine acalls (fn := Try.f36) (nt := 25) Try.func36 rfl rfl (Nat.le_of_ble_eq_true rfl) fun E hE => ?_
 rw [laws_eqIns.f] at H
 refine aw_grp1 ?_
 refine wk_start ?_
 refine kb g0 (bxA 0) ?_
 refine kb g0 (bxA 1) ?_
 refine kv g0 (asg) ?_
 refine wk_end ?_
 refine ac_next ?_
 refine aw_grp1 ?_
 refine aw_grp1 ?_
 refine wk_start ?_
 refine kv g0 (faB 0 0) ?_
 refine kv g0 (ldB) ?_
 refine kv g0 (faB 0 0) ?_
 refine kv g0 (ldB) ?_
 refine kv g0 (neq) ?_
 refine wk_end ?_
 refine ac_next ?_
 by_cases c1 : a0_0 = a1_0
 ·rw [if_pos c1] at H
  refine aw_ifF ?_ (eM c1)
  refine aw_skip ?_
  refine ac_next ?_
  refine aw_grp1 ?_
  refine aw_grp1 ?_
  refine wk_start ?_
  refine kv g0 (faB 1 1) ?_
  refine kv g0 (ldB) ?_
  refine kv g0 (faB 1 1) ?_
  refine kv g0 (ldB) ?_
  refine kv g0 (neq) ?_
  refine wk_end ?_
  refine ac_next ?_
  by_cases c2 : a0_1 = a1_1
  ·rw [if_pos c2] at H
   refine aw_ifF ?_ (eM c2)
   refine aw_skip ?_
   refine ac_next ?_
   refine aw_grp1 ?_
   refine aw_grp1 ?_
   refine wk_start ?_
   refine kv g0 (faB 2 2) ?_
   refine kv g0 (ldB) ?_
   refine kv g0 (faB 2 2) ?_
   refine kv g0 (ldB) ?_
   refine kv g0 (neq) ?_
   refine wk_end ?_
   refine ac_next ?_
   by_cases c3 : a0_2 = a1_2
   ·rw [if_pos c3] at H
    refine aw_ifF ?_ (eM c3)
    refine aw_skip ?_
    refine ac_next ?_
    refine aw_grp1 ?_
    refine aw_grp1 ?_
    refine wk_start ?_
    refine kv g0 (faB 3 3) ?_
    refine kv g0 (ldB) ?_
    refine kv g0 (faB 3 3) ?_
    refine kv g0 (ldB) ?_
    refine kv g0 (neq) ?_
    refine wk_end ?_
    refine ac_next ?_
    by_cases c4 : a0_3 = a1_3
    ·rw [if_pos c4] at H
     refine aw_ifF ?_ (eM c4)
     refine aw_skip ?_
     refine ac_next ?_
     refine aw_grp1 ?_
     refine wk_start ?_
     refine kv g0 (asg) ?_
     refine wk_end ?_
     refine ac_next ?_
     refine aw_ret ?_
     obtain rfl := Option.some.inj H
     exact acr hE [.tmp 4] (.tmp .nil) (.one _) [] 9999
    rw [if_neg c4] at H
    refine aw_ifT ?_ (eN c4)
    refine aw_grp1 ?_
    refine wk_start ?_
    refine kv g0 (asg) ?_
    refine wk_end ?_
    refine ac_next ?_
    refine aw_ret ?_
    refine ac_thenR ?_
    obtain rfl := Option.some.inj H
    exact acr hE [.tmp 4] (.tmp .nil) (.one _) [] 9999
   rw [if_neg c3] at H
   refine aw_ifT ?_ (eN c3)
   refine aw_grp1 ?_
   refine wk_start ?_
   refine kv g0 (asg) ?_
   refine wk_end ?_
   refine ac_next ?_
   refine aw_ret ?_
   refine ac_thenR ?_
   obtain rfl := Option.some.inj H
   exact acr hE [.tmp 4] (.tmp .nil) (.one _) [] 9999
  rw [if_neg c2] at H
  refine aw_ifT ?_ (eN c2)
  refine aw_grp1 ?_
  refine wk_start ?_
  refine kv g0 (asg) ?_
  refine wk_end ?_
  refine ac_next ?_
  refine aw_ret ?_
  refine ac_thenR ?_
  obtain rfl := Option.some.inj H
  exact acr hE [.tmp 4] (.tmp .nil) (.one _) [] 9999
 rw [if_neg c1] at H
 refine aw_ifT ?_ (eN c1)
 refine aw_grp1 ?_
 refine wk_start ?_
 refine kv g0 (asg) ?_
 refine wk_end ?_
 refine ac_next ?_
 refine aw_ret ?_
 refine ac_thenR ?_
 obtain rfl := Option.some.inj H
 exact acr hE [.tmp 4] (.tmp .nil) (.one _) [] 9999
/-! laws_eqInsS -/
def laws_eqInsS.l0 : Nat → (List S46) → (List S46) → Int → Option (Bool)
 | 0, _, _, _ => none
 | k9 + 1, l0, l1, p8 => if p8 < (l0.length : Int) then if 0 ≤ p8 then (if p8 < (l1.length : Int) then ((laws_eqIns.f ((rd_T46 l0 p8).f0) ((rd_T46 l0 p8).f1) ((rd_T46 l0 p8).f2) ((rd_T46 l0 p8).f3) ((rd_T46 l1 p8).f0) ((rd_T46 l1 p8).f1) ((rd_T46 l1 p8).f2) ((rd_T46 l1 p8).f3)).bind fun t13 => if t13 = true then laws_eqInsS.l0 k9 l0 l1 (wrap64 (p8 + 1)) else some false) else none) else none else some true
def laws_eqInsS.f (k : Nat) (l0 : List S46) (l1 : List S46) : Option (Bool) := if (l0.length : Int) = (l1.length : Int) then laws_eqInsS.l0 k l0 l1 0 else some false
theorem laws_eqInsS.ok {k : Nat} {l0 : List S46} {l1 : List S46} {r : Bool} (H : laws_eqInsS.f k l0 l1 = some r) : ACalls Try.prog 12 [] [.sl .o 4 (l0.map e46), .sl .o 4 (l1.map e46)] [] (.lit (.bool r)) := by
 refine acalls (fn := Try.f12) (nt := 27) Try.func12 rfl rfl (Nat.le_of_ble_eq_true rfl) fun E hE => ?_
 rw [laws_eqInsS.f] at H
 refine aw_grp1 ?_
 refine wk_start ?_
 refine kv g0 (asg) ?_
 refine wk_end ?_
 refine ac_next ?_
 refine aw_grp1 ?_
 refine aw_grp1 ?_
 refine wk_start ?_
 refine kv g0 (mv) ?_
 refine kv g0 (lnS lenE) ?_
 refine kv g0 (mv) ?_
 refine kv g0 (lnS lenE) ?_
 refine kv g0 (neq) ?_
 refine wk_end ?_
 refine ac_next ?_
 by_cases c1 : (l0.length : Int) = (l1.length : Int)
 ·rw [if_pos c1] at H
  refine aw_ifF ?_ (eM c1)
  refine aw_skip ?_
  refine ac_next ?_
  refine aw_grp1 ?_
  refine aw_grp1 ?_
  refine wk_start ?_
  refine kv g0 (asg) ?_
  refine wk_end ?_
  refine ac_next ?_
  refine aw_block ?_
  refine aw_loop1 (fun (k_ : Nat) (p8 : Int) => k_ ≤ k ∧ laws_eqInsS.l0 k_ l0 l1 p8 = some r) (fun (p8 : Int) => ⟨[(0, .sl .o 4 (l0.map e46)), (1, .sl .o 4 (l1.map e46)), (5, .lit (.int .i64 p8))], []⟩) k 0 ⟨Nat.le_refl _, H⟩ (fun K_ h_ => acw hE [] 9999 h_) (fun _ => by intro h_; have h_ := h_.2; rw [laws_eqInsS.l0.eq_1] at h_; cases h_) ?_
  intro k9 p8 hq_ K16 hK17
  have hk9 := hq_.1
  have H := hq_.2
  clear hq_
  rw [laws_eqInsS.l0.eq_2] at H
  refine aw_grp1 ?_
  refine aw_grp1 ?_
  refine wk_start ?_
  refine kv g0 (mv) ?_
  refine kv g0 (mv) ?_
  refine kv g0 (lnS lenE) ?_
  refine kv g0 (lss) ?_
  refine wk_end ?_
  refine ac_next ?_
  by_cases c10 : p8 < (l0.length : Int)
  ·rw [if_pos c10] at H
   refine aw_ifT ?_ (decide_eq_true c10)
   refine aw_skip ?_
   refine ac_next ?_
   refine aw_grp1 ?_
   refine aw_block ?_
   refine aw_grp1 ?_
   refine wk_start ?_
   refine kv g0 (mv) ?_
   refine kv g0 (mv) ?_
   obtain ⟨c11, H⟩ := of_if H
   refine kv g0 (ixS 46 (e46 (rd_T46 l0 p8)) c11 (getE (z := z46) c11 c10)) ?_
   refine kv g0 (ldRA 4 [.lit (.int .i64 ((rd_T46 l0 p8).f0)), .lit (.int .i64 ((rd_T46 l0 p8).f1)), .lit (.int .i64 ((rd_T46 l0 p8).f2)), .lit (.int .i64 ((rd_T46 l0 p8).f3))]) ?_
   refine kv g0 (mv) ?_
   refine kv g0 (mv) ?_
   obtain ⟨c12, H⟩ := of_if H
   refine kv g0 (ixS 46 (e46 (rd_T46 l1 p8)) c11 (getE (z := z46) c11 c12)) ?_
   refine kv g0 (ldRA 4 [.lit (.int .i64 ((rd_T46 l1 p8).f0)), .lit (.int .i64 ((rd_T46 l1 p8).f1)), .lit (.int .i64 ((rd_T46 l1 p8).f2)), .lit (.int .i64 ((rd_T46 l1 p8).f3))]) ?_
   obtain ⟨t13, A14, H⟩ := of_bind H
   refine kcS0 25 (.lit (.bool t13)) [] g0 (cal (laws_eqIns.ok A14) [] 9999 .n (hf := Try.func36)) rfl rfl ?_
   refine kv g0 (not_) ?_
   refine wk_end_draw hM (by kernel_rfl) ?_
   refine ac_next ?_
   by_cases c15 : t13 = true
   ·rw [if_pos c15] at H
    refine aw_ifF ?_ (nF c15)
    refine aw_skip ?_
    refine ac_blkN ?_
    refine ac_next ?_
    refine wk_start ?_
    refine kv g0 (mv) ?_
    refine kv g0 (add6) ?_
    refine kv g0 (asg) ?_
    refine wk_end ?_
    refine ac_k ?_
    exact acw hE [] 9999 (hK17 k9 (wrap64 (p8 + 1)) (Nat.le_refl _) ⟨by omega, H⟩)
   rw [if_neg c15] at H
   refine aw_ifT ?_ (nT (bF c15))
   refine aw_grp1 ?_
   refine wk_start ?_
   refine kv g0 (asg) ?_
   refine wk_end ?_
   refine ac_next ?_
   refine aw_ret ?_
   refine ac_blkR ?_
   refine ac_thenR ?_
   refine ac_thenR ?_
   refine ac_blkR ?_
   refine ac_thenR ?_
   obtain rfl := Option.some.inj H
   exact acr hE [.tmp 4] (.tmp .nil) (.one _) [] 9999
  rw [if_neg c10] at H
  refine aw_ifF ?_ (decide_eq_false c10)
  refine aw_exit ?_
  refine ac_then ?_
  refine ac_then ?_
  refine ac_hit rfl ?_
  refine ac_next ?_
  refine aw_grp1 ?_
  refine wk_start ?_
  refine kv g0 (asg) ?_
  refine wk_end ?_
  refine ac_next ?_
  refine aw_ret ?_
  obtain rfl := Option.some.inj H
  exact acr hE [.tmp 4] (.tmp .nil) (.one _) [] 9999
 rw [if_neg c1] at H
 refine aw_ifT ?_ (eN c1)
 refine aw_grp1 ?_
 refine wk_start ?_
 refine kv g0 (asg) ?_
 refine wk_end ?_
 refine ac_next ?_
 refine aw_ret ?_
 refine ac_thenR ?_
 obtain rfl := Option.some.inj H
 exact acr hE [.tmp 4] (.tmp .nil) (.one _) [] 9999
end Go.Proofs.Ythfflkfpmebbbaa.PFnExactFieldsRead
