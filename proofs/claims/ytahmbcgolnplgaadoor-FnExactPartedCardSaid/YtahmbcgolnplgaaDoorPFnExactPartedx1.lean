import Derived.Test.YtahmbcgolnplgaaDoorPFnExactPartedx0
set_option linter.unusedVariables false
set_option linter.unusedSimpArgs false
set_option maxRecDepth 100000
namespace Go.Proofs.YtahmbcgolnplgaaDoor.PFnExactParted
open Go Go.RowKit Go.Proofs.YtahmbcgolnplgaaDoorA
/-! laws_szEntryS -/
def laws_szEntryS.f (l0 : List S40) (a1 : Int) : Option (Int) := if (wrap64 (a1 - (l0.length : Int))) < 0 then some (-1) else some (wrap64 (a1 - (l0.length : Int)))
theorem laws_szEntryS.ok {l0 : List S40} {a1 : Int} {r : Int} (H : laws_szEntryS.f l0 a1 = some r) : ACalls Tryd.prog 4 [] [.sl .o 6 (l0.map e40), .lit (.int .i64 a1)] [] (.lit (.int .i64 r)) := by
 refine acalls (fn := Tryd.f4) (nt := 12) Tryd.func4 rfl rfl (Nat.le_of_ble_eq_true rfl) fun E hE => ?_
 rw [laws_szEntryS.f] at H
 refine aw_grp1 ?_
 refine wk_start ?_
 refine kv g0 (asg) ?_
 refine wk_end ?_
 refine ac_next ?_
 refine aw_grp1 ?_
 refine wk_start ?_
 refine kv g0 (mv) ?_
 refine kv g0 (mv) ?_
 refine kv g0 (lnS lenE) ?_
 refine kv g0 (sub6) ?_
 refine kv g0 (asg) ?_
 refine wk_end ?_
 refine ac_next ?_
 refine aw_grp1 ?_
 refine aw_grp1 ?_
 refine wk_start ?_
 refine kv g0 (mv) ?_
 refine kv g0 (lss) ?_
 refine wk_end ?_
 refine ac_next ?_
 by_cases c1 : (wrap64 (a1 - (l0.length : Int))) < 0
 ·rw [if_pos c1] at H
  refine aw_ifT ?_ (decide_eq_true c1)
  refine aw_grp1 ?_
  refine wk_start ?_
  refine kv g0 (asg) ?_
  refine wk_end ?_
  refine ac_next ?_
  refine aw_ret ?_
  refine ac_thenR ?_
  obtain rfl := Option.some.inj H
  exact acr hE [.tmp 4] (.tmp .nil) (.one _) [] 9999
 rw [if_neg c1] at H
 refine aw_ifF ?_ (decide_eq_false c1)
 refine aw_skip ?_
 refine ac_next ?_
 refine aw_grp1 ?_
 refine wk_start ?_
 refine kv g0 (mv) ?_
 refine kv g0 (asg) ?_
 refine wk_end ?_
 refine ac_next ?_
 refine aw_ret ?_
 obtain rfl := Option.some.inj H
 exact acr hE [.tmp 4] (.tmp .nil) (.one _) [] 9999
/-! laws_toItem -/
def laws_toItem.f (a0_0 : Int) (a0_1 : Int) (a0_2 : Int) (a0_3 : Int) : Option (Int × Int × Int × Int) := some (a0_0, a0_1, a0_2, a0_3)
theorem laws_toItem.ok {a0_0 : Int} {a0_1 : Int} {a0_2 : Int} {a0_3 : Int} {r : Int × Int × Int × Int} (H : laws_toItem.f a0_0 a0_1 a0_2 a0_3 = some r) : ACalls Tryd.prog 21 [] [.agg [.lit (.int .i64 a0_0), .lit (.int .i64 a0_1), .lit (.int .i64 a0_2), .lit (.int .i64 a0_3)]] [] (.agg [.lit (.int .i64 r.1), .lit (.int .i64 r.2.1), .lit (.int .i64 r.2.2.1), .lit (.int .i64 r.2.2.2)]) := by
 refine acalls (fn := Tryd.f21) (nt := 17) Tryd.func21 rfl rfl (Nat.le_of_ble_eq_true rfl) fun E hE => ?_
 rw [laws_toItem.f] at H
 refine aw_grp1 ?_
 refine wk_start ?_
 refine kb g0 (bxA 0) ?_
 refine kb g0 (alc 1 [.int .i64 0, .int .i64 0, .int .i64 0, .int .i64 0] [.lit (.int .i64 0), .lit (.int .i64 0), .lit (.int .i64 0), .lit (.int .i64 0)]) ?_
 refine wk_end ?_
 refine ac_next ?_
 refine aw_grp1 ?_
 refine wk_start ?_
 refine kb g0 (alc 2 [.int .i64 0, .int .i64 0, .int .i64 0, .int .i64 0] [.lit (.int .i64 0), .lit (.int .i64 0), .lit (.int .i64 0), .lit (.int .i64 0)]) ?_
 refine wk_end ?_
 refine ac_next ?_
 refine aw_grp1 ?_
 refine wk_start ?_
 refine kv g0 (faB 0 0) ?_
 refine kv g0 (ldB) ?_
 refine kv g0 (faB 0 0) ?_
 refine ks g0 (stB 1 [.lit (.int .i64 a0_0), .lit (.int .i64 0), .lit (.int .i64 0), .lit (.int .i64 0)]) ?_
 refine wk_end ?_
 refine ac_next ?_
 refine aw_grp1 ?_
 refine wk_start ?_
 refine kv g0 (faB 1 1) ?_
 refine kv g0 (ldB) ?_
 refine kv g0 (faB 1 1) ?_
 refine ks g0 (stB 1 [.lit (.int .i64 a0_0), .lit (.int .i64 a0_1), .lit (.int .i64 0), .lit (.int .i64 0)]) ?_
 refine wk_end ?_
 refine ac_next ?_
 refine aw_grp1 ?_
 refine wk_start ?_
 refine kv g0 (faB 2 2) ?_
 refine kv g0 (ldB) ?_
 refine kv g0 (faB 2 2) ?_
 refine ks g0 (stB 1 [.lit (.int .i64 a0_0), .lit (.int .i64 a0_1), .lit (.int .i64 a0_2), .lit (.int .i64 0)]) ?_
 refine wk_end ?_
 refine ac_next ?_
 refine aw_grp1 ?_
 refine wk_start ?_
 refine kv g0 (faB 3 3) ?_
 refine kv g0 (ldB) ?_
 refine kv g0 (faB 3 3) ?_
 refine ks g0 (stB 1 [.lit (.int .i64 a0_0), .lit (.int .i64 a0_1), .lit (.int .i64 a0_2), .lit (.int .i64 a0_3)]) ?_
 refine wk_end ?_
 refine ac_next ?_
 refine aw_grp1 ?_
 refine wk_start ?_
 refine kv g0 (ldBA 4 [.lit (.int .i64 a0_0), .lit (.int .i64 a0_1), .lit (.int .i64 a0_2), .lit (.int .i64 a0_3)]) ?_
 refine ks g0 (stB 4 [.lit (.int .i64 a0_0), .lit (.int .i64 a0_1), .lit (.int .i64 a0_2), .lit (.int .i64 a0_3)]) ?_
 refine wk_end ?_
 refine ac_next ?_
 refine aw_ret ?_
 obtain rfl := Option.some.inj H
 exact acr hE [.cell 2 33] (rcA 4 .nil) (.one _) [] 9999
/-! laws_toEntry -/
def laws_toEntry.f (a0_0 : Int) (a0_1 : Int) (a0_2 : Int) (a0_3 : Int) (a0_4 : Int) (a0_5 : Int) : Option (Int × Int × Int × Int × Int × Int) := (laws_toItem.f a0_2 a0_3 a0_4 a0_5).bind fun t1 => some (a0_0, a0_1, t1.1, t1.2.1, t1.2.2.1, t1.2.2.2)
theorem laws_toEntry.ok {a0_0 : Int} {a0_1 : Int} {a0_2 : Int} {a0_3 : Int} {a0_4 : Int} {a0_5 : Int} {r : Int × Int × Int × Int × Int × Int} (H : laws_toEntry.f a0_0 a0_1 a0_2 a0_3 a0_4 a0_5 = some r) : ACalls Tryd.prog 12 [] [.agg [.lit (.int .i64 a0_0), .lit (.int .i64 a0_1), .lit (.int .i64 a0_2), .lit (.int .i64 a0_3), .lit (.int .i64 a0_4), .lit (.int .i64 a0_5)]] [] (.agg [.lit (.int .i64 r.1), .lit (.int .i64 r.2.1), .lit (.int .i64 r.2.2.1), .lit (.int .i64 r.2.2.2.1), .lit (.int .i64 r.2.2.2.2.1), .lit (.int .i64 r.2.2.2.2.2)]) := by
 refine acalls (fn := Tryd.f12) (nt := 15) Tryd.func12 rfl rfl (Nat.le_of_ble_eq_true rfl) fun E hE => ?_
 rw [laws_toEntry.f] at H
 refine aw_grp1 ?_
 refine wk_start ?_
 refine kb g0 (bxA 0) ?_
 refine kb g0 (alc 1 [.int .i64 0, .int .i64 0, .int .i64 0, .int .i64 0, .int .i64 0, .int .i64 0] [.lit (.int .i64 0), .lit (.int .i64 0), .lit (.int .i64 0), .lit (.int .i64 0), .lit (.int .i64 0), .lit (.int .i64 0)]) ?_
 refine wk_end ?_
 refine ac_next ?_
 refine aw_grp1 ?_
 refine wk_start ?_
 refine kb g0 (alc 2 [.int .i64 0, .int .i64 0, .int .i64 0, .int .i64 0, .int .i64 0, .int .i64 0] [.lit (.int .i64 0), .lit (.int .i64 0), .lit (.int .i64 0), .lit (.int .i64 0), .lit (.int .i64 0), .lit (.int .i64 0)]) ?_
 refine wk_end ?_
 refine ac_next ?_
 refine aw_grp1 ?_
 refine wk_start ?_
 refine kv g0 (faB 0 0) ?_
 refine kv g0 (ldB) ?_
 refine kv g0 (faB 0 0) ?_
 refine ks g0 (stB 1 [.lit (.int .i64 a0_0), .lit (.int .i64 0), .lit (.int .i64 0), .lit (.int .i64 0), .lit (.int .i64 0), .lit (.int .i64 0)]) ?_
 refine wk_end ?_
 refine ac_next ?_
 refine aw_grp1 ?_
 refine wk_start ?_
 refine kv g0 (faB 1 1) ?_
 refine kv g0 (ldB) ?_
 refine kv g0 (faB 1 1) ?_
 refine ks g0 (stB 1 [.lit (.int .i64 a0_0), .lit (.int .i64 a0_1), .lit (.int .i64 0), .lit (.int .i64 0), .lit (.int .i64 0), .lit (.int .i64 0)]) ?_
 refine wk_end ?_
 refine ac_next ?_
 refine aw_grp1 ?_
 refine wk_start ?_
 refine kv g0 (faB 2 2) ?_
 refine kv g0 (ldBA 4 [.lit (.int .i64 a0_2), .lit (.int .i64 a0_3), .lit (.int .i64 a0_4), .lit (.int .i64 a0_5)]) ?_
 obtain ⟨t1, A2, H⟩ := of_bind H
 refine kcS0 12 (.agg [.lit (.int .i64 t1.1), .lit (.int .i64 t1.2.1), .lit (.int .i64 t1.2.2.1), .lit (.int .i64 t1.2.2.2)]) [] g0 (cal (laws_toItem.ok A2) [] 9999 .n (hf := Tryd.func21)) rfl rfl ?_
 refine kv g0 (faB 2 2) ?_
 refine ks g0 (stB 4 [.lit (.int .i64 a0_0), .lit (.int .i64 a0_1), .lit (.int .i64 t1.1), .lit (.int .i64 t1.2.1), .lit (.int .i64 t1.2.2.1), .lit (.int .i64 t1.2.2.2)]) ?_
 refine wk_end ?_
 refine ac_next ?_
 refine aw_grp1 ?_
 refine wk_start ?_
 refine kv g0 (ldBA 6 [.lit (.int .i64 a0_0), .lit (.int .i64 a0_1), .lit (.int .i64 t1.1), .lit (.int .i64 t1.2.1), .lit (.int .i64 t1.2.2.1), .lit (.int .i64 t1.2.2.2)]) ?_
 refine ks g0 (stB 6 [.lit (.int .i64 a0_0), .lit (.int .i64 a0_1), .lit (.int .i64 t1.1), .lit (.int .i64 t1.2.1), .lit (.int .i64 t1.2.2.1), .lit (.int .i64 t1.2.2.2)]) ?_
 refine wk_end ?_
 refine ac_next ?_
 refine aw_ret ?_
 obtain rfl := Option.some.inj H
 exact acr hE [.cell 2 35] (rcA 6 .nil) (.one _) [] 9999
/-! laws_toEntryS -/
def laws_toEntryS.l0 : Nat → (List S40) → (List S35) → Int → Option ((List S35))
 | 0, _, _, _ => none
 | k10 + 1, l0, q8, p9 => if p9 < (l0.length : Int) then if 0 ≤ p9 then ((laws_toEntry.f ((rd_T40 l0 p9).f0) ((rd_T40 l0 p9).f1) ((rd_T40 l0 p9).f2.f0) ((rd_T40 l0 p9).f2.f1) ((rd_T40 l0 p9).f2.f2) ((rd_T40 l0 p9).f2.f3)).bind fun t13 => (if p9 < (q8.length : Int) then laws_toEntryS.l0 k10 l0 (q8.set p9.toNat (⟨t13.1, t13.2.1, (⟨t13.2.2.1, t13.2.2.2.1, t13.2.2.2.2.1, t13.2.2.2.2.2⟩ : S33)⟩ : S35)) (wrap64 (p9 + 1)) else none)) else none else some q8
def laws_toEntryS.f (k : Nat) (l0 : List S40) : Option ((List S35)) := if 0 ≤ (l0.length : Int) then (if (l0.length : Int).toNat ≤ 5864062014805 then laws_toEntryS.l0 k l0 (List.replicate (l0.length : Int).toNat z35) 0 else none) else none
theorem laws_toEntryS.ok {k : Nat} {l0 : List S40} {r : (List S35)} (H : laws_toEntryS.f k l0 = some r) : ACalls Tryd.prog 6 [] [.sl .o 6 (l0.map e40)] [(0, .row 35 6 (r.map e35))] (.row 0) := by
 refine acalls (fn := Tryd.f6) (nt := 23) Tryd.func6 rfl rfl (Nat.le_of_ble_eq_true rfl) fun E hE => ?_
 rw [laws_toEntryS.f] at H
 refine aw_grp1 ?_
 refine wk_start ?_
 refine kv g0 (asg) ?_
 refine wk_end ?_
 refine ac_next ?_
 refine aw_grp1 ?_
 refine wk_start ?_
 refine kv g0 (mv) ?_
 refine kv g0 (lnS lenE) ?_
 obtain ⟨c1, H⟩ := of_if H
 obtain ⟨c2, H⟩ := of_if H
 refine kb g0 (mks 0 35 6 48 [.int .i64 0, .int .i64 0, .int .i64 0, .int .i64 0, .int .i64 0, .int .i64 0] (e35 z35) ((List.replicate (l0.length : Int).toNat z35).map e35) c1 (mkb c2 rfl) repE) ?_
 refine kv g0 (asg) ?_
 refine wk_end ?_
 refine ac_next ?_
 refine aw_grp1 ?_
 refine aw_grp1 ?_
 refine wk_start ?_
 refine kv g0 (asg) ?_
 refine wk_end ?_
 refine ac_next ?_
 refine aw_block ?_
 refine aw_loop2 (fun (k_ : Nat) (q8 : List S35) (p9 : Int) => k_ ≤ k ∧ laws_toEntryS.l0 k_ l0 q8 p9 = some r) (fun (q8 : List S35) (p9 : Int) => ⟨[(0, .sl .o 6 (l0.map e40)), (3, .row 0), (4, .lit (.int .i64 p9))], [(0, .row 35 6 (q8.map e35))]⟩) k (List.replicate (l0.length : Int).toNat z35) 0 ⟨Nat.le_refl _, H⟩ (fun K_ h_ => acw hE [(0, 0)] 9999 h_) (fun _ _ => by intro h_; have h_ := h_.2; rw [laws_toEntryS.l0.eq_1] at h_; cases h_) ?_
 intro k10 q8 p9 hq_ K16 hK17
 have hk10 := hq_.1
 have H := hq_.2
 clear hq_
 rw [laws_toEntryS.l0.eq_2] at H
 refine aw_grp1 ?_
 refine aw_grp1 ?_
 refine wk_start ?_
 refine kv g0 (mv) ?_
 refine kv g0 (mv) ?_
 refine kv g0 (lnS lenE) ?_
 refine kv g0 (lss) ?_
 refine wk_end ?_
 refine ac_next ?_
 by_cases c11 : p9 < (l0.length : Int)
 ·rw [if_pos c11] at H
  refine aw_ifT ?_ (decide_eq_true c11)
  refine aw_skip ?_
  refine ac_next ?_
  refine aw_grp1 ?_
  refine aw_block ?_
  refine wk_start ?_
  refine kv g0 (mv) ?_
  refine kv g0 (mv) ?_
  refine kv g0 (mv) ?_
  refine kv g0 (mv) ?_
  obtain ⟨c12, H⟩ := of_if H
  refine kv g0 (ixS 40 (e40 (rd_T40 l0 p9)) c12 (getE (z := z40) c12 c11)) ?_
  refine kv g0 (ldRA 6 [.lit (.int .i64 ((rd_T40 l0 p9).f0)), .lit (.int .i64 ((rd_T40 l0 p9).f1)), .lit (.int .i64 ((rd_T40 l0 p9).f2.f0)), .lit (.int .i64 ((rd_T40 l0 p9).f2.f1)), .lit (.int .i64 ((rd_T40 l0 p9).f2.f2)), .lit (.int .i64 ((rd_T40 l0 p9).f2.f3))]) ?_
  obtain ⟨t13, A14, H⟩ := of_bind H
  refine kcS0 20 (.agg [.lit (.int .i64 t13.1), .lit (.int .i64 t13.2.1), .lit (.int .i64 t13.2.2.1), .lit (.int .i64 t13.2.2.2.1), .lit (.int .i64 t13.2.2.2.2.1), .lit (.int .i64 t13.2.2.2.2.2)]) [] g0 (cal (laws_toEntry.ok A14) [] 9999 .n (hf := Tryd.func12)) rfl rfl ?_
  obtain ⟨c15, H⟩ := of_if H
  refine kv g0 (ixR 35 c12 (ltE c15)) ?_
  refine ks g0 (stE 6 (e35 (⟨t13.1, t13.2.1, (⟨t13.2.2.1, t13.2.2.2.1, t13.2.2.2.2.1, t13.2.2.2.2.2⟩ : S33)⟩ : S35)) ((q8.set p9.toNat (⟨t13.1, t13.2.1, (⟨t13.2.2.1, t13.2.2.2.1, t13.2.2.2.2.1, t13.2.2.2.2.2⟩ : S33)⟩ : S35)).map e35) (getE (z := z35) c12 c15) setE) ?_
  refine wk_end ?_
  refine ac_blkN ?_
  refine ac_next ?_
  refine wk_start ?_
  refine kv g0 (mv) ?_
  refine kv g0 (add6) ?_
  refine kv g0 (asg) ?_
  refine wk_end ?_
  refine ac_k ?_
  exact acw hE [(0, 0)] 9999 (hK17 k10 (q8.set p9.toNat (⟨t13.1, t13.2.1, (⟨t13.2.2.1, t13.2.2.2.1, t13.2.2.2.2.1, t13.2.2.2.2.2⟩ : S33)⟩ : S35)) (wrap64 (p9 + 1)) (Nat.le_refl _) ⟨by omega, H⟩)
 rw [if_neg c11] at H
 refine aw_ifF ?_ (decide_eq_false c11)
 refine aw_exit ?_
 refine ac_then ?_
 refine ac_then ?_
 refine ac_hit rfl ?_
 refine ac_next ?_
 refine aw_grp1 ?_
 refine wk_start ?_
 refine kv g0 (mv) ?_
 refine kv g0 (asg) ?_
 refine wk_end ?_
 refine ac_next ?_
 refine aw_ret ?_
 obtain rfl := Option.some.inj H
 exact acr hE [.tmp 2] (.tmp .nil) (.one _) [(0, 0)] 9999
/-! spec_l03First -/
def spec_l03First.f  : Option ((List Int)) := some ([1779033703, 3144134277, 1013904242, 2773480762, 1359893119, 2600822924, 528734635, 1541459225] : List Int)
theorem spec_l03First.ok {r : (List Int)} (H : spec_l03First.f = some r) : ACalls Tryd.prog 17 [] [] [] (.agg (r.map (eI .u32))) := by
 refine acalls (fn := Tryd.f17) (nt := 2) Tryd.func17 rfl rfl (Nat.le_of_ble_eq_true rfl) fun E hE => ?_
 rw [spec_l03First.f] at H
 refine aw_grp1 ?_
 refine wk_start ?_
 refine kb g0 (alc 0 [.int .u32 0, .int .u32 0, .int .u32 0, .int .u32 0, .int .u32 0, .int .u32 0, .int .u32 0, .int .u32 0] ((List.replicate 8 (0 : Int)).map (eI .u32))) ?_
 refine wk_end ?_
 refine ac_next ?_
 refine aw_grp1 ?_
 refine wk_start ?_
 refine kv g0 (bldX 8 [.int .u32 0, .int .u32 0, .int .u32 0, .int .u32 0, .int .u32 0, .int .u32 0, .int .u32 0, .int .u32 0] (([1779033703, 3144134277, 1013904242, 2773480762, 1359893119, 2600822924, 528734635, 1541459225] : List Int).map (eI .u32))) ?_
 refine ks g0 (stXA List.length_replicate rfl) ?_
 refine wk_end ?_
 refine ac_next ?_
 refine aw_ret ?_
 obtain rfl := Option.some.inj H
 exact acr hE [.cell 0 49] (rcX rfl .nil) (.one _) [] 9999 (hx := renA)
/-! spec_l03Keys -/
def spec_l03Keys.f  : Option ((List Int)) := some ([1116352408, 1899447441, 3049323471, 3921009573, 961987163, 1508970993, 2453635748, 2870763221, 3624381080, 310598401, 607225278, 1426881987, 1925078388, 2162078206, 2614888103, 3248222580, 3835390401, 4022224774, 264347078, 604807628, 770255983, 1249150122, 1555081692, 1996064986, 2554220882, 2821834349, 2952996808, 3210313671, 3336571891, 3584528711, 113926993, 338241895, 666307205, 773529912, 1294757372, 1396182291, 1695183700, 1986661051, 2177026350, 2456956037, 2730485921, 2820302411, 3259730800, 3345764771, 3516065817, 3600352804, 4094571909, 275423344, 430227734, 506948616, 659060556, 883997877, 958139571, 1322822218, 1537002063, 1747873779, 1955562222, 2024104815, 2227730452, 2361852424, 2428436474, 2756734187, 3204031479, 3329325298] : List Int)
theorem spec_l03Keys.ok {r : (List Int)} (H : spec_l03Keys.f = some r) : ACalls Tryd.prog 18 [] [] [] (.agg (r.map (eI .u32))) := by
 refine acalls (fn := Tryd.f18) (nt := 2) Tryd.func18 rfl rfl (Nat.le_of_ble_eq_true rfl) fun E hE => ?_
 rw [spec_l03Keys.f] at H
 refine aw_grp1 ?_
 refine wk_start ?_
 refine kb g0 (alc 0 [.int .u32 0, .int .u32 0, .int .u32 0, .int .u32 0, .int .u32 0, .int .u32 0, .int .u32 0, .int .u32 0, .int .u32 0, .int .u32 0, .int .u32 0, .int .u32 0, .int .u32 0, .int .u32 0, .int .u32 0, .int .u32 0, .int .u32 0, .int .u32 0, .int .u32 0, .int .u32 0, .int .u32 0, .int .u32 0, .int .u32 0, .int .u32 0, .int .u32 0, .int .u32 0, .int .u32 0, .int .u32 0, .int .u32 0, .int .u32 0, .int .u32 0, .int .u32 0, .int .u32 0, .int .u32 0, .int .u32 0, .int .u32 0, .int .u32 0, .int .u32 0, .int .u32 0, .int .u32 0, .int .u32 0, .int .u32 0, .int .u32 0, .int .u32 0, .int .u32 0, .int .u32 0, .int .u32 0, .int .u32 0, .int .u32 0, .int .u32 0, .int .u32 0, .int .u32 0, .int .u32 0, .int .u32 0, .int .u32 0, .int .u32 0, .int .u32 0, .int .u32 0, .int .u32 0, .int .u32 0, .int .u32 0, .int .u32 0, .int .u32 0, .int .u32 0] ((List.replicate 64 (0 : Int)).map (eI .u32))) ?_
 refine wk_end ?_
 refine ac_next ?_
 refine aw_grp1 ?_
 refine wk_start ?_
 refine kv g0 (bldX 64 [.int .u32 0, .int .u32 0, .int .u32 0, .int .u32 0, .int .u32 0, .int .u32 0, .int .u32 0, .int .u32 0, .int .u32 0, .int .u32 0, .int .u32 0, .int .u32 0, .int .u32 0, .int .u32 0, .int .u32 0, .int .u32 0, .int .u32 0, .int .u32 0, .int .u32 0, .int .u32 0, .int .u32 0, .int .u32 0, .int .u32 0, .int .u32 0, .int .u32 0, .int .u32 0, .int .u32 0, .int .u32 0, .int .u32 0, .int .u32 0, .int .u32 0, .int .u32 0, .int .u32 0, .int .u32 0, .int .u32 0, .int .u32 0, .int .u32 0, .int .u32 0, .int .u32 0, .int .u32 0, .int .u32 0, .int .u32 0, .int .u32 0, .int .u32 0, .int .u32 0, .int .u32 0, .int .u32 0, .int .u32 0, .int .u32 0, .int .u32 0, .int .u32 0, .int .u32 0, .int .u32 0, .int .u32 0, .int .u32 0, .int .u32 0, .int .u32 0, .int .u32 0, .int .u32 0, .int .u32 0, .int .u32 0, .int .u32 0, .int .u32 0, .int .u32 0] (([1116352408, 1899447441, 3049323471, 3921009573, 961987163, 1508970993, 2453635748, 2870763221, 3624381080, 310598401, 607225278, 1426881987, 1925078388, 2162078206, 2614888103, 3248222580, 3835390401, 4022224774, 264347078, 604807628, 770255983, 1249150122, 1555081692, 1996064986, 2554220882, 2821834349, 2952996808, 3210313671, 3336571891, 3584528711, 113926993, 338241895, 666307205, 773529912, 1294757372, 1396182291, 1695183700, 1986661051, 2177026350, 2456956037, 2730485921, 2820302411, 3259730800, 3345764771, 3516065817, 3600352804, 4094571909, 275423344, 430227734, 506948616, 659060556, 883997877, 958139571, 1322822218, 1537002063, 1747873779, 1955562222, 2024104815, 2227730452, 2361852424, 2428436474, 2756734187, 3204031479, 3329325298] : List Int).map (eI .u32))) ?_
 refine ks g0 (stXA List.length_replicate rfl) ?_
 refine wk_end ?_
 refine ac_next ?_
 refine aw_ret ?_
 obtain rfl := Option.some.inj H
 exact acr hE [.cell 0 51] (rcX rfl .nil) (.one _) [] 9999 (hx := renA)
/-! spec_PadText -/
mutual
def spec_PadText.l0 : Nat → ByteArray → (List Int) → Option (ByteArray)
 | 0, _, _ => none
 | k7 + 1, a0, q6 => if ((q6.length : Int).tmod 64) = 56 then spec_PadText.l1 k7 a0 q6 7 else if q6.length + ([0] : List Int).length < 140737488355328 then spec_PadText.l0 k7 a0 (q6 ++ ([0] : List Int)) else none
def spec_PadText.l1 : Nat → ByteArray → (List Int) → Int → Option (ByteArray)
 | 0, _, _, _ => none
 | k17 + 1, a0, q15, p16 => if p16 ≥ 0 then if 0 ≤ (IntKind.u64.wrap (8 * (IntKind.u64.wrap p16))) then (if q15.length + ([IntKind.u8.wrap ((wrap64 (8 * (a0.size : Int))).fdiv (2 ^ (min (IntKind.u64.wrap (8 * (IntKind.u64.wrap p16))).toNat (IntKind.i64).bits)))] : List Int).length < 140737488355328 then spec_PadText.l1 k17 a0 (q15 ++ ([IntKind.u8.wrap ((wrap64 (8 * (a0.size : Int))).fdiv (2 ^ (min (IntKind.u64.wrap (8 * (IntKind.u64.wrap p16))).toNat (IntKind.i64).bits)))] : List Int)) (wrap64 (p16 - 1)) else none) else none else some (strOfNums q15)
end
def spec_PadText.f (k : Nat) (a0 : ByteArray) : Option (ByteArray) := if a0.size ≤ 140737488352256 then if (bytesOf a0).length + ([128] : List Int).length < 140737488355328 then spec_PadText.l0 k a0 ((bytesOf a0) ++ ([128] : List Int)) else none else none
theorem spec_PadText.ok {k : Nat} {a0 : ByteArray} {r : ByteArray} (H : spec_PadText.f k a0 = some r) : ACalls Tryd.prog 19 [] [.lit (.string a0)] [] (.lit (.string r)) := by
 refine acalls (fn := Tryd.f19) (nt := 36) Tryd.func19 rfl rfl (Nat.le_of_ble_eq_true rfl) fun E hE => ?_
 rw [spec_PadText.f] at H
 refine aw_grp1 ?_
 refine wk_start ?_
 refine kv g0 (asg) ?_
 refine wk_end ?_
 refine ac_next ?_
 refine aw_grp1 ?_
 refine wk_start ?_
 refine kv g0 (mv) ?_
 obtain ⟨c1, H⟩ := of_if H
 refine kb g0 (cvS 0 c1) ?_
 refine kv g0 (asg) ?_
 refine wk_end ?_
 refine ac_next ?_
 refine aw_grp1 ?_
 refine wk_start ?_
 refine kv g0 (mv) ?_
 refine kb g0 (bsl 1 5 1 [.int .u8 0] (([128] : List Int).map (eI .u8))) ?_
 obtain ⟨c2, H⟩ := of_if H
 refine kc g0 (apR 2 5 1 1 [.int .u8 0] (((bytesOf a0) ++ ([128] : List Int)).map (eI .u8)) (.row rfl) (apb c2 rfl) appE) ?_
 refine kv g0 (asg) ?_
 refine wk_end ?_
 refine ac_next ?_
 refine aw_grp1 ?_
 refine aw_block ?_
 refine aw_loop1 (fun (k_ : Nat) (q6 : List Int) => k_ ≤ k ∧ spec_PadText.l0 k_ a0 q6 = some r) (fun (q6 : List Int) => ⟨[(0, .lit (.string a0)), (3, .row 2)], [(2, .row 5 1 (q6.map (eI .u8)))]⟩) k ((bytesOf a0) ++ ([128] : List Int)) ⟨Nat.le_refl _, H⟩ (fun K_ h_ => acw hE [(2, 2)] 9999 h_) (fun _ => by intro h_; have h_ := h_.2; rw [spec_PadText.l0.eq_1] at h_; cases h_) ?_
 intro k7 q6 hq_ K10 hK11
 have hk7 := hq_.1
 have H := hq_.2
 clear hq_
 rw [spec_PadText.l0.eq_2] at H
 refine aw_grp1 ?_
 refine aw_grp1 ?_
 refine wk_start ?_
 refine kv g0 (mv) ?_
 refine kv g0 (lnR lenE) ?_
 refine kv g0 (rem (by decide : (64 : Int) ≠ 0)) ?_
 refine kv g0 (neq) ?_
 refine wk_end ?_
 refine ac_next ?_
 by_cases c8 : ((q6.length : Int).tmod 64) = 56
 ·rw [if_pos c8] at H
  refine aw_ifF ?_ (eM c8)
  refine aw_exit ?_
  refine ac_then ?_
  refine ac_then ?_
  refine ac_hit rfl ?_
  refine ac_next ?_
  refine aw_grp1 ?_
  refine wk_start ?_
  refine kv g0 (mv) ?_
  refine kv g0 (lnT) ?_
  refine kv g0 (mul6) ?_
  refine kv g0 (asg) ?_
  refine wk_end ?_
  refine ac_next ?_
  refine aw_grp1 ?_
  refine aw_grp1 ?_
  refine wk_start ?_
  refine kv g0 (asg) ?_
  refine wk_end ?_
  refine ac_next ?_
  refine aw_block ?_
  refine aw_loop2 (fun (k_ : Nat) (q15 : List Int) (p16 : Int) => k_ ≤ k7 ∧ spec_PadText.l1 k_ a0 q15 p16 = some r) (fun (q15 : List Int) (p16 : Int) => ⟨[(3, .row 2), (4, .lit (.int .i64 (wrap64 (8 * (a0.size : Int))))), (5, .lit (.int .i64 p16))], [(2, .row 5 1 (q15.map (eI .u8)))]⟩) k7 q6 7 ⟨Nat.le_refl _, H⟩ (fun K_ h_ => acw hE [(2, 2)] 9999 h_) (fun _ _ => by intro h_; have h_ := h_.2; rw [spec_PadText.l1.eq_1] at h_; cases h_) ?_
  intro k17 q15 p16 hq_ K21 hK22
  have hk17 := hq_.1
  have H := hq_.2
  clear hq_
  rw [spec_PadText.l1.eq_2] at H
  refine aw_grp1 ?_
  refine aw_grp1 ?_
  refine wk_start ?_
  refine kv g0 (mv) ?_
  refine kv g0 (geq) ?_
  refine wk_end ?_
  refine ac_next ?_
  by_cases c18 : p16 ≥ 0
  ·rw [if_pos c18] at H
   refine aw_ifT ?_ (decide_eq_true c18)
   refine aw_skip ?_
   refine ac_next ?_
   refine aw_grp1 ?_
   refine aw_block ?_
   refine wk_start ?_
   refine kv g0 (mv) ?_
   refine kv g0 (mv) ?_
   refine kv g0 (mv) ?_
   refine kv g0 (cnv .u64) ?_
   refine kv g0 (mul) ?_
   obtain ⟨c19, H⟩ := of_if H
   refine kv g0 (shr c19) ?_
   refine kv g0 (cnv .u8) ?_
   refine kb g0 (bsl 5 5 1 [.int .u8 0] (([IntKind.u8.wrap ((wrap64 (8 * (a0.size : Int))).fdiv (2 ^ (min (IntKind.u64.wrap (8 * (IntKind.u64.wrap p16))).toNat (IntKind.i64).bits)))] : List Int).map (eI .u8))) ?_
   obtain ⟨c20, H⟩ := of_if H
   refine kc g0 (apR 6 5 1 1 [.int .u8 0] ((q15 ++ ([IntKind.u8.wrap ((wrap64 (8 * (a0.size : Int))).fdiv (2 ^ (min (IntKind.u64.wrap (8 * (IntKind.u64.wrap p16))).toNat (IntKind.i64).bits)))] : List Int)).map (eI .u8)) (.row rfl) (apb c20 rfl) appE) ?_
   refine kv g0 (asg) ?_
   refine wk_end ?_
   refine ac_blkN ?_
   refine ac_next ?_
   refine wk_start ?_
   refine kv g0 (mv) ?_
   refine kv g0 (sub6) ?_
   refine kv g0 (asg) ?_
   refine wk_end ?_
   refine ac_k ?_
   exact acw hE [(2, 6)] 9999 (hK22 k17 (q15 ++ ([IntKind.u8.wrap ((wrap64 (8 * (a0.size : Int))).fdiv (2 ^ (min (IntKind.u64.wrap (8 * (IntKind.u64.wrap p16))).toNat (IntKind.i64).bits)))] : List Int)) (wrap64 (p16 - 1)) (Nat.le_refl _) ⟨by omega, H⟩)
  rw [if_neg c18] at H
  refine aw_ifF ?_ (decide_eq_false c18)
  refine aw_exit ?_
  refine ac_then ?_
  refine ac_then ?_
  refine ac_hit rfl ?_
  refine ac_next ?_
  refine aw_grp1 ?_
  refine wk_start ?_
  refine kv g0 (mv) ?_
  refine kv g0 (cvB (.row rfl)) ?_
  refine kv g0 (asg) ?_
  refine wk_end ?_
  refine ac_next ?_
  refine aw_ret ?_
  obtain rfl := Option.some.inj H
  exact acr hE [.tmp 2] (.tmp .nil) (.one _) [] 9999
 rw [if_neg c8] at H
 refine aw_ifT ?_ (eN c8)
 refine aw_skip ?_
 refine ac_next ?_
 refine aw_block ?_
 refine wk_start ?_
 refine kv g0 (mv) ?_
 refine kb g0 (bsl 3 5 1 [.int .u8 0] (([0] : List Int).map (eI .u8))) ?_
 obtain ⟨c9, H⟩ := of_if H
 refine kc g0 (apR 4 5 1 1 [.int .u8 0] ((q6 ++ ([0] : List Int)).map (eI .u8)) (.row rfl) (apb c9 rfl) appE) ?_
 refine kv g0 (asg) ?_
 refine wk_end ?_
 refine ac_blkN ?_
 refine ac_k ?_
 exact acw hE [(2, 4)] 9999 (hK11 k7 (q6 ++ ([0] : List Int)) (Nat.le_refl _) ⟨by omega, H⟩)
/-! spec_l03Turn -/
def spec_l03Turn.f (a0 : Int) (a1 : Int) : Option (Int) := if 0 ≤ a1 then (if 0 ≤ (IntKind.u64.wrap (32 - a1)) then some (bits .or .u32 (a0.fdiv (2 ^ (min a1.toNat (IntKind.u32).bits))) (IntKind.u32.wrap (a0 * 2 ^ (min (IntKind.u64.wrap (32 - a1)).toNat (IntKind.u32).bits)))) else none) else none
theorem spec_l03Turn.ok {a0 : Int} {a1 : Int} {r : Int} (H : spec_l03Turn.f a0 a1 = some r) : ACalls Tryd.prog 32 [] [.lit (.int .u32 a0), .lit (.int .u64 a1)] [] (.lit (.int .u32 r)) := by
 refine acalls (fn := Tryd.f32) (nt := 13) Tryd.func32 rfl rfl (Nat.le_of_ble_eq_true rfl) fun E hE => ?_
 rw [spec_l03Turn.f] at H
 refine aw_grp1 ?_
 refine wk_start ?_
 refine kv g0 (asg) ?_
 refine wk_end ?_
 refine ac_next ?_
 refine aw_grp1 ?_
 refine wk_start ?_
 refine kv g0 (mv) ?_
 refine kv g0 (mv) ?_
 obtain ⟨c1, H⟩ := of_if H
 refine kv g0 (shr c1) ?_
 refine kv g0 (mv) ?_
 refine kv g0 (mv) ?_
 refine kv g0 (sub) ?_
 obtain ⟨c2, H⟩ := of_if H
 refine kv g0 (shl c2) ?_
 refine kv g0 (bor) ?_
 refine kv g0 (asg) ?_
 refine wk_end ?_
 refine ac_next ?_
 refine aw_ret ?_
 obtain rfl := Option.some.inj H
 exact acr hE [.tmp 4] (.tmp .nil) (.one _) [] 9999
/-! spec_l03Block -/
mutual
def spec_l03Block.l0 : Nat → (List Int) → ByteArray → (List Int) → (List Int) → Int → Option ((List Int))
 | 0, _, _, _, _, _ => none
 | k13 + 1, a0, a1, a2, q11, p12 => if p12 < 16 then if 0 ≤ (wrap64 (4 * p12)) then (if (wrap64 (4 * p12)) < (a1.size : Int) then (if 0 ≤ (wrap64 ((wrap64 (4 * p12)) + 1)) then (if (wrap64 ((wrap64 (4 * p12)) + 1)) < (a1.size : Int) then (if 0 ≤ (wrap64 ((wrap64 (4 * p12)) + 2)) then (if (wrap64 ((wrap64 (4 * p12)) + 2)) < (a1.size : Int) then (if 0 ≤ (wrap64 ((wrap64 (4 * p12)) + 3)) then (if (wrap64 ((wrap64 (4 * p12)) + 3)) < (a1.size : Int) then (if 0 ≤ p12 then (if p12 < 64 then (if p12 < (q11.length : Int) then spec_l03Block.l0 k13 a0 a1 a2 (q11.set p12.toNat (bits .or .u32 (bits .or .u32 (bits .or .u32 (IntKind.u32.wrap ((IntKind.u32.wrap (bt a1 (wrap64 (4 * p12)))) * 2 ^ 24)) (IntKind.u32.wrap ((IntKind.u32.wrap (bt a1 (wrap64 ((wrap64 (4 * p12)) + 1)))) * 2 ^ 16))) (IntKind.u32.wrap ((IntKind.u32.wrap (bt a1 (wrap64 ((wrap64 (4 * p12)) + 2)))) * 2 ^ 8))) (IntKind.u32.wrap (bt a1 (wrap64 ((wrap64 (4 * p12)) + 3)))))) (wrap64 (p12 + 1)) else none) else none) else none) else none) else none) else none) else none) else none) else none) else none) else none else spec_l03Block.l1 k13 a0 a2 q11 16
def spec_l03Block.l1 : Nat → (List Int) → (List Int) → (List Int) → Int → Option ((List Int))
 | 0, _, _, _, _ => none
 | k52 + 1, a0, a2, q50, p51 => if p51 < 64 then if 0 ≤ (wrap64 (p51 - 15)) then (if (wrap64 (p51 - 15)) < 64 then (if (wrap64 (p51 - 15)) < (q50.length : Int) then ((spec_l03Turn.f (rd q50 (wrap64 (p51 - 15))) 7).bind fun t57 => ((spec_l03Turn.f (rd q50 (wrap64 (p51 - 15))) 18).bind fun t59 => if 0 ≤ (wrap64 (p51 - 2)) then (if (wrap64 (p51 - 2)) < 64 then (if (wrap64 (p51 - 2)) < (q50.length : Int) then ((spec_l03Turn.f (rd q50 (wrap64 (p51 - 2))) 17).bind fun t64 => ((spec_l03Turn.f (rd q50 (wrap64 (p51 - 2))) 19).bind fun t66 => if 0 ≤ (wrap64 (p51 - 16)) then (if (wrap64 (p51 - 16)) < 64 then (if (wrap64 (p51 - 16)) < (q50.length : Int) then (if 0 ≤ (wrap64 (p51 - 7)) then (if (wrap64 (p51 - 7)) < 64 then (if (wrap64 (p51 - 7)) < (q50.length : Int) then (if 0 ≤ p51 then (if p51 < (q50.length : Int) then spec_l03Block.l1 k52 a0 a2 (q50.set p51.toNat (IntKind.u32.wrap ((IntKind.u32.wrap ((IntKind.u32.wrap ((rd q50 (wrap64 (p51 - 16))) + (bits .xor .u32 (bits .xor .u32 t57 t59) ((rd q50 (wrap64 (p51 - 15))).fdiv (2 ^ 3))))) + (rd q50 (wrap64 (p51 - 7))))) + (bits .xor .u32 (bits .xor .u32 t64 t66) ((rd q50 (wrap64 (p51 - 2))).fdiv (2 ^ 10)))))) (wrap64 (p51 + 1)) else none) else none) else none) else none) else none) else none) else none) else none)) else none) else none) else none)) else none) else none) else none else if a0.length = 8 then spec_l03Block.l2 k52 a0 a2 q50 a0 0 else none
def spec_l03Block.l2 : Nat → (List Int) → (List Int) → (List Int) → (List Int) → Int → Option ((List Int))
 | 0, _, _, _, _, _ => none
 | k104 + 1, a0, a2, q50, q102, p103 => if p103 < 64 then if 4 < (q102.length : Int) then ((spec_l03Turn.f (rd q102 4) 6).bind fun t107 => ((spec_l03Turn.f (rd q102 4) 11).bind fun t109 => ((spec_l03Turn.f (rd q102 4) 25).bind fun t111 => if 5 < (q102.length : Int) then (if 6 < (q102.length : Int) then if 7 < (q102.length : Int) then (if 0 ≤ p103 then (if p103 < (a2.length : Int) then (if p103 < (q50.length : Int) then if 0 < (q102.length : Int) then ((spec_l03Turn.f (rd q102 0) 2).bind fun t120 => ((spec_l03Turn.f (rd q102 0) 13).bind fun t122 => ((spec_l03Turn.f (rd q102 0) 22).bind fun t124 => if 1 < (q102.length : Int) then (if 2 < (q102.length : Int) then if 3 < (q102.length : Int) then spec_l03Block.l2 k104 a0 a2 q50 ((((((((q102.set 7 (rd q102 6)).set 6 (rd (q102.set 7 (rd q102 6)) 5)).set 5 (rd ((q102.set 7 (rd q102 6)).set 6 (rd (q102.set 7 (rd q102 6)) 5)) 4)).set 4 (IntKind.u32.wrap ((rd (((q102.set 7 (rd q102 6)).set 6 (rd (q102.set 7 (rd q102 6)) 5)).set 5 (rd ((q102.set 7 (rd q102 6)).set 6 (rd (q102.set 7 (rd q102 6)) 5)) 4)) 3) + (IntKind.u32.wrap ((IntKind.u32.wrap ((IntKind.u32.wrap ((IntKind.u32.wrap ((rd q102 7) + (bits .xor .u32 (bits .xor .u32 t107 t109) t111))) + (bits .xor .u32 (bits .and .u32 (rd q102 4) (rd q102 5)) (bits .and .u32 (bits .xor .u32 (rd q102 4) 4294967295) (rd q102 6))))) + (rd a2 p103))) + (rd q50 p103)))))).set 3 (rd ((((q102.set 7 (rd q102 6)).set 6 (rd (q102.set 7 (rd q102 6)) 5)).set 5 (rd ((q102.set 7 (rd q102 6)).set 6 (rd (q102.set 7 (rd q102 6)) 5)) 4)).set 4 (IntKind.u32.wrap ((rd (((q102.set 7 (rd q102 6)).set 6 (rd (q102.set 7 (rd q102 6)) 5)).set 5 (rd ((q102.set 7 (rd q102 6)).set 6 (rd (q102.set 7 (rd q102 6)) 5)) 4)) 3) + (IntKind.u32.wrap ((IntKind.u32.wrap ((IntKind.u32.wrap ((IntKind.u32.wrap ((rd q102 7) + (bits .xor .u32 (bits .xor .u32 t107 t109) t111))) + (bits .xor .u32 (bits .and .u32 (rd q102 4) (rd q102 5)) (bits .and .u32 (bits .xor .u32 (rd q102 4) 4294967295) (rd q102 6))))) + (rd a2 p103))) + (rd q50 p103)))))) 2)).set 2 (rd (((((q102.set 7 (rd q102 6)).set 6 (rd (q102.set 7 (rd q102 6)) 5)).set 5 (rd ((q102.set 7 (rd q102 6)).set 6 (rd (q102.set 7 (rd q102 6)) 5)) 4)).set 4 (IntKind.u32.wrap ((rd (((q102.set 7 (rd q102 6)).set 6 (rd (q102.set 7 (rd q102 6)) 5)).set 5 (rd ((q102.set 7 (rd q102 6)).set 6 (rd (q102.set 7 (rd q102 6)) 5)) 4)) 3) + (IntKind.u32.wrap ((IntKind.u32.wrap ((IntKind.u32.wrap ((IntKind.u32.wrap ((rd q102 7) + (bits .xor .u32 (bits .xor .u32 t107 t109) t111))) + (bits .xor .u32 (bits .and .u32 (rd q102 4) (rd q102 5)) (bits .and .u32 (bits .xor .u32 (rd q102 4) 4294967295) (rd q102 6))))) + (rd a2 p103))) + (rd q50 p103)))))).set 3 (rd ((((q102.set 7 (rd q102 6)).set 6 (rd (q102.set 7 (rd q102 6)) 5)).set 5 (rd ((q102.set 7 (rd q102 6)).set 6 (rd (q102.set 7 (rd q102 6)) 5)) 4)).set 4 (IntKind.u32.wrap ((rd (((q102.set 7 (rd q102 6)).set 6 (rd (q102.set 7 (rd q102 6)) 5)).set 5 (rd ((q102.set 7 (rd q102 6)).set 6 (rd (q102.set 7 (rd q102 6)) 5)) 4)) 3) + (IntKind.u32.wrap ((IntKind.u32.wrap ((IntKind.u32.wrap ((IntKind.u32.wrap ((rd q102 7) + (bits .xor .u32 (bits .xor .u32 t107 t109) t111))) + (bits .xor .u32 (bits .and .u32 (rd q102 4) (rd q102 5)) (bits .and .u32 (bits .xor .u32 (rd q102 4) 4294967295) (rd q102 6))))) + (rd a2 p103))) + (rd q50 p103)))))) 2)) 1)).set 1 (rd ((((((q102.set 7 (rd q102 6)).set 6 (rd (q102.set 7 (rd q102 6)) 5)).set 5 (rd ((q102.set 7 (rd q102 6)).set 6 (rd (q102.set 7 (rd q102 6)) 5)) 4)).set 4 (IntKind.u32.wrap ((rd (((q102.set 7 (rd q102 6)).set 6 (rd (q102.set 7 (rd q102 6)) 5)).set 5 (rd ((q102.set 7 (rd q102 6)).set 6 (rd (q102.set 7 (rd q102 6)) 5)) 4)) 3) + (IntKind.u32.wrap ((IntKind.u32.wrap ((IntKind.u32.wrap ((IntKind.u32.wrap ((rd q102 7) + (bits .xor .u32 (bits .xor .u32 t107 t109) t111))) + (bits .xor .u32 (bits .and .u32 (rd q102 4) (rd q102 5)) (bits .and .u32 (bits .xor .u32 (rd q102 4) 4294967295) (rd q102 6))))) + (rd a2 p103))) + (rd q50 p103)))))).set 3 (rd ((((q102.set 7 (rd q102 6)).set 6 (rd (q102.set 7 (rd q102 6)) 5)).set 5 (rd ((q102.set 7 (rd q102 6)).set 6 (rd (q102.set 7 (rd q102 6)) 5)) 4)).set 4 (IntKind.u32.wrap ((rd (((q102.set 7 (rd q102 6)).set 6 (rd (q102.set 7 (rd q102 6)) 5)).set 5 (rd ((q102.set 7 (rd q102 6)).set 6 (rd (q102.set 7 (rd q102 6)) 5)) 4)) 3) + (IntKind.u32.wrap ((IntKind.u32.wrap ((IntKind.u32.wrap ((IntKind.u32.wrap ((rd q102 7) + (bits .xor .u32 (bits .xor .u32 t107 t109) t111))) + (bits .xor .u32 (bits .and .u32 (rd q102 4) (rd q102 5)) (bits .and .u32 (bits .xor .u32 (rd q102 4) 4294967295) (rd q102 6))))) + (rd a2 p103))) + (rd q50 p103)))))) 2)).set 2 (rd (((((q102.set 7 (rd q102 6)).set 6 (rd (q102.set 7 (rd q102 6)) 5)).set 5 (rd ((q102.set 7 (rd q102 6)).set 6 (rd (q102.set 7 (rd q102 6)) 5)) 4)).set 4 (IntKind.u32.wrap ((rd (((q102.set 7 (rd q102 6)).set 6 (rd (q102.set 7 (rd q102 6)) 5)).set 5 (rd ((q102.set 7 (rd q102 6)).set 6 (rd (q102.set 7 (rd q102 6)) 5)) 4)) 3) + (IntKind.u32.wrap ((IntKind.u32.wrap ((IntKind.u32.wrap ((IntKind.u32.wrap ((rd q102 7) + (bits .xor .u32 (bits .xor .u32 t107 t109) t111))) + (bits .xor .u32 (bits .and .u32 (rd q102 4) (rd q102 5)) (bits .and .u32 (bits .xor .u32 (rd q102 4) 4294967295) (rd q102 6))))) + (rd a2 p103))) + (rd q50 p103)))))).set 3 (rd ((((q102.set 7 (rd q102 6)).set 6 (rd (q102.set 7 (rd q102 6)) 5)).set 5 (rd ((q102.set 7 (rd q102 6)).set 6 (rd (q102.set 7 (rd q102 6)) 5)) 4)).set 4 (IntKind.u32.wrap ((rd (((q102.set 7 (rd q102 6)).set 6 (rd (q102.set 7 (rd q102 6)) 5)).set 5 (rd ((q102.set 7 (rd q102 6)).set 6 (rd (q102.set 7 (rd q102 6)) 5)) 4)) 3) + (IntKind.u32.wrap ((IntKind.u32.wrap ((IntKind.u32.wrap ((IntKind.u32.wrap ((rd q102 7) + (bits .xor .u32 (bits .xor .u32 t107 t109) t111))) + (bits .xor .u32 (bits .and .u32 (rd q102 4) (rd q102 5)) (bits .and .u32 (bits .xor .u32 (rd q102 4) 4294967295) (rd q102 6))))) + (rd a2 p103))) + (rd q50 p103)))))) 2)) 1)) 0)).set 0 (IntKind.u32.wrap ((IntKind.u32.wrap ((IntKind.u32.wrap ((IntKind.u32.wrap ((IntKind.u32.wrap ((rd q102 7) + (bits .xor .u32 (bits .xor .u32 t107 t109) t111))) + (bits .xor .u32 (bits .and .u32 (rd q102 4) (rd q102 5)) (bits .and .u32 (bits .xor .u32 (rd q102 4) 4294967295) (rd q102 6))))) + (rd a2 p103))) + (rd q50 p103))) + (IntKind.u32.wrap ((bits .xor .u32 (bits .xor .u32 t120 t122) t124) + (bits .xor .u32 (bits .xor .u32 (bits .and .u32 (rd q102 0) (rd q102 1)) (bits .and .u32 (rd q102 0) (rd q102 2))) (bits .and .u32 (rd q102 1) (rd q102 2)))))))) (wrap64 (p103 + 1)) else none else none) else none))) else none else none) else none) else none) else none else none) else none))) else none else spec_l03Block.l3 k104 q102 a0 0
def spec_l03Block.l3 : Nat → (List Int) → (List Int) → Int → Option ((List Int))
 | 0, _, _, _ => none
 | k136 + 1, q102, q134, p135 => if p135 < 8 then if 0 ≤ p135 then (if p135 < (q134.length : Int) then (if p135 < (q102.length : Int) then spec_l03Block.l3 k136 q102 (q134.set p135.toNat (IntKind.u32.wrap ((rd q134 p135) + (rd q102 p135)))) (wrap64 (p135 + 1)) else none) else none) else none else if q134.length = 8 then (if (List.replicate 8 (0 : Int)).length = 8 then some q134 else none) else none
end
def spec_l03Block.f (k : Nat) (a0 : List Int) (a1 : ByteArray) (a2 : List Int) : Option ((List Int)) := spec_l03Block.l0 k a0 a1 a2 (List.replicate 64 (0 : Int)) 0
theorem spec_l03Block.ok {k : Nat} {a0 : List Int} {a1 : ByteArray} {a2 : List Int} {r : (List Int)} (H : spec_l03Block.f k a0 a1 a2 = some r) : ACalls Tryd.prog 20 [] [.agg (a0.map (eI .u32)), .lit (.string a1), .agg (a2.map (eI .u32))] [] (.agg (r.map (eI .u32))) := by
 refine acalls (fn := Tryd.f20) (nt := 224) Tryd.func20 rfl rfl (Nat.le_of_ble_eq_true rfl) fun E hE => ?_
 rw [spec_l03Block.f] at H
 refine aw_grp1 ?_
 refine wk_start ?_
 refine kb g0 (bxA 0) ?_
 refine kb g0 (bxA 1) ?_
 refine kb g0 (alc 2 [.int .u32 0, .int .u32 0, .int .u32 0, .int .u32 0, .int .u32 0, .int .u32 0, .int .u32 0, .int .u32 0] ((List.replicate 8 (0 : Int)).map (eI .u32))) ?_
 refine wk_end ?_
 refine ac_next ?_
 refine aw_grp1 ?_
 refine wk_start ?_
 refine kv g0 (bldX 64 [.int .u32 0, .int .u32 0, .int .u32 0, .int .u32 0, .int .u32 0, .int .u32 0, .int .u32 0, .int .u32 0, .int .u32 0, .int .u32 0, .int .u32 0, .int .u32 0, .int .u32 0, .int .u32 0, .int .u32 0, .int .u32 0, .int .u32 0, .int .u32 0, .int .u32 0, .int .u32 0, .int .u32 0, .int .u32 0, .int .u32 0, .int .u32 0, .int .u32 0, .int .u32 0, .int .u32 0, .int .u32 0, .int .u32 0, .int .u32 0, .int .u32 0, .int .u32 0, .int .u32 0, .int .u32 0, .int .u32 0, .int .u32 0, .int .u32 0, .int .u32 0, .int .u32 0, .int .u32 0, .int .u32 0, .int .u32 0, .int .u32 0, .int .u32 0, .int .u32 0, .int .u32 0, .int .u32 0, .int .u32 0, .int .u32 0, .int .u32 0, .int .u32 0, .int .u32 0, .int .u32 0, .int .u32 0, .int .u32 0, .int .u32 0, .int .u32 0, .int .u32 0, .int .u32 0, .int .u32 0, .int .u32 0, .int .u32 0, .int .u32 0, .int .u32 0] ((List.replicate 64 (0 : Int)).map (eI .u32))) ?_
 refine kb g0 (alc 3 [.int .u32 0, .int .u32 0, .int .u32 0, .int .u32 0, .int .u32 0, .int .u32 0, .int .u32 0, .int .u32 0, .int .u32 0, .int .u32 0, .int .u32 0, .int .u32 0, .int .u32 0, .int .u32 0, .int .u32 0, .int .u32 0, .int .u32 0, .int .u32 0, .int .u32 0, .int .u32 0, .int .u32 0, .int .u32 0, .int .u32 0, .int .u32 0, .int .u32 0, .int .u32 0, .int .u32 0, .int .u32 0, .int .u32 0, .int .u32 0, .int .u32 0, .int .u32 0, .int .u32 0, .int .u32 0, .int .u32 0, .int .u32 0, .int .u32 0, .int .u32 0, .int .u32 0, .int .u32 0, .int .u32 0, .int .u32 0, .int .u32 0, .int .u32 0, .int .u32 0, .int .u32 0, .int .u32 0, .int .u32 0, .int .u32 0, .int .u32 0, .int .u32 0, .int .u32 0, .int .u32 0, .int .u32 0, .int .u32 0, .int .u32 0, .int .u32 0, .int .u32 0, .int .u32 0, .int .u32 0, .int .u32 0, .int .u32 0, .int .u32 0, .int .u32 0] ((List.replicate 64 (0 : Int)).map (eI .u32))) ?_
 refine ks g0 (stXA List.length_replicate List.length_replicate) ?_
 refine wk_end ?_
 refine ac_next ?_
 refine aw_grp1 ?_
 refine aw_grp1 ?_
 refine wk_start ?_
 refine kv g0 (asg) ?_
 refine wk_end ?_
 refine ac_next ?_
 refine aw_block ?_
 refine aw_loop2 (fun (k_ : Nat) (q11 : List Int) (p12 : Int) => k_ ≤ k ∧ spec_l03Block.l0 k_ a0 a1 a2 q11 p12 = some r) (fun (q11 : List Int) (p12 : Int) => ⟨[(1, .lit (.string a1)), (3, .box 0 0), (5, .box 1 0), (6, .box 2 0), (7, .box 3 0), (8, .lit (.int .i64 p12))], [(0, .box 49 (a0.map (eI .u32))), (1, .box 51 (a2.map (eI .u32))), (2, .box 49 ((List.replicate 8 (0 : Int)).map (eI .u32))), (3, .box 51 (q11.map (eI .u32)))]⟩) k (List.replicate 64 (0 : Int)) 0 ⟨Nat.le_refl _, H⟩ (fun K_ h_ => acw hE [(0, 0), (1, 1), (2, 2), (3, 3)] 9999 h_) (fun _ _ => by intro h_; have h_ := h_.2; rw [spec_l03Block.l0.eq_1] at h_; cases h_) ?_
 intro k13 q11 p12 hq_ K26 hK27
 have hk13 := hq_.1
 have H := hq_.2
 clear hq_
 rw [spec_l03Block.l0.eq_2] at H
 refine aw_grp1 ?_
 refine aw_grp1 ?_
 refine wk_start ?_
 refine kv g0 (mv) ?_
 refine kv g0 (lss) ?_
 refine wk_end ?_
 refine ac_next ?_
 by_cases c14 : p12 < 16
 ·rw [if_pos c14] at H
  refine aw_ifT ?_ (decide_eq_true c14)
  refine aw_skip ?_
  refine ac_next ?_
  refine aw_grp1 ?_
  refine aw_block ?_
  refine wk_start ?_
  refine kv g0 (mv) ?_
  refine kv g0 (mv) ?_
  refine kv g0 (mv) ?_
  refine kv g0 (mul6) ?_
  obtain ⟨c15, H⟩ := of_if H
  obtain ⟨c16, H⟩ := of_if H
  refine kv g0 (ixT c15 c16) ?_
  refine kv g0 (cnv .u32) ?_
  refine kv g0 (shl (by decide : (0 : Int) ≤ 24)) ?_
  refine kv g0 (mv) ?_
  refine kv g0 (mv) ?_
  refine kv g0 (mul6) ?_
  refine kv g0 (add6) ?_
  obtain ⟨c17, H⟩ := of_if H
  obtain ⟨c18, H⟩ := of_if H
  refine kv g0 (ixT c17 c18) ?_
  refine kv g0 (cnv .u32) ?_
  refine kv g0 (shl (by decide : (0 : Int) ≤ 16)) ?_
  refine kv g0 (bor) ?_
  refine kv g0 (mv) ?_
  refine kv g0 (mv) ?_
  refine kv g0 (mul6) ?_
  refine kv g0 (add6) ?_
  obtain ⟨c19, H⟩ := of_if H
  obtain ⟨c20, H⟩ := of_if H
  refine kv g0 (ixT c19 c20) ?_
  refine kv g0 (cnv .u32) ?_
  refine kv g0 (shl (by decide : (0 : Int) ≤ 8)) ?_
  refine kv g0 (bor) ?_
  refine kv g0 (mv) ?_
  refine kv g0 (mv) ?_
  refine kv g0 (mul6) ?_
  refine kv g0 (add6) ?_
  obtain ⟨c21, H⟩ := of_if H
  obtain ⟨c22, H⟩ := of_if H
  refine kv g0 (ixT c21 c22) ?_
  refine kv g0 (cnv .u32) ?_
  refine kv g0 (bor) ?_
  obtain ⟨c23, H⟩ := of_if H
  obtain ⟨c24, H⟩ := of_if H
  obtain ⟨c25, H⟩ := of_if H
  refine kv g0 (ixX 64 c23 c24) ?_
  refine ks g0 (stX (e := bits .or .u32 (bits .or .u32 (bits .or .u32 (IntKind.u32.wrap ((IntKind.u32.wrap (bt a1 (wrap64 (4 * p12)))) * 2 ^ 24)) (IntKind.u32.wrap ((IntKind.u32.wrap (bt a1 (wrap64 ((wrap64 (4 * p12)) + 1)))) * 2 ^ 16))) (IntKind.u32.wrap ((IntKind.u32.wrap (bt a1 (wrap64 ((wrap64 (4 * p12)) + 2)))) * 2 ^ 8))) (IntKind.u32.wrap (bt a1 (wrap64 ((wrap64 (4 * p12)) + 3))))) c23 c25 rfl) ?_
  refine wk_end_draw hM (by kernel_rfl) ?_
  refine ac_blkN ?_
  refine ac_next ?_
  refine wk_start ?_
  refine kv g0 (mv) ?_
  refine kv g0 (add6) ?_
  refine kv g0 (asg) ?_
  refine wk_end ?_
  refine ac_k ?_
  exact acw hE [(0, 0), (1, 1), (2, 2), (3, 3)] 9999 (hK27 k13 (q11.set p12.toNat (bits .or .u32 (bits .or .u32 (bits .or .u32 (IntKind.u32.wrap ((IntKind.u32.wrap (bt a1 (wrap64 (4 * p12)))) * 2 ^ 24)) (IntKind.u32.wrap ((IntKind.u32.wrap (bt a1 (wrap64 ((wrap64 (4 * p12)) + 1)))) * 2 ^ 16))) (IntKind.u32.wrap ((IntKind.u32.wrap (bt a1 (wrap64 ((wrap64 (4 * p12)) + 2)))) * 2 ^ 8))) (IntKind.u32.wrap (bt a1 (wrap64 ((wrap64 (4 * p12)) + 3)))))) (wrap64 (p12 + 1)) (Nat.le_refl _) ⟨by omega, H⟩)
 rw [if_neg c14] at H
 refine aw_ifF ?_ (decide_eq_false c14)
 refine aw_exit ?_
 refine ac_then ?_
 refine ac_then ?_
 refine ac_hit rfl ?_
 refine ac_next ?_
 refine aw_grp1 ?_
 refine aw_grp1 ?_
 refine wk_start ?_
 refine kv g0 (asg) ?_
 refine wk_end ?_
 refine ac_next ?_
 refine aw_block ?_
 refine aw_loop2 (fun (k_ : Nat) (q50 : List Int) (p51 : Int) => k_ ≤ k13 ∧ spec_l03Block.l1 k_ a0 a2 q50 p51 = some r) (fun (q50 : List Int) (p51 : Int) => ⟨[(3, .box 0 0), (5, .box 1 0), (6, .box 2 0), (7, .box 3 0), (9, .lit (.int .i64 p51))], [(0, .box 49 (a0.map (eI .u32))), (1, .box 51 (a2.map (eI .u32))), (2, .box 49 ((List.replicate 8 (0 : Int)).map (eI .u32))), (3, .box 51 (q50.map (eI .u32)))]⟩) k13 q11 16 ⟨Nat.le_refl _, H⟩ (fun K_ h_ => acw hE [(0, 0), (1, 1), (2, 2), (3, 3)] 9999 h_) (fun _ _ => by intro h_; have h_ := h_.2; rw [spec_l03Block.l1.eq_1] at h_; cases h_) ?_
 intro k52 q50 p51 hq_ K76 hK77
 have hk52 := hq_.1
 have H := hq_.2
 clear hq_
 rw [spec_l03Block.l1.eq_2] at H
 refine aw_grp1 ?_
 refine aw_grp1 ?_
 refine wk_start ?_
 refine kv g0 (mv) ?_
 refine kv g0 (lss) ?_
 refine wk_end ?_
 refine ac_next ?_
 by_cases c53 : p51 < 64
 ·rw [if_pos c53] at H
  refine aw_ifT ?_ (decide_eq_true c53)
  refine aw_skip ?_
  refine ac_next ?_
  refine aw_grp1 ?_
  refine aw_block ?_
  refine aw_grp1 ?_
  refine wk_start ?_
  refine kv g0 (mv) ?_
  refine kv g0 (sub6) ?_
  obtain ⟨c54, H⟩ := of_if H
  obtain ⟨c55, H⟩ := of_if H
  obtain ⟨c56, H⟩ := of_if H
  refine kv g0 (ixX 64 c54 c55) ?_
  refine kv g0 (ldX (z := (0 : Int)) c54 c56 (.lit (.int .u32 (rd q50 (wrap64 (p51 - 15))))) rfl) ?_
  obtain ⟨t57, A58, H⟩ := of_bind H
  refine kcS0 65 (.lit (.int .u32 t57)) [] g0 (cal (spec_l03Turn.ok A58) [] 9999 .n (hf := Tryd.func32)) rfl rfl ?_
  refine kv g0 (mv) ?_
  refine kv g0 (sub6) ?_
  refine kv g0 (ixX 64 c54 c55) ?_
  refine kv g0 (ldX (z := (0 : Int)) c54 c56 (.lit (.int .u32 (rd q50 (wrap64 (p51 - 15))))) rfl) ?_
  obtain ⟨t59, A60, H⟩ := of_bind H
  refine kcS0 70 (.lit (.int .u32 t59)) [] g0 (cal (spec_l03Turn.ok A60) [] 9999 .n (hf := Tryd.func32)) rfl rfl ?_
  refine kv g0 (bxor) ?_
  refine kv g0 (mv) ?_
  refine kv g0 (sub6) ?_
  refine kv g0 (ixX 64 c54 c55) ?_
  refine kv g0 (ldX (z := (0 : Int)) c54 c56 (.lit (.int .u32 (rd q50 (wrap64 (p51 - 15))))) rfl) ?_
  refine kv g0 (shr (by decide : (0 : Int) ≤ 3)) ?_
  refine kv g0 (bxor) ?_
  refine kv g0 (asg) ?_
  refine wk_end_draw hM (by kernel_rfl) ?_
  refine ac_next ?_
  refine aw_grp1 ?_
  refine wk_start ?_
  refine kv g0 (mv) ?_
  refine kv g0 (sub6) ?_
  obtain ⟨c61, H⟩ := of_if H
  obtain ⟨c62, H⟩ := of_if H
  obtain ⟨c63, H⟩ := of_if H
  refine kv g0 (ixX 64 c61 c62) ?_
  refine kv g0 (ldX (z := (0 : Int)) c61 c63 (.lit (.int .u32 (rd q50 (wrap64 (p51 - 2))))) rfl) ?_
  obtain ⟨t64, A65, H⟩ := of_bind H
  refine kcS0 82 (.lit (.int .u32 t64)) [] g0 (cal (spec_l03Turn.ok A65) [] 9999 .n (hf := Tryd.func32)) rfl rfl ?_
  refine kv g0 (mv) ?_
  refine kv g0 (sub6) ?_
  refine kv g0 (ixX 64 c61 c62) ?_
  refine kv g0 (ldX (z := (0 : Int)) c61 c63 (.lit (.int .u32 (rd q50 (wrap64 (p51 - 2))))) rfl) ?_
  obtain ⟨t66, A67, H⟩ := of_bind H
  refine kcS0 87 (.lit (.int .u32 t66)) [] g0 (cal (spec_l03Turn.ok A67) [] 9999 .n (hf := Tryd.func32)) rfl rfl ?_
  refine kv g0 (bxor) ?_
  refine kv g0 (mv) ?_
  refine kv g0 (sub6) ?_
  refine kv g0 (ixX 64 c61 c62) ?_
  refine kv g0 (ldX (z := (0 : Int)) c61 c63 (.lit (.int .u32 (rd q50 (wrap64 (p51 - 2))))) rfl) ?_
  refine kv g0 (shr (by decide : (0 : Int) ≤ 10)) ?_
  refine kv g0 (bxor) ?_
  refine kv g0 (asg) ?_
  refine wk_end_draw hM (by kernel_rfl) ?_
  refine ac_next ?_
  refine wk_start ?_
  refine kv g0 (mv) ?_
  refine kv g0 (mv) ?_
  refine kv g0 (sub6) ?_
  obtain ⟨c68, H⟩ := of_if H
  obtain ⟨c69, H⟩ := of_if H
  obtain ⟨c70, H⟩ := of_if H
  refine kv g0 (ixX 64 c68 c69) ?_
  refine kv g0 (ldX (z := (0 : Int)) c68 c70 (.lit (.int .u32 (rd q50 (wrap64 (p51 - 16))))) rfl) ?_
  refine kv g0 (mv) ?_
  refine kv g0 (add) ?_
  refine kv g0 (mv) ?_
  refine kv g0 (sub6) ?_
  obtain ⟨c71, H⟩ := of_if H
  obtain ⟨c72, H⟩ := of_if H
  obtain ⟨c73, H⟩ := of_if H
  refine kv g0 (ixX 64 c71 c72) ?_
  refine kv g0 (ldX (z := (0 : Int)) c71 c73 (.lit (.int .u32 (rd q50 (wrap64 (p51 - 7))))) rfl) ?_
  refine kv g0 (add) ?_
  refine kv g0 (mv) ?_
  refine kv g0 (add) ?_
  obtain ⟨c74, H⟩ := of_if H
  obtain ⟨c75, H⟩ := of_if H
  refine kv g0 (ixX 64 c74 c53) ?_
  refine ks g0 (stX (e := IntKind.u32.wrap ((IntKind.u32.wrap ((IntKind.u32.wrap ((rd q50 (wrap64 (p51 - 16))) + (bits .xor .u32 (bits .xor .u32 t57 t59) ((rd q50 (wrap64 (p51 - 15))).fdiv (2 ^ 3))))) + (rd q50 (wrap64 (p51 - 7))))) + (bits .xor .u32 (bits .xor .u32 t64 t66) ((rd q50 (wrap64 (p51 - 2))).fdiv (2 ^ 10))))) c74 c75 rfl) ?_
  refine wk_end_draw hM (by kernel_rfl) ?_
  refine ac_blkN ?_
  refine ac_next ?_
  refine wk_start ?_
  refine kv g0 (mv) ?_
  refine kv g0 (add6) ?_
  refine kv g0 (asg) ?_
  refine wk_end ?_
  refine ac_k ?_
  exact acw hE [(0, 0), (1, 1), (2, 2), (3, 3)] 9999 (hK77 k52 (q50.set p51.toNat (IntKind.u32.wrap ((IntKind.u32.wrap ((IntKind.u32.wrap ((rd q50 (wrap64 (p51 - 16))) + (bits .xor .u32 (bits .xor .u32 t57 t59) ((rd q50 (wrap64 (p51 - 15))).fdiv (2 ^ 3))))) + (rd q50 (wrap64 (p51 - 7))))) + (bits .xor .u32 (bits .xor .u32 t64 t66) ((rd q50 (wrap64 (p51 - 2))).fdiv (2 ^ 10)))))) (wrap64 (p51 + 1)) (Nat.le_refl _) ⟨by omega, H⟩)
 rw [if_neg c53] at H
 refine aw_ifF ?_ (decide_eq_false c53)
 refine aw_exit ?_
 refine ac_then ?_
 refine ac_then ?_
 refine ac_hit rfl ?_
 refine ac_next ?_
 refine aw_grp1 ?_
 refine wk_start ?_
 obtain ⟨c78, H⟩ := of_if H
 refine kv g0 (ldXA c78) ?_
 refine kb g0 (alc 4 [.int .u32 0, .int .u32 0, .int .u32 0, .int .u32 0, .int .u32 0, .int .u32 0, .int .u32 0, .int .u32 0] ((List.replicate 8 (0 : Int)).map (eI .u32))) ?_
 refine ks g0 (stXA List.length_replicate c78) ?_
 refine wk_end ?_
 refine ac_next ?_
 refine aw_grp1 ?_
 refine aw_grp1 ?_
 refine wk_start ?_
 refine kv g0 (asg) ?_
 refine wk_end ?_
 refine ac_next ?_
 refine aw_block ?_
 refine aw_loop2 (fun (k_ : Nat) (q102 : List Int) (p103 : Int) => k_ ≤ k52 ∧ spec_l03Block.l2 k_ a0 a2 q50 q102 p103 = some r) (fun (q102 : List Int) (p103 : Int) => ⟨[(3, .box 0 0), (5, .box 1 0), (6, .box 2 0), (7, .box 3 0), (12, .box 4 0), (13, .lit (.int .i64 p103))], [(0, .box 49 (a0.map (eI .u32))), (1, .box 51 (a2.map (eI .u32))), (2, .box 49 ((List.replicate 8 (0 : Int)).map (eI .u32))), (3, .box 51 (q50.map (eI .u32))), (4, .box 49 (q102.map (eI .u32)))]⟩) k52 a0 0 ⟨Nat.le_refl _, H⟩ (fun K_ h_ => acw hE [(0, 0), (1, 1), (2, 2), (3, 3), (4, 4)] 9999 h_) (fun _ _ => by intro h_; have h_ := h_.2; rw [spec_l03Block.l2.eq_1] at h_; cases h_) ?_
 intro k104 q102 p103 hq_ K129 hK130
 have hk104 := hq_.1
 have H := hq_.2
 clear hq_
 rw [spec_l03Block.l2.eq_2] at H
 refine aw_grp1 ?_
 refine aw_grp1 ?_
 refine wk_start ?_
 refine kv g0 (mv) ?_
 refine kv g0 (lss) ?_
 refine wk_end ?_
 refine ac_next ?_
 by_cases c105 : p103 < 64
 ·rw [if_pos c105] at H
  refine aw_ifT ?_ (decide_eq_true c105)
  refine aw_skip ?_
  refine ac_next ?_
  refine aw_grp1 ?_
  refine aw_block ?_
  refine aw_grp1 ?_
  refine wk_start ?_
  obtain ⟨c106, H⟩ := of_if H
  refine kv g0 (ixX 8 (by decide : (0 : Int) ≤ 4) (by decide : (4 : Int) < 8)) ?_
  refine kv g0 (ldX (z := (0 : Int)) (by decide : (0 : Int) ≤ 4) c106 (.lit (.int .u32 (rd q102 4))) rfl) ?_
  obtain ⟨t107, A108, H⟩ := of_bind H
  refine kcS0 117 (.lit (.int .u32 t107)) [] g0 (cal (spec_l03Turn.ok A108) [] 9999 .n (hf := Tryd.func32)) rfl rfl ?_
  refine kv g0 (ixX 8 (by decide : (0 : Int) ≤ 4) (by decide : (4 : Int) < 8)) ?_
  refine kv g0 (ldX (z := (0 : Int)) (by decide : (0 : Int) ≤ 4) c106 (.lit (.int .u32 (rd q102 4))) rfl) ?_
  obtain ⟨t109, A110, H⟩ := of_bind H
  refine kcS0 120 (.lit (.int .u32 t109)) [] g0 (cal (spec_l03Turn.ok A110) [] 9999 .n (hf := Tryd.func32)) rfl rfl ?_
  refine kv g0 (bxor) ?_
  refine kv g0 (ixX 8 (by decide : (0 : Int) ≤ 4) (by decide : (4 : Int) < 8)) ?_
  refine kv g0 (ldX (z := (0 : Int)) (by decide : (0 : Int) ≤ 4) c106 (.lit (.int .u32 (rd q102 4))) rfl) ?_
  obtain ⟨t111, A112, H⟩ := of_bind H
  refine kcS0 124 (.lit (.int .u32 t111)) [] g0 (cal (spec_l03Turn.ok A112) [] 9999 .n (hf := Tryd.func32)) rfl rfl ?_
  refine kv g0 (bxor) ?_
  refine kv g0 (asg) ?_
  refine wk_end_draw hM (by kernel_rfl) ?_
  refine ac_next ?_
  refine aw_grp1 ?_
  refine wk_start ?_
  refine kv g0 (ixX 8 (by decide : (0 : Int) ≤ 4) (by decide : (4 : Int) < 8)) ?_
  refine kv g0 (ldX (z := (0 : Int)) (by decide : (0 : Int) ≤ 4) c106 (.lit (.int .u32 (rd q102 4))) rfl) ?_
  obtain ⟨c113, H⟩ := of_if H
  refine kv g0 (ixX 8 (by decide : (0 : Int) ≤ 5) (by decide : (5 : Int) < 8)) ?_
  refine kv g0 (ldX (z := (0 : Int)) (by decide : (0 : Int) ≤ 5) c113 (.lit (.int .u32 (rd q102 5))) rfl) ?_
  refine kv g0 (band) ?_
  refine kv g0 (ixX 8 (by decide : (0 : Int) ≤ 4) (by decide : (4 : Int) < 8)) ?_
  refine kv g0 (ldX (z := (0 : Int)) (by decide : (0 : Int) ≤ 4) c106 (.lit (.int .u32 (rd q102 4))) rfl) ?_
  refine kv g0 (bxor) ?_
  obtain ⟨c114, H⟩ := of_if H
  refine kv g0 (ixX 8 (by decide : (0 : Int) ≤ 6) (by decide : (6 : Int) < 8)) ?_
  refine kv g0 (ldX (z := (0 : Int)) (by decide : (0 : Int) ≤ 6) c114 (.lit (.int .u32 (rd q102 6))) rfl) ?_
  refine kv g0 (band) ?_
  refine kv g0 (bxor) ?_
  refine kv g0 (asg) ?_
  refine wk_end ?_
  refine ac_next ?_
  refine aw_grp1 ?_
  refine wk_start ?_
  obtain ⟨c115, H⟩ := of_if H
  refine kv g0 (ixX 8 (by decide : (0 : Int) ≤ 7) (by decide : (7 : Int) < 8)) ?_
  refine kv g0 (ldX (z := (0 : Int)) (by decide : (0 : Int) ≤ 7) c115 (.lit (.int .u32 (rd q102 7))) rfl) ?_
  refine kv g0 (mv) ?_
  refine kv g0 (add) ?_
  refine kv g0 (mv) ?_
  refine kv g0 (add) ?_
  refine kv g0 (mv) ?_
  obtain ⟨c116, H⟩ := of_if H
  obtain ⟨c117, H⟩ := of_if H
  refine kv g0 (ixX 64 c116 c105) ?_
  refine kv g0 (ldX (z := (0 : Int)) c116 c117 (.lit (.int .u32 (rd a2 p103))) rfl) ?_
  refine kv g0 (add) ?_
  refine kv g0 (mv) ?_
  obtain ⟨c118, H⟩ := of_if H
  refine kv g0 (ixX 64 c116 c105) ?_
  refine kv g0 (ldX (z := (0 : Int)) c116 c118 (.lit (.int .u32 (rd q50 p103))) rfl) ?_
  refine kv g0 (add) ?_
  refine kv g0 (asg) ?_
  refine wk_end_draw hM (by kernel_rfl) ?_
  refine ac_next ?_
  refine aw_grp1 ?_
  refine wk_start ?_
  obtain ⟨c119, H⟩ := of_if H
  refine kv g0 (ixX 8 (by decide : (0 : Int) ≤ 0) (by decide : (0 : Int) < 8)) ?_
  refine kv g0 (ldX (z := (0 : Int)) (by decide : (0 : Int) ≤ 0) c119 (.lit (.int .u32 (rd q102 0))) rfl) ?_
  obtain ⟨t120, A121, H⟩ := of_bind H
  refine kcS0 154 (.lit (.int .u32 t120)) [] g0 (cal (spec_l03Turn.ok A121) [] 9999 .n (hf := Tryd.func32)) rfl rfl ?_
  refine kv g0 (ixX 8 (by decide : (0 : Int) ≤ 0) (by decide : (0 : Int) < 8)) ?_
  refine kv g0 (ldX (z := (0 : Int)) (by decide : (0 : Int) ≤ 0) c119 (.lit (.int .u32 (rd q102 0))) rfl) ?_
  obtain ⟨t122, A123, H⟩ := of_bind H
  refine kcS0 157 (.lit (.int .u32 t122)) [] g0 (cal (spec_l03Turn.ok A123) [] 9999 .n (hf := Tryd.func32)) rfl rfl ?_
  refine kv g0 (bxor) ?_
  refine kv g0 (ixX 8 (by decide : (0 : Int) ≤ 0) (by decide : (0 : Int) < 8)) ?_
  refine kv g0 (ldX (z := (0 : Int)) (by decide : (0 : Int) ≤ 0) c119 (.lit (.int .u32 (rd q102 0))) rfl) ?_
  obtain ⟨t124, A125, H⟩ := of_bind H
  refine kcS0 161 (.lit (.int .u32 t124)) [] g0 (cal (spec_l03Turn.ok A125) [] 9999 .n (hf := Tryd.func32)) rfl rfl ?_
  refine kv g0 (bxor) ?_
  refine kv g0 (asg) ?_
  refine wk_end_draw hM (by kernel_rfl) ?_
  refine ac_next ?_
  refine aw_grp1 ?_
  refine wk_start ?_
  refine kv g0 (ixX 8 (by decide : (0 : Int) ≤ 0) (by decide : (0 : Int) < 8)) ?_
  refine kv g0 (ldX (z := (0 : Int)) (by decide : (0 : Int) ≤ 0) c119 (.lit (.int .u32 (rd q102 0))) rfl) ?_
  obtain ⟨c126, H⟩ := of_if H
  refine kv g0 (ixX 8 (by decide : (0 : Int) ≤ 1) (by decide : (1 : Int) < 8)) ?_
  refine kv g0 (ldX (z := (0 : Int)) (by decide : (0 : Int) ≤ 1) c126 (.lit (.int .u32 (rd q102 1))) rfl) ?_
  refine kv g0 (band) ?_
  refine kv g0 (ixX 8 (by decide : (0 : Int) ≤ 0) (by decide : (0 : Int) < 8)) ?_
  refine kv g0 (ldX (z := (0 : Int)) (by decide : (0 : Int) ≤ 0) c119 (.lit (.int .u32 (rd q102 0))) rfl) ?_
  obtain ⟨c127, H⟩ := of_if H
  refine kv g0 (ixX 8 (by decide : (0 : Int) ≤ 2) (by decide : (2 : Int) < 8)) ?_
  refine kv g0 (ldX (z := (0 : Int)) (by decide : (0 : Int) ≤ 2) c127 (.lit (.int .u32 (rd q102 2))) rfl) ?_
  refine kv g0 (band) ?_
  refine kv g0 (bxor) ?_
  refine kv g0 (ixX 8 (by decide : (0 : Int) ≤ 1) (by decide : (1 : Int) < 8)) ?_
  refine kv g0 (ldX (z := (0 : Int)) (by decide : (0 : Int) ≤ 1) c126 (.lit (.int .u32 (rd q102 1))) rfl) ?_
  refine kv g0 (ixX 8 (by decide : (0 : Int) ≤ 2) (by decide : (2 : Int) < 8)) ?_
  refine kv g0 (ldX (z := (0 : Int)) (by decide : (0 : Int) ≤ 2) c127 (.lit (.int .u32 (rd q102 2))) rfl) ?_
  refine kv g0 (band) ?_
  refine kv g0 (bxor) ?_
  refine kv g0 (asg) ?_
  refine wk_end ?_
  refine ac_next ?_
  refine aw_grp1 ?_
  refine wk_start ?_
  refine kv g0 (mv) ?_
  refine kv g0 (mv) ?_
  refine kv g0 (add) ?_
  refine kv g0 (asg) ?_
  refine wk_end ?_
  refine ac_next ?_
  refine aw_grp1 ?_
  refine wk_start ?_
  refine kv g0 (ixX 8 (by decide : (0 : Int) ≤ 6) (by decide : (6 : Int) < 8)) ?_
  refine kv g0 (ldX (z := (0 : Int)) (by decide : (0 : Int) ≤ 6) c114 (.lit (.int .u32 (rd q102 6))) rfl) ?_
  refine kv g0 (ixX 8 (by decide : (0 : Int) ≤ 7) (by decide : (7 : Int) < 8)) ?_
  refine ks g0 (stX (e := (rd q102 6)) (by decide : (0 : Int) ≤ 7) c115 rfl) ?_
  refine wk_end ?_
  refine ac_next ?_
  refine aw_grp1 ?_
  refine wk_start ?_
  refine kv g0 (ixX 8 (by decide : (0 : Int) ≤ 5) (by decide : (5 : Int) < 8)) ?_
  refine kv g0 (ldX (z := (0 : Int)) (by decide : (0 : Int) ≤ 5) (ls c113) (.lit (.int .u32 (rd (q102.set 7 (rd q102 6)) 5))) rfl) ?_
  refine kv g0 (ixX 8 (by decide : (0 : Int) ≤ 6) (by decide : (6 : Int) < 8)) ?_
  refine ks g0 (stX (e := (rd (q102.set 7 (rd q102 6)) 5)) (by decide : (0 : Int) ≤ 6) (ls c114) rfl) ?_
  refine wk_end ?_
  refine ac_next ?_
  refine aw_grp1 ?_
  refine wk_start ?_
  refine kv g0 (ixX 8 (by decide : (0 : Int) ≤ 4) (by decide : (4 : Int) < 8)) ?_
  refine kv g0 (ldX (z := (0 : Int)) (by decide : (0 : Int) ≤ 4) (ls (ls c106)) (.lit (.int .u32 (rd ((q102.set 7 (rd q102 6)).set 6 (rd (q102.set 7 (rd q102 6)) 5)) 4))) rfl) ?_
  refine kv g0 (ixX 8 (by decide : (0 : Int) ≤ 5) (by decide : (5 : Int) < 8)) ?_
  refine ks g0 (stX (e := (rd ((q102.set 7 (rd q102 6)).set 6 (rd (q102.set 7 (rd q102 6)) 5)) 4)) (by decide : (0 : Int) ≤ 5) (ls (ls c113)) rfl) ?_
  refine wk_end ?_
  refine ac_next ?_
  refine aw_grp1 ?_
  refine wk_start ?_
  obtain ⟨c128, H⟩ := of_if H
  refine kv g0 (ixX 8 (by decide : (0 : Int) ≤ 3) (by decide : (3 : Int) < 8)) ?_
  refine kv g0 (ldX (z := (0 : Int)) (by decide : (0 : Int) ≤ 3) (ls (ls (ls c128))) (.lit (.int .u32 (rd (((q102.set 7 (rd q102 6)).set 6 (rd (q102.set 7 (rd q102 6)) 5)).set 5 (rd ((q102.set 7 (rd q102 6)).set 6 (rd (q102.set 7 (rd q102 6)) 5)) 4)) 3))) rfl) ?_
  refine kv g0 (mv) ?_
  refine kv g0 (add) ?_
  refine kv g0 (ixX 8 (by decide : (0 : Int) ≤ 4) (by decide : (4 : Int) < 8)) ?_
  refine ks g0 (stX (e := IntKind.u32.wrap ((rd (((q102.set 7 (rd q102 6)).set 6 (rd (q102.set 7 (rd q102 6)) 5)).set 5 (rd ((q102.set 7 (rd q102 6)).set 6 (rd (q102.set 7 (rd q102 6)) 5)) 4)) 3) + (IntKind.u32.wrap ((IntKind.u32.wrap ((IntKind.u32.wrap ((IntKind.u32.wrap ((rd q102 7) + (bits .xor .u32 (bits .xor .u32 t107 t109) t111))) + (bits .xor .u32 (bits .and .u32 (rd q102 4) (rd q102 5)) (bits .and .u32 (bits .xor .u32 (rd q102 4) 4294967295) (rd q102 6))))) + (rd a2 p103))) + (rd q50 p103))))) (by decide : (0 : Int) ≤ 4) (ls (ls (ls c106))) rfl) ?_
  refine wk_end ?_
  refine ac_next ?_
  refine aw_grp1 ?_
  refine wk_start ?_
  refine kv g0 (ixX 8 (by decide : (0 : Int) ≤ 2) (by decide : (2 : Int) < 8)) ?_
  refine kv g0 (ldX (z := (0 : Int)) (by decide : (0 : Int) ≤ 2) (ls (ls (ls (ls c127)))) (.lit (.int .u32 (rd ((((q102.set 7 (rd q102 6)).set 6 (rd (q102.set 7 (rd q102 6)) 5)).set 5 (rd ((q102.set 7 (rd q102 6)).set 6 (rd (q102.set 7 (rd q102 6)) 5)) 4)).set 4 (IntKind.u32.wrap ((rd (((q102.set 7 (rd q102 6)).set 6 (rd (q102.set 7 (rd q102 6)) 5)).set 5 (rd ((q102.set 7 (rd q102 6)).set 6 (rd (q102.set 7 (rd q102 6)) 5)) 4)) 3) + (IntKind.u32.wrap ((IntKind.u32.wrap ((IntKind.u32.wrap ((IntKind.u32.wrap ((rd q102 7) + (bits .xor .u32 (bits .xor .u32 t107 t109) t111))) + (bits .xor .u32 (bits .and .u32 (rd q102 4) (rd q102 5)) (bits .and .u32 (bits .xor .u32 (rd q102 4) 4294967295) (rd q102 6))))) + (rd a2 p103))) + (rd q50 p103)))))) 2))) rfl) ?_
  refine kv g0 (ixX 8 (by decide : (0 : Int) ≤ 3) (by decide : (3 : Int) < 8)) ?_
  refine ks g0 (stX (e := (rd ((((q102.set 7 (rd q102 6)).set 6 (rd (q102.set 7 (rd q102 6)) 5)).set 5 (rd ((q102.set 7 (rd q102 6)).set 6 (rd (q102.set 7 (rd q102 6)) 5)) 4)).set 4 (IntKind.u32.wrap ((rd (((q102.set 7 (rd q102 6)).set 6 (rd (q102.set 7 (rd q102 6)) 5)).set 5 (rd ((q102.set 7 (rd q102 6)).set 6 (rd (q102.set 7 (rd q102 6)) 5)) 4)) 3) + (IntKind.u32.wrap ((IntKind.u32.wrap ((IntKind.u32.wrap ((IntKind.u32.wrap ((rd q102 7) + (bits .xor .u32 (bits .xor .u32 t107 t109) t111))) + (bits .xor .u32 (bits .and .u32 (rd q102 4) (rd q102 5)) (bits .and .u32 (bits .xor .u32 (rd q102 4) 4294967295) (rd q102 6))))) + (rd a2 p103))) + (rd q50 p103)))))) 2)) (by decide : (0 : Int) ≤ 3) (ls (ls (ls (ls c128)))) rfl) ?_
  refine wk_end ?_
  refine ac_next ?_
  refine aw_grp1 ?_
  refine wk_start ?_
  refine kv g0 (ixX 8 (by decide : (0 : Int) ≤ 1) (by decide : (1 : Int) < 8)) ?_
  refine kv g0 (ldX (z := (0 : Int)) (by decide : (0 : Int) ≤ 1) (ls (ls (ls (ls (ls c126))))) (.lit (.int .u32 (rd (((((q102.set 7 (rd q102 6)).set 6 (rd (q102.set 7 (rd q102 6)) 5)).set 5 (rd ((q102.set 7 (rd q102 6)).set 6 (rd (q102.set 7 (rd q102 6)) 5)) 4)).set 4 (IntKind.u32.wrap ((rd (((q102.set 7 (rd q102 6)).set 6 (rd (q102.set 7 (rd q102 6)) 5)).set 5 (rd ((q102.set 7 (rd q102 6)).set 6 (rd (q102.set 7 (rd q102 6)) 5)) 4)) 3) + (IntKind.u32.wrap ((IntKind.u32.wrap ((IntKind.u32.wrap ((IntKind.u32.wrap ((rd q102 7) + (bits .xor .u32 (bits .xor .u32 t107 t109) t111))) + (bits .xor .u32 (bits .and .u32 (rd q102 4) (rd q102 5)) (bits .and .u32 (bits .xor .u32 (rd q102 4) 4294967295) (rd q102 6))))) + (rd a2 p103))) + (rd q50 p103)))))).set 3 (rd ((((q102.set 7 (rd q102 6)).set 6 (rd (q102.set 7 (rd q102 6)) 5)).set 5 (rd ((q102.set 7 (rd q102 6)).set 6 (rd (q102.set 7 (rd q102 6)) 5)) 4)).set 4 (IntKind.u32.wrap ((rd (((q102.set 7 (rd q102 6)).set 6 (rd (q102.set 7 (rd q102 6)) 5)).set 5 (rd ((q102.set 7 (rd q102 6)).set 6 (rd (q102.set 7 (rd q102 6)) 5)) 4)) 3) + (IntKind.u32.wrap ((IntKind.u32.wrap ((IntKind.u32.wrap ((IntKind.u32.wrap ((rd q102 7) + (bits .xor .u32 (bits .xor .u32 t107 t109) t111))) + (bits .xor .u32 (bits .and .u32 (rd q102 4) (rd q102 5)) (bits .and .u32 (bits .xor .u32 (rd q102 4) 4294967295) (rd q102 6))))) + (rd a2 p103))) + (rd q50 p103)))))) 2)) 1))) rfl) ?_
  refine kv g0 (ixX 8 (by decide : (0 : Int) ≤ 2) (by decide : (2 : Int) < 8)) ?_
  refine ks g0 (stX (e := (rd (((((q102.set 7 (rd q102 6)).set 6 (rd (q102.set 7 (rd q102 6)) 5)).set 5 (rd ((q102.set 7 (rd q102 6)).set 6 (rd (q102.set 7 (rd q102 6)) 5)) 4)).set 4 (IntKind.u32.wrap ((rd (((q102.set 7 (rd q102 6)).set 6 (rd (q102.set 7 (rd q102 6)) 5)).set 5 (rd ((q102.set 7 (rd q102 6)).set 6 (rd (q102.set 7 (rd q102 6)) 5)) 4)) 3) + (IntKind.u32.wrap ((IntKind.u32.wrap ((IntKind.u32.wrap ((IntKind.u32.wrap ((rd q102 7) + (bits .xor .u32 (bits .xor .u32 t107 t109) t111))) + (bits .xor .u32 (bits .and .u32 (rd q102 4) (rd q102 5)) (bits .and .u32 (bits .xor .u32 (rd q102 4) 4294967295) (rd q102 6))))) + (rd a2 p103))) + (rd q50 p103)))))).set 3 (rd ((((q102.set 7 (rd q102 6)).set 6 (rd (q102.set 7 (rd q102 6)) 5)).set 5 (rd ((q102.set 7 (rd q102 6)).set 6 (rd (q102.set 7 (rd q102 6)) 5)) 4)).set 4 (IntKind.u32.wrap ((rd (((q102.set 7 (rd q102 6)).set 6 (rd (q102.set 7 (rd q102 6)) 5)).set 5 (rd ((q102.set 7 (rd q102 6)).set 6 (rd (q102.set 7 (rd q102 6)) 5)) 4)) 3) + (IntKind.u32.wrap ((IntKind.u32.wrap ((IntKind.u32.wrap ((IntKind.u32.wrap ((rd q102 7) + (bits .xor .u32 (bits .xor .u32 t107 t109) t111))) + (bits .xor .u32 (bits .and .u32 (rd q102 4) (rd q102 5)) (bits .and .u32 (bits .xor .u32 (rd q102 4) 4294967295) (rd q102 6))))) + (rd a2 p103))) + (rd q50 p103)))))) 2)) 1)) (by decide : (0 : Int) ≤ 2) (ls (ls (ls (ls (ls c127))))) rfl) ?_
  refine wk_end ?_
  refine ac_next ?_
  refine aw_grp1 ?_
  refine wk_start ?_
  refine kv g0 (ixX 8 (by decide : (0 : Int) ≤ 0) (by decide : (0 : Int) < 8)) ?_
  refine kv g0 (ldX (z := (0 : Int)) (by decide : (0 : Int) ≤ 0) (ls (ls (ls (ls (ls (ls c119)))))) (.lit (.int .u32 (rd ((((((q102.set 7 (rd q102 6)).set 6 (rd (q102.set 7 (rd q102 6)) 5)).set 5 (rd ((q102.set 7 (rd q102 6)).set 6 (rd (q102.set 7 (rd q102 6)) 5)) 4)).set 4 (IntKind.u32.wrap ((rd (((q102.set 7 (rd q102 6)).set 6 (rd (q102.set 7 (rd q102 6)) 5)).set 5 (rd ((q102.set 7 (rd q102 6)).set 6 (rd (q102.set 7 (rd q102 6)) 5)) 4)) 3) + (IntKind.u32.wrap ((IntKind.u32.wrap ((IntKind.u32.wrap ((IntKind.u32.wrap ((rd q102 7) + (bits .xor .u32 (bits .xor .u32 t107 t109) t111))) + (bits .xor .u32 (bits .and .u32 (rd q102 4) (rd q102 5)) (bits .and .u32 (bits .xor .u32 (rd q102 4) 4294967295) (rd q102 6))))) + (rd a2 p103))) + (rd q50 p103)))))).set 3 (rd ((((q102.set 7 (rd q102 6)).set 6 (rd (q102.set 7 (rd q102 6)) 5)).set 5 (rd ((q102.set 7 (rd q102 6)).set 6 (rd (q102.set 7 (rd q102 6)) 5)) 4)).set 4 (IntKind.u32.wrap ((rd (((q102.set 7 (rd q102 6)).set 6 (rd (q102.set 7 (rd q102 6)) 5)).set 5 (rd ((q102.set 7 (rd q102 6)).set 6 (rd (q102.set 7 (rd q102 6)) 5)) 4)) 3) + (IntKind.u32.wrap ((IntKind.u32.wrap ((IntKind.u32.wrap ((IntKind.u32.wrap ((rd q102 7) + (bits .xor .u32 (bits .xor .u32 t107 t109) t111))) + (bits .xor .u32 (bits .and .u32 (rd q102 4) (rd q102 5)) (bits .and .u32 (bits .xor .u32 (rd q102 4) 4294967295) (rd q102 6))))) + (rd a2 p103))) + (rd q50 p103)))))) 2)).set 2 (rd (((((q102.set 7 (rd q102 6)).set 6 (rd (q102.set 7 (rd q102 6)) 5)).set 5 (rd ((q102.set 7 (rd q102 6)).set 6 (rd (q102.set 7 (rd q102 6)) 5)) 4)).set 4 (IntKind.u32.wrap ((rd (((q102.set 7 (rd q102 6)).set 6 (rd (q102.set 7 (rd q102 6)) 5)).set 5 (rd ((q102.set 7 (rd q102 6)).set 6 (rd (q102.set 7 (rd q102 6)) 5)) 4)) 3) + (IntKind.u32.wrap ((IntKind.u32.wrap ((IntKind.u32.wrap ((IntKind.u32.wrap ((rd q102 7) + (bits .xor .u32 (bits .xor .u32 t107 t109) t111))) + (bits .xor .u32 (bits .and .u32 (rd q102 4) (rd q102 5)) (bits .and .u32 (bits .xor .u32 (rd q102 4) 4294967295) (rd q102 6))))) + (rd a2 p103))) + (rd q50 p103)))))).set 3 (rd ((((q102.set 7 (rd q102 6)).set 6 (rd (q102.set 7 (rd q102 6)) 5)).set 5 (rd ((q102.set 7 (rd q102 6)).set 6 (rd (q102.set 7 (rd q102 6)) 5)) 4)).set 4 (IntKind.u32.wrap ((rd (((q102.set 7 (rd q102 6)).set 6 (rd (q102.set 7 (rd q102 6)) 5)).set 5 (rd ((q102.set 7 (rd q102 6)).set 6 (rd (q102.set 7 (rd q102 6)) 5)) 4)) 3) + (IntKind.u32.wrap ((IntKind.u32.wrap ((IntKind.u32.wrap ((IntKind.u32.wrap ((rd q102 7) + (bits .xor .u32 (bits .xor .u32 t107 t109) t111))) + (bits .xor .u32 (bits .and .u32 (rd q102 4) (rd q102 5)) (bits .and .u32 (bits .xor .u32 (rd q102 4) 4294967295) (rd q102 6))))) + (rd a2 p103))) + (rd q50 p103)))))) 2)) 1)) 0))) rfl) ?_
  refine kv g0 (ixX 8 (by decide : (0 : Int) ≤ 1) (by decide : (1 : Int) < 8)) ?_
  refine ks g0 (stX (e := (rd ((((((q102.set 7 (rd q102 6)).set 6 (rd (q102.set 7 (rd q102 6)) 5)).set 5 (rd ((q102.set 7 (rd q102 6)).set 6 (rd (q102.set 7 (rd q102 6)) 5)) 4)).set 4 (IntKind.u32.wrap ((rd (((q102.set 7 (rd q102 6)).set 6 (rd (q102.set 7 (rd q102 6)) 5)).set 5 (rd ((q102.set 7 (rd q102 6)).set 6 (rd (q102.set 7 (rd q102 6)) 5)) 4)) 3) + (IntKind.u32.wrap ((IntKind.u32.wrap ((IntKind.u32.wrap ((IntKind.u32.wrap ((rd q102 7) + (bits .xor .u32 (bits .xor .u32 t107 t109) t111))) + (bits .xor .u32 (bits .and .u32 (rd q102 4) (rd q102 5)) (bits .and .u32 (bits .xor .u32 (rd q102 4) 4294967295) (rd q102 6))))) + (rd a2 p103))) + (rd q50 p103)))))).set 3 (rd ((((q102.set 7 (rd q102 6)).set 6 (rd (q102.set 7 (rd q102 6)) 5)).set 5 (rd ((q102.set 7 (rd q102 6)).set 6 (rd (q102.set 7 (rd q102 6)) 5)) 4)).set 4 (IntKind.u32.wrap ((rd (((q102.set 7 (rd q102 6)).set 6 (rd (q102.set 7 (rd q102 6)) 5)).set 5 (rd ((q102.set 7 (rd q102 6)).set 6 (rd (q102.set 7 (rd q102 6)) 5)) 4)) 3) + (IntKind.u32.wrap ((IntKind.u32.wrap ((IntKind.u32.wrap ((IntKind.u32.wrap ((rd q102 7) + (bits .xor .u32 (bits .xor .u32 t107 t109) t111))) + (bits .xor .u32 (bits .and .u32 (rd q102 4) (rd q102 5)) (bits .and .u32 (bits .xor .u32 (rd q102 4) 4294967295) (rd q102 6))))) + (rd a2 p103))) + (rd q50 p103)))))) 2)).set 2 (rd (((((q102.set 7 (rd q102 6)).set 6 (rd (q102.set 7 (rd q102 6)) 5)).set 5 (rd ((q102.set 7 (rd q102 6)).set 6 (rd (q102.set 7 (rd q102 6)) 5)) 4)).set 4 (IntKind.u32.wrap ((rd (((q102.set 7 (rd q102 6)).set 6 (rd (q102.set 7 (rd q102 6)) 5)).set 5 (rd ((q102.set 7 (rd q102 6)).set 6 (rd (q102.set 7 (rd q102 6)) 5)) 4)) 3) + (IntKind.u32.wrap ((IntKind.u32.wrap ((IntKind.u32.wrap ((IntKind.u32.wrap ((rd q102 7) + (bits .xor .u32 (bits .xor .u32 t107 t109) t111))) + (bits .xor .u32 (bits .and .u32 (rd q102 4) (rd q102 5)) (bits .and .u32 (bits .xor .u32 (rd q102 4) 4294967295) (rd q102 6))))) + (rd a2 p103))) + (rd q50 p103)))))).set 3 (rd ((((q102.set 7 (rd q102 6)).set 6 (rd (q102.set 7 (rd q102 6)) 5)).set 5 (rd ((q102.set 7 (rd q102 6)).set 6 (rd (q102.set 7 (rd q102 6)) 5)) 4)).set 4 (IntKind.u32.wrap ((rd (((q102.set 7 (rd q102 6)).set 6 (rd (q102.set 7 (rd q102 6)) 5)).set 5 (rd ((q102.set 7 (rd q102 6)).set 6 (rd (q102.set 7 (rd q102 6)) 5)) 4)) 3) + (IntKind.u32.wrap ((IntKind.u32.wrap ((IntKind.u32.wrap ((IntKind.u32.wrap ((rd q102 7) + (bits .xor .u32 (bits .xor .u32 t107 t109) t111))) + (bits .xor .u32 (bits .and .u32 (rd q102 4) (rd q102 5)) (bits .and .u32 (bits .xor .u32 (rd q102 4) 4294967295) (rd q102 6))))) + (rd a2 p103))) + (rd q50 p103)))))) 2)) 1)) 0)) (by decide : (0 : Int) ≤ 1) (ls (ls (ls (ls (ls (ls c126)))))) rfl) ?_
  refine wk_end ?_
  refine ac_next ?_
  refine wk_start ?_
  refine kv g0 (mv) ?_
  refine kv g0 (mv) ?_
  refine kv g0 (add) ?_
  refine kv g0 (ixX 8 (by decide : (0 : Int) ≤ 0) (by decide : (0 : Int) < 8)) ?_
  refine ks g0 (stX (e := IntKind.u32.wrap ((IntKind.u32.wrap ((IntKind.u32.wrap ((IntKind.u32.wrap ((IntKind.u32.wrap ((rd q102 7) + (bits .xor .u32 (bits .xor .u32 t107 t109) t111))) + (bits .xor .u32 (bits .and .u32 (rd q102 4) (rd q102 5)) (bits .and .u32 (bits .xor .u32 (rd q102 4) 4294967295) (rd q102 6))))) + (rd a2 p103))) + (rd q50 p103))) + (IntKind.u32.wrap ((bits .xor .u32 (bits .xor .u32 t120 t122) t124) + (bits .xor .u32 (bits .xor .u32 (bits .and .u32 (rd q102 0) (rd q102 1)) (bits .and .u32 (rd q102 0) (rd q102 2))) (bits .and .u32 (rd q102 1) (rd q102 2))))))) (by decide : (0 : Int) ≤ 0) (ls (ls (ls (ls (ls (ls (ls c119))))))) rfl) ?_
  refine wk_end ?_
  refine ac_blkN ?_
  refine ac_next ?_
  refine wk_start ?_
  refine kv g0 (mv) ?_
  refine kv g0 (add6) ?_
  refine kv g0 (asg) ?_
  refine wk_end ?_
  refine ac_k ?_
  exact acw hE [(0, 0), (1, 1), (2, 2), (3, 3), (4, 4)] 9999 (hK130 k104 ((((((((q102.set 7 (rd q102 6)).set 6 (rd (q102.set 7 (rd q102 6)) 5)).set 5 (rd ((q102.set 7 (rd q102 6)).set 6 (rd (q102.set 7 (rd q102 6)) 5)) 4)).set 4 (IntKind.u32.wrap ((rd (((q102.set 7 (rd q102 6)).set 6 (rd (q102.set 7 (rd q102 6)) 5)).set 5 (rd ((q102.set 7 (rd q102 6)).set 6 (rd (q102.set 7 (rd q102 6)) 5)) 4)) 3) + (IntKind.u32.wrap ((IntKind.u32.wrap ((IntKind.u32.wrap ((IntKind.u32.wrap ((rd q102 7) + (bits .xor .u32 (bits .xor .u32 t107 t109) t111))) + (bits .xor .u32 (bits .and .u32 (rd q102 4) (rd q102 5)) (bits .and .u32 (bits .xor .u32 (rd q102 4) 4294967295) (rd q102 6))))) + (rd a2 p103))) + (rd q50 p103)))))).set 3 (rd ((((q102.set 7 (rd q102 6)).set 6 (rd (q102.set 7 (rd q102 6)) 5)).set 5 (rd ((q102.set 7 (rd q102 6)).set 6 (rd (q102.set 7 (rd q102 6)) 5)) 4)).set 4 (IntKind.u32.wrap ((rd (((q102.set 7 (rd q102 6)).set 6 (rd (q102.set 7 (rd q102 6)) 5)).set 5 (rd ((q102.set 7 (rd q102 6)).set 6 (rd (q102.set 7 (rd q102 6)) 5)) 4)) 3) + (IntKind.u32.wrap ((IntKind.u32.wrap ((IntKind.u32.wrap ((IntKind.u32.wrap ((rd q102 7) + (bits .xor .u32 (bits .xor .u32 t107 t109) t111))) + (bits .xor .u32 (bits .and .u32 (rd q102 4) (rd q102 5)) (bits .and .u32 (bits .xor .u32 (rd q102 4) 4294967295) (rd q102 6))))) + (rd a2 p103))) + (rd q50 p103)))))) 2)).set 2 (rd (((((q102.set 7 (rd q102 6)).set 6 (rd (q102.set 7 (rd q102 6)) 5)).set 5 (rd ((q102.set 7 (rd q102 6)).set 6 (rd (q102.set 7 (rd q102 6)) 5)) 4)).set 4 (IntKind.u32.wrap ((rd (((q102.set 7 (rd q102 6)).set 6 (rd (q102.set 7 (rd q102 6)) 5)).set 5 (rd ((q102.set 7 (rd q102 6)).set 6 (rd (q102.set 7 (rd q102 6)) 5)) 4)) 3) + (IntKind.u32.wrap ((IntKind.u32.wrap ((IntKind.u32.wrap ((IntKind.u32.wrap ((rd q102 7) + (bits .xor .u32 (bits .xor .u32 t107 t109) t111))) + (bits .xor .u32 (bits .and .u32 (rd q102 4) (rd q102 5)) (bits .and .u32 (bits .xor .u32 (rd q102 4) 4294967295) (rd q102 6))))) + (rd a2 p103))) + (rd q50 p103)))))).set 3 (rd ((((q102.set 7 (rd q102 6)).set 6 (rd (q102.set 7 (rd q102 6)) 5)).set 5 (rd ((q102.set 7 (rd q102 6)).set 6 (rd (q102.set 7 (rd q102 6)) 5)) 4)).set 4 (IntKind.u32.wrap ((rd (((q102.set 7 (rd q102 6)).set 6 (rd (q102.set 7 (rd q102 6)) 5)).set 5 (rd ((q102.set 7 (rd q102 6)).set 6 (rd (q102.set 7 (rd q102 6)) 5)) 4)) 3) + (IntKind.u32.wrap ((IntKind.u32.wrap ((IntKind.u32.wrap ((IntKind.u32.wrap ((rd q102 7) + (bits .xor .u32 (bits .xor .u32 t107 t109) t111))) + (bits .xor .u32 (bits .and .u32 (rd q102 4) (rd q102 5)) (bits .and .u32 (bits .xor .u32 (rd q102 4) 4294967295) (rd q102 6))))) + (rd a2 p103))) + (rd q50 p103)))))) 2)) 1)).set 1 (rd ((((((q102.set 7 (rd q102 6)).set 6 (rd (q102.set 7 (rd q102 6)) 5)).set 5 (rd ((q102.set 7 (rd q102 6)).set 6 (rd (q102.set 7 (rd q102 6)) 5)) 4)).set 4 (IntKind.u32.wrap ((rd (((q102.set 7 (rd q102 6)).set 6 (rd (q102.set 7 (rd q102 6)) 5)).set 5 (rd ((q102.set 7 (rd q102 6)).set 6 (rd (q102.set 7 (rd q102 6)) 5)) 4)) 3) + (IntKind.u32.wrap ((IntKind.u32.wrap ((IntKind.u32.wrap ((IntKind.u32.wrap ((rd q102 7) + (bits .xor .u32 (bits .xor .u32 t107 t109) t111))) + (bits .xor .u32 (bits .and .u32 (rd q102 4) (rd q102 5)) (bits .and .u32 (bits .xor .u32 (rd q102 4) 4294967295) (rd q102 6))))) + (rd a2 p103))) + (rd q50 p103)))))).set 3 (rd ((((q102.set 7 (rd q102 6)).set 6 (rd (q102.set 7 (rd q102 6)) 5)).set 5 (rd ((q102.set 7 (rd q102 6)).set 6 (rd (q102.set 7 (rd q102 6)) 5)) 4)).set 4 (IntKind.u32.wrap ((rd (((q102.set 7 (rd q102 6)).set 6 (rd (q102.set 7 (rd q102 6)) 5)).set 5 (rd ((q102.set 7 (rd q102 6)).set 6 (rd (q102.set 7 (rd q102 6)) 5)) 4)) 3) + (IntKind.u32.wrap ((IntKind.u32.wrap ((IntKind.u32.wrap ((IntKind.u32.wrap ((rd q102 7) + (bits .xor .u32 (bits .xor .u32 t107 t109) t111))) + (bits .xor .u32 (bits .and .u32 (rd q102 4) (rd q102 5)) (bits .and .u32 (bits .xor .u32 (rd q102 4) 4294967295) (rd q102 6))))) + (rd a2 p103))) + (rd q50 p103)))))) 2)).set 2 (rd (((((q102.set 7 (rd q102 6)).set 6 (rd (q102.set 7 (rd q102 6)) 5)).set 5 (rd ((q102.set 7 (rd q102 6)).set 6 (rd (q102.set 7 (rd q102 6)) 5)) 4)).set 4 (IntKind.u32.wrap ((rd (((q102.set 7 (rd q102 6)).set 6 (rd (q102.set 7 (rd q102 6)) 5)).set 5 (rd ((q102.set 7 (rd q102 6)).set 6 (rd (q102.set 7 (rd q102 6)) 5)) 4)) 3) + (IntKind.u32.wrap ((IntKind.u32.wrap ((IntKind.u32.wrap ((IntKind.u32.wrap ((rd q102 7) + (bits .xor .u32 (bits .xor .u32 t107 t109) t111))) + (bits .xor .u32 (bits .and .u32 (rd q102 4) (rd q102 5)) (bits .and .u32 (bits .xor .u32 (rd q102 4) 4294967295) (rd q102 6))))) + (rd a2 p103))) + (rd q50 p103)))))).set 3 (rd ((((q102.set 7 (rd q102 6)).set 6 (rd (q102.set 7 (rd q102 6)) 5)).set 5 (rd ((q102.set 7 (rd q102 6)).set 6 (rd (q102.set 7 (rd q102 6)) 5)) 4)).set 4 (IntKind.u32.wrap ((rd (((q102.set 7 (rd q102 6)).set 6 (rd (q102.set 7 (rd q102 6)) 5)).set 5 (rd ((q102.set 7 (rd q102 6)).set 6 (rd (q102.set 7 (rd q102 6)) 5)) 4)) 3) + (IntKind.u32.wrap ((IntKind.u32.wrap ((IntKind.u32.wrap ((IntKind.u32.wrap ((rd q102 7) + (bits .xor .u32 (bits .xor .u32 t107 t109) t111))) + (bits .xor .u32 (bits .and .u32 (rd q102 4) (rd q102 5)) (bits .and .u32 (bits .xor .u32 (rd q102 4) 4294967295) (rd q102 6))))) + (rd a2 p103))) + (rd q50 p103)))))) 2)) 1)) 0)).set 0 (IntKind.u32.wrap ((IntKind.u32.wrap ((IntKind.u32.wrap ((IntKind.u32.wrap ((IntKind.u32.wrap ((rd q102 7) + (bits .xor .u32 (bits .xor .u32 t107 t109) t111))) + (bits .xor .u32 (bits .and .u32 (rd q102 4) (rd q102 5)) (bits .and .u32 (bits .xor .u32 (rd q102 4) 4294967295) (rd q102 6))))) + (rd a2 p103))) + (rd q50 p103))) + (IntKind.u32.wrap ((bits .xor .u32 (bits .xor .u32 t120 t122) t124) + (bits .xor .u32 (bits .xor .u32 (bits .and .u32 (rd q102 0) (rd q102 1)) (bits .and .u32 (rd q102 0) (rd q102 2))) (bits .and .u32 (rd q102 1) (rd q102 2)))))))) (wrap64 (p103 + 1)) (Nat.le_refl _) ⟨by omega, H⟩)
 rw [if_neg c105] at H
 refine aw_ifF ?_ (decide_eq_false c105)
 refine aw_exit ?_
 refine ac_then ?_
 refine ac_then ?_
 refine ac_hit rfl ?_
 refine ac_next ?_
 refine aw_grp1 ?_
 refine aw_grp1 ?_
 refine wk_start ?_
 refine kv g0 (asg) ?_
 refine wk_end ?_
 refine ac_next ?_
 refine aw_block ?_
 refine aw_loop2 (fun (k_ : Nat) (q134 : List Int) (p135 : Int) => k_ ≤ k104 ∧ spec_l03Block.l3 k_ q102 q134 p135 = some r) (fun (q134 : List Int) (p135 : Int) => ⟨[(3, .box 0 0), (6, .box 2 0), (12, .box 4 0), (20, .lit (.int .i64 p135))], [(0, .box 49 (q134.map (eI .u32))), (2, .box 49 ((List.replicate 8 (0 : Int)).map (eI .u32))), (4, .box 49 (q102.map (eI .u32)))]⟩) k104 a0 0 ⟨Nat.le_refl _, H⟩ (fun K_ h_ => acw hE [(0, 0), (2, 2), (4, 4)] 9999 h_) (fun _ _ => by intro h_; have h_ := h_.2; rw [spec_l03Block.l3.eq_1] at h_; cases h_) ?_
 intro k136 q134 p135 hq_ K141 hK142
 have hk136 := hq_.1
 have H := hq_.2
 clear hq_
 rw [spec_l03Block.l3.eq_2] at H
 refine aw_grp1 ?_
 refine aw_grp1 ?_
 refine wk_start ?_
 refine kv g0 (mv) ?_
 refine kv g0 (lss) ?_
 refine wk_end ?_
 refine ac_next ?_
 by_cases c137 : p135 < 8
 ·rw [if_pos c137] at H
  refine aw_ifT ?_ (decide_eq_true c137)
  refine aw_skip ?_
  refine ac_next ?_
  refine aw_grp1 ?_
  refine aw_block ?_
  refine wk_start ?_
  refine kv g0 (mv) ?_
  refine kv g0 (mv) ?_
  obtain ⟨c138, H⟩ := of_if H
  obtain ⟨c139, H⟩ := of_if H
  refine kv g0 (ixX 8 c138 c137) ?_
  refine kv g0 (ldX (z := (0 : Int)) c138 c139 (.lit (.int .u32 (rd q134 p135))) rfl) ?_
  refine kv g0 (mv) ?_
  obtain ⟨c140, H⟩ := of_if H
  refine kv g0 (ixX 8 c138 c137) ?_
  refine kv g0 (ldX (z := (0 : Int)) c138 c140 (.lit (.int .u32 (rd q102 p135))) rfl) ?_
  refine kv g0 (add) ?_
  refine kv g0 (ixX 8 c138 c137) ?_
  refine ks g0 (stX (e := IntKind.u32.wrap ((rd q134 p135) + (rd q102 p135))) c138 c139 rfl) ?_
  refine wk_end_draw hM (by kernel_rfl) ?_
  refine ac_blkN ?_
  refine ac_next ?_
  refine wk_start ?_
  refine kv g0 (mv) ?_
  refine kv g0 (add6) ?_
  refine kv g0 (asg) ?_
  refine wk_end ?_
  refine ac_k ?_
  exact acw hE [(0, 0), (2, 2), (4, 4)] 9999 (hK142 k136 (q134.set p135.toNat (IntKind.u32.wrap ((rd q134 p135) + (rd q102 p135)))) (wrap64 (p135 + 1)) (Nat.le_refl _) ⟨by omega, H⟩)
 rw [if_neg c137] at H
 refine aw_ifF ?_ (decide_eq_false c137)
 refine aw_exit ?_
 refine ac_then ?_
 refine ac_then ?_
 refine ac_hit rfl ?_
 refine ac_next ?_
 refine aw_grp1 ?_
 refine wk_start ?_
 obtain ⟨c143, H⟩ := of_if H
 refine kv g0 (ldXA c143) ?_
 obtain ⟨c144, H⟩ := of_if H
 refine ks g0 (stXA c144 c143) ?_
 refine wk_end ?_
 refine ac_next ?_
 refine aw_ret ?_
 obtain rfl := Option.some.inj H
 exact acr hE [.cell 6 49] (rcX c143 .nil) (.one _) [] 9999 (hx := renA)
/-! spec_Digest -/
mutual
def spec_Digest.l0 : Nat → ((List Int)) → ByteArray → (List Int) → Int → Option (ByteArray)
 | 0, _, _, _, _ => none
 | k18 + 1, t4, t7, q16, p17 => if p17 < (t7.size : Int) then if q16.length = 8 then (if 0 ≤ p17 then (if p17 ≤ (wrap64 (p17 + 64)) then (if (wrap64 (p17 + 64)) ≤ (t7.size : Int) then ((spec_l03Block.f k18 q16 (t7.extract p17.toNat (wrap64 (p17 + 64)).toNat) t4).bind fun t24 => (if t24.length = 8 then spec_Digest.l0 k18 t4 t7 t24 (wrap64 (p17 + 64)) else none)) else none) else none) else none) else none else spec_Digest.l1 k18 q16 (List.replicate 32 (0 : Int)) 0
def spec_Digest.l1 : Nat → (List Int) → (List Int) → Int → Option (ByteArray)
 | 0, _, _, _ => none
 | k41 + 1, q16, q39, p40 => if p40 < 8 then if 0 ≤ p40 then (if p40 < (q16.length : Int) then (if 0 ≤ (wrap64 (4 * p40)) then (if (wrap64 (4 * p40)) < (q39.length : Int) then if 0 ≤ (wrap64 ((wrap64 (4 * p40)) + 1)) then (if (wrap64 ((wrap64 (4 * p40)) + 1)) < (q39.length : Int) then if 0 ≤ (wrap64 ((wrap64 (4 * p40)) + 2)) then (if (wrap64 ((wrap64 (4 * p40)) + 2)) < (q39.length : Int) then if 0 ≤ (wrap64 ((wrap64 (4 * p40)) + 3)) then (if (wrap64 ((wrap64 (4 * p40)) + 3)) < (q39.length : Int) then spec_Digest.l1 k41 q16 ((((q39.set (wrap64 (4 * p40)).toNat (IntKind.u8.wrap ((rd q16 p40).fdiv (2 ^ 24)))).set (wrap64 ((wrap64 (4 * p40)) + 1)).toNat (IntKind.u8.wrap ((rd q16 p40).fdiv (2 ^ 16)))).set (wrap64 ((wrap64 (4 * p40)) + 2)).toNat (IntKind.u8.wrap ((rd q16 p40).fdiv (2 ^ 8)))).set (wrap64 ((wrap64 (4 * p40)) + 3)).toNat (IntKind.u8.wrap (rd q16 p40))) (wrap64 (p40 + 1)) else none) else none else none) else none else none) else none else none) else none) else none) else none else some (strOfNums q39)
end
def spec_Digest.f (k : Nat) (a0 : ByteArray) : Option (ByteArray) := (spec_l03First.f).bind fun t1 => (if t1.length = 8 then (spec_l03Keys.f).bind fun t4 => (if t4.length = 64 then (spec_PadText.f k a0).bind fun t7 => spec_Digest.l0 k t4 t7 t1 0 else none) else none)
theorem spec_Digest.ok {k : Nat} {a0 : ByteArray} {r : ByteArray} (H : spec_Digest.f k a0 = some r) : ACalls Tryd.prog 11 [] [.lit (.string a0)] [] (.lit (.string r)) := by
 refine acalls (fn := Tryd.f11) (nt := 72) Tryd.func11 rfl rfl (Nat.le_of_ble_eq_true rfl) fun E hE => ?_
 rw [spec_Digest.f] at H
 refine aw_grp1 ?_
 refine wk_start ?_
 refine kv g0 (asg) ?_
 refine wk_end ?_
 refine ac_next ?_
 refine aw_grp1 ?_
 refine wk_start ?_
 obtain ⟨t1, A2, H⟩ := of_bind H
 refine kcS0 9 (.agg (t1.map (eI .u32))) [] g0 (cal (spec_l03First.ok A2) [] 9999 .n (hf := Tryd.func17)) mpLA rfl ?_
 refine kb g0 (alc 0 [.int .u32 0, .int .u32 0, .int .u32 0, .int .u32 0, .int .u32 0, .int .u32 0, .int .u32 0, .int .u32 0] ((List.replicate 8 (0 : Int)).map (eI .u32))) ?_
 obtain ⟨c3, H⟩ := of_if H
 refine ks g0 (stXA List.length_replicate c3) ?_
 refine wk_end ?_
 refine ac_next ?_
 refine aw_grp1 ?_
 refine wk_start ?_
 obtain ⟨t4, A5, H⟩ := of_bind H
 refine kcS0 10 (.agg (t4.map (eI .u32))) [] g0 (cal (spec_l03Keys.ok A5) [] 9999 .n (hf := Tryd.func18)) mpLA rfl ?_
 refine kb g0 (alc 1 [.int .u32 0, .int .u32 0, .int .u32 0, .int .u32 0, .int .u32 0, .int .u32 0, .int .u32 0, .int .u32 0, .int .u32 0, .int .u32 0, .int .u32 0, .int .u32 0, .int .u32 0, .int .u32 0, .int .u32 0, .int .u32 0, .int .u32 0, .int .u32 0, .int .u32 0, .int .u32 0, .int .u32 0, .int .u32 0, .int .u32 0, .int .u32 0, .int .u32 0, .int .u32 0, .int .u32 0, .int .u32 0, .int .u32 0, .int .u32 0, .int .u32 0, .int .u32 0, .int .u32 0, .int .u32 0, .int .u32 0, .int .u32 0, .int .u32 0, .int .u32 0, .int .u32 0, .int .u32 0, .int .u32 0, .int .u32 0, .int .u32 0, .int .u32 0, .int .u32 0, .int .u32 0, .int .u32 0, .int .u32 0, .int .u32 0, .int .u32 0, .int .u32 0, .int .u32 0, .int .u32 0, .int .u32 0, .int .u32 0, .int .u32 0, .int .u32 0, .int .u32 0, .int .u32 0, .int .u32 0, .int .u32 0, .int .u32 0, .int .u32 0, .int .u32 0] ((List.replicate 64 (0 : Int)).map (eI .u32))) ?_
 obtain ⟨c6, H⟩ := of_if H
 refine ks g0 (stXA List.length_replicate c6) ?_
 refine wk_end ?_
 refine ac_next ?_
 refine aw_grp1 ?_
 refine wk_start ?_
 refine kv g0 (mv) ?_
 obtain ⟨t7, A8, H⟩ := of_bind H
 refine kcS0 12 (.lit (.string t7)) [] g0 (cal (spec_PadText.ok A8) [] 9999 .n (hf := Tryd.func19)) rfl rfl ?_
 refine kv g0 (asg) ?_
 refine wk_end ?_
 refine ac_next ?_
 refine aw_grp1 ?_
 refine aw_grp1 ?_
 refine wk_start ?_
 refine kv g0 (asg) ?_
 refine wk_end ?_
 refine ac_next ?_
 refine aw_block ?_
 refine aw_loop2 (fun (k_ : Nat) (q16 : List Int) (p17 : Int) => k_ ≤ k ∧ spec_Digest.l0 k_ t4 t7 q16 p17 = some r) (fun (q16 : List Int) (p17 : Int) => ⟨[(3, .box 0 0), (4, .box 1 0), (5, .lit (.string t7)), (6, .lit (.int .i64 p17))], [(0, .box 49 (q16.map (eI .u32))), (1, .box 51 (t4.map (eI .u32)))]⟩) k t1 0 ⟨Nat.le_refl _, H⟩ (fun K_ h_ => acw hE [(0, 0), (1, 1)] 9999 h_) (fun _ _ => by intro h_; have h_ := h_.2; rw [spec_Digest.l0.eq_1] at h_; cases h_) ?_
 intro k18 q16 p17 hq_ K27 hK28
 have hk18 := hq_.1
 have H := hq_.2
 clear hq_
 rw [spec_Digest.l0.eq_2] at H
 refine aw_grp1 ?_
 refine aw_grp1 ?_
 refine wk_start ?_
 refine kv g0 (mv) ?_
 refine kv g0 (mv) ?_
 refine kv g0 (lnT) ?_
 refine kv g0 (lss) ?_
 refine wk_end ?_
 refine ac_next ?_
 by_cases c19 : p17 < (t7.size : Int)
 ·rw [if_pos c19] at H
  refine aw_ifT ?_ (decide_eq_true c19)
  refine aw_skip ?_
  refine ac_next ?_
  refine aw_grp1 ?_
  refine aw_block ?_
  refine wk_start ?_
  obtain ⟨c20, H⟩ := of_if H
  refine kv g0 (ldXA c20) ?_
  refine kv g0 (mv) ?_
  refine kv g0 (mv) ?_
  refine kv g0 (mv) ?_
  refine kv g0 (add6) ?_
  obtain ⟨c21, H⟩ := of_if H
  obtain ⟨c22, H⟩ := of_if H
  obtain ⟨c23, H⟩ := of_if H
  refine kv g0 (tsLH c21 c22 c23) ?_
  refine kv g0 (ldXA c6) ?_
  obtain ⟨t24, A25, H⟩ := of_bind H
  refine kcS0 26 (.agg (t24.map (eI .u32))) [] g0 (cal (spec_l03Block.ok A25) [] 9999 .n (hf := Tryd.func20) (hargs := by exact (lc (vw3A.trans ren3A.symm) (lc rfl (lc (vw3A.trans ren3A.symm) rfl))))) mpLA rfl ?_
  obtain ⟨c26, H⟩ := of_if H
  refine ks g0 (stXA c20 c26) ?_
  refine wk_end_draw hM (by kernel_rfl) ?_
  refine ac_blkN ?_
  refine ac_next ?_
  refine wk_start ?_
  refine kv g0 (mv) ?_
  refine kv g0 (add6) ?_
  refine kv g0 (asg) ?_
  refine wk_end ?_
  refine ac_k ?_
  exact acw hE [(0, 0), (1, 1)] 9999 (hK28 k18 t24 (wrap64 (p17 + 64)) (Nat.le_refl _) ⟨by omega, H⟩)
 rw [if_neg c19] at H
 refine aw_ifF ?_ (decide_eq_false c19)
 refine aw_exit ?_
 refine ac_then ?_
 refine ac_then ?_
 refine ac_hit rfl ?_
 refine ac_next ?_
 refine aw_grp1 ?_
 refine wk_start ?_
 refine kb g0 (mks 2 5 1 1 [.int .u8 0] (eI .u8 (0 : Int)) ((List.replicate 32 (0 : Int)).map (eI .u8)) (by decide : (0 : Int) ≤ 32) (mkb (by decide : (32 : Nat) ≤ 281474976710656) rfl) repE) ?_
 refine kv g0 (asg) ?_
 refine wk_end ?_
 refine ac_next ?_
 refine aw_grp1 ?_
 refine aw_grp1 ?_
 refine wk_start ?_
 refine kv g0 (asg) ?_
 refine wk_end ?_
 refine ac_next ?_
 refine aw_block ?_
 refine aw_loop2 (fun (k_ : Nat) (q39 : List Int) (p40 : Int) => k_ ≤ k18 ∧ spec_Digest.l1 k_ q16 q39 p40 = some r) (fun (q39 : List Int) (p40 : Int) => ⟨[(3, .box 0 0), (7, .row 2), (8, .lit (.int .i64 p40))], [(0, .box 49 (q16.map (eI .u32))), (2, .row 5 1 (q39.map (eI .u8)))]⟩) k18 (List.replicate 32 (0 : Int)) 0 ⟨Nat.le_refl _, H⟩ (fun K_ h_ => acw hE [(0, 0), (2, 2)] 9999 h_) (fun _ _ => by intro h_; have h_ := h_.2; rw [spec_Digest.l1.eq_1] at h_; cases h_) ?_
 intro k41 q39 p40 hq_ K53 hK54
 have hk41 := hq_.1
 have H := hq_.2
 clear hq_
 rw [spec_Digest.l1.eq_2] at H
 refine aw_grp1 ?_
 refine aw_grp1 ?_
 refine wk_start ?_
 refine kv g0 (mv) ?_
 refine kv g0 (lss) ?_
 refine wk_end ?_
 refine ac_next ?_
 by_cases c42 : p40 < 8
 ·rw [if_pos c42] at H
  refine aw_ifT ?_ (decide_eq_true c42)
  refine aw_skip ?_
  refine ac_next ?_
  refine aw_grp1 ?_
  refine aw_block ?_
  refine aw_grp1 ?_
  refine wk_start ?_
  refine kv g0 (mv) ?_
  refine kv g0 (mv) ?_
  refine kv g0 (mul6) ?_
  refine kv g0 (mv) ?_
  obtain ⟨c43, H⟩ := of_if H
  obtain ⟨c44, H⟩ := of_if H
  refine kv g0 (ixX 8 c43 c42) ?_
  refine kv g0 (ldX (z := (0 : Int)) c43 c44 (.lit (.int .u32 (rd q16 p40))) rfl) ?_
  refine kv g0 (shr (by decide : (0 : Int) ≤ 24)) ?_
  refine kv g0 (cnv .u8) ?_
  obtain ⟨c45, H⟩ := of_if H
  obtain ⟨c46, H⟩ := of_if H
  refine kv g0 (ixR 5 c45 (ltE c46)) ?_
  refine ks g0 (stE 1 (eI .u8 (IntKind.u8.wrap ((rd q16 p40).fdiv (2 ^ 24)))) ((q39.set (wrap64 (4 * p40)).toNat (IntKind.u8.wrap ((rd q16 p40).fdiv (2 ^ 24)))).map (eI .u8)) (getE (z := (0 : Int)) c45 c46) setE) ?_
  refine wk_end ?_
  refine ac_next ?_
  refine aw_grp1 ?_
  refine wk_start ?_
  refine kv g0 (mv) ?_
  refine kv g0 (mv) ?_
  refine kv g0 (mul6) ?_
  refine kv g0 (add6) ?_
  refine kv g0 (mv) ?_
  refine kv g0 (ixX 8 c43 c42) ?_
  refine kv g0 (ldX (z := (0 : Int)) c43 c44 (.lit (.int .u32 (rd q16 p40))) rfl) ?_
  refine kv g0 (shr (by decide : (0 : Int) ≤ 16)) ?_
  refine kv g0 (cnv .u8) ?_
  obtain ⟨c47, H⟩ := of_if H
  obtain ⟨c48, H⟩ := of_if H
  refine kv g0 (ixR 5 c47 (ltE (ls c48))) ?_
  refine ks g0 (stE 1 (eI .u8 (IntKind.u8.wrap ((rd q16 p40).fdiv (2 ^ 16)))) (((q39.set (wrap64 (4 * p40)).toNat (IntKind.u8.wrap ((rd q16 p40).fdiv (2 ^ 24)))).set (wrap64 ((wrap64 (4 * p40)) + 1)).toNat (IntKind.u8.wrap ((rd q16 p40).fdiv (2 ^ 16)))).map (eI .u8)) (getE (z := (0 : Int)) c47 (ls c48)) setE) ?_
  refine wk_end ?_
  refine ac_next ?_
  refine aw_grp1 ?_
  refine wk_start ?_
  refine kv g0 (mv) ?_
  refine kv g0 (mv) ?_
  refine kv g0 (mul6) ?_
  refine kv g0 (add6) ?_
  refine kv g0 (mv) ?_
  refine kv g0 (ixX 8 c43 c42) ?_
  refine kv g0 (ldX (z := (0 : Int)) c43 c44 (.lit (.int .u32 (rd q16 p40))) rfl) ?_
  refine kv g0 (shr (by decide : (0 : Int) ≤ 8)) ?_
  refine kv g0 (cnv .u8) ?_
  obtain ⟨c49, H⟩ := of_if H
  obtain ⟨c50, H⟩ := of_if H
  refine kv g0 (ixR 5 c49 (ltE (ls (ls c50)))) ?_
  refine ks g0 (stE 1 (eI .u8 (IntKind.u8.wrap ((rd q16 p40).fdiv (2 ^ 8)))) ((((q39.set (wrap64 (4 * p40)).toNat (IntKind.u8.wrap ((rd q16 p40).fdiv (2 ^ 24)))).set (wrap64 ((wrap64 (4 * p40)) + 1)).toNat (IntKind.u8.wrap ((rd q16 p40).fdiv (2 ^ 16)))).set (wrap64 ((wrap64 (4 * p40)) + 2)).toNat (IntKind.u8.wrap ((rd q16 p40).fdiv (2 ^ 8)))).map (eI .u8)) (getE (z := (0 : Int)) c49 (ls (ls c50))) setE) ?_
  refine wk_end ?_
  refine ac_next ?_
  refine wk_start ?_
  refine kv g0 (mv) ?_
  refine kv g0 (mv) ?_
  refine kv g0 (mul6) ?_
  refine kv g0 (add6) ?_
  refine kv g0 (mv) ?_
  refine kv g0 (ixX 8 c43 c42) ?_
  refine kv g0 (ldX (z := (0 : Int)) c43 c44 (.lit (.int .u32 (rd q16 p40))) rfl) ?_
  refine kv g0 (cnv .u8) ?_
  obtain ⟨c51, H⟩ := of_if H
  obtain ⟨c52, H⟩ := of_if H
  refine kv g0 (ixR 5 c51 (ltE (ls (ls (ls c52))))) ?_
  refine ks g0 (stE 1 (eI .u8 (IntKind.u8.wrap (rd q16 p40))) (((((q39.set (wrap64 (4 * p40)).toNat (IntKind.u8.wrap ((rd q16 p40).fdiv (2 ^ 24)))).set (wrap64 ((wrap64 (4 * p40)) + 1)).toNat (IntKind.u8.wrap ((rd q16 p40).fdiv (2 ^ 16)))).set (wrap64 ((wrap64 (4 * p40)) + 2)).toNat (IntKind.u8.wrap ((rd q16 p40).fdiv (2 ^ 8)))).set (wrap64 ((wrap64 (4 * p40)) + 3)).toNat (IntKind.u8.wrap (rd q16 p40))).map (eI .u8)) (getE (z := (0 : Int)) c51 (ls (ls (ls c52)))) setE) ?_
  refine wk_end ?_
  refine ac_blkN ?_
  refine ac_next ?_
  refine wk_start ?_
  refine kv g0 (mv) ?_
  refine kv g0 (add6) ?_
  refine kv g0 (asg) ?_
  refine wk_end ?_
  refine ac_k ?_
  exact acw hE [(0, 0), (2, 2)] 9999 (hK54 k41 ((((q39.set (wrap64 (4 * p40)).toNat (IntKind.u8.wrap ((rd q16 p40).fdiv (2 ^ 24)))).set (wrap64 ((wrap64 (4 * p40)) + 1)).toNat (IntKind.u8.wrap ((rd q16 p40).fdiv (2 ^ 16)))).set (wrap64 ((wrap64 (4 * p40)) + 2)).toNat (IntKind.u8.wrap ((rd q16 p40).fdiv (2 ^ 8)))).set (wrap64 ((wrap64 (4 * p40)) + 3)).toNat (IntKind.u8.wrap (rd q16 p40))) (wrap64 (p40 + 1)) (Nat.le_refl _) ⟨by omega, H⟩)
 rw [if_neg c42] at H
 refine aw_ifF ?_ (decide_eq_false c42)
 refine aw_exit ?_
 refine ac_then ?_
 refine ac_then ?_
 refine ac_hit rfl ?_
 refine ac_next ?_
 refine aw_grp1 ?_
 refine wk_start ?_
 refine kv g0 (mv) ?_
 refine kv g0 (cvB (.row rfl)) ?_
 refine kv g0 (asg) ?_
 refine wk_end ?_
 refine ac_next ?_
 refine aw_ret ?_
 obtain rfl := Option.some.inj H
 exact acr hE [.tmp 2] (.tmp .nil) (.one _) [] 9999
/-! spec_l01In -/
def spec_l01In.f (a0 : Int) (a1 : Int) (a2 : Int) : Option (Bool) := if a0 ≥ a1 then some (decide (a0 ≤ a2)) else some false
theorem spec_l01In.ok {a0 : Int} {a1 : Int} {a2 : Int} {r : Bool} (H : spec_l01In.f a0 a1 a2 = some r) : ACalls Tryd.prog 37 [] [.lit (.int .i64 a0), .lit (.int .i64 a1), .lit (.int .i64 a2)] [] (.lit (.bool r)) := by
 refine acalls (fn := Tryd.f37) (nt := 15) Tryd.func37 rfl rfl (Nat.le_of_ble_eq_true rfl) fun E hE => ?_
 rw [spec_l01In.f] at H
 refine aw_grp1 ?_
 refine wk_start ?_
 refine kv g0 (asg) ?_
 refine wk_end ?_
 refine ac_next ?_
 refine aw_grp1 ?_
 refine wk_start ?_
 refine kv g0 (mv) ?_
 refine kv g0 (mv) ?_
 refine kv g0 (geq) ?_
 refine kv g0 (mv) ?_
 by_cases c1 : a0 ≥ a1
 ·rw [if_pos c1] at H
  refine kv (g1 (decide_eq_true c1)) (mv) ?_
  refine kv (g1 (decide_eq_true c1)) (mv) ?_
  refine kv (g1 (decide_eq_true c1)) (leq) ?_
  refine kv g0 (pkT (decide_eq_true c1)) ?_
  refine kv g0 (asg) ?_
  refine wk_end ?_
  refine ac_next ?_
  refine aw_ret ?_
  obtain rfl := Option.some.inj H
  exact acr hE [.tmp 6] (.tmp .nil) (.one _) [] 9999
 rw [if_neg c1] at H
 refine kx (hT (decide_eq_false c1)) ?_
 refine kx (hT (decide_eq_false c1)) ?_
 refine kx (hT (decide_eq_false c1)) ?_
 refine kv g0 (pkF (decide_eq_false c1)) ?_
 refine kv g0 (asg) ?_
 refine wk_end ?_
 refine ac_next ?_
 refine aw_ret ?_
 obtain rfl := Option.some.inj H
 exact acr hE [.tmp 6] (.tmp .nil) (.one _) [] 9999
/-! spec_HalfOk -/
def spec_HalfOk.f (a0 : Int) : Option (Bool) := (spec_l01In.f a0 0 4294967295).bind fun t1 => some t1
theorem spec_HalfOk.ok {a0 : Int} {r : Bool} (H : spec_HalfOk.f a0 = some r) : ACalls Tryd.prog 45 [] [.lit (.int .i64 a0)] [] (.lit (.bool r)) := by
 refine acalls (fn := Tryd.f45) (nt := 5) Tryd.func45 rfl rfl (Nat.le_of_ble_eq_true rfl) fun E hE => ?_
 rw [spec_HalfOk.f] at H
 refine aw_grp1 ?_
 refine wk_start ?_
 refine kv g0 (asg) ?_
 refine wk_end ?_
 refine ac_next ?_
 refine aw_grp1 ?_
 refine wk_start ?_
 refine kv g0 (mv) ?_
 obtain ⟨t1, A2, H⟩ := of_bind H
 refine kcS0 4 (.lit (.bool t1)) [] g0 (cal (spec_l01In.ok A2) [] 9999 .n (hf := Tryd.func37)) rfl rfl ?_
 refine kv g0 (asg) ?_
 refine wk_end ?_
 refine ac_next ?_
 refine aw_ret ?_
 obtain rfl := Option.some.inj H
 exact acr hE [.tmp 2] (.tmp .nil) (.one _) [] 9999
/-! spec_ItemOk -/
def spec_ItemOk.f (a0_0 : Int) (a0_1 : Int) (a0_2 : Int) (a0_3 : Int) : Option (Bool) := if a0_0 = 1 then ((spec_HalfOk.f a0_1).bind fun t2 => (if t2 = true then ((spec_HalfOk.f a0_2).bind fun t5 => (if t5 = true then some (a0_3 == 0) else some false)) else some false)) else if a0_0 = 2 then ((spec_l01In.f a0_3 1 1000000000).bind fun t9 => (if t9 = true then (if a0_1 = 0 then some (a0_2 == 0) else some false) else some false)) else some false
theorem spec_ItemOk.ok {a0_0 : Int} {a0_1 : Int} {a0_2 : Int} {a0_3 : Int} {r : Bool} (H : spec_ItemOk.f a0_0 a0_1 a0_2 a0_3 = some r) : ACalls Tryd.prog 38 [] [.agg [.lit (.int .i64 a0_0), .lit (.int .i64 a0_1), .lit (.int .i64 a0_2), .lit (.int .i64 a0_3)]] [] (.lit (.bool r)) := by
 refine acalls (fn := Tryd.f38) (nt := 37) Tryd.func38 rfl rfl (Nat.le_of_ble_eq_true rfl) fun E hE => ?_
 rw [spec_ItemOk.f] at H
 refine aw_grp1 ?_
 refine wk_start ?_
 refine kb g0 (bxA 0) ?_
 refine kv g0 (asg) ?_
 refine wk_end ?_
 refine ac_next ?_
 refine aw_grp1 ?_
 refine aw_grp1 ?_
 refine wk_start ?_
 refine kv g0 (faB 0 0) ?_
 refine kv g0 (ldB) ?_
 refine kv g0 (eql) ?_
 refine wk_end ?_
 refine ac_next ?_
 by_cases c1 : a0_0 = 1
 ·rw [if_pos c1] at H
  refine aw_ifT ?_ (eT c1)
  refine aw_grp1 ?_
  refine wk_start ?_
  refine kv g0 (faB 1 1) ?_
  refine kv g0 (ldB) ?_
  obtain ⟨t2, A3, H⟩ := of_bind H
  refine kcS0 8 (.lit (.bool t2)) [] g0 (cal (spec_HalfOk.ok A3) [] 9999 .n (hf := Tryd.func45)) rfl rfl ?_
  refine kv g0 (mv) ?_
  by_cases c4 : t2 = true
  ·rw [if_pos c4] at H
   refine kv (g1 c4) (faB 2 2) ?_
   refine kv (g1 c4) (ldB) ?_
   obtain ⟨t5, A6, H⟩ := of_bind H
   refine kcS0 12 (.lit (.bool t5)) [] (g1 c4) (cal (spec_HalfOk.ok A6) [] 9999 .n (hf := Tryd.func45)) rfl rfl ?_
   refine kv g0 (pkT c4) ?_
   refine kv g0 (mv) ?_
   by_cases c7 : t5 = true
   ·rw [if_pos c7] at H
    refine kv (g1 c7) (faB 3 3) ?_
    refine kv (g1 c7) (ldB) ?_
    refine kv (g1 c7) (eql) ?_
    refine kv g0 (pkT c7) ?_
    refine kv g0 (asg) ?_
    refine wk_end ?_
    refine ac_next ?_
    refine aw_ret ?_
    refine ac_thenR ?_
    obtain rfl := Option.some.inj H
    exact acr hE [.tmp 2] (.tmp .nil) (.one _) [] 9999
   rw [if_neg c7] at H
   refine kx (hT (bF c7)) ?_
   refine kx (hT (bF c7)) ?_
   refine kx (hT (bF c7)) ?_
   refine kv g0 (pkF (bF c7)) ?_
   refine kv g0 (asg) ?_
   refine wk_end ?_
   refine ac_next ?_
   refine aw_ret ?_
   refine ac_thenR ?_
   obtain rfl := Option.some.inj H
   exact acr hE [.tmp 2] (.tmp .nil) (.one _) [] 9999
  rw [if_neg c4] at H
  refine kx (hT (bF c4)) ?_
  refine kx (hT (bF c4)) ?_
  refine kx (hT (bF c4)) ?_
  refine kv g0 (pkF (bF c4)) ?_
  refine kv g0 (mv) ?_
  refine kx (hT rfl) ?_
  refine kx (hT rfl) ?_
  refine kx (hT rfl) ?_
  refine kv g0 (pkF rfl) ?_
  refine kv g0 (asg) ?_
  refine wk_end ?_
  refine ac_next ?_
  refine aw_ret ?_
  refine ac_thenR ?_
  obtain rfl := Option.some.inj H
  exact acr hE [.tmp 2] (.tmp .nil) (.one _) [] 9999
 rw [if_neg c1] at H
 refine aw_ifF ?_ (eF c1)
 refine aw_skip ?_
 refine ac_next ?_
 refine aw_grp1 ?_
 refine wk_start ?_
 refine kv g0 (faB 0 0) ?_
 refine kv g0 (ldB) ?_
 refine kv g0 (eql) ?_
 refine kv g0 (mv) ?_
 by_cases c8 : a0_0 = 2
 ·rw [if_pos c8] at H
  refine kv (g1 (eT c8)) (faB 3 3) ?_
  refine kv (g1 (eT c8)) (ldB) ?_
  obtain ⟨t9, A10, H⟩ := of_bind H
  refine kcS0 25 (.lit (.bool t9)) [] (g1 (eT c8)) (cal (spec_l01In.ok A10) [] 9999 .n (hf := Tryd.func37)) rfl rfl ?_
  refine kv g0 (pkT (eT c8)) ?_
  refine kv g0 (mv) ?_
  by_cases c11 : t9 = true
  ·rw [if_pos c11] at H
   refine kv (g1 c11) (faB 1 1) ?_
   refine kv (g1 c11) (ldB) ?_
   refine kv (g1 c11) (eql) ?_
   refine kv g0 (pkT c11) ?_
   refine kv g0 (mv) ?_
   by_cases c12 : a0_1 = 0
   ·rw [if_pos c12] at H
    refine kv (g1 (eT c12)) (faB 2 2) ?_
    refine kv (g1 (eT c12)) (ldB) ?_
    refine kv (g1 (eT c12)) (eql) ?_
    refine kv g0 (pkT (eT c12)) ?_
    refine kv g0 (asg) ?_
    refine wk_end ?_
    refine ac_next ?_
    refine aw_ret ?_
    obtain rfl := Option.some.inj H
    exact acr hE [.tmp 2] (.tmp .nil) (.one _) [] 9999
   rw [if_neg c12] at H
   refine kx (hT (eF c12)) ?_
   refine kx (hT (eF c12)) ?_
   refine kx (hT (eF c12)) ?_
   refine kv g0 (pkF (eF c12)) ?_
   refine kv g0 (asg) ?_
   refine wk_end ?_
   refine ac_next ?_
   refine aw_ret ?_
   obtain rfl := Option.some.inj H
   exact acr hE [.tmp 2] (.tmp .nil) (.one _) [] 9999
  rw [if_neg c11] at H
  refine kx (hT (bF c11)) ?_
  refine kx (hT (bF c11)) ?_
  refine kx (hT (bF c11)) ?_
  refine kv g0 (pkF (bF c11)) ?_
  refine kv g0 (mv) ?_
  refine kx (hT rfl) ?_
  refine kx (hT rfl) ?_
  refine kx (hT rfl) ?_
  refine kv g0 (pkF rfl) ?_
  refine kv g0 (asg) ?_
  refine wk_end ?_
  refine ac_next ?_
  refine aw_ret ?_
  obtain rfl := Option.some.inj H
  exact acr hE [.tmp 2] (.tmp .nil) (.one _) [] 9999
 rw [if_neg c8] at H
 refine kx (hT (eF c8)) ?_
 refine kx (hT (eF c8)) ?_
 refine kx (hT (eF c8)) ?_
 refine kv g0 (pkF (eF c8)) ?_
 refine kv g0 (mv) ?_
 refine kx (hT rfl) ?_
 refine kx (hT rfl) ?_
 refine kx (hT rfl) ?_
 refine kv g0 (pkF rfl) ?_
 refine kv g0 (mv) ?_
 refine kx (hT rfl) ?_
 refine kx (hT rfl) ?_
 refine kx (hT rfl) ?_
 refine kv g0 (pkF rfl) ?_
 refine kv g0 (asg) ?_
 refine wk_end ?_
 refine ac_next ?_
 refine aw_ret ?_
 obtain rfl := Option.some.inj H
 exact acr hE [.tmp 2] (.tmp .nil) (.one _) [] 9999
/-! spec_FrameOk -/
def spec_FrameOk.f (a0_0 : Int) (a0_1 : Int) (a0_2 : Int) (a0_3 : Int) (a0_4 : Int) (a0_5 : Int) (a0_6 : Int) : Option (Bool) := (spec_l01In.f a0_1 0 2).bind fun t1 => (if t1 = true then ((spec_l01In.f a0_2 1 1000000000).bind fun t4 => if t4 = true then if a0_0 = 1 then ((spec_ItemOk.f a0_3 a0_4 a0_5 a0_6).bind fun t8 => some t8) else if a0_0 = 2 then some (a0_3 == 0 && (a0_4 == 0 && (a0_5 == 0 && (a0_6 == 0)))) else some false else some false) else some false)
theorem spec_FrameOk.ok {a0_0 : Int} {a0_1 : Int} {a0_2 : Int} {a0_3 : Int} {a0_4 : Int} {a0_5 : Int} {a0_6 : Int} {r : Bool} (H : spec_FrameOk.f a0_0 a0_1 a0_2 a0_3 a0_4 a0_5 a0_6 = some r) : ACalls Tryd.prog 28 [] [.agg [.lit (.int .i64 a0_0), .lit (.int .i64 a0_1), .lit (.int .i64 a0_2), .lit (.int .i64 a0_3), .lit (.int .i64 a0_4), .lit (.int .i64 a0_5), .lit (.int .i64 a0_6)]] [] (.lit (.bool r)) := by
 refine acalls (fn := Tryd.f28) (nt := 28) Tryd.func28 rfl rfl (Nat.le_of_ble_eq_true rfl) fun E hE => ?_
 rw [spec_FrameOk.f] at H
 refine aw_grp1 ?_
 refine wk_start ?_
 refine kb g0 (bxA 0) ?_
 refine kv g0 (asg) ?_
 refine wk_end ?_
 refine ac_next ?_
 refine aw_grp1 ?_
 refine aw_grp1 ?_
 refine wk_start ?_
 refine kv g0 (faB 1 1) ?_
 refine kv g0 (ldB) ?_
 obtain ⟨t1, A2, H⟩ := of_bind H
 refine kcS0 5 (.lit (.bool t1)) [] g0 (cal (spec_l01In.ok A2) [] 9999 .n (hf := Tryd.func37)) rfl rfl ?_
 refine kv g0 (not_) ?_
 refine kv g0 (mv) ?_
 by_cases c3 : t1 = true
 ·rw [if_pos c3] at H
  refine kv (g1 (nF c3)) (faB 2 2) ?_
  refine kv (g1 (nF c3)) (ldB) ?_
  obtain ⟨t4, A5, H⟩ := of_bind H
  refine kcS0 10 (.lit (.bool t4)) [] (g1 (nF c3)) (cal (spec_l01In.ok A5) [] 9999 .n (hf := Tryd.func37)) rfl rfl ?_
  refine kv (g1 (nF c3)) (not_) ?_
  refine kv g0 (pkF (nF c3)) ?_
  refine wk_end ?_
  refine ac_next ?_
  by_cases c6 : t4 = true
  ·rw [if_pos c6] at H
   refine aw_ifF ?_ (nF c6)
   refine aw_skip ?_
   refine ac_next ?_
   refine aw_grp1 ?_
   refine aw_grp1 ?_
   refine wk_start ?_
   refine kv g0 (faB 0 0) ?_
   refine kv g0 (ldB) ?_
   refine kv g0 (eql) ?_
   refine wk_end ?_
   refine ac_next ?_
   by_cases c7 : a0_0 = 1
   ·rw [if_pos c7] at H
    refine aw_ifT ?_ (eT c7)
    refine aw_grp1 ?_
    refine wk_start ?_
    refine kv g0 (faB 3 3) ?_
    refine kv g0 (ldBA 4 [.lit (.int .i64 a0_3), .lit (.int .i64 a0_4), .lit (.int .i64 a0_5), .lit (.int .i64 a0_6)]) ?_
    obtain ⟨t8, A9, H⟩ := of_bind H
    refine kcS0 18 (.lit (.bool t8)) [] g0 (cal (spec_ItemOk.ok A9) [] 9999 .n (hf := Tryd.func38)) rfl rfl ?_
    refine kv g0 (asg) ?_
    refine wk_end ?_
    refine ac_next ?_
    refine aw_ret ?_
    refine ac_thenR ?_
    obtain rfl := Option.some.inj H
    exact acr hE [.tmp 2] (.tmp .nil) (.one _) [] 9999
   rw [if_neg c7] at H
   refine aw_ifF ?_ (eF c7)
   refine aw_skip ?_
   refine ac_next ?_
   refine aw_grp1 ?_
   refine wk_start ?_
   refine kv g0 (faB 0 0) ?_
   refine kv g0 (ldB) ?_
   refine kv g0 (eql) ?_
   refine kv g0 (mv) ?_
   by_cases c10 : a0_0 = 2
   ·rw [if_pos c10] at H
    refine kv (g1 (eT c10)) (faB 3 3) ?_
    refine kv (g1 (eT c10)) (ldBA 4 [.lit (.int .i64 a0_3), .lit (.int .i64 a0_4), .lit (.int .i64 a0_5), .lit (.int .i64 a0_6)]) ?_
    refine kv (g1 (eT c10)) (bld [(0, 1), (1, 1), (2, 1), (3, 1)] [.int .i64 0, .int .i64 0, .int .i64 0, .int .i64 0] [.lit (.int .i64 0), .lit (.int .i64 0), .lit (.int .i64 0), .lit (.int .i64 0)]) ?_
    refine kv (g1 (eT c10)) (eqS (fun w => eq33 _ w a0_3 a0_4 a0_5 a0_6 0 0 0 0)) ?_
    refine kv g0 (pkT (eT c10)) ?_
    refine kv g0 (asg) ?_
    refine wk_end ?_
    refine ac_next ?_
    refine aw_ret ?_
    obtain rfl := Option.some.inj H
    exact acr hE [.tmp 2] (.tmp .nil) (.one _) [] 9999
   rw [if_neg c10] at H
   refine kx (hT (eF c10)) ?_
   refine kx (hT (eF c10)) ?_
   refine kx (hT (eF c10)) ?_
   refine kx (hT (eF c10)) ?_
   refine kv g0 (pkF (eF c10)) ?_
   refine kv g0 (asg) ?_
   refine wk_end ?_
   refine ac_next ?_
   refine aw_ret ?_
   obtain rfl := Option.some.inj H
   exact acr hE [.tmp 2] (.tmp .nil) (.one _) [] 9999
  rw [if_neg c6] at H
  refine aw_ifT ?_ (nT (bF c6))
  refine aw_grp1 ?_
  refine wk_start ?_
  refine kv g0 (asg) ?_
  refine wk_end ?_
  refine ac_next ?_
  refine aw_ret ?_
  refine ac_thenR ?_
  obtain rfl := Option.some.inj H
  exact acr hE [.tmp 2] (.tmp .nil) (.one _) [] 9999
 rw [if_neg c3] at H
 refine kx (hF (nT (bF c3))) ?_
 refine kx (hF (nT (bF c3))) ?_
 refine kx (hF (nT (bF c3))) ?_
 refine kx (hF (nT (bF c3))) ?_
 refine kv g0 (pkT (nT (bF c3))) ?_
 refine wk_end ?_
 refine ac_next ?_
 refine aw_ifT ?_ rfl
 refine aw_grp1 ?_
 refine wk_start ?_
 refine kv g0 (asg) ?_
 refine wk_end ?_
 refine ac_next ?_
 refine aw_ret ?_
 refine ac_thenR ?_
 obtain rfl := Option.some.inj H
 exact acr hE [.tmp 2] (.tmp .nil) (.one _) [] 9999
/-! spec_l01Var -/
def spec_l01Var.l0 : Nat → Int → (List Int) → Option (ByteArray)
 | 0, _, _ => none
 | k6 + 1, p4, q5 => if p4 > 127 then if q5.length + ([IntKind.u8.wrap (wrap64 ((p4.tmod 128) + 128))] : List Int).length < 140737488355328 then spec_l01Var.l0 k6 (wrap64 (p4.tdiv 128)) (q5 ++ ([IntKind.u8.wrap (wrap64 ((p4.tmod 128) + 128))] : List Int)) else none else if q5.length + ([IntKind.u8.wrap p4] : List Int).length < 140737488355328 then some (strOfNums (q5 ++ ([IntKind.u8.wrap p4] : List Int))) else none
def spec_l01Var.f (k : Nat) (a0 : Int) : Option (ByteArray) := spec_l01Var.l0 k a0 ([] : List Int)
theorem spec_l01Var.ok {k : Nat} {a0 : Int} {r : ByteArray} (H : spec_l01Var.f k a0 = some r) : ACalls Tryd.prog 30 [] [.lit (.int .i64 a0)] [] (.lit (.string r)) := by
 refine acalls (fn := Tryd.f30) (nt := 22) Tryd.func30 rfl rfl (Nat.le_of_ble_eq_true rfl) fun E hE => ?_
 rw [spec_l01Var.f] at H
 refine aw_grp1 ?_
 refine wk_start ?_
 refine kv g0 (asg) ?_
 refine wk_end ?_
 refine ac_next ?_
 refine aw_grp1 ?_
 refine wk_start ?_
 refine kb g0 (bsl 0 5 1 [.int .u8 0] (([] : List Int).map (eI .u8))) ?_
 refine kv g0 (asg) ?_
 refine wk_end ?_
 refine ac_next ?_
 refine aw_grp1 ?_
 refine aw_block ?_
 refine aw_loop2 (fun (k_ : Nat) (p4 : Int) (q5 : List Int) => k_ ≤ k ∧ spec_l01Var.l0 k_ p4 q5 = some r) (fun (p4 : Int) (q5 : List Int) => ⟨[(0, .lit (.int .i64 p4)), (3, .row 0)], [(0, .row 5 1 (q5.map (eI .u8)))]⟩) k a0 ([] : List Int) ⟨Nat.le_refl _, H⟩ (fun K_ h_ => acw hE [(0, 0)] 9999 h_) (fun _ _ => by intro h_; have h_ := h_.2; rw [spec_l01Var.l0.eq_1] at h_; cases h_) ?_
 intro k6 p4 q5 hq_ K9 hK10
 have hk6 := hq_.1
 have H := hq_.2
 clear hq_
 rw [spec_l01Var.l0.eq_2] at H
 refine aw_grp1 ?_
 refine aw_grp1 ?_
 refine wk_start ?_
 refine kv g0 (mv) ?_
 refine kv g0 (gtr) ?_
 refine wk_end ?_
 refine ac_next ?_
 by_cases c7 : p4 > 127
 ·rw [if_pos c7] at H
  refine aw_ifT ?_ (decide_eq_true c7)
  refine aw_skip ?_
  refine ac_next ?_
  refine aw_block ?_
  refine aw_grp1 ?_
  refine wk_start ?_
  refine kv g0 (mv) ?_
  refine kv g0 (mv) ?_
  refine kv g0 (rem (by decide : (128 : Int) ≠ 0)) ?_
  refine kv g0 (add6) ?_
  refine kv g0 (cnv .u8) ?_
  refine kb g0 (bsl 1 5 1 [.int .u8 0] (([IntKind.u8.wrap (wrap64 ((p4.tmod 128) + 128))] : List Int).map (eI .u8))) ?_
  obtain ⟨c8, H⟩ := of_if H
  refine kc g0 (apR 2 5 1 1 [.int .u8 0] ((q5 ++ ([IntKind.u8.wrap (wrap64 ((p4.tmod 128) + 128))] : List Int)).map (eI .u8)) (.row rfl) (apb c8 rfl) appE) ?_
  refine kv g0 (asg) ?_
  refine wk_end ?_
  refine ac_next ?_
  refine wk_start ?_
  refine kv g0 (mv) ?_
  refine kv g0 (quo6 (by decide : (128 : Int) ≠ 0)) ?_
  refine kv g0 (asg) ?_
  refine wk_end ?_
  refine ac_blkN ?_
  refine ac_k ?_
  exact acw hE [(0, 2)] 9999 (hK10 k6 (wrap64 (p4.tdiv 128)) (q5 ++ ([IntKind.u8.wrap (wrap64 ((p4.tmod 128) + 128))] : List Int)) (Nat.le_refl _) ⟨by omega, H⟩)
 rw [if_neg c7] at H
 refine aw_ifF ?_ (decide_eq_false c7)
 refine aw_exit ?_
 refine ac_then ?_
 refine ac_then ?_
 refine ac_hit rfl ?_
 refine ac_next ?_
 refine aw_grp1 ?_
 refine wk_start ?_
 refine kv g0 (mv) ?_
 refine kv g0 (mv) ?_
 refine kv g0 (cnv .u8) ?_
 refine kb g0 (bsl 3 5 1 [.int .u8 0] (([IntKind.u8.wrap p4] : List Int).map (eI .u8))) ?_
 obtain ⟨c11, H⟩ := of_if H
 refine kc g0 (apR 4 5 1 1 [.int .u8 0] ((q5 ++ ([IntKind.u8.wrap p4] : List Int)).map (eI .u8)) (.row rfl) (apb c11 rfl) appE) ?_
 refine kv g0 (cvB (.row rfl)) ?_
 refine kv g0 (asg) ?_
 refine wk_end ?_
 refine ac_next ?_
 refine aw_ret ?_
 obtain rfl := Option.some.inj H
 exact acr hE [.tmp 2] (.tmp .nil) (.one _) [] 9999
/-! spec_l06Four -/
def spec_l06Four.f (a0 : Int) : Option (ByteArray) := some (strOfNums ([IntKind.u8.wrap (a0.fdiv (2 ^ 24)), IntKind.u8.wrap (a0.fdiv (2 ^ 16)), IntKind.u8.wrap (a0.fdiv (2 ^ 8)), IntKind.u8.wrap a0] : List Int))
theorem spec_l06Four.ok {a0 : Int} {r : ByteArray} (H : spec_l06Four.f a0 = some r) : ACalls Tryd.prog 31 [] [.lit (.int .i64 a0)] [] (.lit (.string r)) := by
 refine acalls (fn := Tryd.f31) (nt := 16) Tryd.func31 rfl rfl (Nat.le_of_ble_eq_true rfl) fun E hE => ?_
 rw [spec_l06Four.f] at H
 refine aw_grp1 ?_
 refine wk_start ?_
 refine kv g0 (asg) ?_
 refine wk_end ?_
 refine ac_next ?_
 refine aw_grp1 ?_
 refine wk_start ?_
 refine kv g0 (mv) ?_
 refine kv g0 (shr (by decide : (0 : Int) ≤ 24)) ?_
 refine kv g0 (cnv .u8) ?_
 refine kv g0 (mv) ?_
 refine kv g0 (shr (by decide : (0 : Int) ≤ 16)) ?_
 refine kv g0 (cnv .u8) ?_
 refine kv g0 (mv) ?_
 refine kv g0 (shr (by decide : (0 : Int) ≤ 8)) ?_
 refine kv g0 (cnv .u8) ?_
 refine kv g0 (mv) ?_
 refine kv g0 (cnv .u8) ?_
 refine kb g0 (bsl 0 5 1 [.int .u8 0] (([IntKind.u8.wrap (a0.fdiv (2 ^ 24)), IntKind.u8.wrap (a0.fdiv (2 ^ 16)), IntKind.u8.wrap (a0.fdiv (2 ^ 8)), IntKind.u8.wrap a0] : List Int).map (eI .u8))) ?_
 refine kv g0 (cvB (.row rfl)) ?_
 refine kv g0 (asg) ?_
 refine wk_end ?_
 refine ac_next ?_
 refine aw_ret ?_
 obtain rfl := Option.some.inj H
 exact acr hE [.tmp 2] (.tmp .nil) (.one _) [] 9999
/-! spec_SumMore -/
mutual
def spec_SumMore.l0 : Nat → ByteArray → Int → Int → Int → Option (Int)
 | 0, _, _, _, _ => none
 | k21 + 1, a1, p13, p19, p20 => if p20 < 8 then if (p19.tmod 2) = 1 then spec_SumMore.l0 k21 a1 p13 (bits .xor .u32 (IntKind.u32.wrap (p19.tdiv 2)) 3558460437) (wrap64 (p20 + 1)) else spec_SumMore.l0 k21 a1 p13 (IntKind.u32.wrap (p19.tdiv 2)) (wrap64 (p20 + 1)) else spec_SumMore.l1 k21 a1 p19 (wrap64 (p13 + 1))
def spec_SumMore.l1 : Nat → ByteArray → Int → Int → Option (Int)
 | 0, _, _, _ => none
 | k14 + 1, a1, p12, p13 => if p13 < (a1.size : Int) then if 0 ≤ p13 then spec_SumMore.l0 k14 a1 p13 (bits .xor .u32 p12 (IntKind.u32.wrap (bt a1 p13))) 0 else none else some p12
end
def spec_SumMore.f (k : Nat) (a0 : Int) (a1 : ByteArray) : Option (Int) := spec_SumMore.l1 k a1 a0 0
theorem spec_SumMore.ok {k : Nat} {a0 : Int} {a1 : ByteArray} {r : Int} (H : spec_SumMore.f k a0 a1 = some r) : ACalls Tryd.prog 46 [] [.lit (.int .u32 a0), .lit (.string a1)] [] (.lit (.int .u32 r)) := by
 refine acalls (fn := Tryd.f46) (nt := 33) Tryd.func46 rfl rfl (Nat.le_of_ble_eq_true rfl) fun E hE => ?_
 rw [spec_SumMore.f] at H
 refine aw_grp1 ?_
 refine wk_start ?_
 refine kv g0 (asg) ?_
 refine wk_end ?_
 refine ac_next ?_
 refine aw_grp1 ?_
 refine aw_grp1 ?_
 refine wk_start ?_
 refine kv g0 (asg) ?_
 refine wk_end ?_
 refine ac_next ?_
 refine aw_block ?_
 refine aw_loop2 (fun (k_ : Nat) (p12 : Int) (p13 : Int) => k_ ≤ k ∧ spec_SumMore.l1 k_ a1 p12 p13 = some r) (fun (p12 : Int) (p13 : Int) => ⟨[(0, .lit (.int .u32 p12)), (1, .lit (.string a1)), (5, .lit (.int .i64 p13))], []⟩) k a0 0 ⟨Nat.le_refl _, H⟩ (fun K_ h_ => acw hE [] 9999 h_) (fun _ _ => by intro h_; have h_ := h_.2; rw [spec_SumMore.l1.eq_1] at h_; cases h_) ?_
 intro k14 p12 p13 hq_ K26 hK27
 have hk14 := hq_.1
 have H := hq_.2
 clear hq_
 rw [spec_SumMore.l1.eq_2] at H
 refine aw_grp1 ?_
 refine aw_grp1 ?_
 refine wk_start ?_
 refine kv g0 (mv) ?_
 refine kv g0 (mv) ?_
 refine kv g0 (lnT) ?_
 refine kv g0 (lss) ?_
 refine wk_end ?_
 refine ac_next ?_
 by_cases c15 : p13 < (a1.size : Int)
 ·rw [if_pos c15] at H
  refine aw_ifT ?_ (decide_eq_true c15)
  refine aw_skip ?_
  refine ac_next ?_
  refine aw_grp1 ?_
  refine aw_block ?_
  refine aw_grp1 ?_
  refine wk_start ?_
  refine kv g0 (mv) ?_
  refine kv g0 (mv) ?_
  refine kv g0 (mv) ?_
  obtain ⟨c16, H⟩ := of_if H
  refine kv g0 (ixT c16 c15) ?_
  refine kv g0 (cnv .u32) ?_
  refine kv g0 (bxor) ?_
  refine kv g0 (asg) ?_
  refine wk_end ?_
  refine ac_next ?_
  refine aw_grp1 ?_
  refine wk_start ?_
  refine kv g0 (asg) ?_
  refine wk_end ?_
  refine ac_next ?_
  refine aw_block ?_
  refine aw_loop2 (fun (k_ : Nat) (p19 : Int) (p20 : Int) => k_ ≤ k14 ∧ spec_SumMore.l0 k_ a1 p13 p19 p20 = some r) (fun (p19 : Int) (p20 : Int) => ⟨[(0, .lit (.int .u32 p19)), (1, .lit (.string a1)), (5, .lit (.int .i64 p13)), (6, .lit (.int .i64 p20))], []⟩) k14 (bits .xor .u32 p12 (IntKind.u32.wrap (bt a1 p13))) 0 ⟨Nat.le_refl _, H⟩ (fun K_ h_ => acw hE [] 9999 h_) (fun _ _ => by intro h_; have h_ := h_.2; rw [spec_SumMore.l0.eq_1] at h_; cases h_) ?_
  intro k21 p19 p20 hq_ K24 hK25
  have hk21 := hq_.1
  have H := hq_.2
  clear hq_
  rw [spec_SumMore.l0.eq_2] at H
  refine aw_grp1 ?_
  refine aw_grp1 ?_
  refine wk_start ?_
  refine kv g0 (mv) ?_
  refine kv g0 (lss) ?_
  refine wk_end ?_
  refine ac_next ?_
  by_cases c22 : p20 < 8
  ·rw [if_pos c22] at H
   refine aw_ifT ?_ (decide_eq_true c22)
   refine aw_skip ?_
   refine ac_next ?_
   refine aw_grp1 ?_
   refine aw_block ?_
   refine aw_grp1 ?_
   refine wk_start ?_
   refine kv g0 (mv) ?_
   refine kv g0 (rem (by decide : (2 : Int) ≠ 0)) ?_
   refine kv g0 (eql) ?_
   refine kv g0 (asg) ?_
   refine wk_end ?_
   refine ac_next ?_
   refine aw_grp1 ?_
   refine wk_start ?_
   refine kv g0 (mv) ?_
   refine kv g0 (quo (by decide : (2 : Int) ≠ 0)) ?_
   refine kv g0 (asg) ?_
   refine wk_end ?_
   refine ac_next ?_
   refine aw_grp1 ?_
   refine wk_start ?_
   refine kv g0 (mv) ?_
   refine wk_end ?_
   refine ac_next ?_
   by_cases c23 : (p19.tmod 2) = 1
   ·rw [if_pos c23] at H
    refine aw_ifT ?_ (eT c23)
    refine wk_start ?_
    refine kv g0 (mv) ?_
    refine kv g0 (bxor) ?_
    refine kv g0 (asg) ?_
    refine wk_end ?_
    refine ac_blkN ?_
    refine ac_next ?_
    refine wk_start ?_
    refine kv g0 (mv) ?_
    refine kv g0 (add6) ?_
    refine kv g0 (asg) ?_
    refine wk_end ?_
    refine ac_k ?_
    exact acw hE [] 9999 (hK25 k21 (bits .xor .u32 (IntKind.u32.wrap (p19.tdiv 2)) 3558460437) (wrap64 (p20 + 1)) (Nat.le_refl _) ⟨by omega, H⟩)
   rw [if_neg c23] at H
   refine aw_ifF ?_ (eF c23)
   refine aw_skip ?_
   refine ac_blkN ?_
   refine ac_next ?_
   refine wk_start ?_
   refine kv g0 (mv) ?_
   refine kv g0 (add6) ?_
   refine kv g0 (asg) ?_
   refine wk_end ?_
   refine ac_k ?_
   exact acw hE [] 9999 (hK25 k21 (IntKind.u32.wrap (p19.tdiv 2)) (wrap64 (p20 + 1)) (Nat.le_refl _) ⟨by omega, H⟩)
  rw [if_neg c22] at H
  refine aw_ifF ?_ (decide_eq_false c22)
  refine aw_exit ?_
  refine ac_then ?_
  refine ac_then ?_
  refine ac_hit rfl ?_
  refine ac_blkN ?_
  refine ac_next ?_
  refine wk_start ?_
  refine kv g0 (mv) ?_
  refine kv g0 (add6) ?_
  refine kv g0 (asg) ?_
  refine wk_end ?_
  refine ac_k ?_
  exact acw hE [] 9999 (hK27 k21 p19 (wrap64 (p13 + 1)) (by omega) ⟨by omega, H⟩)
 rw [if_neg c15] at H
 refine aw_ifF ?_ (decide_eq_false c15)
 refine aw_exit ?_
 refine ac_then ?_
 refine ac_then ?_
 refine ac_hit rfl ?_
 refine ac_next ?_
 refine aw_grp1 ?_
 refine wk_start ?_
 refine kv g0 (mv) ?_
 refine kv g0 (asg) ?_
 refine wk_end ?_
 refine ac_next ?_
 refine aw_ret ?_
 obtain rfl := Option.some.inj H
 exact acr hE [.tmp 4] (.tmp .nil) (.one _) [] 9999
/-! spec_SumOf -/
def spec_SumOf.f (k : Nat) (a0 : ByteArray) : Option (Int) := (spec_SumMore.f k 4294967295 a0).bind fun t1 => some t1
theorem spec_SumOf.ok {k : Nat} {a0 : ByteArray} {r : Int} (H : spec_SumOf.f k a0 = some r) : ACalls Tryd.prog 40 [] [.lit (.string a0)] [] (.lit (.int .u32 r)) := by
 refine acalls (fn := Tryd.f40) (nt := 5) Tryd.func40 rfl rfl (Nat.le_of_ble_eq_true rfl) fun E hE => ?_
 rw [spec_SumOf.f] at H
 refine aw_grp1 ?_
 refine wk_start ?_
 refine kv g0 (asg) ?_
 refine wk_end ?_
 refine ac_next ?_
 refine aw_grp1 ?_
 refine wk_start ?_
 refine kv g0 (mv) ?_
 obtain ⟨t1, A2, H⟩ := of_bind H
 refine kcS0 4 (.lit (.int .u32 t1)) [] g0 (cal (spec_SumMore.ok A2) [] 9999 .n (hf := Tryd.func46)) rfl rfl ?_
 refine kv g0 (asg) ?_
 refine wk_end ?_
 refine ac_next ?_
 refine aw_ret ?_
 obtain rfl := Option.some.inj H
 exact acr hE [.tmp 2] (.tmp .nil) (.one _) [] 9999
/-! spec_l02Four -/
def spec_l02Four.f (a0 : Int) : Option (ByteArray) := some (strOfNums ([IntKind.u8.wrap (a0.fdiv (2 ^ 24)), IntKind.u8.wrap (a0.fdiv (2 ^ 16)), IntKind.u8.wrap (a0.fdiv (2 ^ 8)), IntKind.u8.wrap a0] : List Int))
theorem spec_l02Four.ok {a0 : Int} {r : ByteArray} (H : spec_l02Four.f a0 = some r) : ACalls Tryd.prog 39 [] [.lit (.int .u32 a0)] [] (.lit (.string r)) := by
 refine acalls (fn := Tryd.f39) (nt := 16) Tryd.func39 rfl rfl (Nat.le_of_ble_eq_true rfl) fun E hE => ?_
 rw [spec_l02Four.f] at H
 refine aw_grp1 ?_
 refine wk_start ?_
 refine kv g0 (asg) ?_
 refine wk_end ?_
 refine ac_next ?_
 refine aw_grp1 ?_
 refine wk_start ?_
 refine kv g0 (mv) ?_
 refine kv g0 (shr (by decide : (0 : Int) ≤ 24)) ?_
 refine kv g0 (cnv .u8) ?_
 refine kv g0 (mv) ?_
 refine kv g0 (shr (by decide : (0 : Int) ≤ 16)) ?_
 refine kv g0 (cnv .u8) ?_
 refine kv g0 (mv) ?_
 refine kv g0 (shr (by decide : (0 : Int) ≤ 8)) ?_
 refine kv g0 (cnv .u8) ?_
 refine kv g0 (mv) ?_
 refine kv g0 (cnv .u8) ?_
 refine kb g0 (bsl 0 5 1 [.int .u8 0] (([IntKind.u8.wrap (a0.fdiv (2 ^ 24)), IntKind.u8.wrap (a0.fdiv (2 ^ 16)), IntKind.u8.wrap (a0.fdiv (2 ^ 8)), IntKind.u8.wrap a0] : List Int).map (eI .u8))) ?_
 refine kv g0 (cvB (.row rfl)) ?_
 refine kv g0 (asg) ?_
 refine wk_end ?_
 refine ac_next ?_
 refine aw_ret ?_
 obtain rfl := Option.some.inj H
 exact acr hE [.tmp 2] (.tmp .nil) (.one _) [] 9999
/-! spec_Sealed -/
def spec_Sealed.f (k : Nat) (a0 : ByteArray) : Option (ByteArray × Bool) := if (a0.size : Int) > 20000 then some (ByteArray.empty, false) else (spec_SumOf.f k a0).bind fun t2 => ((spec_l02Four.f t2).bind fun t4 => (if a0.size + t4.size ≤ 9223372036854775807 then some (a0 ++ t4, true) else none))
theorem spec_Sealed.ok {k : Nat} {a0 : ByteArray} {r : ByteArray × Bool} (H : spec_Sealed.f k a0 = some r) : ACalls Tryd.prog 29 [] [.lit (.string a0)] [] (.tup [.lit (.string r.1), .lit (.bool r.2)]) := by
 refine acalls (fn := Tryd.f29) (nt := 12) Tryd.func29 rfl rfl (Nat.le_of_ble_eq_true rfl) fun E hE => ?_
 rw [spec_Sealed.f] at H
 refine aw_grp1 ?_
 refine wk_start ?_
 refine kv g0 (asg) ?_
 refine kv g0 (asg) ?_
 refine wk_end ?_
 refine ac_next ?_
 refine aw_grp1 ?_
 refine aw_grp1 ?_
 refine wk_start ?_
 refine kv g0 (mv) ?_
 refine kv g0 (lnT) ?_
 refine kv g0 (gtr) ?_
 refine wk_end ?_
 refine ac_next ?_
 by_cases c1 : (a0.size : Int) > 20000
 ·rw [if_pos c1] at H
  refine aw_ifT ?_ (decide_eq_true c1)
  refine aw_grp1 ?_
  refine wk_start ?_
  refine kv g0 (asg) ?_
  refine kv g0 (asg) ?_
  refine wk_end ?_
  refine ac_next ?_
  refine aw_ret ?_
  refine ac_thenR ?_
  obtain rfl := Option.some.inj H
  exact acr hE [.tmp 2, .tmp 3] (.tmp (.tmp .nil)) (.many _ _ _) [] 9999
 rw [if_neg c1] at H
 refine aw_ifF ?_ (decide_eq_false c1)
 refine aw_skip ?_
 refine ac_next ?_
 refine aw_grp1 ?_
 refine wk_start ?_
 refine kv g0 (mv) ?_
 refine kv g0 (mv) ?_
 obtain ⟨t2, A3, H⟩ := of_bind H
 refine kcS0 9 (.lit (.int .u32 t2)) [] g0 (cal (spec_SumOf.ok A3) [] 9999 .n (hf := Tryd.func40)) rfl rfl ?_
 obtain ⟨t4, A5, H⟩ := of_bind H
 refine kcS0 10 (.lit (.string t4)) [] g0 (cal (spec_l02Four.ok A5) [] 9999 .n (hf := Tryd.func39)) rfl rfl ?_
 obtain ⟨c6, H⟩ := of_if H
 refine kv g0 (cat c6) ?_
 refine kv g0 (asg) ?_
 refine kv g0 (asg) ?_
 refine wk_end ?_
 refine ac_next ?_
 refine aw_ret ?_
 obtain rfl := Option.some.inj H
 exact acr hE [.tmp 2, .tmp 3] (.tmp (.tmp .nil)) (.many _ _ _) [] 9999
/-! spec_FrameText -/
def spec_FrameText.f (k : Nat) (a0_0 : Int) (a0_1 : Int) (a0_2 : Int) (a0_3 : Int) (a0_4 : Int) (a0_5 : Int) (a0_6 : Int) : Option (ByteArray × Bool) := (spec_FrameOk.f a0_0 a0_1 a0_2 a0_3 a0_4 a0_5 a0_6).bind fun t1 => if t1 = true then (spec_l01Var.f k a0_2).bind fun t4 => (if (strOfNums ([IntKind.u8.wrap a0_0, IntKind.u8.wrap a0_1] : List Int)).size + t4.size ≤ 9223372036854775807 then (if ((strOfNums ([IntKind.u8.wrap a0_0, IntKind.u8.wrap a0_1] : List Int)) ++ t4).size + (strOfNums ([IntKind.u8.wrap a0_3] : List Int)).size ≤ 9223372036854775807 then ((spec_l06Four.f a0_4).bind fun t8 => (if (((strOfNums ([IntKind.u8.wrap a0_0, IntKind.u8.wrap a0_1] : List Int)) ++ t4) ++ (strOfNums ([IntKind.u8.wrap a0_3] : List Int))).size + t8.size ≤ 9223372036854775807 then ((spec_l06Four.f a0_5).bind fun t11 => (if ((((strOfNums ([IntKind.u8.wrap a0_0, IntKind.u8.wrap a0_1] : List Int)) ++ t4) ++ (strOfNums ([IntKind.u8.wrap a0_3] : List Int))) ++ t8).size + t11.size ≤ 9223372036854775807 then ((spec_l01Var.f k a0_6).bind fun t14 => (if (((((strOfNums ([IntKind.u8.wrap a0_0, IntKind.u8.wrap a0_1] : List Int)) ++ t4) ++ (strOfNums ([IntKind.u8.wrap a0_3] : List Int))) ++ t8) ++ t11).size + t14.size ≤ 9223372036854775807 then ((spec_Sealed.f k ((((((strOfNums ([IntKind.u8.wrap a0_0, IntKind.u8.wrap a0_1] : List Int)) ++ t4) ++ (strOfNums ([IntKind.u8.wrap a0_3] : List Int))) ++ t8) ++ t11) ++ t14)).bind fun t17 => some (t17.1, t17.2)) else none)) else none)) else none)) else none) else none) else some (ByteArray.empty, false)
theorem spec_FrameText.ok {k : Nat} {a0_0 : Int} {a0_1 : Int} {a0_2 : Int} {a0_3 : Int} {a0_4 : Int} {a0_5 : Int} {a0_6 : Int} {r : ByteArray × Bool} (H : spec_FrameText.f k a0_0 a0_1 a0_2 a0_3 a0_4 a0_5 a0_6 = some r) : ACalls Tryd.prog 16 [] [.agg [.lit (.int .i64 a0_0), .lit (.int .i64 a0_1), .lit (.int .i64 a0_2), .lit (.int .i64 a0_3), .lit (.int .i64 a0_4), .lit (.int .i64 a0_5), .lit (.int .i64 a0_6)]] [] (.tup [.lit (.string r.1), .lit (.bool r.2)]) := by
 refine acalls (fn := Tryd.f16) (nt := 43) Tryd.func16 rfl rfl (Nat.le_of_ble_eq_true rfl) fun E hE => ?_
 rw [spec_FrameText.f] at H
 refine aw_grp1 ?_
 refine wk_start ?_
 refine kb g0 (bxA 0) ?_
 refine kv g0 (asg) ?_
 refine kv g0 (asg) ?_
 refine wk_end ?_
 refine ac_next ?_
 refine aw_grp1 ?_
 refine aw_grp1 ?_
 refine wk_start ?_
 refine kv g0 (ldBA 7 [.lit (.int .i64 a0_0), .lit (.int .i64 a0_1), .lit (.int .i64 a0_2), .lit (.int .i64 a0_3), .lit (.int .i64 a0_4), .lit (.int .i64 a0_5), .lit (.int .i64 a0_6)]) ?_
 obtain ⟨t1, A2, H⟩ := of_bind H
 refine kcS0 6 (.lit (.bool t1)) [] g0 (cal (spec_FrameOk.ok A2) [] 9999 .n (hf := Tryd.func28)) rfl rfl ?_
 refine kv g0 (not_) ?_
 refine wk_end ?_
 refine ac_next ?_
 by_cases c3 : t1 = true
 ·rw [if_pos c3] at H
  refine aw_ifF ?_ (nF c3)
  refine aw_skip ?_
  refine ac_next ?_
  refine aw_grp1 ?_
  refine wk_start ?_
  refine kv g0 (faB 3 3) ?_
  refine kv g0 (ldBA 4 [.lit (.int .i64 a0_3), .lit (.int .i64 a0_4), .lit (.int .i64 a0_5), .lit (.int .i64 a0_6)]) ?_
  refine kb g0 (alc 1 [.int .i64 0, .int .i64 0, .int .i64 0, .int .i64 0] [.lit (.int .i64 0), .lit (.int .i64 0), .lit (.int .i64 0), .lit (.int .i64 0)]) ?_
  refine ks g0 (stB 4 [.lit (.int .i64 a0_3), .lit (.int .i64 a0_4), .lit (.int .i64 a0_5), .lit (.int .i64 a0_6)]) ?_
  refine wk_end ?_
  refine ac_next ?_
  refine aw_grp1 ?_
  refine wk_start ?_
  refine kv g0 (faB 0 0) ?_
  refine kv g0 (ldB) ?_
  refine kv g0 (cnv .u8) ?_
  refine kv g0 (faB 1 1) ?_
  refine kv g0 (ldB) ?_
  refine kv g0 (cnv .u8) ?_
  refine kb g0 (bsl 2 5 1 [.int .u8 0] (([IntKind.u8.wrap a0_0, IntKind.u8.wrap a0_1] : List Int).map (eI .u8))) ?_
  refine kv g0 (cvB (.row rfl)) ?_
  refine kv g0 (faB 2 2) ?_
  refine kv g0 (ldB) ?_
  obtain ⟨t4, A5, H⟩ := of_bind H
  refine kcS0 20 (.lit (.string t4)) [] g0 (cal (spec_l01Var.ok A5) [] 9999 .n (hf := Tryd.func30)) rfl rfl ?_
  obtain ⟨c6, H⟩ := of_if H
  refine kv g0 (cat c6) ?_
  refine kv g0 (faB 0 0) ?_
  refine kv g0 (ldB) ?_
  refine kv g0 (cnv .u8) ?_
  refine kb g0 (bsl 3 5 1 [.int .u8 0] (([IntKind.u8.wrap a0_3] : List Int).map (eI .u8))) ?_
  refine kv g0 (cvB (.row rfl)) ?_
  obtain ⟨c7, H⟩ := of_if H
  refine kv g0 (cat c7) ?_
  refine kv g0 (faB 1 1) ?_
  refine kv g0 (ldB) ?_
  obtain ⟨t8, A9, H⟩ := of_bind H
  refine kcS0 30 (.lit (.string t8)) [] g0 (cal (spec_l06Four.ok A9) [] 9999 .n (hf := Tryd.func31)) rfl rfl ?_
  obtain ⟨c10, H⟩ := of_if H
  refine kv g0 (cat c10) ?_
  refine kv g0 (faB 2 2) ?_
  refine kv g0 (ldB) ?_
  obtain ⟨t11, A12, H⟩ := of_bind H
  refine kcS0 34 (.lit (.string t11)) [] g0 (cal (spec_l06Four.ok A12) [] 9999 .n (hf := Tryd.func31)) rfl rfl ?_
  obtain ⟨c13, H⟩ := of_if H
  refine kv g0 (cat c13) ?_
  refine kv g0 (faB 3 3) ?_
  refine kv g0 (ldB) ?_
  obtain ⟨t14, A15, H⟩ := of_bind H
  refine kcS0 38 (.lit (.string t14)) [] g0 (cal (spec_l01Var.ok A15) [] 9999 .n (hf := Tryd.func30)) rfl rfl ?_
  obtain ⟨c16, H⟩ := of_if H
  refine kv g0 (cat c16) ?_
  obtain ⟨t17, A18, H⟩ := of_bind H
  refine kcS0 40 (.tup [.lit (.string t17.1), .lit (.bool t17.2)]) [] g0 (cal (spec_Sealed.ok A18) [] 9999 .n (hf := Tryd.func29)) rfl rfl ?_
  refine kv g0 (ext) ?_
  refine kv g0 (ext) ?_
  refine kv g0 (asg) ?_
  refine kv g0 (asg) ?_
  refine wk_end_draw hM (by kernel_rfl) ?_
  refine ac_next ?_
  refine aw_ret ?_
  obtain rfl := Option.some.inj H
  exact acr hE [.tmp 2, .tmp 3] (.tmp (.tmp .nil)) (.many _ _ _) [] 9999
 rw [if_neg c3] at H
 refine aw_ifT ?_ (nT (bF c3))
 refine aw_grp1 ?_
 refine wk_start ?_
 refine kv g0 (asg) ?_
 refine kv g0 (asg) ?_
 refine wk_end ?_
 refine ac_next ?_
 refine aw_ret ?_
 refine ac_thenR ?_
 obtain rfl := Option.some.inj H
 exact acr hE [.tmp 2, .tmp 3] (.tmp (.tmp .nil)) (.many _ _ _) [] 9999
/-! spec_EntryText -/
def spec_EntryText.f (k : Nat) (a0_0 : Int) (a0_1 : Int) (a0_2 : Int) (a0_3 : Int) (a0_4 : Int) (a0_5 : Int) : Option (ByteArray) := (spec_FrameText.f k 1 a0_0 a0_1 a0_2 a0_3 a0_4 a0_5).bind fun t1 => some t1.1
theorem spec_EntryText.ok {k : Nat} {a0_0 : Int} {a0_1 : Int} {a0_2 : Int} {a0_3 : Int} {a0_4 : Int} {a0_5 : Int} {r : ByteArray} (H : spec_EntryText.f k a0_0 a0_1 a0_2 a0_3 a0_4 a0_5 = some r) : ACalls Tryd.prog 10 [] [.agg [.lit (.int .i64 a0_0), .lit (.int .i64 a0_1), .lit (.int .i64 a0_2), .lit (.int .i64 a0_3), .lit (.int .i64 a0_4), .lit (.int .i64 a0_5)]] [] (.lit (.string r)) := by
 refine acalls (fn := Tryd.f10) (nt := 17) Tryd.func10 rfl rfl (Nat.le_of_ble_eq_true rfl) fun E hE => ?_
 rw [spec_EntryText.f] at H
 refine aw_grp1 ?_
 refine wk_start ?_
 refine kb g0 (bxA 0) ?_
 refine kv g0 (asg) ?_
 refine wk_end ?_
 refine ac_next ?_
 refine aw_grp1 ?_
 refine wk_start ?_
 refine kv g0 (faB 0 0) ?_
 refine kv g0 (ldB) ?_
 refine kv g0 (faB 1 1) ?_
 refine kv g0 (ldB) ?_
 refine kv g0 (faB 2 2) ?_
 refine kv g0 (ldBA 4 [.lit (.int .i64 a0_2), .lit (.int .i64 a0_3), .lit (.int .i64 a0_4), .lit (.int .i64 a0_5)]) ?_
 refine kv g0 (bld [(0, 1), (1, 1), (2, 1), (3, 4)] [.int .i64 0, .int .i64 0, .int .i64 0, .int .i64 0, .int .i64 0, .int .i64 0, .int .i64 0] [.lit (.int .i64 1), .lit (.int .i64 a0_0), .lit (.int .i64 a0_1), .lit (.int .i64 a0_2), .lit (.int .i64 a0_3), .lit (.int .i64 a0_4), .lit (.int .i64 a0_5)]) ?_
 obtain ⟨t1, A2, H⟩ := of_bind H
 refine kcS0 13 (.tup [.lit (.string t1.1), .lit (.bool t1.2)]) [] g0 (cal (spec_FrameText.ok A2) [] 9999 .n (hf := Tryd.func16)) rfl rfl ?_
 refine kv g0 (mv) ?_
 refine kv g0 (ext) ?_
 refine kv g0 (ext) ?_
 refine kv g0 (asg) ?_
 refine kv g0 (asg) ?_
 refine wk_end ?_
 refine ac_next ?_
 refine aw_grp1 ?_
 refine wk_start ?_
 refine kv g0 (mv) ?_
 refine kv g0 (asg) ?_
 refine wk_end ?_
 refine ac_next ?_
 refine aw_ret ?_
 obtain rfl := Option.some.inj H
 exact acr hE [.tmp 2] (.tmp .nil) (.one _) [] 9999
/-! spec_HeadOf -/
def spec_HeadOf.l0 : Nat → (List S35) → ByteArray → Int → Option (ByteArray)
 | 0, _, _, _ => none
 | k12 + 1, l0, p10, p11 => if p11 < (l0.length : Int) then if 0 ≤ p11 then ((spec_EntryText.f k12 ((rd_T35 l0 p11).f0) ((rd_T35 l0 p11).f1) ((rd_T35 l0 p11).f2.f0) ((rd_T35 l0 p11).f2.f1) ((rd_T35 l0 p11).f2.f2) ((rd_T35 l0 p11).f2.f3)).bind fun t15 => (if p10.size + t15.size ≤ 9223372036854775807 then ((spec_Digest.f k12 (p10 ++ t15)).bind fun t18 => spec_HeadOf.l0 k12 l0 t18 (wrap64 (p11 + 1))) else none)) else none else some p10
def spec_HeadOf.f (k : Nat) (l0 : List S35) : Option (ByteArray) := (spec_Digest.f k ByteArray.empty).bind fun t1 => spec_HeadOf.l0 k l0 t1 0
theorem spec_HeadOf.ok {k : Nat} {l0 : List S35} {r : ByteArray} (H : spec_HeadOf.f k l0 = some r) : ACalls Tryd.prog 9 [] [.sl .o 6 (l0.map e35)] [] (.lit (.string r)) := by
 refine acalls (fn := Tryd.f9) (nt := 21) Tryd.func9 rfl rfl (Nat.le_of_ble_eq_true rfl) fun E hE => ?_
 rw [spec_HeadOf.f] at H
 refine aw_grp1 ?_
 refine wk_start ?_
 refine kv g0 (asg) ?_
 refine wk_end ?_
 refine ac_next ?_
 refine aw_grp1 ?_
 refine wk_start ?_
 obtain ⟨t1, A2, H⟩ := of_bind H
 refine kcS0 5 (.lit (.string t1)) [] g0 (cal (spec_Digest.ok A2) [] 9999 .n (hf := Tryd.func11)) rfl rfl ?_
 refine kv g0 (asg) ?_
 refine wk_end ?_
 refine ac_next ?_
 refine aw_grp1 ?_
 refine aw_grp1 ?_
 refine wk_start ?_
 refine kv g0 (asg) ?_
 refine wk_end ?_
 refine ac_next ?_
 refine aw_block ?_
 refine aw_loop2 (fun (k_ : Nat) (p10 : ByteArray) (p11 : Int) => k_ ≤ k ∧ spec_HeadOf.l0 k_ l0 p10 p11 = some r) (fun (p10 : ByteArray) (p11 : Int) => ⟨[(0, .sl .o 6 (l0.map e35)), (3, .lit (.string p10)), (4, .lit (.int .i64 p11))], []⟩) k t1 0 ⟨Nat.le_refl _, H⟩ (fun K_ h_ => acw hE [] 9999 h_) (fun _ _ => by intro h_; have h_ := h_.2; rw [spec_HeadOf.l0.eq_1] at h_; cases h_) ?_
 intro k12 p10 p11 hq_ K20 hK21
 have hk12 := hq_.1
 have H := hq_.2
 clear hq_
 rw [spec_HeadOf.l0.eq_2] at H
 refine aw_grp1 ?_
 refine aw_grp1 ?_
 refine wk_start ?_
 refine kv g0 (mv) ?_
 refine kv g0 (mv) ?_
 refine kv g0 (lnS lenE) ?_
 refine kv g0 (lss) ?_
 refine wk_end ?_
 refine ac_next ?_
 by_cases c13 : p11 < (l0.length : Int)
 ·rw [if_pos c13] at H
  refine aw_ifT ?_ (decide_eq_true c13)
  refine aw_skip ?_
  refine ac_next ?_
  refine aw_grp1 ?_
  refine aw_block ?_
  refine wk_start ?_
  refine kv g0 (mv) ?_
  refine kv g0 (mv) ?_
  refine kv g0 (mv) ?_
  obtain ⟨c14, H⟩ := of_if H
  refine kv g0 (ixS 35 (e35 (rd_T35 l0 p11)) c14 (getE (z := z35) c14 c13)) ?_
  refine kv g0 (ldRA 6 [.lit (.int .i64 ((rd_T35 l0 p11).f0)), .lit (.int .i64 ((rd_T35 l0 p11).f1)), .lit (.int .i64 ((rd_T35 l0 p11).f2.f0)), .lit (.int .i64 ((rd_T35 l0 p11).f2.f1)), .lit (.int .i64 ((rd_T35 l0 p11).f2.f2)), .lit (.int .i64 ((rd_T35 l0 p11).f2.f3))]) ?_
  obtain ⟨t15, A16, H⟩ := of_bind H
  refine kcS0 17 (.lit (.string t15)) [] g0 (cal (spec_EntryText.ok A16) [] 9999 .n (hf := Tryd.func10)) rfl rfl ?_
  obtain ⟨c17, H⟩ := of_if H
  refine kv g0 (cat c17) ?_
  obtain ⟨t18, A19, H⟩ := of_bind H
  refine kcS0 19 (.lit (.string t18)) [] g0 (cal (spec_Digest.ok A19) [] 9999 .n (hf := Tryd.func11)) rfl rfl ?_
  refine kv g0 (asg) ?_
  refine wk_end ?_
  refine ac_blkN ?_
  refine ac_next ?_
  refine wk_start ?_
  refine kv g0 (mv) ?_
  refine kv g0 (add6) ?_
  refine kv g0 (asg) ?_
  refine wk_end ?_
  refine ac_k ?_
  exact acw hE [] 9999 (hK21 k12 t18 (wrap64 (p11 + 1)) (Nat.le_refl _) ⟨by omega, H⟩)
 rw [if_neg c13] at H
 refine aw_ifF ?_ (decide_eq_false c13)
 refine aw_exit ?_
 refine ac_then ?_
 refine ac_then ?_
 refine ac_hit rfl ?_
 refine ac_next ?_
 refine aw_grp1 ?_
 refine wk_start ?_
 refine kv g0 (mv) ?_
 refine kv g0 (asg) ?_
 refine wk_end ?_
 refine ac_next ?_
 refine aw_ret ?_
 obtain rfl := Option.some.inj H
 exact acr hE [.tmp 2] (.tmp .nil) (.one _) [] 9999
/-! spec_Parted -/
def spec_Parted.l0 : Nat → (List S35) → (List S35) → Int → Option (ByteArray × ByteArray × Bool)
 | 0, _, _, _ => none
 | k25 + 1, l0, l1, p24 => if p24 ≥ 0 then if 0 ≤ p24 then (if p24 ≤ (l0.length : Int) then ((spec_HeadOf.f k25 (l0.take p24.toNat)).bind fun t29 => (if p24 < (l0.length : Int) then ((spec_EntryText.f k25 ((rd_T35 l0 p24).f0) ((rd_T35 l0 p24).f1) ((rd_T35 l0 p24).f2.f0) ((rd_T35 l0 p24).f2.f1) ((rd_T35 l0 p24).f2.f2) ((rd_T35 l0 p24).f2.f3)).bind fun t32 => (if t29.size + t32.size ≤ 9223372036854775807 then if p24 ≤ (l1.length : Int) then ((spec_HeadOf.f k25 (l1.take p24.toNat)).bind fun t36 => (if p24 < (l1.length : Int) then ((spec_EntryText.f k25 ((rd_T35 l1 p24).f0) ((rd_T35 l1 p24).f1) ((rd_T35 l1 p24).f2.f0) ((rd_T35 l1 p24).f2.f1) ((rd_T35 l1 p24).f2.f2) ((rd_T35 l1 p24).f2.f3)).bind fun t39 => (if t36.size + t39.size ≤ 9223372036854775807 then if ((t29 ++ t32).toList == (t36 ++ t39).toList) = true then spec_Parted.l0 k25 l0 l1 (wrap64 (p24 - 1)) else ((spec_Digest.f k25 (t29 ++ t32)).bind fun t43 => ((spec_Digest.f k25 (t36 ++ t39)).bind fun t45 => some (t29 ++ t32, t36 ++ t39, t43.toList == t45.toList))) else none)) else none)) else none else none)) else none)) else none) else none else some (ByteArray.empty, ByteArray.empty, false)
def spec_Parted.f (k : Nat) (l0 : List S35) (l1 : List S35) : Option (ByteArray × ByteArray × Bool) := if (l0.length : Int) = (l1.length : Int) then spec_Parted.l0 k l0 l1 (wrap64 ((l0.length : Int) - 1)) else some (ByteArray.empty, ByteArray.empty, false)
theorem spec_Parted.ok {k : Nat} {l0 : List S35} {l1 : List S35} {r : ByteArray × ByteArray × Bool} (H : spec_Parted.f k l0 l1 = some r) : ACalls Tryd.prog 5 [] [.sl .o 6 (l0.map e35), .sl .o 6 (l1.map e35)] [] (.tup [.lit (.string r.1), .lit (.string r.2.1), .lit (.bool r.2.2)]) := by
 refine acalls (fn := Tryd.f5) (nt := 52) Tryd.func5 rfl rfl (Nat.le_of_ble_eq_true rfl) fun E hE => ?_
 rw [spec_Parted.f] at H
 refine aw_grp1 ?_
 refine wk_start ?_
 refine kv g0 (asg) ?_
 refine kv g0 (asg) ?_
 refine kv g0 (asg) ?_
 refine wk_end ?_
 refine ac_next ?_
 refine aw_grp1 ?_
 refine aw_grp1 ?_
 refine wk_start ?_
 refine kv g0 (mv) ?_
 refine kv g0 (lnS lenE) ?_
 refine kv g0 (mv) ?_
 refine kv g0 (lnS lenE) ?_
 refine kv g0 (neq) ?_
 refine wk_end ?_
 refine ac_next ?_
 by_cases c1 : (l0.length : Int) = (l1.length : Int)
 ·rw [if_pos c1] at H
  refine aw_ifF ?_ (eM c1)
  refine aw_skip ?_
  refine ac_next ?_
  refine aw_grp1 ?_
  refine aw_grp1 ?_
  refine wk_start ?_
  refine kv g0 (mv) ?_
  refine kv g0 (lnS lenE) ?_
  refine kv g0 (sub6) ?_
  refine kv g0 (asg) ?_
  refine wk_end ?_
  refine ac_next ?_
  refine aw_block ?_
  refine aw_loop1 (fun (k_ : Nat) (p24 : Int) => k_ ≤ k ∧ spec_Parted.l0 k_ l0 l1 p24 = some r) (fun (p24 : Int) => ⟨[(0, .sl .o 6 (l0.map e35)), (1, .sl .o 6 (l1.map e35)), (7, .lit (.int .i64 p24))], []⟩) k (wrap64 ((l0.length : Int) - 1)) ⟨Nat.le_refl _, H⟩ (fun K_ h_ => acw hE [] 9999 h_) (fun _ => by intro h_; have h_ := h_.2; rw [spec_Parted.l0.eq_1] at h_; cases h_) ?_
  intro k25 p24 hq_ K47 hK48
  have hk25 := hq_.1
  have H := hq_.2
  clear hq_
  rw [spec_Parted.l0.eq_2] at H
  refine aw_grp1 ?_
  refine aw_grp1 ?_
  refine wk_start ?_
  refine kv g0 (mv) ?_
  refine kv g0 (geq) ?_
  refine wk_end ?_
  refine ac_next ?_
  by_cases c26 : p24 ≥ 0
  ·rw [if_pos c26] at H
   refine aw_ifT ?_ (decide_eq_true c26)
   refine aw_skip ?_
   refine ac_next ?_
   refine aw_grp1 ?_
   refine aw_block ?_
   refine aw_grp1 ?_
   refine wk_start ?_
   refine kv g0 (mv) ?_
   refine kv g0 (mv) ?_
   obtain ⟨c27, H⟩ := of_if H
   obtain ⟨c28, H⟩ := of_if H
   refine kv g0 (slH 35 c27 c28) ?_
   obtain ⟨t29, A30, H⟩ := of_bind H
   refine kcS0 25 (.lit (.string t29)) [] g0 (cal (spec_HeadOf.ok A30) [] 9999 .n (hf := Tryd.func9)) rfl rfl ?_
   refine kv g0 (mv) ?_
   refine kv g0 (mv) ?_
   obtain ⟨c31, H⟩ := of_if H
   refine kv g0 (ixS 35 (e35 (rd_T35 l0 p24)) c27 (getE (z := z35) c27 c31)) ?_
   refine kv g0 (ldRA 6 [.lit (.int .i64 ((rd_T35 l0 p24).f0)), .lit (.int .i64 ((rd_T35 l0 p24).f1)), .lit (.int .i64 ((rd_T35 l0 p24).f2.f0)), .lit (.int .i64 ((rd_T35 l0 p24).f2.f1)), .lit (.int .i64 ((rd_T35 l0 p24).f2.f2)), .lit (.int .i64 ((rd_T35 l0 p24).f2.f3))]) ?_
   obtain ⟨t32, A33, H⟩ := of_bind H
   refine kcS0 30 (.lit (.string t32)) [] g0 (cal (spec_EntryText.ok A33) [] 9999 .n (hf := Tryd.func10)) rfl rfl ?_
   obtain ⟨c34, H⟩ := of_if H
   refine kv g0 (cat c34) ?_
   refine kv g0 (asg) ?_
   refine wk_end_draw hM (by kernel_rfl) ?_
   refine ac_next ?_
   refine aw_grp1 ?_
   refine wk_start ?_
   refine kv g0 (mv) ?_
   refine kv g0 (mv) ?_
   obtain ⟨c35, H⟩ := of_if H
   refine kv g0 (slH 35 c27 c35) ?_
   obtain ⟨t36, A37, H⟩ := of_bind H
   refine kcS0 35 (.lit (.string t36)) [] g0 (cal (spec_HeadOf.ok A37) [] 9999 .n (hf := Tryd.func9)) rfl rfl ?_
   refine kv g0 (mv) ?_
   refine kv g0 (mv) ?_
   obtain ⟨c38, H⟩ := of_if H
   refine kv g0 (ixS 35 (e35 (rd_T35 l1 p24)) c27 (getE (z := z35) c27 c38)) ?_
   refine kv g0 (ldRA 6 [.lit (.int .i64 ((rd_T35 l1 p24).f0)), .lit (.int .i64 ((rd_T35 l1 p24).f1)), .lit (.int .i64 ((rd_T35 l1 p24).f2.f0)), .lit (.int .i64 ((rd_T35 l1 p24).f2.f1)), .lit (.int .i64 ((rd_T35 l1 p24).f2.f2)), .lit (.int .i64 ((rd_T35 l1 p24).f2.f3))]) ?_
   obtain ⟨t39, A40, H⟩ := of_bind H
   refine kcS0 40 (.lit (.string t39)) [] g0 (cal (spec_EntryText.ok A40) [] 9999 .n (hf := Tryd.func10)) rfl rfl ?_
   obtain ⟨c41, H⟩ := of_if H
   refine kv g0 (cat c41) ?_
   refine kv g0 (asg) ?_
   refine wk_end_draw hM (by kernel_rfl) ?_
   refine ac_next ?_
   refine aw_grp1 ?_
   refine wk_start ?_
   refine kv g0 (mv) ?_
   refine kv g0 (mv) ?_
   refine kv g0 (sne) ?_
   refine wk_end ?_
   refine ac_next ?_
   by_cases c42 : ((t29 ++ t32).toList == (t36 ++ t39).toList) = true
   ·rw [if_pos c42] at H
    refine aw_ifF ?_ (nF c42)
    refine aw_skip ?_
    refine ac_blkN ?_
    refine ac_next ?_
    refine wk_start ?_
    refine kv g0 (mv) ?_
    refine kv g0 (sub6) ?_
    refine kv g0 (asg) ?_
    refine wk_end ?_
    refine ac_k ?_
    exact acw hE [] 9999 (hK48 k25 (wrap64 (p24 - 1)) (Nat.le_refl _) ⟨by omega, H⟩)
   rw [if_neg c42] at H
   refine aw_ifT ?_ (nT (bF c42))
   refine aw_grp1 ?_
   refine wk_start ?_
   refine kv g0 (mv) ?_
   refine kv g0 (mv) ?_
   refine kv g0 (mv) ?_
   obtain ⟨t43, A44, H⟩ := of_bind H
   refine kcS0 48 (.lit (.string t43)) [] g0 (cal (spec_Digest.ok A44) [] 9999 .n (hf := Tryd.func11)) rfl rfl ?_
   refine kv g0 (mv) ?_
   obtain ⟨t45, A46, H⟩ := of_bind H
   refine kcS0 50 (.lit (.string t45)) [] g0 (cal (spec_Digest.ok A46) [] 9999 .n (hf := Tryd.func11)) rfl rfl ?_
   refine kv g0 (seq) ?_
   refine kv g0 (asg) ?_
   refine kv g0 (asg) ?_
   refine kv g0 (asg) ?_
   refine wk_end ?_
   refine ac_next ?_
   refine aw_ret ?_
   refine ac_blkR ?_
   refine ac_thenR ?_
   refine ac_thenR ?_
   refine ac_blkR ?_
   refine ac_thenR ?_
   obtain rfl := Option.some.inj H
   exact acr hE [.tmp 4, .tmp 5, .tmp 6] (.tmp (.tmp (.tmp .nil))) (.many _ _ _) [] 9999
  rw [if_neg c26] at H
  refine aw_ifF ?_ (decide_eq_false c26)
  refine aw_exit ?_
  refine ac_then ?_
  refine ac_then ?_
  refine ac_hit rfl ?_
  refine ac_next ?_
  refine aw_grp1 ?_
  refine wk_start ?_
  refine kv g0 (asg) ?_
  refine kv g0 (asg) ?_
  refine kv g0 (asg) ?_
  refine wk_end ?_
  refine ac_next ?_
  refine aw_ret ?_
  obtain rfl := Option.some.inj H
  exact acr hE [.tmp 4, .tmp 5, .tmp 6] (.tmp (.tmp (.tmp .nil))) (.many _ _ _) [] 9999
 rw [if_neg c1] at H
 refine aw_ifT ?_ (eN c1)
 refine aw_grp1 ?_
 refine wk_start ?_
 refine kv g0 (asg) ?_
 refine kv g0 (asg) ?_
 refine kv g0 (asg) ?_
 refine wk_end ?_
 refine ac_next ?_
 refine aw_ret ?_
 refine ac_thenR ?_
 obtain rfl := Option.some.inj H
 exact acr hE [.tmp 4, .tmp 5, .tmp 6] (.tmp (.tmp (.tmp .nil))) (.many _ _ _) [] 9999
/-! impl_four -/
def impl_four.f (a0 : Int) : Option (ByteArray) := some (strOfNums ([IntKind.u8.wrap (a0.fdiv (2 ^ 24)), IntKind.u8.wrap (a0.fdiv (2 ^ 16)), IntKind.u8.wrap (a0.fdiv (2 ^ 8)), IntKind.u8.wrap a0] : List Int))
theorem impl_four.ok {a0 : Int} {r : ByteArray} (H : impl_four.f a0 = some r) : ACalls Tryd.prog 26 [] [.lit (.int .i64 a0)] [] (.lit (.string r)) := by
 refine acalls (fn := Tryd.f26) (nt := 16) Tryd.func26 rfl rfl (Nat.le_of_ble_eq_true rfl) fun E hE => ?_
 rw [impl_four.f] at H
 refine aw_grp1 ?_
 refine wk_start ?_
 refine kv g0 (asg) ?_
 refine wk_end ?_
 refine ac_next ?_
 refine aw_grp1 ?_
 refine wk_start ?_
 refine kv g0 (mv) ?_
 refine kv g0 (shr (by decide : (0 : Int) ≤ 24)) ?_
 refine kv g0 (cnv .u8) ?_
 refine kv g0 (mv) ?_
 refine kv g0 (shr (by decide : (0 : Int) ≤ 16)) ?_
 refine kv g0 (cnv .u8) ?_
 refine kv g0 (mv) ?_
 refine kv g0 (shr (by decide : (0 : Int) ≤ 8)) ?_
 refine kv g0 (cnv .u8) ?_
 refine kv g0 (mv) ?_
 refine kv g0 (cnv .u8) ?_
 refine kb g0 (bsl 0 5 1 [.int .u8 0] (([IntKind.u8.wrap (a0.fdiv (2 ^ 24)), IntKind.u8.wrap (a0.fdiv (2 ^ 16)), IntKind.u8.wrap (a0.fdiv (2 ^ 8)), IntKind.u8.wrap a0] : List Int).map (eI .u8))) ?_
 refine kv g0 (cvB (.row rfl)) ?_
 refine kv g0 (asg) ?_
 refine wk_end ?_
 refine ac_next ?_
 refine aw_ret ?_
 obtain rfl := Option.some.inj H
 exact acr hE [.tmp 2] (.tmp .nil) (.one _) [] 9999
end Go.Proofs.YtahmbcgolnplgaaDoor.PFnExactParted
