import Derived.Test.YtkkglhhkpihmgaaPFnExactFiledOfx2
set_option linter.unusedVariables false
set_option linter.unusedSimpArgs false
set_option maxRecDepth 100000
namespace Go.Proofs.Ytkkglhhkpihmgaa.PFnExactFiledOf
open Go Go.RowKit Go.Proofs.YtkkglhhkpihmgaaA
/-! laws_markSenderS -/
def laws_markSenderS.l0 : Nat → (List S62) → Int → Int → Option (Int × (List S62))
 | 0, _, _, _ => none
 | k8 + 1, q5, p6, p7 => if p7 < (q5.length : Int) then if 0 ≤ p7 then (laws_markItemS.f k8 ((rd_T62 q5 p7).f2) (wrap64 ((wrap64 (p6 + 1)) + 1))).bind fun t11 => laws_markSenderS.l0 k8 (q5.set p7.toNat (⟨p6, wrap64 (p6 + 1), t11.2, t11.1, wrap64 (t11.1 + 1)⟩ : S62)) (wrap64 ((wrap64 (t11.1 + 1)) + 1)) (wrap64 (p7 + 1)) else none else some (p6, q5)
def laws_markSenderS.f (k : Nat) (l0 : List S62) (a1 : Int) : Option (Int × (List S62)) := laws_markSenderS.l0 k l0 a1 0
theorem laws_markSenderS.ok {k : Nat} {l0 : List S62} {a1 : Int} {r : Int × (List S62)} (H : laws_markSenderS.f k l0 a1 = some r) : ACalls Try.prog 31 [(0, .drow false ds62 62 5 (l0.map e62))] [.row 0, .lit (.int .i64 a1)] [(0, .drow false ds62 62 5 (r.2.map e62))] (.lit (.int .i64 r.1)) := by
 refine acalls (fn := Try.f31) (nt := 48) Try.func31 rfl rfl (Nat.le_of_ble_eq_true rfl) fun E hE => ?_
 rw [laws_markSenderS.f] at H
 refine aw_grp1 ?_
 refine wk_start ?_
 refine kv g0 (asg) ?_
 refine wk_end ?_
 refine ac_next ?_
 refine aw_grp1 ?_
 refine aw_grp1 ?_
 refine wk_start ?_
 refine kv g0 (asg) ?_
 refine wk_end ?_
 refine ac_next ?_
 refine aw_block ?_
 refine aw_loop3 (fun (k_ : Nat) (q5 : List S62) (p6 : Int) (p7 : Int) => k_ ≤ k ∧ laws_markSenderS.l0 k_ q5 p6 p7 = some r) (fun (q5 : List S62) (p6 : Int) (p7 : Int) => ⟨[(0, .row 0), (1, .lit (.int .i64 p6)), (5, .lit (.int .i64 p7))], [(0, .drow false ds62 62 5 (q5.map e62))]⟩) k l0 a1 0 ⟨Nat.le_refl _, H⟩ (fun K_ h_ => acw hE [(0, 0)] 9999 h_) (fun _ _ _ => by intro h_; have h_ := h_.2; rw [laws_markSenderS.l0.eq_1] at h_; cases h_) ?_
 intro k8 q5 p6 p7 hq_ K13 hK14
 have hk8 := hq_.1
 have H := hq_.2
 clear hq_
 rw [laws_markSenderS.l0.eq_2] at H
 refine aw_grp1 ?_
 refine aw_grp1 ?_
 refine wk_start ?_
 refine kv g0 (mv) ?_
 refine kv g0 (mv) ?_
 refine kv g0 (lnD lenE) ?_
 refine kv g0 (lss) ?_
 refine wk_end ?_
 refine ac_next ?_
 by_cases c9 : p7 < (q5.length : Int)
 ·rw [if_pos c9] at H
  refine aw_ifT ?_ (decide_eq_true c9)
  refine aw_skip ?_
  refine ac_next ?_
  refine aw_grp1 ?_
  refine aw_block ?_
  refine aw_grp1 ?_
  refine wk_start ?_
  refine kv g0 (mv) ?_
  refine kv g0 (mv) ?_
  refine kv g0 (mv) ?_
  obtain ⟨c10, H⟩ := of_if H
  refine kv g0 (ixD 62 c10 (ltE c9)) ?_
  refine kv g0 (faE 0 0) ?_
  refine ks g0 (stD 5 ds62 0 1 [.lit (.int .i64 p6)] (.agg [.lit (.int .i64 p6), .lit (.int .i64 ((rd_T62 q5 p7).f1)), .sl .n 4 (((rd_T62 q5 p7).f2).map e131), .lit (.int .i64 ((rd_T62 q5 p7).f3)), .lit (.int .i64 ((rd_T62 q5 p7).f4))]) (getE (f := e62) (z := z62) c10 c9) (rfl)) ?_
  refine wk_end ?_
  refine ac_next ?_
  refine aw_grp1 ?_
  refine wk_start ?_
  refine kv g0 (mv) ?_
  refine kv g0 (add6) ?_
  refine kv g0 (asg) ?_
  refine wk_end ?_
  refine ac_next ?_
  refine aw_grp1 ?_
  refine wk_start ?_
  refine kv g0 (mv) ?_
  refine kv g0 (mv) ?_
  refine kv g0 (mv) ?_
  refine kv g0 (ixD 62 c10 (ltS (ltE c9))) ?_
  refine kv g0 (faE 1 1) ?_
  refine ks g0 (stD 5 ds62 1 1 [.lit (.int .i64 (wrap64 (p6 + 1)))] (.agg [.lit (.int .i64 p6), .lit (.int .i64 (wrap64 (p6 + 1))), .sl .n 4 (((rd_T62 q5 p7).f2).map e131), .lit (.int .i64 ((rd_T62 q5 p7).f3)), .lit (.int .i64 ((rd_T62 q5 p7).f4))]) (setXG (f := e62) (X := .agg [.lit (.int .i64 p6), .lit (.int .i64 ((rd_T62 q5 p7).f1)), .sl .n 4 (((rd_T62 q5 p7).f2).map e131), .lit (.int .i64 ((rd_T62 q5 p7).f3)), .lit (.int .i64 ((rd_T62 q5 p7).f4))]) c10 c9) (setXX)) ?_
  refine wk_end ?_
  refine ac_next ?_
  refine aw_grp1 ?_
  refine wk_start ?_
  refine kv g0 (mv) ?_
  refine kv g0 (add6) ?_
  refine kv g0 (asg) ?_
  refine wk_end ?_
  refine ac_next ?_
  refine aw_grp1 ?_
  refine wk_start ?_
  refine kv g0 (mv) ?_
  refine kv g0 (mv) ?_
  refine kv g0 (ixD 62 c10 (ltS (ltE c9))) ?_
  refine kv g0 (faE 2 2) ?_
  refine kcS2 30 (.row 1) [(0, .drow true ds62 62 5 ((q5.map e62).set p7.toNat (.agg [.lit (.int .i64 p6), .lit (.int .i64 (wrap64 (p6 + 1))), .row 1, .lit (.int .i64 ((rd_T62 q5 p7).f3)), .lit (.int .i64 ((rd_T62 q5 p7).f4))]))), (1, .row 131 4 (((rd_T62 q5 p7).f2).map e131))] g0 (okv_gh (tk 0 1 2 (.agg [.lit (.int .i64 p6), .lit (.int .i64 (wrap64 (p6 + 1))), .row 1, .lit (.int .i64 ((rd_T62 q5 p7).f3)), .lit (.int .i64 ((rd_T62 q5 p7).f4))]) (setXG (f := e62) (X := .agg [.lit (.int .i64 p6), .lit (.int .i64 (wrap64 (p6 + 1))), .sl .n 4 (((rd_T62 q5 p7).f2).map e131), .lit (.int .i64 ((rd_T62 q5 p7).f3)), .lit (.int .i64 ((rd_T62 q5 p7).f4))]) c10 c9) (setXX) rfl) (ldD (.row 1) (setXG (f := e62) (X := .agg [.lit (.int .i64 p6), .lit (.int .i64 (wrap64 (p6 + 1))), .row 1, .lit (.int .i64 ((rd_T62 q5 p7).f3)), .lit (.int .i64 ((rd_T62 q5 p7).f4))]) c10 c9) rfl)).owp rfl rfl ?_
  refine kv g0 (mv) ?_
  obtain ⟨t11, A12, H⟩ := of_bind H
  refine kcS1 32 (.lit (.int .i64 t11.1)) [(1, .row 131 4 (t11.2.map e131))] g0 (cal (laws_markItemS.ok A12) [1] 9999 .n (hf := Try.func63)) rfl rfl ?_
  refine kv g0 (asg) ?_
  refine wk_end ?_
  refine ac_next ?_
  refine aw_grp1 ?_
  refine wk_start ?_
  refine kv g0 (mv) ?_
  refine kv g0 (mv) ?_
  refine kv g0 (mv) ?_
  refine kv g0 (ixD 62 c10 (ltS (ltE c9))) ?_
  refine kv g0 (faE 3 3) ?_
  refine ks g0 (stD 5 ds62 3 1 [.lit (.int .i64 t11.1)] (.agg [.lit (.int .i64 p6), .lit (.int .i64 (wrap64 (p6 + 1))), .row 1, .lit (.int .i64 t11.1), .lit (.int .i64 ((rd_T62 q5 p7).f4))]) (setXG (f := e62) (X := .agg [.lit (.int .i64 p6), .lit (.int .i64 (wrap64 (p6 + 1))), .row 1, .lit (.int .i64 ((rd_T62 q5 p7).f3)), .lit (.int .i64 ((rd_T62 q5 p7).f4))]) c10 c9) (setXX)) ?_
  refine wk_end ?_
  refine ac_next ?_
  refine aw_grp1 ?_
  refine wk_start ?_
  refine kv g0 (mv) ?_
  refine kv g0 (add6) ?_
  refine kv g0 (asg) ?_
  refine wk_end ?_
  refine ac_next ?_
  refine aw_grp1 ?_
  refine wk_start ?_
  refine kv g0 (mv) ?_
  refine kv g0 (mv) ?_
  refine kv g0 (mv) ?_
  refine kv g0 (ixD 62 c10 (ltS (ltE c9))) ?_
  refine kv g0 (faE 4 4) ?_
  refine ks g0 (stD 5 ds62 4 1 [.lit (.int .i64 (wrap64 (t11.1 + 1)))] (.agg [.lit (.int .i64 p6), .lit (.int .i64 (wrap64 (p6 + 1))), .row 1, .lit (.int .i64 t11.1), .lit (.int .i64 (wrap64 (t11.1 + 1)))]) (setXG (f := e62) (X := .agg [.lit (.int .i64 p6), .lit (.int .i64 (wrap64 (p6 + 1))), .row 1, .lit (.int .i64 t11.1), .lit (.int .i64 ((rd_T62 q5 p7).f4))]) c10 c9) (setXX)) ?_
  refine wk_end ?_
  refine ac_next ?_
  refine wk_start ?_
  refine kv g0 (mv) ?_
  refine kv g0 (add6) ?_
  refine kv g0 (asg) ?_
  refine wk_end ?_
  refine ac_blkN ?_
  refine ac_next ?_
  refine wk_start ?_
  refine kv g0 (mv) ?_
  refine kv g0 (add6) ?_
  refine kv g0 (asg) ?_
  refine wk_end ?_
  refine ac_g2 (pk 0 1 2 (.agg [.lit (.int .i64 p6), .lit (.int .i64 (wrap64 (p6 + 1))), .sl .n 4 (t11.2.map e131), .lit (.int .i64 t11.1), .lit (.int .i64 (wrap64 (t11.1 + 1)))]) (setXG (f := e62) (X := .agg [.lit (.int .i64 p6), .lit (.int .i64 (wrap64 (p6 + 1))), .row 1, .lit (.int .i64 t11.1), .lit (.int .i64 (wrap64 (t11.1 + 1)))]) c10 c9) (setXX) rfl) ?_
  refine ac_g1 (sealD 0 (setSeal (f := e62) p7.toNat (⟨p6, wrap64 (p6 + 1), t11.2, t11.1, wrap64 (t11.1 + 1)⟩ : S62)) cl62) ?_
  refine ac_k ?_
  exact acw hE [(0, 0)] 9999 (hK14 k8 (q5.set p7.toNat (⟨p6, wrap64 (p6 + 1), t11.2, t11.1, wrap64 (t11.1 + 1)⟩ : S62)) (wrap64 ((wrap64 (t11.1 + 1)) + 1)) (wrap64 (p7 + 1)) (Nat.le_refl _) ⟨by omega, H⟩)
 rw [if_neg c9] at H
 refine aw_ifF ?_ (decide_eq_false c9)
 refine aw_exit ?_
 refine ac_then ?_
 refine ac_then ?_
 refine ac_hit rfl ?_
 refine ac_next ?_
 refine aw_grp1 ?_
 refine wk_start ?_
 refine kv g0 (mv) ?_
 refine kv g0 (asg) ?_
 refine wk_end ?_
 refine ac_next ?_
 refine aw_ret ?_
 obtain rfl := Option.some.inj H
 exact acr hE [.tmp 4] (.tmp .nil) (.one _) [(0, 0)] 9999
/-! laws_markEntryS -/
def laws_markEntryS.l0 : Nat → (List S133) → Int → Int → Option (Int × (List S133))
 | 0, _, _, _ => none
 | k6 + 1, q3, p4, p5 => if p5 < (q3.length : Int) then if 0 ≤ p5 then laws_markEntryS.l0 k6 (q3.set p5.toNat (⟨p4, wrap64 (p4 + 1), (⟨wrap64 ((wrap64 (p4 + 1)) + 1), wrap64 ((wrap64 ((wrap64 (p4 + 1)) + 1)) + 1), wrap64 ((wrap64 ((wrap64 ((wrap64 (p4 + 1)) + 1)) + 1)) + 1), wrap64 ((wrap64 ((wrap64 ((wrap64 ((wrap64 (p4 + 1)) + 1)) + 1)) + 1)) + 1)⟩ : S131)⟩ : S133)) (wrap64 ((wrap64 ((wrap64 ((wrap64 ((wrap64 ((wrap64 (p4 + 1)) + 1)) + 1)) + 1)) + 1)) + 1)) (wrap64 (p5 + 1)) else none else some (p4, q3)
def laws_markEntryS.f (k : Nat) (l0 : List S133) (a1 : Int) : Option (Int × (List S133)) := laws_markEntryS.l0 k l0 a1 0
theorem laws_markEntryS.ok {k : Nat} {l0 : List S133} {a1 : Int} {r : Int × (List S133)} (H : laws_markEntryS.f k l0 a1 = some r) : ACalls Try.prog 64 [(0, .row 133 6 (l0.map e133))] [.row 0, .lit (.int .i64 a1)] [(0, .row 133 6 (r.2.map e133))] (.lit (.int .i64 r.1)) := by
 refine acalls (fn := Try.f64) (nt := 59) Try.func64 rfl rfl (Nat.le_of_ble_eq_true rfl) fun E hE => ?_
 rw [laws_markEntryS.f] at H
 refine aw_grp1 ?_
 refine wk_start ?_
 refine kv g0 (asg) ?_
 refine wk_end ?_
 refine ac_next ?_
 refine aw_grp1 ?_
 refine aw_grp1 ?_
 refine wk_start ?_
 refine kv g0 (asg) ?_
 refine wk_end ?_
 refine ac_next ?_
 refine aw_block ?_
 refine aw_loop3 (fun (k_ : Nat) (q3 : List S133) (p4 : Int) (p5 : Int) => k_ ≤ k ∧ laws_markEntryS.l0 k_ q3 p4 p5 = some r) (fun (q3 : List S133) (p4 : Int) (p5 : Int) => ⟨[(0, .row 0), (1, .lit (.int .i64 p4)), (5, .lit (.int .i64 p5))], [(0, .row 133 6 (q3.map e133))]⟩) k l0 a1 0 ⟨Nat.le_refl _, H⟩ (fun K_ h_ => acw hE [(0, 0)] 9999 h_) (fun _ _ _ => by intro h_; have h_ := h_.2; rw [laws_markEntryS.l0.eq_1] at h_; cases h_) ?_
 intro k6 q3 p4 p5 hq_ K9 hK10
 have hk6 := hq_.1
 have H := hq_.2
 clear hq_
 rw [laws_markEntryS.l0.eq_2] at H
 refine aw_grp1 ?_
 refine aw_grp1 ?_
 refine wk_start ?_
 refine kv g0 (mv) ?_
 refine kv g0 (mv) ?_
 refine kv g0 (lnR lenE) ?_
 refine kv g0 (lss) ?_
 refine wk_end ?_
 refine ac_next ?_
 by_cases c7 : p5 < (q3.length : Int)
 ·rw [if_pos c7] at H
  refine aw_ifT ?_ (decide_eq_true c7)
  refine aw_skip ?_
  refine ac_next ?_
  refine aw_grp1 ?_
  refine aw_block ?_
  refine aw_grp1 ?_
  refine wk_start ?_
  refine kv g0 (mv) ?_
  refine kv g0 (mv) ?_
  refine kv g0 (mv) ?_
  obtain ⟨c8, H⟩ := of_if H
  refine kv g0 (ixR 133 c8 (ltE c7)) ?_
  refine kv g0 (faE 0 0) ?_
  refine ks g0 (stE 1 (e133 (⟨p4, (rd_T133 q3 p5).f1, (⟨(rd_T133 q3 p5).f2.f0, (rd_T133 q3 p5).f2.f1, (rd_T133 q3 p5).f2.f2, (rd_T133 q3 p5).f2.f3⟩ : S131)⟩ : S133)) ((q3.set p5.toNat (⟨p4, (rd_T133 q3 p5).f1, (⟨(rd_T133 q3 p5).f2.f0, (rd_T133 q3 p5).f2.f1, (rd_T133 q3 p5).f2.f2, (rd_T133 q3 p5).f2.f3⟩ : S131)⟩ : S133)).map e133) (getE (z := z133) c8 c7) setE) ?_
  refine wk_end ?_
  refine ac_next ?_
  refine aw_grp1 ?_
  refine wk_start ?_
  refine kv g0 (mv) ?_
  refine kv g0 (add6) ?_
  refine kv g0 (asg) ?_
  refine wk_end ?_
  refine ac_next ?_
  refine aw_grp1 ?_
  refine wk_start ?_
  refine kv g0 (mv) ?_
  refine kv g0 (mv) ?_
  refine kv g0 (mv) ?_
  refine kv g0 (ixR 133 c8 (ltE (ls c7))) ?_
  refine kv g0 (faE 1 1) ?_
  refine ks g0 (stE 1 (e133 (⟨p4, wrap64 (p4 + 1), (⟨(rd_T133 q3 p5).f2.f0, (rd_T133 q3 p5).f2.f1, (rd_T133 q3 p5).f2.f2, (rd_T133 q3 p5).f2.f3⟩ : S131)⟩ : S133)) ((q3.set p5.toNat (⟨p4, wrap64 (p4 + 1), (⟨(rd_T133 q3 p5).f2.f0, (rd_T133 q3 p5).f2.f1, (rd_T133 q3 p5).f2.f2, (rd_T133 q3 p5).f2.f3⟩ : S131)⟩ : S133)).map e133) (setG c8 (ls c7)) setE2) ?_
  refine wk_end ?_
  refine ac_next ?_
  refine aw_grp1 ?_
  refine wk_start ?_
  refine kv g0 (mv) ?_
  refine kv g0 (add6) ?_
  refine kv g0 (asg) ?_
  refine wk_end ?_
  refine ac_next ?_
  refine aw_grp1 ?_
  refine wk_start ?_
  refine kv g0 (mv) ?_
  refine kv g0 (mv) ?_
  refine kv g0 (mv) ?_
  refine kv g0 (ixR 133 c8 (ltE (ls c7))) ?_
  refine kv g0 (faE 2 2) ?_
  refine kv g0 (faE 0 2) ?_
  refine ks g0 (stE 1 (e133 (⟨p4, wrap64 (p4 + 1), (⟨wrap64 ((wrap64 (p4 + 1)) + 1), (rd_T133 q3 p5).f2.f1, (rd_T133 q3 p5).f2.f2, (rd_T133 q3 p5).f2.f3⟩ : S131)⟩ : S133)) ((q3.set p5.toNat (⟨p4, wrap64 (p4 + 1), (⟨wrap64 ((wrap64 (p4 + 1)) + 1), (rd_T133 q3 p5).f2.f1, (rd_T133 q3 p5).f2.f2, (rd_T133 q3 p5).f2.f3⟩ : S131)⟩ : S133)).map e133) (setG c8 (ls c7)) setE2) ?_
  refine wk_end ?_
  refine ac_next ?_
  refine aw_grp1 ?_
  refine wk_start ?_
  refine kv g0 (mv) ?_
  refine kv g0 (add6) ?_
  refine kv g0 (asg) ?_
  refine wk_end ?_
  refine ac_next ?_
  refine aw_grp1 ?_
  refine wk_start ?_
  refine kv g0 (mv) ?_
  refine kv g0 (mv) ?_
  refine kv g0 (mv) ?_
  refine kv g0 (ixR 133 c8 (ltE (ls c7))) ?_
  refine kv g0 (faE 2 2) ?_
  refine kv g0 (faE 1 3) ?_
  refine ks g0 (stE 1 (e133 (⟨p4, wrap64 (p4 + 1), (⟨wrap64 ((wrap64 (p4 + 1)) + 1), wrap64 ((wrap64 ((wrap64 (p4 + 1)) + 1)) + 1), (rd_T133 q3 p5).f2.f2, (rd_T133 q3 p5).f2.f3⟩ : S131)⟩ : S133)) ((q3.set p5.toNat (⟨p4, wrap64 (p4 + 1), (⟨wrap64 ((wrap64 (p4 + 1)) + 1), wrap64 ((wrap64 ((wrap64 (p4 + 1)) + 1)) + 1), (rd_T133 q3 p5).f2.f2, (rd_T133 q3 p5).f2.f3⟩ : S131)⟩ : S133)).map e133) (setG c8 (ls c7)) setE2) ?_
  refine wk_end ?_
  refine ac_next ?_
  refine aw_grp1 ?_
  refine wk_start ?_
  refine kv g0 (mv) ?_
  refine kv g0 (add6) ?_
  refine kv g0 (asg) ?_
  refine wk_end ?_
  refine ac_next ?_
  refine aw_grp1 ?_
  refine wk_start ?_
  refine kv g0 (mv) ?_
  refine kv g0 (mv) ?_
  refine kv g0 (mv) ?_
  refine kv g0 (ixR 133 c8 (ltE (ls c7))) ?_
  refine kv g0 (faE 2 2) ?_
  refine kv g0 (faE 2 4) ?_
  refine ks g0 (stE 1 (e133 (⟨p4, wrap64 (p4 + 1), (⟨wrap64 ((wrap64 (p4 + 1)) + 1), wrap64 ((wrap64 ((wrap64 (p4 + 1)) + 1)) + 1), wrap64 ((wrap64 ((wrap64 ((wrap64 (p4 + 1)) + 1)) + 1)) + 1), (rd_T133 q3 p5).f2.f3⟩ : S131)⟩ : S133)) ((q3.set p5.toNat (⟨p4, wrap64 (p4 + 1), (⟨wrap64 ((wrap64 (p4 + 1)) + 1), wrap64 ((wrap64 ((wrap64 (p4 + 1)) + 1)) + 1), wrap64 ((wrap64 ((wrap64 ((wrap64 (p4 + 1)) + 1)) + 1)) + 1), (rd_T133 q3 p5).f2.f3⟩ : S131)⟩ : S133)).map e133) (setG c8 (ls c7)) setE2) ?_
  refine wk_end ?_
  refine ac_next ?_
  refine aw_grp1 ?_
  refine wk_start ?_
  refine kv g0 (mv) ?_
  refine kv g0 (add6) ?_
  refine kv g0 (asg) ?_
  refine wk_end ?_
  refine ac_next ?_
  refine aw_grp1 ?_
  refine wk_start ?_
  refine kv g0 (mv) ?_
  refine kv g0 (mv) ?_
  refine kv g0 (mv) ?_
  refine kv g0 (ixR 133 c8 (ltE (ls c7))) ?_
  refine kv g0 (faE 2 2) ?_
  refine kv g0 (faE 3 5) ?_
  refine ks g0 (stE 1 (e133 (⟨p4, wrap64 (p4 + 1), (⟨wrap64 ((wrap64 (p4 + 1)) + 1), wrap64 ((wrap64 ((wrap64 (p4 + 1)) + 1)) + 1), wrap64 ((wrap64 ((wrap64 ((wrap64 (p4 + 1)) + 1)) + 1)) + 1), wrap64 ((wrap64 ((wrap64 ((wrap64 ((wrap64 (p4 + 1)) + 1)) + 1)) + 1)) + 1)⟩ : S131)⟩ : S133)) ((q3.set p5.toNat (⟨p4, wrap64 (p4 + 1), (⟨wrap64 ((wrap64 (p4 + 1)) + 1), wrap64 ((wrap64 ((wrap64 (p4 + 1)) + 1)) + 1), wrap64 ((wrap64 ((wrap64 ((wrap64 (p4 + 1)) + 1)) + 1)) + 1), wrap64 ((wrap64 ((wrap64 ((wrap64 ((wrap64 (p4 + 1)) + 1)) + 1)) + 1)) + 1)⟩ : S131)⟩ : S133)).map e133) (setG c8 (ls c7)) setE2) ?_
  refine wk_end ?_
  refine ac_next ?_
  refine wk_start ?_
  refine kv g0 (mv) ?_
  refine kv g0 (add6) ?_
  refine kv g0 (asg) ?_
  refine wk_end ?_
  refine ac_blkN ?_
  refine ac_next ?_
  refine wk_start ?_
  refine kv g0 (mv) ?_
  refine kv g0 (add6) ?_
  refine kv g0 (asg) ?_
  refine wk_end ?_
  refine ac_k ?_
  exact acw hE [(0, 0)] 9999 (hK10 k6 (q3.set p5.toNat (⟨p4, wrap64 (p4 + 1), (⟨wrap64 ((wrap64 (p4 + 1)) + 1), wrap64 ((wrap64 ((wrap64 (p4 + 1)) + 1)) + 1), wrap64 ((wrap64 ((wrap64 ((wrap64 (p4 + 1)) + 1)) + 1)) + 1), wrap64 ((wrap64 ((wrap64 ((wrap64 ((wrap64 (p4 + 1)) + 1)) + 1)) + 1)) + 1)⟩ : S131)⟩ : S133)) (wrap64 ((wrap64 ((wrap64 ((wrap64 ((wrap64 ((wrap64 (p4 + 1)) + 1)) + 1)) + 1)) + 1)) + 1)) (wrap64 (p5 + 1)) (Nat.le_refl _) ⟨by omega, H⟩)
 rw [if_neg c7] at H
 refine aw_ifF ?_ (decide_eq_false c7)
 refine aw_exit ?_
 refine ac_then ?_
 refine ac_then ?_
 refine ac_hit rfl ?_
 refine ac_next ?_
 refine aw_grp1 ?_
 refine wk_start ?_
 refine kv g0 (mv) ?_
 refine kv g0 (asg) ?_
 refine wk_end ?_
 refine ac_next ?_
 refine aw_ret ?_
 obtain rfl := Option.some.inj H
 exact acr hE [.tmp 4] (.tmp .nil) (.one _) [(0, 0)] 9999
/-! laws_markIntS -/
def laws_markIntS.l0 : Nat → (List Int) → Int → Int → Option (Int × (List Int))
 | 0, _, _, _ => none
 | k6 + 1, q3, p4, p5 => if p5 < (q3.length : Int) then if 0 ≤ p5 then laws_markIntS.l0 k6 (q3.set p5.toNat p4) (wrap64 (p4 + 1)) (wrap64 (p5 + 1)) else none else some (p4, q3)
def laws_markIntS.f (k : Nat) (l0 : List Int) (a1 : Int) : Option (Int × (List Int)) := laws_markIntS.l0 k l0 a1 0
theorem laws_markIntS.ok {k : Nat} {l0 : List Int} {a1 : Int} {r : Int × (List Int)} (H : laws_markIntS.f k l0 a1 = some r) : ACalls Try.prog 34 [(0, .row 3 1 (l0.map (eI .i64)))] [.row 0, .lit (.int .i64 a1)] [(0, .row 3 1 (r.2.map (eI .i64)))] (.lit (.int .i64 r.1)) := by
 refine acalls (fn := Try.f34) (nt := 19) Try.func34 rfl rfl (Nat.le_of_ble_eq_true rfl) fun E hE => ?_
 rw [laws_markIntS.f] at H
 refine aw_grp1 ?_
 refine wk_start ?_
 refine kv g0 (asg) ?_
 refine wk_end ?_
 refine ac_next ?_
 refine aw_grp1 ?_
 refine aw_grp1 ?_
 refine wk_start ?_
 refine kv g0 (asg) ?_
 refine wk_end ?_
 refine ac_next ?_
 refine aw_block ?_
 refine aw_loop3 (fun (k_ : Nat) (q3 : List Int) (p4 : Int) (p5 : Int) => k_ ≤ k ∧ laws_markIntS.l0 k_ q3 p4 p5 = some r) (fun (q3 : List Int) (p4 : Int) (p5 : Int) => ⟨[(0, .row 0), (1, .lit (.int .i64 p4)), (5, .lit (.int .i64 p5))], [(0, .row 3 1 (q3.map (eI .i64)))]⟩) k l0 a1 0 ⟨Nat.le_refl _, H⟩ (fun K_ h_ => acw hE [(0, 0)] 9999 h_) (fun _ _ _ => by intro h_; have h_ := h_.2; rw [laws_markIntS.l0.eq_1] at h_; cases h_) ?_
 intro k6 q3 p4 p5 hq_ K9 hK10
 have hk6 := hq_.1
 have H := hq_.2
 clear hq_
 rw [laws_markIntS.l0.eq_2] at H
 refine aw_grp1 ?_
 refine aw_grp1 ?_
 refine wk_start ?_
 refine kv g0 (mv) ?_
 refine kv g0 (mv) ?_
 refine kv g0 (lnR lenE) ?_
 refine kv g0 (lss) ?_
 refine wk_end ?_
 refine ac_next ?_
 by_cases c7 : p5 < (q3.length : Int)
 ·rw [if_pos c7] at H
  refine aw_ifT ?_ (decide_eq_true c7)
  refine aw_skip ?_
  refine ac_next ?_
  refine aw_grp1 ?_
  refine aw_block ?_
  refine aw_grp1 ?_
  refine wk_start ?_
  refine kv g0 (mv) ?_
  refine kv g0 (mv) ?_
  refine kv g0 (mv) ?_
  obtain ⟨c8, H⟩ := of_if H
  refine kv g0 (ixR 3 c8 (ltE c7)) ?_
  refine ks g0 (stE 1 (eI .i64 p4) ((q3.set p5.toNat p4).map (eI .i64)) (getE (z := (0 : Int)) c8 c7) setE) ?_
  refine wk_end ?_
  refine ac_next ?_
  refine wk_start ?_
  refine kv g0 (mv) ?_
  refine kv g0 (add6) ?_
  refine kv g0 (asg) ?_
  refine wk_end ?_
  refine ac_blkN ?_
  refine ac_next ?_
  refine wk_start ?_
  refine kv g0 (mv) ?_
  refine kv g0 (add6) ?_
  refine kv g0 (asg) ?_
  refine wk_end ?_
  refine ac_k ?_
  exact acw hE [(0, 0)] 9999 (hK10 k6 (q3.set p5.toNat p4) (wrap64 (p4 + 1)) (wrap64 (p5 + 1)) (Nat.le_refl _) ⟨by omega, H⟩)
 rw [if_neg c7] at H
 refine aw_ifF ?_ (decide_eq_false c7)
 refine aw_exit ?_
 refine ac_then ?_
 refine ac_then ?_
 refine ac_hit rfl ?_
 refine ac_next ?_
 refine aw_grp1 ?_
 refine wk_start ?_
 refine kv g0 (mv) ?_
 refine kv g0 (asg) ?_
 refine wk_end ?_
 refine ac_next ?_
 refine aw_ret ?_
 obtain rfl := Option.some.inj H
 exact acr hE [.tmp 4] (.tmp .nil) (.one _) [(0, 0)] 9999
/-! laws_markEarlyS -/
def laws_markEarlyS.l0 : Nat → (List S135) → Int → Int → Option (Int × (List S135))
 | 0, _, _, _ => none
 | k6 + 1, q3, p4, p5 => if p5 < (q3.length : Int) then if 0 ≤ p5 then laws_markEarlyS.l0 k6 (q3.set p5.toNat (⟨p4, wrap64 (p4 + 1), (⟨wrap64 ((wrap64 (p4 + 1)) + 1), wrap64 ((wrap64 ((wrap64 (p4 + 1)) + 1)) + 1), wrap64 ((wrap64 ((wrap64 ((wrap64 (p4 + 1)) + 1)) + 1)) + 1), wrap64 ((wrap64 ((wrap64 ((wrap64 ((wrap64 (p4 + 1)) + 1)) + 1)) + 1)) + 1)⟩ : S131)⟩ : S135)) (wrap64 ((wrap64 ((wrap64 ((wrap64 ((wrap64 ((wrap64 (p4 + 1)) + 1)) + 1)) + 1)) + 1)) + 1)) (wrap64 (p5 + 1)) else none else some (p4, q3)
def laws_markEarlyS.f (k : Nat) (l0 : List S135) (a1 : Int) : Option (Int × (List S135)) := laws_markEarlyS.l0 k l0 a1 0
theorem laws_markEarlyS.ok {k : Nat} {l0 : List S135} {a1 : Int} {r : Int × (List S135)} (H : laws_markEarlyS.f k l0 a1 = some r) : ACalls Try.prog 65 [(0, .row 135 6 (l0.map e135))] [.row 0, .lit (.int .i64 a1)] [(0, .row 135 6 (r.2.map e135))] (.lit (.int .i64 r.1)) := by
 refine acalls (fn := Try.f65) (nt := 59) Try.func65 rfl rfl (Nat.le_of_ble_eq_true rfl) fun E hE => ?_
 rw [laws_markEarlyS.f] at H
 refine aw_grp1 ?_
 refine wk_start ?_
 refine kv g0 (asg) ?_
 refine wk_end ?_
 refine ac_next ?_
 refine aw_grp1 ?_
 refine aw_grp1 ?_
 refine wk_start ?_
 refine kv g0 (asg) ?_
 refine wk_end ?_
 refine ac_next ?_
 refine aw_block ?_
 refine aw_loop3 (fun (k_ : Nat) (q3 : List S135) (p4 : Int) (p5 : Int) => k_ ≤ k ∧ laws_markEarlyS.l0 k_ q3 p4 p5 = some r) (fun (q3 : List S135) (p4 : Int) (p5 : Int) => ⟨[(0, .row 0), (1, .lit (.int .i64 p4)), (5, .lit (.int .i64 p5))], [(0, .row 135 6 (q3.map e135))]⟩) k l0 a1 0 ⟨Nat.le_refl _, H⟩ (fun K_ h_ => acw hE [(0, 0)] 9999 h_) (fun _ _ _ => by intro h_; have h_ := h_.2; rw [laws_markEarlyS.l0.eq_1] at h_; cases h_) ?_
 intro k6 q3 p4 p5 hq_ K9 hK10
 have hk6 := hq_.1
 have H := hq_.2
 clear hq_
 rw [laws_markEarlyS.l0.eq_2] at H
 refine aw_grp1 ?_
 refine aw_grp1 ?_
 refine wk_start ?_
 refine kv g0 (mv) ?_
 refine kv g0 (mv) ?_
 refine kv g0 (lnR lenE) ?_
 refine kv g0 (lss) ?_
 refine wk_end ?_
 refine ac_next ?_
 by_cases c7 : p5 < (q3.length : Int)
 ·rw [if_pos c7] at H
  refine aw_ifT ?_ (decide_eq_true c7)
  refine aw_skip ?_
  refine ac_next ?_
  refine aw_grp1 ?_
  refine aw_block ?_
  refine aw_grp1 ?_
  refine wk_start ?_
  refine kv g0 (mv) ?_
  refine kv g0 (mv) ?_
  refine kv g0 (mv) ?_
  obtain ⟨c8, H⟩ := of_if H
  refine kv g0 (ixR 135 c8 (ltE c7)) ?_
  refine kv g0 (faE 0 0) ?_
  refine ks g0 (stE 1 (e135 (⟨p4, (rd_T135 q3 p5).f1, (⟨(rd_T135 q3 p5).f2.f0, (rd_T135 q3 p5).f2.f1, (rd_T135 q3 p5).f2.f2, (rd_T135 q3 p5).f2.f3⟩ : S131)⟩ : S135)) ((q3.set p5.toNat (⟨p4, (rd_T135 q3 p5).f1, (⟨(rd_T135 q3 p5).f2.f0, (rd_T135 q3 p5).f2.f1, (rd_T135 q3 p5).f2.f2, (rd_T135 q3 p5).f2.f3⟩ : S131)⟩ : S135)).map e135) (getE (z := z135) c8 c7) setE) ?_
  refine wk_end ?_
  refine ac_next ?_
  refine aw_grp1 ?_
  refine wk_start ?_
  refine kv g0 (mv) ?_
  refine kv g0 (add6) ?_
  refine kv g0 (asg) ?_
  refine wk_end ?_
  refine ac_next ?_
  refine aw_grp1 ?_
  refine wk_start ?_
  refine kv g0 (mv) ?_
  refine kv g0 (mv) ?_
  refine kv g0 (mv) ?_
  refine kv g0 (ixR 135 c8 (ltE (ls c7))) ?_
  refine kv g0 (faE 1 1) ?_
  refine ks g0 (stE 1 (e135 (⟨p4, wrap64 (p4 + 1), (⟨(rd_T135 q3 p5).f2.f0, (rd_T135 q3 p5).f2.f1, (rd_T135 q3 p5).f2.f2, (rd_T135 q3 p5).f2.f3⟩ : S131)⟩ : S135)) ((q3.set p5.toNat (⟨p4, wrap64 (p4 + 1), (⟨(rd_T135 q3 p5).f2.f0, (rd_T135 q3 p5).f2.f1, (rd_T135 q3 p5).f2.f2, (rd_T135 q3 p5).f2.f3⟩ : S131)⟩ : S135)).map e135) (setG c8 (ls c7)) setE2) ?_
  refine wk_end ?_
  refine ac_next ?_
  refine aw_grp1 ?_
  refine wk_start ?_
  refine kv g0 (mv) ?_
  refine kv g0 (add6) ?_
  refine kv g0 (asg) ?_
  refine wk_end ?_
  refine ac_next ?_
  refine aw_grp1 ?_
  refine wk_start ?_
  refine kv g0 (mv) ?_
  refine kv g0 (mv) ?_
  refine kv g0 (mv) ?_
  refine kv g0 (ixR 135 c8 (ltE (ls c7))) ?_
  refine kv g0 (faE 2 2) ?_
  refine kv g0 (faE 0 2) ?_
  refine ks g0 (stE 1 (e135 (⟨p4, wrap64 (p4 + 1), (⟨wrap64 ((wrap64 (p4 + 1)) + 1), (rd_T135 q3 p5).f2.f1, (rd_T135 q3 p5).f2.f2, (rd_T135 q3 p5).f2.f3⟩ : S131)⟩ : S135)) ((q3.set p5.toNat (⟨p4, wrap64 (p4 + 1), (⟨wrap64 ((wrap64 (p4 + 1)) + 1), (rd_T135 q3 p5).f2.f1, (rd_T135 q3 p5).f2.f2, (rd_T135 q3 p5).f2.f3⟩ : S131)⟩ : S135)).map e135) (setG c8 (ls c7)) setE2) ?_
  refine wk_end ?_
  refine ac_next ?_
  refine aw_grp1 ?_
  refine wk_start ?_
  refine kv g0 (mv) ?_
  refine kv g0 (add6) ?_
  refine kv g0 (asg) ?_
  refine wk_end ?_
  refine ac_next ?_
  refine aw_grp1 ?_
  refine wk_start ?_
  refine kv g0 (mv) ?_
  refine kv g0 (mv) ?_
  refine kv g0 (mv) ?_
  refine kv g0 (ixR 135 c8 (ltE (ls c7))) ?_
  refine kv g0 (faE 2 2) ?_
  refine kv g0 (faE 1 3) ?_
  refine ks g0 (stE 1 (e135 (⟨p4, wrap64 (p4 + 1), (⟨wrap64 ((wrap64 (p4 + 1)) + 1), wrap64 ((wrap64 ((wrap64 (p4 + 1)) + 1)) + 1), (rd_T135 q3 p5).f2.f2, (rd_T135 q3 p5).f2.f3⟩ : S131)⟩ : S135)) ((q3.set p5.toNat (⟨p4, wrap64 (p4 + 1), (⟨wrap64 ((wrap64 (p4 + 1)) + 1), wrap64 ((wrap64 ((wrap64 (p4 + 1)) + 1)) + 1), (rd_T135 q3 p5).f2.f2, (rd_T135 q3 p5).f2.f3⟩ : S131)⟩ : S135)).map e135) (setG c8 (ls c7)) setE2) ?_
  refine wk_end ?_
  refine ac_next ?_
  refine aw_grp1 ?_
  refine wk_start ?_
  refine kv g0 (mv) ?_
  refine kv g0 (add6) ?_
  refine kv g0 (asg) ?_
  refine wk_end ?_
  refine ac_next ?_
  refine aw_grp1 ?_
  refine wk_start ?_
  refine kv g0 (mv) ?_
  refine kv g0 (mv) ?_
  refine kv g0 (mv) ?_
  refine kv g0 (ixR 135 c8 (ltE (ls c7))) ?_
  refine kv g0 (faE 2 2) ?_
  refine kv g0 (faE 2 4) ?_
  refine ks g0 (stE 1 (e135 (⟨p4, wrap64 (p4 + 1), (⟨wrap64 ((wrap64 (p4 + 1)) + 1), wrap64 ((wrap64 ((wrap64 (p4 + 1)) + 1)) + 1), wrap64 ((wrap64 ((wrap64 ((wrap64 (p4 + 1)) + 1)) + 1)) + 1), (rd_T135 q3 p5).f2.f3⟩ : S131)⟩ : S135)) ((q3.set p5.toNat (⟨p4, wrap64 (p4 + 1), (⟨wrap64 ((wrap64 (p4 + 1)) + 1), wrap64 ((wrap64 ((wrap64 (p4 + 1)) + 1)) + 1), wrap64 ((wrap64 ((wrap64 ((wrap64 (p4 + 1)) + 1)) + 1)) + 1), (rd_T135 q3 p5).f2.f3⟩ : S131)⟩ : S135)).map e135) (setG c8 (ls c7)) setE2) ?_
  refine wk_end ?_
  refine ac_next ?_
  refine aw_grp1 ?_
  refine wk_start ?_
  refine kv g0 (mv) ?_
  refine kv g0 (add6) ?_
  refine kv g0 (asg) ?_
  refine wk_end ?_
  refine ac_next ?_
  refine aw_grp1 ?_
  refine wk_start ?_
  refine kv g0 (mv) ?_
  refine kv g0 (mv) ?_
  refine kv g0 (mv) ?_
  refine kv g0 (ixR 135 c8 (ltE (ls c7))) ?_
  refine kv g0 (faE 2 2) ?_
  refine kv g0 (faE 3 5) ?_
  refine ks g0 (stE 1 (e135 (⟨p4, wrap64 (p4 + 1), (⟨wrap64 ((wrap64 (p4 + 1)) + 1), wrap64 ((wrap64 ((wrap64 (p4 + 1)) + 1)) + 1), wrap64 ((wrap64 ((wrap64 ((wrap64 (p4 + 1)) + 1)) + 1)) + 1), wrap64 ((wrap64 ((wrap64 ((wrap64 ((wrap64 (p4 + 1)) + 1)) + 1)) + 1)) + 1)⟩ : S131)⟩ : S135)) ((q3.set p5.toNat (⟨p4, wrap64 (p4 + 1), (⟨wrap64 ((wrap64 (p4 + 1)) + 1), wrap64 ((wrap64 ((wrap64 (p4 + 1)) + 1)) + 1), wrap64 ((wrap64 ((wrap64 ((wrap64 (p4 + 1)) + 1)) + 1)) + 1), wrap64 ((wrap64 ((wrap64 ((wrap64 ((wrap64 (p4 + 1)) + 1)) + 1)) + 1)) + 1)⟩ : S131)⟩ : S135)).map e135) (setG c8 (ls c7)) setE2) ?_
  refine wk_end ?_
  refine ac_next ?_
  refine wk_start ?_
  refine kv g0 (mv) ?_
  refine kv g0 (add6) ?_
  refine kv g0 (asg) ?_
  refine wk_end ?_
  refine ac_blkN ?_
  refine ac_next ?_
  refine wk_start ?_
  refine kv g0 (mv) ?_
  refine kv g0 (add6) ?_
  refine kv g0 (asg) ?_
  refine wk_end ?_
  refine ac_k ?_
  exact acw hE [(0, 0)] 9999 (hK10 k6 (q3.set p5.toNat (⟨p4, wrap64 (p4 + 1), (⟨wrap64 ((wrap64 (p4 + 1)) + 1), wrap64 ((wrap64 ((wrap64 (p4 + 1)) + 1)) + 1), wrap64 ((wrap64 ((wrap64 ((wrap64 (p4 + 1)) + 1)) + 1)) + 1), wrap64 ((wrap64 ((wrap64 ((wrap64 ((wrap64 (p4 + 1)) + 1)) + 1)) + 1)) + 1)⟩ : S131)⟩ : S135)) (wrap64 ((wrap64 ((wrap64 ((wrap64 ((wrap64 ((wrap64 (p4 + 1)) + 1)) + 1)) + 1)) + 1)) + 1)) (wrap64 (p5 + 1)) (Nat.le_refl _) ⟨by omega, H⟩)
 rw [if_neg c7] at H
 refine aw_ifF ?_ (decide_eq_false c7)
 refine aw_exit ?_
 refine ac_then ?_
 refine ac_then ?_
 refine ac_hit rfl ?_
 refine ac_next ?_
 refine aw_grp1 ?_
 refine wk_start ?_
 refine kv g0 (mv) ?_
 refine kv g0 (asg) ?_
 refine wk_end ?_
 refine ac_next ?_
 refine aw_ret ?_
 obtain rfl := Option.some.inj H
 exact acr hE [.tmp 4] (.tmp .nil) (.one _) [(0, 0)] 9999
/-! laws_markKeeper -/
def laws_markKeeper.f (k : Nat) (l0_0 : List S133) (l0_1 : List Int) (l0_2 : List S135) (a0_3 : Int) (l0_4 : List Int) (a1 : Int) : Option (Int × (List S133) × (List Int) × (List S135) × (List Int)) := (laws_markEntryS.f k l0_0 a1).bind fun t1 => (laws_markIntS.f k l0_1 t1.1).bind fun t3 => (laws_markEarlyS.f k l0_2 t3.1).bind fun t5 => (laws_markIntS.f k l0_4 t5.1).bind fun t7 => some (t7.1, t1.2, t3.2, t5.2, t7.2)
theorem laws_markKeeper.ok {k : Nat} {l0_0 : List S133} {l0_1 : List Int} {l0_2 : List S135} {a0_3 : Int} {l0_4 : List Int} {a1 : Int} {r : Int × (List S133) × (List Int) × (List S135) × (List Int)} (H : laws_markKeeper.f k l0_0 l0_1 l0_2 a0_3 l0_4 a1 = some r) : ACalls Try.prog 32 [(0, .row 133 6 (l0_0.map e133)), (1, .row 3 1 (l0_1.map (eI .i64))), (2, .row 135 6 (l0_2.map e135)), (3, .row 3 1 (l0_4.map (eI .i64)))] [.agg [.row 0, .row 1, .row 2, .lit (.int .i64 a0_3), .row 3], .lit (.int .i64 a1)] [(0, .row 133 6 (r.2.1.map e133)), (1, .row 3 1 (r.2.2.1.map (eI .i64))), (2, .row 135 6 (r.2.2.2.1.map e135)), (3, .row 3 1 (r.2.2.2.2.map (eI .i64)))] (.lit (.int .i64 r.1)) := by
 refine acalls (fn := Try.f32) (nt := 22) Try.func32 rfl rfl (Nat.le_of_ble_eq_true rfl) fun E hE => ?_
 rw [laws_markKeeper.f] at H
 refine aw_grp1 ?_
 refine wk_start ?_
 refine kb g0 (bxA 4) ?_
 refine kv g0 (asg) ?_
 refine wk_end ?_
 refine ac_next ?_
 refine aw_grp1 ?_
 refine wk_start ?_
 refine kv g0 (faB 0 0) ?_
 refine kv g0 (ldB) ?_
 refine kv g0 (mv) ?_
 obtain ⟨t1, A2, H⟩ := of_bind H
 refine kcS1 8 (.lit (.int .i64 t1.1)) [(0, .row 133 6 (t1.2.map e133))] g0 (cal (laws_markEntryS.ok A2) [0] 9999 .n (hf := Try.func64)) rfl rfl ?_
 refine kv g0 (asg) ?_
 refine wk_end ?_
 refine ac_next ?_
 refine aw_grp1 ?_
 refine wk_start ?_
 refine kv g0 (faB 1 1) ?_
 refine kv g0 (ldB) ?_
 refine kv g0 (mv) ?_
 obtain ⟨t3, A4, H⟩ := of_bind H
 refine kcS1 12 (.lit (.int .i64 t3.1)) [(1, .row 3 1 (t3.2.map (eI .i64)))] g0 (cal (laws_markIntS.ok A4) [1] 9999 .n (hf := Try.func34)) rfl rfl ?_
 refine kv g0 (asg) ?_
 refine wk_end ?_
 refine ac_next ?_
 refine aw_grp1 ?_
 refine wk_start ?_
 refine kv g0 (faB 2 2) ?_
 refine kv g0 (ldB) ?_
 refine kv g0 (mv) ?_
 obtain ⟨t5, A6, H⟩ := of_bind H
 refine kcS1 16 (.lit (.int .i64 t5.1)) [(2, .row 135 6 (t5.2.map e135))] g0 (cal (laws_markEarlyS.ok A6) [2] 9999 .n (hf := Try.func65)) rfl rfl ?_
 refine kv g0 (asg) ?_
 refine wk_end ?_
 refine ac_next ?_
 refine aw_grp1 ?_
 refine wk_start ?_
 refine kv g0 (faB 4 4) ?_
 refine kv g0 (ldB) ?_
 refine kv g0 (mv) ?_
 obtain ⟨t7, A8, H⟩ := of_bind H
 refine kcS1 20 (.lit (.int .i64 t7.1)) [(3, .row 3 1 (t7.2.map (eI .i64)))] g0 (cal (laws_markIntS.ok A8) [3] 9999 .n (hf := Try.func34)) rfl rfl ?_
 refine kv g0 (asg) ?_
 refine wk_end ?_
 refine ac_next ?_
 refine aw_grp1 ?_
 refine wk_start ?_
 refine kv g0 (mv) ?_
 refine kv g0 (asg) ?_
 refine wk_end ?_
 refine ac_next ?_
 refine aw_ret ?_
 obtain rfl := Option.some.inj H
 exact acr hE [.tmp 4] (.tmp .nil) (.one _) [(0, 0), (1, 1), (2, 2), (3, 3)] 9999
/-! laws_markText -/
def laws_markText.l0 : Nat → Int → ByteArray → Option (ByteArray)
 | 0, _, _ => none
 | k7 + 1, p5, p6 => if p5 > 0 then if (strOfNums ([IntKind.u8.wrap (wrap64 (48 + (p5.tmod 10)))] : List Int)).size + p6.size ≤ 9223372036854775807 then laws_markText.l0 k7 (wrap64 (p5.tdiv 10)) ((strOfNums ([IntKind.u8.wrap (wrap64 (48 + (p5.tmod 10)))] : List Int)) ++ p6) else none else if (⟨#[109]⟩ : ByteArray).size + p6.size ≤ 9223372036854775807 then some ((⟨#[109]⟩ : ByteArray) ++ p6) else none
def laws_markText.f (k : Nat) (a0 : Int) : Option (ByteArray) := if a0 ≤ 0 then some (⟨#[109, 48]⟩ : ByteArray) else laws_markText.l0 k a0 ByteArray.empty
theorem laws_markText.ok {k : Nat} {a0 : Int} {r : ByteArray} (H : laws_markText.f k a0 = some r) : ACalls Try.prog 66 [] [.lit (.int .i64 a0)] [] (.lit (.string r)) := by
 refine acalls (fn := Try.f66) (nt := 20) Try.func66 rfl rfl (Nat.le_of_ble_eq_true rfl) fun E hE => ?_
 rw [laws_markText.f] at H
 refine aw_grp1 ?_
 refine wk_start ?_
 refine kv g0 (asg) ?_
 refine wk_end ?_
 refine ac_next ?_
 refine aw_grp1 ?_
 refine aw_grp1 ?_
 refine wk_start ?_
 refine kv g0 (mv) ?_
 refine kv g0 (leq) ?_
 refine wk_end ?_
 refine ac_next ?_
 by_cases c1 : a0 ≤ 0
 ·rw [if_pos c1] at H
  refine aw_ifT ?_ (decide_eq_true c1)
  refine aw_grp1 ?_
  refine wk_start ?_
  refine kv g0 (asg) ?_
  refine wk_end ?_
  refine ac_next ?_
  refine aw_ret ?_
  refine ac_thenR ?_
  obtain rfl := Option.some.inj H
  exact acr hE [.tmp 2] (.tmp .nil) (.one _) [] 9999
 rw [if_neg c1] at H
 refine aw_ifF ?_ (decide_eq_false c1)
 refine aw_skip ?_
 refine ac_next ?_
 refine aw_grp1 ?_
 refine wk_start ?_
 refine kv g0 (asg) ?_
 refine wk_end ?_
 refine ac_next ?_
 refine aw_grp1 ?_
 refine aw_block ?_
 refine aw_loop2 (fun (k_ : Nat) (p5 : Int) (p6 : ByteArray) => k_ ≤ k ∧ laws_markText.l0 k_ p5 p6 = some r) (fun (p5 : Int) (p6 : ByteArray) => ⟨[(0, .lit (.int .i64 p5)), (3, .lit (.string p6))], []⟩) k a0 ByteArray.empty ⟨Nat.le_refl _, H⟩ (fun K_ h_ => acw hE [] 9999 h_) (fun _ _ => by intro h_; have h_ := h_.2; rw [laws_markText.l0.eq_1] at h_; cases h_) ?_
 intro k7 p5 p6 hq_ K10 hK11
 have hk7 := hq_.1
 have H := hq_.2
 clear hq_
 rw [laws_markText.l0.eq_2] at H
 refine aw_grp1 ?_
 refine aw_grp1 ?_
 refine wk_start ?_
 refine kv g0 (mv) ?_
 refine kv g0 (gtr) ?_
 refine wk_end ?_
 refine ac_next ?_
 by_cases c8 : p5 > 0
 ·rw [if_pos c8] at H
  refine aw_ifT ?_ (decide_eq_true c8)
  refine aw_skip ?_
  refine ac_next ?_
  refine aw_block ?_
  refine aw_grp1 ?_
  refine wk_start ?_
  refine kv g0 (mv) ?_
  refine kv g0 (rem (by decide : (10 : Int) ≠ 0)) ?_
  refine kv g0 (add6) ?_
  refine kv g0 (cnv .u8) ?_
  refine kb g0 (bsl 0 5 1 [.int .u8 0] (([IntKind.u8.wrap (wrap64 (48 + (p5.tmod 10)))] : List Int).map (eI .u8))) ?_
  refine kv g0 (cvB (.row rfl)) ?_
  refine kv g0 (mv) ?_
  obtain ⟨c9, H⟩ := of_if H
  refine kv g0 (cat c9) ?_
  refine kv g0 (asg) ?_
  refine wk_end ?_
  refine ac_next ?_
  refine wk_start ?_
  refine kv g0 (mv) ?_
  refine kv g0 (quo6 (by decide : (10 : Int) ≠ 0)) ?_
  refine kv g0 (asg) ?_
  refine wk_end ?_
  refine ac_blkN ?_
  refine ac_k ?_
  exact acw hE [] 9999 (hK11 k7 (wrap64 (p5.tdiv 10)) ((strOfNums ([IntKind.u8.wrap (wrap64 (48 + (p5.tmod 10)))] : List Int)) ++ p6) (Nat.le_refl _) ⟨by omega, H⟩)
 rw [if_neg c8] at H
 refine aw_ifF ?_ (decide_eq_false c8)
 refine aw_exit ?_
 refine ac_then ?_
 refine ac_then ?_
 refine ac_hit rfl ?_
 refine ac_next ?_
 refine aw_grp1 ?_
 refine wk_start ?_
 refine kv g0 (mv) ?_
 obtain ⟨c12, H⟩ := of_if H
 refine kv g0 (cat c12) ?_
 refine kv g0 (asg) ?_
 refine wk_end ?_
 refine ac_next ?_
 refine aw_ret ?_
 obtain rfl := Option.some.inj H
 exact acr hE [.tmp 2] (.tmp .nil) (.one _) [] 9999
/-! laws_markLetterS -/
def laws_markLetterS.l0 : Nat → (List S99) → Int → Int → Option (Int × (List S99))
 | 0, _, _, _ => none
 | k8 + 1, q5, p6, p7 => if p7 < (q5.length : Int) then if 0 ≤ p7 then (laws_markText.f k8 (wrap64 (p6 + 1))).bind fun t11 => laws_markLetterS.l0 k8 (q5.set p7.toNat (⟨(p6.tmod 3) == 0, t11, ((wrap64 ((wrap64 (p6 + 1)) + 1)).tmod 3) == 0⟩ : S99)) (wrap64 ((wrap64 ((wrap64 (p6 + 1)) + 1)) + 1)) (wrap64 (p7 + 1)) else none else some (p6, q5)
def laws_markLetterS.f (k : Nat) (l0 : List S99) (a1 : Int) : Option (Int × (List S99)) := laws_markLetterS.l0 k l0 a1 0
theorem laws_markLetterS.ok {k : Nat} {l0 : List S99} {a1 : Int} {r : Int × (List S99)} (H : laws_markLetterS.f k l0 a1 = some r) : ACalls Try.prog 33 [(0, .row 99 3 (l0.map e99))] [.row 0, .lit (.int .i64 a1)] [(0, .row 99 3 (r.2.map e99))] (.lit (.int .i64 r.1)) := by
 refine acalls (fn := Try.f33) (nt := 39) Try.func33 rfl rfl (Nat.le_of_ble_eq_true rfl) fun E hE => ?_
 rw [laws_markLetterS.f] at H
 refine aw_grp1 ?_
 refine wk_start ?_
 refine kv g0 (asg) ?_
 refine wk_end ?_
 refine ac_next ?_
 refine aw_grp1 ?_
 refine aw_grp1 ?_
 refine wk_start ?_
 refine kv g0 (asg) ?_
 refine wk_end ?_
 refine ac_next ?_
 refine aw_block ?_
 refine aw_loop3 (fun (k_ : Nat) (q5 : List S99) (p6 : Int) (p7 : Int) => k_ ≤ k ∧ laws_markLetterS.l0 k_ q5 p6 p7 = some r) (fun (q5 : List S99) (p6 : Int) (p7 : Int) => ⟨[(0, .row 0), (1, .lit (.int .i64 p6)), (5, .lit (.int .i64 p7))], [(0, .row 99 3 (q5.map e99))]⟩) k l0 a1 0 ⟨Nat.le_refl _, H⟩ (fun K_ h_ => acw hE [(0, 0)] 9999 h_) (fun _ _ _ => by intro h_; have h_ := h_.2; rw [laws_markLetterS.l0.eq_1] at h_; cases h_) ?_
 intro k8 q5 p6 p7 hq_ K13 hK14
 have hk8 := hq_.1
 have H := hq_.2
 clear hq_
 rw [laws_markLetterS.l0.eq_2] at H
 refine aw_grp1 ?_
 refine aw_grp1 ?_
 refine wk_start ?_
 refine kv g0 (mv) ?_
 refine kv g0 (mv) ?_
 refine kv g0 (lnR lenE) ?_
 refine kv g0 (lss) ?_
 refine wk_end ?_
 refine ac_next ?_
 by_cases c9 : p7 < (q5.length : Int)
 ·rw [if_pos c9] at H
  refine aw_ifT ?_ (decide_eq_true c9)
  refine aw_skip ?_
  refine ac_next ?_
  refine aw_grp1 ?_
  refine aw_block ?_
  refine aw_grp1 ?_
  refine wk_start ?_
  refine kv g0 (mv) ?_
  refine kv g0 (mv) ?_
  refine kv g0 (mv) ?_
  refine kv g0 (rem (by decide : (3 : Int) ≠ 0)) ?_
  refine kv g0 (eql) ?_
  obtain ⟨c10, H⟩ := of_if H
  refine kv g0 (ixR 99 c10 (ltE c9)) ?_
  refine kv g0 (faE 0 0) ?_
  refine ks g0 (stE 1 (e99 (⟨(p6.tmod 3) == 0, (rd_T99 q5 p7).f1, (rd_T99 q5 p7).f2⟩ : S99)) ((q5.set p7.toNat (⟨(p6.tmod 3) == 0, (rd_T99 q5 p7).f1, (rd_T99 q5 p7).f2⟩ : S99)).map e99) (getE (z := z99) c10 c9) setE) ?_
  refine wk_end ?_
  refine ac_next ?_
  refine aw_grp1 ?_
  refine wk_start ?_
  refine kv g0 (mv) ?_
  refine kv g0 (add6) ?_
  refine kv g0 (asg) ?_
  refine wk_end ?_
  refine ac_next ?_
  refine aw_grp1 ?_
  refine wk_start ?_
  refine kv g0 (mv) ?_
  refine kv g0 (mv) ?_
  refine kv g0 (mv) ?_
  obtain ⟨t11, A12, H⟩ := of_bind H
  refine kcS0 24 (.lit (.string t11)) [] g0 (cal (laws_markText.ok A12) [] 9999 .n (hf := Try.func66)) rfl rfl ?_
  refine kv g0 (ixR 99 c10 (ltE (ls c9))) ?_
  refine kv g0 (faE 1 1) ?_
  refine ks g0 (stE 1 (e99 (⟨(p6.tmod 3) == 0, t11, (rd_T99 q5 p7).f2⟩ : S99)) ((q5.set p7.toNat (⟨(p6.tmod 3) == 0, t11, (rd_T99 q5 p7).f2⟩ : S99)).map e99) (setG c10 (ls c9)) setE2) ?_
  refine wk_end ?_
  refine ac_next ?_
  refine aw_grp1 ?_
  refine wk_start ?_
  refine kv g0 (mv) ?_
  refine kv g0 (add6) ?_
  refine kv g0 (asg) ?_
  refine wk_end ?_
  refine ac_next ?_
  refine aw_grp1 ?_
  refine wk_start ?_
  refine kv g0 (mv) ?_
  refine kv g0 (mv) ?_
  refine kv g0 (mv) ?_
  refine kv g0 (rem (by decide : (3 : Int) ≠ 0)) ?_
  refine kv g0 (eql) ?_
  refine kv g0 (ixR 99 c10 (ltE (ls c9))) ?_
  refine kv g0 (faE 2 2) ?_
  refine ks g0 (stE 1 (e99 (⟨(p6.tmod 3) == 0, t11, ((wrap64 ((wrap64 (p6 + 1)) + 1)).tmod 3) == 0⟩ : S99)) ((q5.set p7.toNat (⟨(p6.tmod 3) == 0, t11, ((wrap64 ((wrap64 (p6 + 1)) + 1)).tmod 3) == 0⟩ : S99)).map e99) (setG c10 (ls c9)) setE2) ?_
  refine wk_end ?_
  refine ac_next ?_
  refine wk_start ?_
  refine kv g0 (mv) ?_
  refine kv g0 (add6) ?_
  refine kv g0 (asg) ?_
  refine wk_end ?_
  refine ac_blkN ?_
  refine ac_next ?_
  refine wk_start ?_
  refine kv g0 (mv) ?_
  refine kv g0 (add6) ?_
  refine kv g0 (asg) ?_
  refine wk_end ?_
  refine ac_k ?_
  exact acw hE [(0, 0)] 9999 (hK14 k8 (q5.set p7.toNat (⟨(p6.tmod 3) == 0, t11, ((wrap64 ((wrap64 (p6 + 1)) + 1)).tmod 3) == 0⟩ : S99)) (wrap64 ((wrap64 ((wrap64 (p6 + 1)) + 1)) + 1)) (wrap64 (p7 + 1)) (Nat.le_refl _) ⟨by omega, H⟩)
 rw [if_neg c9] at H
 refine aw_ifF ?_ (decide_eq_false c9)
 refine aw_exit ?_
 refine ac_then ?_
 refine ac_then ?_
 refine ac_hit rfl ?_
 refine ac_next ?_
 refine aw_grp1 ?_
 refine wk_start ?_
 refine kv g0 (mv) ?_
 refine kv g0 (asg) ?_
 refine wk_end ?_
 refine ac_next ?_
 refine aw_ret ?_
 obtain rfl := Option.some.inj H
 exact acr hE [.tmp 4] (.tmp .nil) (.one _) [(0, 0)] 9999
/-! laws_markSeenS -/
def laws_markSeenS.l0 : Nat → (List S83) → Int → Int → Option (Int × (List S83))
 | 0, _, _, _ => none
 | k6 + 1, q3, p4, p5 => if p5 < (q3.length : Int) then if 0 ≤ p5 then laws_markSeenS.l0 k6 (q3.set p5.toNat (⟨p4, wrap64 (p4 + 1), wrap64 ((wrap64 (p4 + 1)) + 1), ((wrap64 ((wrap64 ((wrap64 (p4 + 1)) + 1)) + 1)).tmod 3) == 0⟩ : S83)) (wrap64 ((wrap64 ((wrap64 ((wrap64 (p4 + 1)) + 1)) + 1)) + 1)) (wrap64 (p5 + 1)) else none else some (p4, q3)
def laws_markSeenS.f (k : Nat) (l0 : List S83) (a1 : Int) : Option (Int × (List S83)) := laws_markSeenS.l0 k l0 a1 0
theorem laws_markSeenS.ok {k : Nat} {l0 : List S83} {a1 : Int} {r : Int × (List S83)} (H : laws_markSeenS.f k l0 a1 = some r) : ACalls Try.prog 15 [(0, .row 83 4 (l0.map e83))] [.row 0, .lit (.int .i64 a1)] [(0, .row 83 4 (r.2.map e83))] (.lit (.int .i64 r.1)) := by
 refine acalls (fn := Try.f15) (nt := 43) Try.func15 rfl rfl (Nat.le_of_ble_eq_true rfl) fun E hE => ?_
 rw [laws_markSeenS.f] at H
 refine aw_grp1 ?_
 refine wk_start ?_
 refine kv g0 (asg) ?_
 refine wk_end ?_
 refine ac_next ?_
 refine aw_grp1 ?_
 refine aw_grp1 ?_
 refine wk_start ?_
 refine kv g0 (asg) ?_
 refine wk_end ?_
 refine ac_next ?_
 refine aw_block ?_
 refine aw_loop3 (fun (k_ : Nat) (q3 : List S83) (p4 : Int) (p5 : Int) => k_ ≤ k ∧ laws_markSeenS.l0 k_ q3 p4 p5 = some r) (fun (q3 : List S83) (p4 : Int) (p5 : Int) => ⟨[(0, .row 0), (1, .lit (.int .i64 p4)), (5, .lit (.int .i64 p5))], [(0, .row 83 4 (q3.map e83))]⟩) k l0 a1 0 ⟨Nat.le_refl _, H⟩ (fun K_ h_ => acw hE [(0, 0)] 9999 h_) (fun _ _ _ => by intro h_; have h_ := h_.2; rw [laws_markSeenS.l0.eq_1] at h_; cases h_) ?_
 intro k6 q3 p4 p5 hq_ K9 hK10
 have hk6 := hq_.1
 have H := hq_.2
 clear hq_
 rw [laws_markSeenS.l0.eq_2] at H
 refine aw_grp1 ?_
 refine aw_grp1 ?_
 refine wk_start ?_
 refine kv g0 (mv) ?_
 refine kv g0 (mv) ?_
 refine kv g0 (lnR lenE) ?_
 refine kv g0 (lss) ?_
 refine wk_end ?_
 refine ac_next ?_
 by_cases c7 : p5 < (q3.length : Int)
 ·rw [if_pos c7] at H
  refine aw_ifT ?_ (decide_eq_true c7)
  refine aw_skip ?_
  refine ac_next ?_
  refine aw_grp1 ?_
  refine aw_block ?_
  refine aw_grp1 ?_
  refine wk_start ?_
  refine kv g0 (mv) ?_
  refine kv g0 (mv) ?_
  refine kv g0 (mv) ?_
  obtain ⟨c8, H⟩ := of_if H
  refine kv g0 (ixR 83 c8 (ltE c7)) ?_
  refine kv g0 (faE 0 0) ?_
  refine ks g0 (stE 1 (e83 (⟨p4, (rd_T83 q3 p5).f1, (rd_T83 q3 p5).f2, (rd_T83 q3 p5).f3⟩ : S83)) ((q3.set p5.toNat (⟨p4, (rd_T83 q3 p5).f1, (rd_T83 q3 p5).f2, (rd_T83 q3 p5).f3⟩ : S83)).map e83) (getE (z := z83) c8 c7) setE) ?_
  refine wk_end ?_
  refine ac_next ?_
  refine aw_grp1 ?_
  refine wk_start ?_
  refine kv g0 (mv) ?_
  refine kv g0 (add6) ?_
  refine kv g0 (asg) ?_
  refine wk_end ?_
  refine ac_next ?_
  refine aw_grp1 ?_
  refine wk_start ?_
  refine kv g0 (mv) ?_
  refine kv g0 (mv) ?_
  refine kv g0 (mv) ?_
  refine kv g0 (ixR 83 c8 (ltE (ls c7))) ?_
  refine kv g0 (faE 1 1) ?_
  refine ks g0 (stE 1 (e83 (⟨p4, wrap64 (p4 + 1), (rd_T83 q3 p5).f2, (rd_T83 q3 p5).f3⟩ : S83)) ((q3.set p5.toNat (⟨p4, wrap64 (p4 + 1), (rd_T83 q3 p5).f2, (rd_T83 q3 p5).f3⟩ : S83)).map e83) (setG c8 (ls c7)) setE2) ?_
  refine wk_end ?_
  refine ac_next ?_
  refine aw_grp1 ?_
  refine wk_start ?_
  refine kv g0 (mv) ?_
  refine kv g0 (add6) ?_
  refine kv g0 (asg) ?_
  refine wk_end ?_
  refine ac_next ?_
  refine aw_grp1 ?_
  refine wk_start ?_
  refine kv g0 (mv) ?_
  refine kv g0 (mv) ?_
  refine kv g0 (mv) ?_
  refine kv g0 (ixR 83 c8 (ltE (ls c7))) ?_
  refine kv g0 (faE 2 2) ?_
  refine ks g0 (stE 1 (e83 (⟨p4, wrap64 (p4 + 1), wrap64 ((wrap64 (p4 + 1)) + 1), (rd_T83 q3 p5).f3⟩ : S83)) ((q3.set p5.toNat (⟨p4, wrap64 (p4 + 1), wrap64 ((wrap64 (p4 + 1)) + 1), (rd_T83 q3 p5).f3⟩ : S83)).map e83) (setG c8 (ls c7)) setE2) ?_
  refine wk_end ?_
  refine ac_next ?_
  refine aw_grp1 ?_
  refine wk_start ?_
  refine kv g0 (mv) ?_
  refine kv g0 (add6) ?_
  refine kv g0 (asg) ?_
  refine wk_end ?_
  refine ac_next ?_
  refine aw_grp1 ?_
  refine wk_start ?_
  refine kv g0 (mv) ?_
  refine kv g0 (mv) ?_
  refine kv g0 (mv) ?_
  refine kv g0 (rem (by decide : (3 : Int) ≠ 0)) ?_
  refine kv g0 (eql) ?_
  refine kv g0 (ixR 83 c8 (ltE (ls c7))) ?_
  refine kv g0 (faE 3 3) ?_
  refine ks g0 (stE 1 (e83 (⟨p4, wrap64 (p4 + 1), wrap64 ((wrap64 (p4 + 1)) + 1), ((wrap64 ((wrap64 ((wrap64 (p4 + 1)) + 1)) + 1)).tmod 3) == 0⟩ : S83)) ((q3.set p5.toNat (⟨p4, wrap64 (p4 + 1), wrap64 ((wrap64 (p4 + 1)) + 1), ((wrap64 ((wrap64 ((wrap64 (p4 + 1)) + 1)) + 1)).tmod 3) == 0⟩ : S83)).map e83) (setG c8 (ls c7)) setE2) ?_
  refine wk_end ?_
  refine ac_next ?_
  refine wk_start ?_
  refine kv g0 (mv) ?_
  refine kv g0 (add6) ?_
  refine kv g0 (asg) ?_
  refine wk_end ?_
  refine ac_blkN ?_
  refine ac_next ?_
  refine wk_start ?_
  refine kv g0 (mv) ?_
  refine kv g0 (add6) ?_
  refine kv g0 (asg) ?_
  refine wk_end ?_
  refine ac_k ?_
  exact acw hE [(0, 0)] 9999 (hK10 k6 (q3.set p5.toNat (⟨p4, wrap64 (p4 + 1), wrap64 ((wrap64 (p4 + 1)) + 1), ((wrap64 ((wrap64 ((wrap64 (p4 + 1)) + 1)) + 1)).tmod 3) == 0⟩ : S83)) (wrap64 ((wrap64 ((wrap64 ((wrap64 (p4 + 1)) + 1)) + 1)) + 1)) (wrap64 (p5 + 1)) (Nat.le_refl _) ⟨by omega, H⟩)
 rw [if_neg c7] at H
 refine aw_ifF ?_ (decide_eq_false c7)
 refine aw_exit ?_
 refine ac_then ?_
 refine ac_then ?_
 refine ac_hit rfl ?_
 refine ac_next ?_
 refine aw_grp1 ?_
 refine wk_start ?_
 refine kv g0 (mv) ?_
 refine kv g0 (asg) ?_
 refine wk_end ?_
 refine ac_next ?_
 refine aw_ret ?_
 obtain rfl := Option.some.inj H
 exact acr hE [.tmp 4] (.tmp .nil) (.one _) [(0, 0)] 9999
/-! laws_markWorld -/
def laws_markWorld.f (k : Nat) (l0_0 : List (List (List S151))) (l0_1 : List S59) (l0_2 : List S62) (l0_3 : List S133) (l0_4 : List Int) (l0_5 : List S135) (a0_6 : Int) (l0_7 : List Int) (l0_8 : List S99) (a0_9 : Int) (l0_10 : List Int) (l0_11 : List S83) (a1 : Int) : Option (Int × (List (List (List S151))) × (List S59) × (List S62) × (List S133) × (List Int) × (List S135) × (List Int) × (List S99) × (List Int) × (List S83)) := (laws_markInsSSS.f k l0_0 a1).bind fun t1 => (laws_markRingS.f k l0_1 t1.1).bind fun t3 => (laws_markSenderS.f k l0_2 t3.1).bind fun t5 => (laws_markKeeper.f k l0_3 l0_4 l0_5 a0_6 l0_7 t5.1).bind fun t7 => (laws_markLetterS.f k l0_8 t7.1).bind fun t9 => (laws_markIntS.f k l0_10 t9.1).bind fun t11 => (laws_markSeenS.f k l0_11 t11.1).bind fun t13 => some (t13.1, t1.2, t3.2, t5.2, t7.2.1, t7.2.2.1, t7.2.2.2.1, t7.2.2.2.2, t9.2, t11.2, t13.2)
theorem laws_markWorld.ok {k : Nat} {l0_0 : List (List (List S151))} {l0_1 : List S59} {l0_2 : List S62} {l0_3 : List S133} {l0_4 : List Int} {l0_5 : List S135} {a0_6 : Int} {l0_7 : List Int} {l0_8 : List S99} {a0_9 : Int} {l0_10 : List Int} {l0_11 : List S83} {a1 : Int} {r : Int × (List (List (List S151))) × (List S59) × (List S62) × (List S133) × (List Int) × (List S135) × (List Int) × (List S99) × (List Int) × (List S83)} (H : laws_markWorld.f k l0_0 l0_1 l0_2 l0_3 l0_4 l0_5 a0_6 l0_7 l0_8 a0_9 l0_10 l0_11 a1 = some r) : ACalls Try.prog 8 [(0, .drow false [.own 127 [.own 151 []]] 56 1 (l0_0.map (eL 1 (eL 4 (e151))))), (1, .drow false ds59 59 4 (l0_1.map e59)), (2, .drow false ds62 62 5 (l0_2.map e62)), (3, .row 133 6 (l0_3.map e133)), (4, .row 3 1 (l0_4.map (eI .i64))), (5, .row 135 6 (l0_5.map e135)), (6, .row 3 1 (l0_7.map (eI .i64))), (7, .row 99 3 (l0_8.map e99)), (8, .row 3 1 (l0_10.map (eI .i64))), (9, .row 83 4 (l0_11.map e83))] [.agg [.row 0, .row 1, .row 2, .row 3, .row 4, .row 5, .lit (.int .i64 a0_6), .row 6, .row 7, .lit (.int .i64 a0_9), .row 8, .row 9], .lit (.int .i64 a1)] [(0, .drow false [.own 127 [.own 151 []]] 56 1 (r.2.1.map (eL 1 (eL 4 (e151))))), (1, .drow false ds59 59 4 (r.2.2.1.map e59)), (2, .drow false ds62 62 5 (r.2.2.2.1.map e62)), (3, .row 133 6 (r.2.2.2.2.1.map e133)), (4, .row 3 1 (r.2.2.2.2.2.1.map (eI .i64))), (5, .row 135 6 (r.2.2.2.2.2.2.1.map e135)), (6, .row 3 1 (r.2.2.2.2.2.2.2.1.map (eI .i64))), (7, .row 99 3 (r.2.2.2.2.2.2.2.2.1.map e99)), (8, .row 3 1 (r.2.2.2.2.2.2.2.2.2.1.map (eI .i64))), (9, .row 83 4 (r.2.2.2.2.2.2.2.2.2.2.map e83))] (.lit (.int .i64 r.1)) := by
 refine acalls (fn := Try.f8) (nt := 34) Try.func8 rfl rfl (Nat.le_of_ble_eq_true rfl) fun E hE => ?_
 rw [laws_markWorld.f] at H
 refine aw_grp1 ?_
 refine wk_start ?_
 refine kb g0 (bxA 10) ?_
 refine kv g0 (asg) ?_
 refine wk_end ?_
 refine ac_next ?_
 refine aw_grp1 ?_
 refine wk_start ?_
 refine kv g0 (faB 0 0) ?_
 refine kv g0 (ldB) ?_
 refine kv g0 (mv) ?_
 obtain ⟨t1, A2, H⟩ := of_bind H
 refine kcS1 8 (.lit (.int .i64 t1.1)) [(0, .drow false [.own 127 [.own 151 []]] 56 1 (t1.2.map (eL 1 (eL 4 (e151)))))] g0 (cal (laws_markInsSSS.ok A2) [0] 9999 .n (hf := Try.func29)) rfl rfl ?_
 refine kv g0 (asg) ?_
 refine wk_end ?_
 refine ac_next ?_
 refine aw_grp1 ?_
 refine wk_start ?_
 refine kv g0 (faB 1 1) ?_
 refine kv g0 (ldB) ?_
 refine kv g0 (mv) ?_
 obtain ⟨t3, A4, H⟩ := of_bind H
 refine kcS1 12 (.lit (.int .i64 t3.1)) [(1, .drow false ds59 59 4 (t3.2.map e59))] g0 (cal (laws_markRingS.ok A4) [1] 9999 .n (hf := Try.func30)) rfl rfl ?_
 refine kv g0 (asg) ?_
 refine wk_end ?_
 refine ac_next ?_
 refine aw_grp1 ?_
 refine wk_start ?_
 refine kv g0 (faB 2 2) ?_
 refine kv g0 (ldB) ?_
 refine kv g0 (mv) ?_
 obtain ⟨t5, A6, H⟩ := of_bind H
 refine kcS1 16 (.lit (.int .i64 t5.1)) [(2, .drow false ds62 62 5 (t5.2.map e62))] g0 (cal (laws_markSenderS.ok A6) [2] 9999 .n (hf := Try.func31)) rfl rfl ?_
 refine kv g0 (asg) ?_
 refine wk_end ?_
 refine ac_next ?_
 refine aw_grp1 ?_
 refine wk_start ?_
 refine kv g0 (faB 3 3) ?_
 refine kv g0 (ldBA 5 [.row 3, .row 4, .row 5, .lit (.int .i64 a0_6), .row 6]) ?_
 refine kv g0 (mv) ?_
 obtain ⟨t7, A8, H⟩ := of_bind H
 refine kcS4 20 (.lit (.int .i64 t7.1)) [(3, .row 133 6 (t7.2.1.map e133)), (4, .row 3 1 (t7.2.2.1.map (eI .i64))), (5, .row 135 6 (t7.2.2.2.1.map e135)), (6, .row 3 1 (t7.2.2.2.2.map (eI .i64)))] g0 (cal (laws_markKeeper.ok A8) [3, 4, 5, 6] 9999 .n (hf := Try.func32)) rfl rfl ?_
 refine kv g0 (asg) ?_
 refine wk_end ?_
 refine ac_next ?_
 refine aw_grp1 ?_
 refine wk_start ?_
 refine kv g0 (faB 8 8) ?_
 refine kv g0 (ldB) ?_
 refine kv g0 (mv) ?_
 obtain ⟨t9, A10, H⟩ := of_bind H
 refine kcS1 24 (.lit (.int .i64 t9.1)) [(7, .row 99 3 (t9.2.map e99))] g0 (cal (laws_markLetterS.ok A10) [7] 9999 .n (hf := Try.func33)) rfl rfl ?_
 refine kv g0 (asg) ?_
 refine wk_end ?_
 refine ac_next ?_
 refine aw_grp1 ?_
 refine wk_start ?_
 refine kv g0 (faB 10 10) ?_
 refine kv g0 (ldB) ?_
 refine kv g0 (mv) ?_
 obtain ⟨t11, A12, H⟩ := of_bind H
 refine kcS1 28 (.lit (.int .i64 t11.1)) [(8, .row 3 1 (t11.2.map (eI .i64)))] g0 (cal (laws_markIntS.ok A12) [8] 9999 .n (hf := Try.func34)) rfl rfl ?_
 refine kv g0 (asg) ?_
 refine wk_end ?_
 refine ac_next ?_
 refine aw_grp1 ?_
 refine wk_start ?_
 refine kv g0 (faB 11 11) ?_
 refine kv g0 (ldB) ?_
 refine kv g0 (mv) ?_
 obtain ⟨t13, A14, H⟩ := of_bind H
 refine kcS1 32 (.lit (.int .i64 t13.1)) [(9, .row 83 4 (t13.2.map e83))] g0 (cal (laws_markSeenS.ok A14) [9] 9999 .n (hf := Try.func15)) rfl rfl ?_
 refine kv g0 (asg) ?_
 refine wk_end ?_
 refine ac_next ?_
 refine aw_grp1 ?_
 refine wk_start ?_
 refine kv g0 (mv) ?_
 refine kv g0 (asg) ?_
 refine wk_end ?_
 refine ac_next ?_
 refine aw_ret ?_
 obtain rfl := Option.some.inj H
 exact acr hE [.tmp 4] (.tmp .nil) (.one _) [(0, 0), (1, 1), (2, 2), (3, 3), (4, 4), (5, 5), (6, 6), (7, 7), (8, 8), (9, 9)] 9999
/-! laws_heldSeenS -/
def laws_heldSeenS.l0 : Nat → (List S83) → Int → Int → Option (Int)
 | 0, _, _, _ => none
 | k9 + 1, l0, p7, p8 => if p8 < (l0.length : Int) then if 0 ≤ p8 then if ((rd_T83 l0 p8).f0) = p7 then if ((rd_T83 l0 p8).f1) = (wrap64 (p7 + 1)) then if ((rd_T83 l0 p8).f2) = (wrap64 ((wrap64 (p7 + 1)) + 1)) then if ((rd_T83 l0 p8).f3) = (((wrap64 ((wrap64 ((wrap64 (p7 + 1)) + 1)) + 1)).tmod 3) == 0) then laws_heldSeenS.l0 k9 l0 (wrap64 ((wrap64 ((wrap64 ((wrap64 (p7 + 1)) + 1)) + 1)) + 1)) (wrap64 (p8 + 1)) else some (-1) else some (-1) else some (-1) else some (-1) else none else some p7
def laws_heldSeenS.f (k : Nat) (l0 : List S83) (a1 : Int) : Option (Int) := laws_heldSeenS.l0 k l0 a1 0
theorem laws_heldSeenS.ok {k : Nat} {l0 : List S83} {a1 : Int} {r : Int} (H : laws_heldSeenS.f k l0 a1 = some r) : ACalls Try.prog 16 [] [.sl .o 4 (l0.map e83), .lit (.int .i64 a1)] [] (.lit (.int .i64 r)) := by
 refine acalls (fn := Try.f16) (nt := 51) Try.func16 rfl rfl (Nat.le_of_ble_eq_true rfl) fun E hE => ?_
 rw [laws_heldSeenS.f] at H
 refine aw_grp1 ?_
 refine wk_start ?_
 refine kv g0 (asg) ?_
 refine wk_end ?_
 refine ac_next ?_
 refine aw_grp1 ?_
 refine aw_grp1 ?_
 refine wk_start ?_
 refine kv g0 (asg) ?_
 refine wk_end ?_
 refine ac_next ?_
 refine aw_block ?_
 refine aw_loop2 (fun (k_ : Nat) (p7 : Int) (p8 : Int) => k_ ≤ k ∧ laws_heldSeenS.l0 k_ l0 p7 p8 = some r) (fun (p7 : Int) (p8 : Int) => ⟨[(0, .sl .o 4 (l0.map e83)), (1, .lit (.int .i64 p7)), (5, .lit (.int .i64 p8))], []⟩) k a1 0 ⟨Nat.le_refl _, H⟩ (fun K_ h_ => acw hE [] 9999 h_) (fun _ _ => by intro h_; have h_ := h_.2; rw [laws_heldSeenS.l0.eq_1] at h_; cases h_) ?_
 intro k9 p7 p8 hq_ K16 hK17
 have hk9 := hq_.1
 have H := hq_.2
 clear hq_
 rw [laws_heldSeenS.l0.eq_2] at H
 refine aw_grp1 ?_
 refine aw_grp1 ?_
 refine wk_start ?_
 refine kv g0 (mv) ?_
 refine kv g0 (mv) ?_
 refine kv g0 (lnS lenE) ?_
 refine kv g0 (lss) ?_
 refine wk_end ?_
 refine ac_next ?_
 by_cases c10 : p8 < (l0.length : Int)
 ·rw [if_pos c10] at H
  refine aw_ifT ?_ (decide_eq_true c10)
  refine aw_skip ?_
  refine ac_next ?_
  refine aw_grp1 ?_
  refine aw_block ?_
  refine aw_grp1 ?_
  refine aw_grp1 ?_
  refine wk_start ?_
  refine kv g0 (mv) ?_
  refine kv g0 (mv) ?_
  obtain ⟨c11, H⟩ := of_if H
  refine kv g0 (ixS 83 (e83 (rd_T83 l0 p8)) c11 (getE (z := z83) c11 c10)) ?_
  refine kv g0 (faR 0 0) ?_
  refine kv g0 (ldR (.lit (.int .i64 ((rd_T83 l0 p8).f0)))) ?_
  refine kv g0 (mv) ?_
  refine kv g0 (neq) ?_
  refine wk_end ?_
  refine ac_next ?_
  by_cases c12 : ((rd_T83 l0 p8).f0) = p7
  ·rw [if_pos c12] at H
   refine aw_ifF ?_ (eM c12)
   refine aw_skip ?_
   refine ac_next ?_
   refine aw_grp1 ?_
   refine wk_start ?_
   refine kv g0 (mv) ?_
   refine kv g0 (add6) ?_
   refine kv g0 (asg) ?_
   refine wk_end ?_
   refine ac_next ?_
   refine aw_grp1 ?_
   refine aw_grp1 ?_
   refine wk_start ?_
   refine kv g0 (mv) ?_
   refine kv g0 (mv) ?_
   refine kv g0 (ixS 83 (e83 (rd_T83 l0 p8)) c11 (getE (z := z83) c11 c10)) ?_
   refine kv g0 (faR 1 1) ?_
   refine kv g0 (ldR (.lit (.int .i64 ((rd_T83 l0 p8).f1)))) ?_
   refine kv g0 (mv) ?_
   refine kv g0 (neq) ?_
   refine wk_end ?_
   refine ac_next ?_
   by_cases c13 : ((rd_T83 l0 p8).f1) = (wrap64 (p7 + 1))
   ·rw [if_pos c13] at H
    refine aw_ifF ?_ (eM c13)
    refine aw_skip ?_
    refine ac_next ?_
    refine aw_grp1 ?_
    refine wk_start ?_
    refine kv g0 (mv) ?_
    refine kv g0 (add6) ?_
    refine kv g0 (asg) ?_
    refine wk_end ?_
    refine ac_next ?_
    refine aw_grp1 ?_
    refine aw_grp1 ?_
    refine wk_start ?_
    refine kv g0 (mv) ?_
    refine kv g0 (mv) ?_
    refine kv g0 (ixS 83 (e83 (rd_T83 l0 p8)) c11 (getE (z := z83) c11 c10)) ?_
    refine kv g0 (faR 2 2) ?_
    refine kv g0 (ldR (.lit (.int .i64 ((rd_T83 l0 p8).f2)))) ?_
    refine kv g0 (mv) ?_
    refine kv g0 (neq) ?_
    refine wk_end ?_
    refine ac_next ?_
    by_cases c14 : ((rd_T83 l0 p8).f2) = (wrap64 ((wrap64 (p7 + 1)) + 1))
    ·rw [if_pos c14] at H
     refine aw_ifF ?_ (eM c14)
     refine aw_skip ?_
     refine ac_next ?_
     refine aw_grp1 ?_
     refine wk_start ?_
     refine kv g0 (mv) ?_
     refine kv g0 (add6) ?_
     refine kv g0 (asg) ?_
     refine wk_end ?_
     refine ac_next ?_
     refine aw_grp1 ?_
     refine aw_grp1 ?_
     refine wk_start ?_
     refine kv g0 (mv) ?_
     refine kv g0 (mv) ?_
     refine kv g0 (ixS 83 (e83 (rd_T83 l0 p8)) c11 (getE (z := z83) c11 c10)) ?_
     refine kv g0 (faR 3 3) ?_
     refine kv g0 (ldR (.lit (.bool ((rd_T83 l0 p8).f3)))) ?_
     refine kv g0 (mv) ?_
     refine kv g0 (rem (by decide : (3 : Int) ≠ 0)) ?_
     refine kv g0 (eql) ?_
     refine kv g0 (bne) ?_
     refine wk_end ?_
     refine ac_next ?_
     by_cases c15 : ((rd_T83 l0 p8).f3) = (((wrap64 ((wrap64 ((wrap64 (p7 + 1)) + 1)) + 1)).tmod 3) == 0)
     ·rw [if_pos c15] at H
      refine aw_ifF ?_ (nF (eTb c15))
      refine aw_skip ?_
      refine ac_next ?_
      refine wk_start ?_
      refine kv g0 (mv) ?_
      refine kv g0 (add6) ?_
      refine kv g0 (asg) ?_
      refine wk_end ?_
      refine ac_blkN ?_
      refine ac_next ?_
      refine wk_start ?_
      refine kv g0 (mv) ?_
      refine kv g0 (add6) ?_
      refine kv g0 (asg) ?_
      refine wk_end ?_
      refine ac_k ?_
      exact acw hE [] 9999 (hK17 k9 (wrap64 ((wrap64 ((wrap64 ((wrap64 (p7 + 1)) + 1)) + 1)) + 1)) (wrap64 (p8 + 1)) (Nat.le_refl _) ⟨by omega, H⟩)
     rw [if_neg c15] at H
     refine aw_ifT ?_ (nT (eFb c15))
     refine aw_grp1 ?_
     refine wk_start ?_
     refine kv g0 (asg) ?_
     refine wk_end ?_
     refine ac_next ?_
     refine aw_ret ?_
     refine ac_thenR ?_
     refine ac_blkR ?_
     refine ac_thenR ?_
     refine ac_thenR ?_
     refine ac_blkR ?_
     refine ac_thenR ?_
     obtain rfl := Option.some.inj H
     exact acr hE [.tmp 4] (.tmp .nil) (.one _) [] 9999
    rw [if_neg c14] at H
    refine aw_ifT ?_ (eN c14)
    refine aw_grp1 ?_
    refine wk_start ?_
    refine kv g0 (asg) ?_
    refine wk_end ?_
    refine ac_next ?_
    refine aw_ret ?_
    refine ac_thenR ?_
    refine ac_blkR ?_
    refine ac_thenR ?_
    refine ac_thenR ?_
    refine ac_blkR ?_
    refine ac_thenR ?_
    obtain rfl := Option.some.inj H
    exact acr hE [.tmp 4] (.tmp .nil) (.one _) [] 9999
   rw [if_neg c13] at H
   refine aw_ifT ?_ (eN c13)
   refine aw_grp1 ?_
   refine wk_start ?_
   refine kv g0 (asg) ?_
   refine wk_end ?_
   refine ac_next ?_
   refine aw_ret ?_
   refine ac_thenR ?_
   refine ac_blkR ?_
   refine ac_thenR ?_
   refine ac_thenR ?_
   refine ac_blkR ?_
   refine ac_thenR ?_
   obtain rfl := Option.some.inj H
   exact acr hE [.tmp 4] (.tmp .nil) (.one _) [] 9999
  rw [if_neg c12] at H
  refine aw_ifT ?_ (eN c12)
  refine aw_grp1 ?_
  refine wk_start ?_
  refine kv g0 (asg) ?_
  refine wk_end ?_
  refine ac_next ?_
  refine aw_ret ?_
  refine ac_thenR ?_
  refine ac_blkR ?_
  refine ac_thenR ?_
  refine ac_thenR ?_
  refine ac_blkR ?_
  refine ac_thenR ?_
  obtain rfl := Option.some.inj H
  exact acr hE [.tmp 4] (.tmp .nil) (.one _) [] 9999
 rw [if_neg c10] at H
 refine aw_ifF ?_ (decide_eq_false c10)
 refine aw_exit ?_
 refine ac_then ?_
 refine ac_then ?_
 refine ac_hit rfl ?_
 refine ac_next ?_
 refine aw_grp1 ?_
 refine wk_start ?_
 refine kv g0 (mv) ?_
 refine kv g0 (asg) ?_
 refine wk_end ?_
 refine ac_next ?_
 refine aw_ret ?_
 obtain rfl := Option.some.inj H
 exact acr hE [.tmp 4] (.tmp .nil) (.one _) [] 9999
/-! laws_FnExactFiledOf -/
def laws_FnExactFiledOf.f (k : Nat) (l0_0 : List (List (List S154))) (l0_1 : List S110) (l0_2 : List S113) (l0_3 : List S146) (l0_4 : List Int) (l0_5 : List S148) (a0_6 : Int) (l0_7 : List Int) (l0_8 : List S117) (a0_9 : Int) (l0_10 : List Int) (l0_11 : List S125) (a1 : Int) : Option (Bool) := (laws_szWorld.f k l0_0 l0_1 l0_2 l0_3 l0_4 l0_5 a0_6 l0_7 l0_8 a0_9 l0_10 l0_11 1048576).bind fun t1 => if t1 < 0 then some true else (laws_toWorld.f k l0_0 l0_1 l0_2 l0_3 l0_4 l0_5 a0_6 l0_7 l0_8 a0_9 l0_10 l0_11).bind fun t4 => ((spec_FiledOf.f k t4.1 t4.2.1 t4.2.2.1 t4.2.2.2.1 t4.2.2.2.2.1 t4.2.2.2.2.2.1 t4.2.2.2.2.2.2.1 t4.2.2.2.2.2.2.2.1 t4.2.2.2.2.2.2.2.2.1 t4.2.2.2.2.2.2.2.2.2.1 t4.2.2.2.2.2.2.2.2.2.2.1 t4.2.2.2.2.2.2.2.2.2.2.2 a1).bind fun t6 => (laws_toWorld.f k l0_0 l0_1 l0_2 l0_3 l0_4 l0_5 a0_6 l0_7 l0_8 a0_9 l0_10 l0_11).bind fun t8 => (impl_FiledOf.f k t8.1 t8.2.1 t8.2.2.1 t8.2.2.2.1 t8.2.2.2.2.1 t8.2.2.2.2.2.1 t8.2.2.2.2.2.2.1 t8.2.2.2.2.2.2.2.1 t8.2.2.2.2.2.2.2.2.1 t8.2.2.2.2.2.2.2.2.2.1 t8.2.2.2.2.2.2.2.2.2.2.1 t8.2.2.2.2.2.2.2.2.2.2.2 a1).bind fun t10 => (laws_eqSeenS.f k t10 t6).bind fun t12 => if t12 = true then (laws_toWorld.f k l0_0 l0_1 l0_2 l0_3 l0_4 l0_5 a0_6 l0_7 l0_8 a0_9 l0_10 l0_11).bind fun t15 => ((laws_eqWorld.f k t8.1 t8.2.1 t8.2.2.1 t8.2.2.2.1 t8.2.2.2.2.1 t8.2.2.2.2.2.1 t8.2.2.2.2.2.2.1 t8.2.2.2.2.2.2.2.1 t8.2.2.2.2.2.2.2.2.1 t8.2.2.2.2.2.2.2.2.2.1 t8.2.2.2.2.2.2.2.2.2.2.1 t8.2.2.2.2.2.2.2.2.2.2.2 t15.1 t15.2.1 t15.2.2.1 t15.2.2.2.1 t15.2.2.2.2.1 t15.2.2.2.2.2.1 t15.2.2.2.2.2.2.1 t15.2.2.2.2.2.2.2.1 t15.2.2.2.2.2.2.2.2.1 t15.2.2.2.2.2.2.2.2.2.1 t15.2.2.2.2.2.2.2.2.2.2.1 t15.2.2.2.2.2.2.2.2.2.2.2).bind fun t17 => if t17 = true then (laws_markWorld.f k t8.1 t8.2.1 t8.2.2.1 t8.2.2.2.1 t8.2.2.2.2.1 t8.2.2.2.2.2.1 t8.2.2.2.2.2.2.1 t8.2.2.2.2.2.2.2.1 t8.2.2.2.2.2.2.2.2.1 t8.2.2.2.2.2.2.2.2.2.1 t8.2.2.2.2.2.2.2.2.2.2.1 t8.2.2.2.2.2.2.2.2.2.2.2 1).bind fun t20 => if t20.1 < 0 then some false else ((laws_eqSeenS.f k t10 t6).bind fun t23 => if t23 = true then (laws_markSeenS.f k t10 1).bind fun t26 => (laws_heldSeenS.f k t26.2 1).bind fun t28 => if t28 < 0 then some false else if t28 = t26.1 then (laws_toWorld.f k l0_0 l0_1 l0_2 l0_3 l0_4 l0_5 a0_6 l0_7 l0_8 a0_9 l0_10 l0_11).bind fun t32 => ((impl_FiledOf.f k t32.1 t32.2.1 t32.2.2.1 t32.2.2.2.1 t32.2.2.2.2.1 t32.2.2.2.2.2.1 t32.2.2.2.2.2.2.1 t32.2.2.2.2.2.2.2.1 t32.2.2.2.2.2.2.2.2.1 t32.2.2.2.2.2.2.2.2.2.1 t32.2.2.2.2.2.2.2.2.2.2.1 t32.2.2.2.2.2.2.2.2.2.2.2 a1).bind fun t34 => (laws_eqSeenS.f k t34 t6).bind fun t36 => if t36 = true then (laws_heldSeenS.f k t26.2 1).bind fun t39 => if t39 < 0 then some false else if t39 = t26.1 then some true else some false else some false) else some false else some false) else some false) else some false)
theorem laws_FnExactFiledOf.ok {k : Nat} {l0_0 : List (List (List S154))} {l0_1 : List S110} {l0_2 : List S113} {l0_3 : List S146} {l0_4 : List Int} {l0_5 : List S148} {a0_6 : Int} {l0_7 : List Int} {l0_8 : List S117} {a0_9 : Int} {l0_10 : List Int} {l0_11 : List S125} {a1 : Int} {r : Bool} (H : laws_FnExactFiledOf.f k l0_0 l0_1 l0_2 l0_3 l0_4 l0_5 a0_6 l0_7 l0_8 a0_9 l0_10 l0_11 a1 = some r) : ACalls Try.prog 4 [] [.agg [.sl .o 1 (l0_0.map (eL 1 (eL 4 (e154)))), .sl .o 4 (l0_1.map e110), .sl .o 5 (l0_2.map e113), .sl .o 6 (l0_3.map e146), .sl .o 1 (l0_4.map (eI .i64)), .sl .o 6 (l0_5.map e148), .lit (.int .i64 a0_6), .sl .o 1 (l0_7.map (eI .i64)), .sl .o 3 (l0_8.map e117), .lit (.int .i64 a0_9), .sl .o 1 (l0_10.map (eI .i64)), .sl .o 4 (l0_11.map e125)], .lit (.int .i64 a1)] [] (.lit (.bool r)) := by
 refine acalls (fn := Try.f4) (nt := 74) Try.func4 rfl rfl (Nat.le_of_ble_eq_true rfl) fun E hE => ?_
 rw [laws_FnExactFiledOf.f] at H
 refine aw_grp1 ?_
 refine wk_start ?_
 refine kb g0 (bxA 0) ?_
 refine kv g0 (asg) ?_
 refine wk_end ?_
 refine ac_next ?_
 refine aw_grp1 ?_
 refine wk_start ?_
 refine kv g0 (asg) ?_
 refine wk_end ?_
 refine ac_next ?_
 refine aw_grp1 ?_
 refine wk_start ?_
 refine kv g0 (ldBA 12 [.sl .o 1 (l0_0.map (eL 1 (eL 4 (e154)))), .sl .o 4 (l0_1.map e110), .sl .o 5 (l0_2.map e113), .sl .o 6 (l0_3.map e146), .sl .o 1 (l0_4.map (eI .i64)), .sl .o 6 (l0_5.map e148), .lit (.int .i64 a0_6), .sl .o 1 (l0_7.map (eI .i64)), .sl .o 3 (l0_8.map e117), .lit (.int .i64 a0_9), .sl .o 1 (l0_10.map (eI .i64)), .sl .o 4 (l0_11.map e125)]) ?_
 refine kv g0 (mv) ?_
 obtain ⟨t1, A2, H⟩ := of_bind H
 refine kcS0 15 (.lit (.int .i64 t1)) [] g0 (cal (laws_szWorld.ok A2) [] 9999 .n (hf := Try.func10)) rfl rfl ?_
 refine kv g0 (asg) ?_
 refine wk_end ?_
 refine ac_next ?_
 refine aw_grp1 ?_
 refine aw_grp1 ?_
 refine wk_start ?_
 refine kv g0 (mv) ?_
 refine kv g0 (lss) ?_
 refine wk_end ?_
 refine ac_next ?_
 by_cases c3 : t1 < 0
 ·rw [if_pos c3] at H
  refine aw_ifT ?_ (decide_eq_true c3)
  refine aw_grp1 ?_
  refine wk_start ?_
  refine kv g0 (asg) ?_
  refine wk_end ?_
  refine ac_next ?_
  refine aw_ret ?_
  refine ac_thenR ?_
  obtain rfl := Option.some.inj H
  exact acr hE [.tmp 4] (.tmp .nil) (.one _) [] 9999
 rw [if_neg c3] at H
 refine aw_ifF ?_ (decide_eq_false c3)
 refine aw_skip ?_
 refine ac_next ?_
 refine aw_grp1 ?_
 refine wk_start ?_
 refine kv g0 (ldBA 12 [.sl .o 1 (l0_0.map (eL 1 (eL 4 (e154)))), .sl .o 4 (l0_1.map e110), .sl .o 5 (l0_2.map e113), .sl .o 6 (l0_3.map e146), .sl .o 1 (l0_4.map (eI .i64)), .sl .o 6 (l0_5.map e148), .lit (.int .i64 a0_6), .sl .o 1 (l0_7.map (eI .i64)), .sl .o 3 (l0_8.map e117), .lit (.int .i64 a0_9), .sl .o 1 (l0_10.map (eI .i64)), .sl .o 4 (l0_11.map e125)]) ?_
 obtain ⟨t4, A5, H⟩ := of_bind H
 refine kcS10 19 (.agg [.row 1, .row 2, .row 3, .row 4, .row 5, .row 6, .lit (.int .i64 t4.2.2.2.2.2.2.1), .row 7, .row 8, .lit (.int .i64 t4.2.2.2.2.2.2.2.2.2.1), .row 9, .row 10]) [(1, .drow false [.own 127 [.own 151 []]] 56 1 (t4.1.map (eL 1 (eL 4 (e151))))), (2, .drow false ds59 59 4 (t4.2.1.map e59)), (3, .drow false ds62 62 5 (t4.2.2.1.map e62)), (4, .row 133 6 (t4.2.2.2.1.map e133)), (5, .row 3 1 (t4.2.2.2.2.1.map (eI .i64))), (6, .row 135 6 (t4.2.2.2.2.2.1.map e135)), (7, .row 3 1 (t4.2.2.2.2.2.2.2.1.map (eI .i64))), (8, .row 99 3 (t4.2.2.2.2.2.2.2.2.1.map e99)), (9, .row 3 1 (t4.2.2.2.2.2.2.2.2.2.2.1.map (eI .i64))), (10, .row 83 4 (t4.2.2.2.2.2.2.2.2.2.2.2.map e83))] g0 (cal (laws_toWorld.ok A5) [1, 2, 3, 4, 5, 6, 7, 8, 9, 10] 9999 .n (hf := Try.func12)) rfl rfl ?_
 refine kv g0 (mv) ?_
 obtain ⟨t6, A7, H⟩ := of_bind H
 refine kcS1 21 (.row 11) [(11, .row 83 4 (t6.map e83))] g0 (cal (spec_FiledOf.ok A7) [11] 9999 .n (hf := Try.func11)) rfl rfl ?_
 refine kv g0 (asg) ?_
 refine wk_end ?_
 refine ac_next ?_
 refine aw_grp1 ?_
 refine wk_start ?_
 refine kv g0 (ldBA 12 [.sl .o 1 (l0_0.map (eL 1 (eL 4 (e154)))), .sl .o 4 (l0_1.map e110), .sl .o 5 (l0_2.map e113), .sl .o 6 (l0_3.map e146), .sl .o 1 (l0_4.map (eI .i64)), .sl .o 6 (l0_5.map e148), .lit (.int .i64 a0_6), .sl .o 1 (l0_7.map (eI .i64)), .sl .o 3 (l0_8.map e117), .lit (.int .i64 a0_9), .sl .o 1 (l0_10.map (eI .i64)), .sl .o 4 (l0_11.map e125)]) ?_
 obtain ⟨t8, A9, H⟩ := of_bind H
 refine kcS10 23 (.agg [.row 12, .row 13, .row 14, .row 15, .row 16, .row 17, .lit (.int .i64 t8.2.2.2.2.2.2.1), .row 18, .row 19, .lit (.int .i64 t8.2.2.2.2.2.2.2.2.2.1), .row 20, .row 21]) [(12, .drow false [.own 127 [.own 151 []]] 56 1 (t8.1.map (eL 1 (eL 4 (e151))))), (13, .drow false ds59 59 4 (t8.2.1.map e59)), (14, .drow false ds62 62 5 (t8.2.2.1.map e62)), (15, .row 133 6 (t8.2.2.2.1.map e133)), (16, .row 3 1 (t8.2.2.2.2.1.map (eI .i64))), (17, .row 135 6 (t8.2.2.2.2.2.1.map e135)), (18, .row 3 1 (t8.2.2.2.2.2.2.2.1.map (eI .i64))), (19, .row 99 3 (t8.2.2.2.2.2.2.2.2.1.map e99)), (20, .row 3 1 (t8.2.2.2.2.2.2.2.2.2.2.1.map (eI .i64))), (21, .row 83 4 (t8.2.2.2.2.2.2.2.2.2.2.2.map e83))] g0 (cal (laws_toWorld.ok A9) [12, 13, 14, 15, 16, 17, 18, 19, 20, 21] 9999 .n (hf := Try.func12)) rfl rfl ?_
 refine kb g0 (alc 22 [.slice none 0 0, .slice none 0 0, .slice none 0 0, .slice none 0 0, .slice none 0 0, .slice none 0 0, .int .i64 0, .slice none 0 0, .slice none 0 0, .int .i64 0, .slice none 0 0, .slice none 0 0] [.lit (.slice none 0 0), .lit (.slice none 0 0), .lit (.slice none 0 0), .lit (.slice none 0 0), .lit (.slice none 0 0), .lit (.slice none 0 0), .lit (.int .i64 0), .lit (.slice none 0 0), .lit (.slice none 0 0), .lit (.int .i64 0), .lit (.slice none 0 0), .lit (.slice none 0 0)]) ?_
 refine ks g0 (stB 12 [.row 12, .row 13, .row 14, .row 15, .row 16, .row 17, .lit (.int .i64 t8.2.2.2.2.2.2.1), .row 18, .row 19, .lit (.int .i64 t8.2.2.2.2.2.2.2.2.2.1), .row 20, .row 21]) ?_
 refine wk_end ?_
 refine ac_next ?_
 refine aw_grp1 ?_
 refine wk_start ?_
 refine kv g0 (ldBA 12 [.row 12, .row 13, .row 14, .row 15, .row 16, .row 17, .lit (.int .i64 t8.2.2.2.2.2.2.1), .row 18, .row 19, .lit (.int .i64 t8.2.2.2.2.2.2.2.2.2.1), .row 20, .row 21]) ?_
 refine kv g0 (mv) ?_
 obtain ⟨t10, A11, H⟩ := of_bind H
 refine kcS1 26 (.row 23) [(23, .row 83 4 (t10.map e83))] g0 (cal (impl_FiledOf.ok A11) [23] 9999 .n (hf := Try.func13)) rfl rfl ?_
 refine kv g0 (asg) ?_
 refine wk_end ?_
 refine ac_next ?_
 refine aw_grp1 ?_
 refine aw_grp1 ?_
 refine wk_start ?_
 refine kv g0 (mv) ?_
 refine kv g0 (mv) ?_
 obtain ⟨t12, A13, H⟩ := of_bind H
 refine kcS0 29 (.lit (.bool t12)) [] g0 (cal (laws_eqSeenS.ok A13) [] 9999 .n (hf := Try.func14)) rfl rfl ?_
 refine kv g0 (not_) ?_
 refine wk_end ?_
 refine ac_next ?_
 by_cases c14 : t12 = true
 ·rw [if_pos c14] at H
  refine aw_ifF ?_ (nF c14)
  refine aw_skip ?_
  refine ac_next ?_
  refine aw_grp1 ?_
  refine aw_grp1 ?_
  refine wk_start ?_
  refine kv g0 (ldBA 12 [.row 12, .row 13, .row 14, .row 15, .row 16, .row 17, .lit (.int .i64 t8.2.2.2.2.2.2.1), .row 18, .row 19, .lit (.int .i64 t8.2.2.2.2.2.2.2.2.2.1), .row 20, .row 21]) ?_
  refine kv g0 (ldBA 12 [.sl .o 1 (l0_0.map (eL 1 (eL 4 (e154)))), .sl .o 4 (l0_1.map e110), .sl .o 5 (l0_2.map e113), .sl .o 6 (l0_3.map e146), .sl .o 1 (l0_4.map (eI .i64)), .sl .o 6 (l0_5.map e148), .lit (.int .i64 a0_6), .sl .o 1 (l0_7.map (eI .i64)), .sl .o 3 (l0_8.map e117), .lit (.int .i64 a0_9), .sl .o 1 (l0_10.map (eI .i64)), .sl .o 4 (l0_11.map e125)]) ?_
  obtain ⟨t15, A16, H⟩ := of_bind H
  refine kcS10 33 (.agg [.row 24, .row 25, .row 26, .row 27, .row 28, .row 29, .lit (.int .i64 t15.2.2.2.2.2.2.1), .row 30, .row 31, .lit (.int .i64 t15.2.2.2.2.2.2.2.2.2.1), .row 32, .row 33]) [(24, .drow false [.own 127 [.own 151 []]] 56 1 (t15.1.map (eL 1 (eL 4 (e151))))), (25, .drow false ds59 59 4 (t15.2.1.map e59)), (26, .drow false ds62 62 5 (t15.2.2.1.map e62)), (27, .row 133 6 (t15.2.2.2.1.map e133)), (28, .row 3 1 (t15.2.2.2.2.1.map (eI .i64))), (29, .row 135 6 (t15.2.2.2.2.2.1.map e135)), (30, .row 3 1 (t15.2.2.2.2.2.2.2.1.map (eI .i64))), (31, .row 99 3 (t15.2.2.2.2.2.2.2.2.1.map e99)), (32, .row 3 1 (t15.2.2.2.2.2.2.2.2.2.2.1.map (eI .i64))), (33, .row 83 4 (t15.2.2.2.2.2.2.2.2.2.2.2.map e83))] g0 (cal (laws_toWorld.ok A16) [24, 25, 26, 27, 28, 29, 30, 31, 32, 33] 9999 .n (hf := Try.func12)) rfl rfl ?_
  obtain ⟨t17, A18, H⟩ := of_bind H
  refine kcS0 34 (.lit (.bool t17)) [] g0 (cal (laws_eqWorld.ok A18) [] 9999 .n (hf := Try.func7)) rfl rfl ?_
  refine kv g0 (not_) ?_
  refine wk_end_draw hM (by kernel_rfl) ?_
  refine ac_next ?_
  by_cases c19 : t17 = true
  ·rw [if_pos c19] at H
   refine aw_ifF ?_ (nF c19)
   refine aw_skip ?_
   refine ac_next ?_
   refine aw_grp1 ?_
   refine wk_start ?_
   refine kv g0 (asg) ?_
   refine wk_end ?_
   refine ac_next ?_
   refine aw_grp1 ?_
   refine wk_start ?_
   refine kv g0 (ldBA 12 [.row 12, .row 13, .row 14, .row 15, .row 16, .row 17, .lit (.int .i64 t8.2.2.2.2.2.2.1), .row 18, .row 19, .lit (.int .i64 t8.2.2.2.2.2.2.2.2.2.1), .row 20, .row 21]) ?_
   refine kv g0 (mv) ?_
   obtain ⟨t20, A21, H⟩ := of_bind H
   refine kcS10 38 (.lit (.int .i64 t20.1)) [(12, .drow false [.own 127 [.own 151 []]] 56 1 (t20.2.1.map (eL 1 (eL 4 (e151))))), (13, .drow false ds59 59 4 (t20.2.2.1.map e59)), (14, .drow false ds62 62 5 (t20.2.2.2.1.map e62)), (15, .row 133 6 (t20.2.2.2.2.1.map e133)), (16, .row 3 1 (t20.2.2.2.2.2.1.map (eI .i64))), (17, .row 135 6 (t20.2.2.2.2.2.2.1.map e135)), (18, .row 3 1 (t20.2.2.2.2.2.2.2.1.map (eI .i64))), (19, .row 99 3 (t20.2.2.2.2.2.2.2.2.1.map e99)), (20, .row 3 1 (t20.2.2.2.2.2.2.2.2.2.1.map (eI .i64))), (21, .row 83 4 (t20.2.2.2.2.2.2.2.2.2.2.map e83))] g0 (cal (laws_markWorld.ok A21) [12, 13, 14, 15, 16, 17, 18, 19, 20, 21] 9999 .n (hf := Try.func8)) rfl rfl ?_
   refine kv g0 (asg) ?_
   refine wk_end ?_
   refine ac_next ?_
   refine aw_grp1 ?_
   refine aw_grp1 ?_
   refine wk_start ?_
   refine kv g0 (mv) ?_
   refine kv g0 (lss) ?_
   refine kv g0 (mv) ?_
   by_cases c22 : t20.1 < 0
   ·rw [if_pos c22] at H
    refine kx (hF (decide_eq_true c22)) ?_
    refine kx (hF (decide_eq_true c22)) ?_
    refine kx (hF (decide_eq_true c22)) ?_
    refine kx (hF (decide_eq_true c22)) ?_
    refine kv g0 (pkT (decide_eq_true c22)) ?_
    refine wk_end ?_
    refine ac_next ?_
    refine aw_ifT ?_ rfl
    refine aw_grp1 ?_
    refine wk_start ?_
    refine kv g0 (asg) ?_
    refine wk_end ?_
    refine ac_next ?_
    refine aw_ret ?_
    refine ac_thenR ?_
    obtain rfl := Option.some.inj H
    exact acr hE [.tmp 4] (.tmp .nil) (.one _) [] 9999
   rw [if_neg c22] at H
   refine kv (g1 (decide_eq_false c22)) (mv) ?_
   refine kv (g1 (decide_eq_false c22)) (mv) ?_
   obtain ⟨t23, A24, H⟩ := of_bind H
   refine kcS0 44 (.lit (.bool t23)) [] (g1 (decide_eq_false c22)) (cal (laws_eqSeenS.ok A24) [] 9999 .n (hf := Try.func14)) rfl rfl ?_
   refine kv (g1 (decide_eq_false c22)) (not_) ?_
   refine kv g0 (pkF (decide_eq_false c22)) ?_
   refine wk_end ?_
   refine ac_next ?_
   by_cases c25 : t23 = true
   ·rw [if_pos c25] at H
    refine aw_ifF ?_ (nF c25)
    refine aw_skip ?_
    refine ac_next ?_
    refine aw_grp1 ?_
    refine wk_start ?_
    refine kv g0 (asg) ?_
    refine wk_end ?_
    refine ac_next ?_
    refine aw_grp1 ?_
    refine wk_start ?_
    refine kv g0 (mv) ?_
    refine kv g0 (mv) ?_
    obtain ⟨t26, A27, H⟩ := of_bind H
    refine kcS1 49 (.lit (.int .i64 t26.1)) [(23, .row 83 4 (t26.2.map e83))] g0 (cal (laws_markSeenS.ok A27) [23] 9999 .n (hf := Try.func15)) rfl rfl ?_
    refine kv g0 (asg) ?_
    refine wk_end ?_
    refine ac_next ?_
    refine aw_grp1 ?_
    refine wk_start ?_
    refine kv g0 (asg) ?_
    refine wk_end ?_
    refine ac_next ?_
    refine aw_grp1 ?_
    refine wk_start ?_
    refine kv g0 (mv) ?_
    refine kv g0 (mv) ?_
    obtain ⟨t28, A29, H⟩ := of_bind H
    refine kcS0 52 (.lit (.int .i64 t28)) [] g0 (cal (laws_heldSeenS.ok A29) [] 9999 .n (hf := Try.func16)) rfl rfl ?_
    refine kv g0 (asg) ?_
    refine wk_end ?_
    refine ac_next ?_
    refine aw_grp1 ?_
    refine aw_grp1 ?_
    refine wk_start ?_
    refine kv g0 (mv) ?_
    refine kv g0 (lss) ?_
    refine wk_end ?_
    refine ac_next ?_
    by_cases c30 : t28 < 0
    ·rw [if_pos c30] at H
     refine aw_ifT ?_ (decide_eq_true c30)
     refine aw_grp1 ?_
     refine wk_start ?_
     refine kv g0 (asg) ?_
     refine wk_end ?_
     refine ac_next ?_
     refine aw_ret ?_
     refine ac_thenR ?_
     obtain rfl := Option.some.inj H
     exact acr hE [.tmp 4] (.tmp .nil) (.one _) [] 9999
    rw [if_neg c30] at H
    refine aw_ifF ?_ (decide_eq_false c30)
    refine aw_skip ?_
    refine ac_next ?_
    refine aw_grp1 ?_
    refine aw_grp1 ?_
    refine wk_start ?_
    refine kv g0 (mv) ?_
    refine kv g0 (mv) ?_
    refine kv g0 (neq) ?_
    refine wk_end ?_
    refine ac_next ?_
    by_cases c31 : t28 = t26.1
    ·rw [if_pos c31] at H
     refine aw_ifF ?_ (eM c31)
     refine aw_skip ?_
     refine ac_next ?_
     refine aw_grp1 ?_
     refine wk_start ?_
     refine kv g0 (ldBA 12 [.sl .o 1 (l0_0.map (eL 1 (eL 4 (e154)))), .sl .o 4 (l0_1.map e110), .sl .o 5 (l0_2.map e113), .sl .o 6 (l0_3.map e146), .sl .o 1 (l0_4.map (eI .i64)), .sl .o 6 (l0_5.map e148), .lit (.int .i64 a0_6), .sl .o 1 (l0_7.map (eI .i64)), .sl .o 3 (l0_8.map e117), .lit (.int .i64 a0_9), .sl .o 1 (l0_10.map (eI .i64)), .sl .o 4 (l0_11.map e125)]) ?_
     obtain ⟨t32, A33, H⟩ := of_bind H
     refine kcS10 59 (.agg [.row 34, .row 35, .row 36, .row 37, .row 38, .row 39, .lit (.int .i64 t32.2.2.2.2.2.2.1), .row 40, .row 41, .lit (.int .i64 t32.2.2.2.2.2.2.2.2.2.1), .row 42, .row 43]) [(34, .drow false [.own 127 [.own 151 []]] 56 1 (t32.1.map (eL 1 (eL 4 (e151))))), (35, .drow false ds59 59 4 (t32.2.1.map e59)), (36, .drow false ds62 62 5 (t32.2.2.1.map e62)), (37, .row 133 6 (t32.2.2.2.1.map e133)), (38, .row 3 1 (t32.2.2.2.2.1.map (eI .i64))), (39, .row 135 6 (t32.2.2.2.2.2.1.map e135)), (40, .row 3 1 (t32.2.2.2.2.2.2.2.1.map (eI .i64))), (41, .row 99 3 (t32.2.2.2.2.2.2.2.2.1.map e99)), (42, .row 3 1 (t32.2.2.2.2.2.2.2.2.2.2.1.map (eI .i64))), (43, .row 83 4 (t32.2.2.2.2.2.2.2.2.2.2.2.map e83))] g0 (cal (laws_toWorld.ok A33) [34, 35, 36, 37, 38, 39, 40, 41, 42, 43] 9999 .n (hf := Try.func12)) rfl rfl ?_
     refine kv g0 (mv) ?_
     obtain ⟨t34, A35, H⟩ := of_bind H
     refine kcS1 61 (.row 44) [(44, .row 83 4 (t34.map e83))] g0 (cal (impl_FiledOf.ok A35) [44] 9999 .n (hf := Try.func13)) rfl rfl ?_
     refine kv g0 (asg) ?_
     refine wk_end ?_
     refine ac_next ?_
     refine aw_grp1 ?_
     refine aw_grp1 ?_
     refine wk_start ?_
     refine kv g0 (mv) ?_
     refine kv g0 (mv) ?_
     obtain ⟨t36, A37, H⟩ := of_bind H
     refine kcS0 64 (.lit (.bool t36)) [] g0 (cal (laws_eqSeenS.ok A37) [] 9999 .n (hf := Try.func14)) rfl rfl ?_
     refine kv g0 (not_) ?_
     refine wk_end ?_
     refine ac_next ?_
     by_cases c38 : t36 = true
     ·rw [if_pos c38] at H
      refine aw_ifF ?_ (nF c38)
      refine aw_skip ?_
      refine ac_next ?_
      refine aw_grp1 ?_
      refine wk_start ?_
      refine kv g0 (asg) ?_
      refine wk_end ?_
      refine ac_next ?_
      refine aw_grp1 ?_
      refine wk_start ?_
      refine kv g0 (mv) ?_
      refine kv g0 (mv) ?_
      obtain ⟨t39, A40, H⟩ := of_bind H
      refine kcS0 68 (.lit (.int .i64 t39)) [] g0 (cal (laws_heldSeenS.ok A40) [] 9999 .n (hf := Try.func16)) rfl rfl ?_
      refine kv g0 (asg) ?_
      refine wk_end ?_
      refine ac_next ?_
      refine aw_grp1 ?_
      refine aw_grp1 ?_
      refine wk_start ?_
      refine kv g0 (mv) ?_
      refine kv g0 (lss) ?_
      refine wk_end ?_
      refine ac_next ?_
      by_cases c41 : t39 < 0
      ·rw [if_pos c41] at H
       refine aw_ifT ?_ (decide_eq_true c41)
       refine aw_grp1 ?_
       refine wk_start ?_
       refine kv g0 (asg) ?_
       refine wk_end ?_
       refine ac_next ?_
       refine aw_ret ?_
       refine ac_thenR ?_
       obtain rfl := Option.some.inj H
       exact acr hE [.tmp 4] (.tmp .nil) (.one _) [] 9999
      rw [if_neg c41] at H
      refine aw_ifF ?_ (decide_eq_false c41)
      refine aw_skip ?_
      refine ac_next ?_
      refine aw_grp1 ?_
      refine aw_grp1 ?_
      refine wk_start ?_
      refine kv g0 (mv) ?_
      refine kv g0 (mv) ?_
      refine kv g0 (neq) ?_
      refine wk_end ?_
      refine ac_next ?_
      by_cases c42 : t39 = t26.1
      ·rw [if_pos c42] at H
       refine aw_ifF ?_ (eM c42)
       refine aw_skip ?_
       refine ac_next ?_
       refine aw_grp1 ?_
       refine wk_start ?_
       refine kv g0 (asg) ?_
       refine wk_end ?_
       refine ac_next ?_
       refine aw_ret ?_
       obtain rfl := Option.some.inj H
       exact acr hE [.tmp 4] (.tmp .nil) (.one _) [] 9999
      rw [if_neg c42] at H
      refine aw_ifT ?_ (eN c42)
      refine aw_grp1 ?_
      refine wk_start ?_
      refine kv g0 (asg) ?_
      refine wk_end ?_
      refine ac_next ?_
      refine aw_ret ?_
      refine ac_thenR ?_
      obtain rfl := Option.some.inj H
      exact acr hE [.tmp 4] (.tmp .nil) (.one _) [] 9999
     rw [if_neg c38] at H
     refine aw_ifT ?_ (nT (bF c38))
     refine aw_grp1 ?_
     refine wk_start ?_
     refine kv g0 (asg) ?_
     refine wk_end ?_
     refine ac_next ?_
     refine aw_ret ?_
     refine ac_thenR ?_
     obtain rfl := Option.some.inj H
     exact acr hE [.tmp 4] (.tmp .nil) (.one _) [] 9999
    rw [if_neg c31] at H
    refine aw_ifT ?_ (eN c31)
    refine aw_grp1 ?_
    refine wk_start ?_
    refine kv g0 (asg) ?_
    refine wk_end ?_
    refine ac_next ?_
    refine aw_ret ?_
    refine ac_thenR ?_
    obtain rfl := Option.some.inj H
    exact acr hE [.tmp 4] (.tmp .nil) (.one _) [] 9999
   rw [if_neg c25] at H
   refine aw_ifT ?_ (nT (bF c25))
   refine aw_grp1 ?_
   refine wk_start ?_
   refine kv g0 (asg) ?_
   refine wk_end ?_
   refine ac_next ?_
   refine aw_ret ?_
   refine ac_thenR ?_
   obtain rfl := Option.some.inj H
   exact acr hE [.tmp 4] (.tmp .nil) (.one _) [] 9999
  rw [if_neg c19] at H
  refine aw_ifT ?_ (nT (bF c19))
  refine aw_grp1 ?_
  refine wk_start ?_
  refine kv g0 (asg) ?_
  refine wk_end ?_
  refine ac_next ?_
  refine aw_ret ?_
  refine ac_thenR ?_
  obtain rfl := Option.some.inj H
  exact acr hE [.tmp 4] (.tmp .nil) (.one _) [] 9999
 rw [if_neg c14] at H
 refine aw_ifT ?_ (nT (bF c14))
 refine aw_grp1 ?_
 refine wk_start ?_
 refine kv g0 (asg) ?_
 refine wk_end ?_
 refine ac_next ?_
 refine aw_ret ?_
 refine ac_thenR ?_
 obtain rfl := Option.some.inj H
 exact acr hE [.tmp 4] (.tmp .nil) (.one _) [] 9999
end Go.Proofs.Ytkkglhhkpihmgaa.PFnExactFiledOf
