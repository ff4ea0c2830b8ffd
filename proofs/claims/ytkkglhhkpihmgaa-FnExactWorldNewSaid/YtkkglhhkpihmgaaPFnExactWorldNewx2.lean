import Derived.Test.YtkkglhhkpihmgaaPFnExactWorldNewx1
set_option linter.unusedVariables false
set_option linter.unusedSimpArgs false
set_option maxRecDepth 100000
namespace Go.Proofs.Ytkkglhhkpihmgaa.PFnExactWorldNew
open Go Go.RowKit Go.Proofs.YtkkglhhkpihmgaaA
/-! laws_markInsS -/
def laws_markInsS.l0 : Nat → (List S151) → Int → Int → Option (Int × (List S151))
 | 0, _, _, _ => none
 | k6 + 1, q3, p4, p5 => if p5 < (q3.length : Int) then if 0 ≤ p5 then laws_markInsS.l0 k6 (q3.set p5.toNat (⟨p4, wrap64 (p4 + 1), wrap64 ((wrap64 (p4 + 1)) + 1), wrap64 ((wrap64 ((wrap64 (p4 + 1)) + 1)) + 1)⟩ : S151)) (wrap64 ((wrap64 ((wrap64 ((wrap64 (p4 + 1)) + 1)) + 1)) + 1)) (wrap64 (p5 + 1)) else none else some (p4, q3)
def laws_markInsS.f (k : Nat) (l0 : List S151) (a1 : Int) : Option (Int × (List S151)) := laws_markInsS.l0 k l0 a1 0
theorem laws_markInsS.ok {k : Nat} {l0 : List S151} {a1 : Int} {r : Int × (List S151)} (H : laws_markInsS.f k l0 a1 = some r) : ACalls Try.prog 88 [(0, .row 151 4 (l0.map e151))] [.row 0, .lit (.int .i64 a1)] [(0, .row 151 4 (r.2.map e151))] (.lit (.int .i64 r.1)) := by
 refine acalls (fn := Try.f88) (nt := 41) Try.func88 rfl rfl (Nat.le_of_ble_eq_true rfl) fun E hE => ?_
 rw [laws_markInsS.f] at H
 refine aw_grp1 ?_
 refine wk_start ?_
 refine kv g0 (asg) ?_
 refine wk_end ?_
 refine ac_next ?_
 refine aw_grp1 ?_
 refine aw_grp1 ?_
 refine wk_start ?_
 refine kv g0 (asg) ?_
 refine wk_end ?_
 refine ac_next ?_
 refine aw_block ?_
 refine aw_loop3 (fun (k_ : Nat) (q3 : List S151) (p4 : Int) (p5 : Int) => k_ ≤ k ∧ laws_markInsS.l0 k_ q3 p4 p5 = some r) (fun (q3 : List S151) (p4 : Int) (p5 : Int) => ⟨[(0, .row 0), (1, .lit (.int .i64 p4)), (5, .lit (.int .i64 p5))], [(0, .row 151 4 (q3.map e151))]⟩) k l0 a1 0 ⟨Nat.le_refl _, H⟩ (fun K_ h_ => acw hE [(0, 0)] 9999 h_) (fun _ _ _ => by intro h_; have h_ := h_.2; rw [laws_markInsS.l0.eq_1] at h_; cases h_) ?_
 intro k6 q3 p4 p5 hq_ K9 hK10
 have hk6 := hq_.1
 have H := hq_.2
 clear hq_
 rw [laws_markInsS.l0.eq_2] at H
 refine aw_grp1 ?_
 refine aw_grp1 ?_
 refine wk_start ?_
 refine kv g0 (mv) ?_
 refine kv g0 (mv) ?_
 refine kv g0 (lnR lenE) ?_
 refine kv g0 (lss) ?_
 refine wk_end ?_
 refine ac_next ?_
 by_cases c7 : p5 < (q3.length : Int)
 ·rw [if_pos c7] at H
  refine aw_ifT ?_ (decide_eq_true c7)
  refine aw_skip ?_
  refine ac_next ?_
  refine aw_grp1 ?_
  refine aw_block ?_
  refine aw_grp1 ?_
  refine wk_start ?_
  refine kv g0 (mv) ?_
  refine kv g0 (mv) ?_
  refine kv g0 (mv) ?_
  obtain ⟨c8, H⟩ := of_if H
  refine kv g0 (ixR 151 c8 (ltE c7)) ?_
  refine kv g0 (faE 0 0) ?_
  refine ks g0 (stE 1 (e151 (⟨p4, (rd_T151 q3 p5).f1, (rd_T151 q3 p5).f2, (rd_T151 q3 p5).f3⟩ : S151)) ((q3.set p5.toNat (⟨p4, (rd_T151 q3 p5).f1, (rd_T151 q3 p5).f2, (rd_T151 q3 p5).f3⟩ : S151)).map e151) (getE (z := z151) c8 c7) setE) ?_
  refine wk_end ?_
  refine ac_next ?_
  refine aw_grp1 ?_
  refine wk_start ?_
  refine kv g0 (mv) ?_
  refine kv g0 (add6) ?_
  refine kv g0 (asg) ?_
  refine wk_end ?_
  refine ac_next ?_
  refine aw_grp1 ?_
  refine wk_start ?_
  refine kv g0 (mv) ?_
  refine kv g0 (mv) ?_
  refine kv g0 (mv) ?_
  refine kv g0 (ixR 151 c8 (ltE (ls c7))) ?_
  refine kv g0 (faE 1 1) ?_
  refine ks g0 (stE 1 (e151 (⟨p4, wrap64 (p4 + 1), (rd_T151 q3 p5).f2, (rd_T151 q3 p5).f3⟩ : S151)) ((q3.set p5.toNat (⟨p4, wrap64 (p4 + 1), (rd_T151 q3 p5).f2, (rd_T151 q3 p5).f3⟩ : S151)).map e151) (setG c8 (ls c7)) setE2) ?_
  refine wk_end ?_
  refine ac_next ?_
  refine aw_grp1 ?_
  refine wk_start ?_
  refine kv g0 (mv) ?_
  refine kv g0 (add6) ?_
  refine kv g0 (asg) ?_
  refine wk_end ?_
  refine ac_next ?_
  refine aw_grp1 ?_
  refine wk_start ?_
  refine kv g0 (mv) ?_
  refine kv g0 (mv) ?_
  refine kv g0 (mv) ?_
  refine kv g0 (ixR 151 c8 (ltE (ls c7))) ?_
  refine kv g0 (faE 2 2) ?_
  refine ks g0 (stE 1 (e151 (⟨p4, wrap64 (p4 + 1), wrap64 ((wrap64 (p4 + 1)) + 1), (rd_T151 q3 p5).f3⟩ : S151)) ((q3.set p5.toNat (⟨p4, wrap64 (p4 + 1), wrap64 ((wrap64 (p4 + 1)) + 1), (rd_T151 q3 p5).f3⟩ : S151)).map e151) (setG c8 (ls c7)) setE2) ?_
  refine wk_end ?_
  refine ac_next ?_
  refine aw_grp1 ?_
  refine wk_start ?_
  refine kv g0 (mv) ?_
  refine kv g0 (add6) ?_
  refine kv g0 (asg) ?_
  refine wk_end ?_
  refine ac_next ?_
  refine aw_grp1 ?_
  refine wk_start ?_
  refine kv g0 (mv) ?_
  refine kv g0 (mv) ?_
  refine kv g0 (mv) ?_
  refine kv g0 (ixR 151 c8 (ltE (ls c7))) ?_
  refine kv g0 (faE 3 3) ?_
  refine ks g0 (stE 1 (e151 (⟨p4, wrap64 (p4 + 1), wrap64 ((wrap64 (p4 + 1)) + 1), wrap64 ((wrap64 ((wrap64 (p4 + 1)) + 1)) + 1)⟩ : S151)) ((q3.set p5.toNat (⟨p4, wrap64 (p4 + 1), wrap64 ((wrap64 (p4 + 1)) + 1), wrap64 ((wrap64 ((wrap64 (p4 + 1)) + 1)) + 1)⟩ : S151)).map e151) (setG c8 (ls c7)) setE2) ?_
  refine wk_end ?_
  refine ac_next ?_
  refine wk_start ?_
  refine kv g0 (mv) ?_
  refine kv g0 (add6) ?_
  refine kv g0 (asg) ?_
  refine wk_end ?_
  refine ac_blkN ?_
  refine ac_next ?_
  refine wk_start ?_
  refine kv g0 (mv) ?_
  refine kv g0 (add6) ?_
  refine kv g0 (asg) ?_
  refine wk_end ?_
  refine ac_k ?_
  exact acw hE [(0, 0)] 9999 (hK10 k6 (q3.set p5.toNat (⟨p4, wrap64 (p4 + 1), wrap64 ((wrap64 (p4 + 1)) + 1), wrap64 ((wrap64 ((wrap64 (p4 + 1)) + 1)) + 1)⟩ : S151)) (wrap64 ((wrap64 ((wrap64 ((wrap64 (p4 + 1)) + 1)) + 1)) + 1)) (wrap64 (p5 + 1)) (Nat.le_refl _) ⟨by omega, H⟩)
 rw [if_neg c7] at H
 refine aw_ifF ?_ (decide_eq_false c7)
 refine aw_exit ?_
 refine ac_then ?_
 refine ac_then ?_
 refine ac_hit rfl ?_
 refine ac_next ?_
 refine aw_grp1 ?_
 refine wk_start ?_
 refine kv g0 (mv) ?_
 refine kv g0 (asg) ?_
 refine wk_end ?_
 refine ac_next ?_
 refine aw_ret ?_
 obtain rfl := Option.some.inj H
 exact acr hE [.tmp 4] (.tmp .nil) (.one _) [(0, 0)] 9999
/-! laws_markInsSS -/
def laws_markInsSS.l0 : Nat → (List (List S151)) → Int → Int → Option (Int × (List (List S151)))
 | 0, _, _, _ => none
 | k8 + 1, q5, p6, p7 => if p7 < (q5.length : Int) then if 0 ≤ p7 then ((laws_markInsS.f k8 (rdOf ([] : List S151) q5 p7) p6).bind fun t11 => laws_markInsSS.l0 k8 (q5.set p7.toNat t11.2) t11.1 (wrap64 (p7 + 1))) else none else some (p6, q5)
def laws_markInsSS.f (k : Nat) (l0 : List (List S151)) (a1 : Int) : Option (Int × (List (List S151))) := laws_markInsSS.l0 k l0 a1 0
theorem laws_markInsSS.ok {k : Nat} {l0 : List (List S151)} {a1 : Int} {r : Int × (List (List S151))} (H : laws_markInsSS.f k l0 a1 = some r) : ACalls Try.prog 62 [(0, .drow false [.own 151 []] 127 1 (l0.map (eL 4 (e151))))] [.row 0, .lit (.int .i64 a1)] [(0, .drow false [.own 151 []] 127 1 (r.2.map (eL 4 (e151))))] (.lit (.int .i64 r.1)) := by
 refine acalls (fn := Try.f62) (nt := 19) Try.func62 rfl rfl (Nat.le_of_ble_eq_true rfl) fun E hE => ?_
 rw [laws_markInsSS.f] at H
 refine aw_grp1 ?_
 refine wk_start ?_
 refine kv g0 (asg) ?_
 refine wk_end ?_
 refine ac_next ?_
 refine aw_grp1 ?_
 refine aw_grp1 ?_
 refine wk_start ?_
 refine kv g0 (asg) ?_
 refine wk_end ?_
 refine ac_next ?_
 refine aw_block ?_
 refine aw_loop3 (fun (k_ : Nat) (q5 : List (List S151)) (p6 : Int) (p7 : Int) => k_ ≤ k ∧ laws_markInsSS.l0 k_ q5 p6 p7 = some r) (fun (q5 : List (List S151)) (p6 : Int) (p7 : Int) => ⟨[(0, .row 0), (1, .lit (.int .i64 p6)), (5, .lit (.int .i64 p7))], [(0, .drow false [.own 151 []] 127 1 (q5.map (eL 4 (e151))))]⟩) k l0 a1 0 ⟨Nat.le_refl _, H⟩ (fun K_ h_ => acw hE [(0, 0)] 9999 h_) (fun _ _ _ => by intro h_; have h_ := h_.2; rw [laws_markInsSS.l0.eq_1] at h_; cases h_) ?_
 intro k8 q5 p6 p7 hq_ K13 hK14
 have hk8 := hq_.1
 have H := hq_.2
 clear hq_
 rw [laws_markInsSS.l0.eq_2] at H
 refine aw_grp1 ?_
 refine aw_grp1 ?_
 refine wk_start ?_
 refine kv g0 (mv) ?_
 refine kv g0 (mv) ?_
 refine kv g0 (lnD lenE) ?_
 refine kv g0 (lss) ?_
 refine wk_end ?_
 refine ac_next ?_
 by_cases c9 : p7 < (q5.length : Int)
 ·rw [if_pos c9] at H
  refine aw_ifT ?_ (decide_eq_true c9)
  refine aw_skip ?_
  refine ac_next ?_
  refine aw_grp1 ?_
  refine aw_block ?_
  refine wk_start ?_
  refine kv g0 (mv) ?_
  refine kv g0 (mv) ?_
  obtain ⟨c10, H⟩ := of_if H
  refine kv g0 (ixD 127 c10 (ltE c9)) ?_
  refine kcS2 15 (.row 1) [(0, .drow true [.own 151 []] 127 1 ((q5.map (eL 4 (e151))).set p7.toNat (.row 1))), (1, .row 151 4 ((rdOf ([] : List S151) q5 p7).map e151))] g0 (okv_gh (tk 0 1 0 (.row 1) (getE (f := eL 4 (e151)) (z := ([] : List S151)) c10 c9) (rfl) rfl) (ldD (.row 1) (setXG (f := eL 4 (e151)) (X := .row 1) c10 c9) rfl)).owp rfl rfl ?_
  refine kv g0 (mv) ?_
  obtain ⟨t11, A12, H⟩ := of_bind H
  refine kcS1 17 (.lit (.int .i64 t11.1)) [(1, .row 151 4 (t11.2.map e151))] g0 (cal (laws_markInsS.ok A12) [1] 9999 .n (hf := Try.func88)) rfl rfl ?_
  refine kv g0 (asg) ?_
  refine wk_end ?_
  refine ac_blkN ?_
  refine ac_next ?_
  refine wk_start ?_
  refine kv g0 (mv) ?_
  refine kv g0 (add6) ?_
  refine kv g0 (asg) ?_
  refine wk_end ?_
  refine ac_g2 (pk 0 1 0 (.sl .n 4 (t11.2.map e151)) (setXG (f := eL 4 (e151)) (X := .row 1) c10 c9) (setXX) rfl) ?_
  refine ac_g1 (sealD 0 (setSeal (f := eL 4 (e151)) p7.toNat t11.2) clL) ?_
  refine ac_k ?_
  exact acw hE [(0, 0)] 9999 (hK14 k8 (q5.set p7.toNat t11.2) t11.1 (wrap64 (p7 + 1)) (Nat.le_refl _) ⟨by omega, H⟩)
 rw [if_neg c9] at H
 refine aw_ifF ?_ (decide_eq_false c9)
 refine aw_exit ?_
 refine ac_then ?_
 refine ac_then ?_
 refine ac_hit rfl ?_
 refine ac_next ?_
 refine aw_grp1 ?_
 refine wk_start ?_
 refine kv g0 (mv) ?_
 refine kv g0 (asg) ?_
 refine wk_end ?_
 refine ac_next ?_
 refine aw_ret ?_
 obtain rfl := Option.some.inj H
 exact acr hE [.tmp 4] (.tmp .nil) (.one _) [(0, 0)] 9999
/-! laws_markInsSSS -/
def laws_markInsSSS.l0 : Nat → (List (List (List S151))) → Int → Int → Option (Int × (List (List (List S151))))
 | 0, _, _, _ => none
 | k8 + 1, q5, p6, p7 => if p7 < (q5.length : Int) then if 0 ≤ p7 then ((laws_markInsSS.f k8 (rdOf ([] : List (List S151)) q5 p7) p6).bind fun t11 => laws_markInsSSS.l0 k8 (q5.set p7.toNat t11.2) t11.1 (wrap64 (p7 + 1))) else none else some (p6, q5)
def laws_markInsSSS.f (k : Nat) (l0 : List (List (List S151))) (a1 : Int) : Option (Int × (List (List (List S151)))) := laws_markInsSSS.l0 k l0 a1 0
theorem laws_markInsSSS.ok {k : Nat} {l0 : List (List (List S151))} {a1 : Int} {r : Int × (List (List (List S151)))} (H : laws_markInsSSS.f k l0 a1 = some r) : ACalls Try.prog 29 [(0, .drow false [.own 127 [.own 151 []]] 56 1 (l0.map (eL 1 (eL 4 (e151)))))] [.row 0, .lit (.int .i64 a1)] [(0, .drow false [.own 127 [.own 151 []]] 56 1 (r.2.map (eL 1 (eL 4 (e151)))))] (.lit (.int .i64 r.1)) := by
 refine acalls (fn := Try.f29) (nt := 19) Try.func29 rfl rfl (Nat.le_of_ble_eq_true rfl) fun E hE => ?_
 rw [laws_markInsSSS.f] at H
 refine aw_grp1 ?_
 refine wk_start ?_
 refine kv g0 (asg) ?_
 refine wk_end ?_
 refine ac_next ?_
 refine aw_grp1 ?_
 refine aw_grp1 ?_
 refine wk_start ?_
 refine kv g0 (asg) ?_
 refine wk_end ?_
 refine ac_next ?_
 refine aw_block ?_
 refine aw_loop3 (fun (k_ : Nat) (q5 : List (List (List S151))) (p6 : Int) (p7 : Int) => k_ ≤ k ∧ laws_markInsSSS.l0 k_ q5 p6 p7 = some r) (fun (q5 : List (List (List S151))) (p6 : Int) (p7 : Int) => ⟨[(0, .row 0), (1, .lit (.int .i64 p6)), (5, .lit (.int .i64 p7))], [(0, .drow false [.own 127 [.own 151 []]] 56 1 (q5.map (eL 1 (eL 4 (e151)))))]⟩) k l0 a1 0 ⟨Nat.le_refl _, H⟩ (fun K_ h_ => acw hE [(0, 0)] 9999 h_) (fun _ _ _ => by intro h_; have h_ := h_.2; rw [laws_markInsSSS.l0.eq_1] at h_; cases h_) ?_
 intro k8 q5 p6 p7 hq_ K13 hK14
 have hk8 := hq_.1
 have H := hq_.2
 clear hq_
 rw [laws_markInsSSS.l0.eq_2] at H
 refine aw_grp1 ?_
 refine aw_grp1 ?_
 refine wk_start ?_
 refine kv g0 (mv) ?_
 refine kv g0 (mv) ?_
 refine kv g0 (lnD lenE) ?_
 refine kv g0 (lss) ?_
 refine wk_end ?_
 refine ac_next ?_
 by_cases c9 : p7 < (q5.length : Int)
 ·rw [if_pos c9] at H
  refine aw_ifT ?_ (decide_eq_true c9)
  refine aw_skip ?_
  refine ac_next ?_
  refine aw_grp1 ?_
  refine aw_block ?_
  refine wk_start ?_
  refine kv g0 (mv) ?_
  refine kv g0 (mv) ?_
  obtain ⟨c10, H⟩ := of_if H
  refine kv g0 (ixD 56 c10 (ltE c9)) ?_
  refine kcS2 15 (.row 1) [(0, .drow true [.own 127 [.own 151 []]] 56 1 ((q5.map (eL 1 (eL 4 (e151)))).set p7.toNat (.row 1))), (1, .drow false [.own 151 []] 127 1 ((rdOf ([] : List (List S151)) q5 p7).map (eL 4 (e151))))] g0 (okv_gh (tk 0 1 0 (.row 1) (getE (f := eL 1 (eL 4 (e151))) (z := ([] : List (List S151))) c10 c9) (rfl) rfl) (ldD (.row 1) (setXG (f := eL 1 (eL 4 (e151))) (X := .row 1) c10 c9) rfl)).owp rfl rfl ?_
  refine kv g0 (mv) ?_
  obtain ⟨t11, A12, H⟩ := of_bind H
  refine kcS1 17 (.lit (.int .i64 t11.1)) [(1, .drow false [.own 151 []] 127 1 (t11.2.map (eL 4 (e151))))] g0 (cal (laws_markInsSS.ok A12) [1] 9999 .n (hf := Try.func62)) rfl rfl ?_
  refine kv g0 (asg) ?_
  refine wk_end ?_
  refine ac_blkN ?_
  refine ac_next ?_
  refine wk_start ?_
  refine kv g0 (mv) ?_
  refine kv g0 (add6) ?_
  refine kv g0 (asg) ?_
  refine wk_end ?_
  refine ac_g2 (pk 0 1 0 (.sl .n 1 (t11.2.map (eL 4 (e151)))) (setXG (f := eL 1 (eL 4 (e151))) (X := .row 1) c10 c9) (setXX) rfl) ?_
  refine ac_g1 (sealD 0 (setSeal (f := eL 1 (eL 4 (e151))) p7.toNat t11.2) clL) ?_
  refine ac_k ?_
  exact acw hE [(0, 0)] 9999 (hK14 k8 (q5.set p7.toNat t11.2) t11.1 (wrap64 (p7 + 1)) (Nat.le_refl _) ⟨by omega, H⟩)
 rw [if_neg c9] at H
 refine aw_ifF ?_ (decide_eq_false c9)
 refine aw_exit ?_
 refine ac_then ?_
 refine ac_then ?_
 refine ac_hit rfl ?_
 refine ac_next ?_
 refine aw_grp1 ?_
 refine wk_start ?_
 refine kv g0 (mv) ?_
 refine kv g0 (asg) ?_
 refine wk_end ?_
 refine ac_next ?_
 refine aw_ret ?_
 obtain rfl := Option.some.inj H
 exact acr hE [.tmp 4] (.tmp .nil) (.one _) [(0, 0)] 9999
/-! laws_markItemS -/
def laws_markItemS.l0 : Nat → (List S131) → Int → Int → Option (Int × (List S131))
 | 0, _, _, _ => none
 | k6 + 1, q3, p4, p5 => if p5 < (q3.length : Int) then if 0 ≤ p5 then laws_markItemS.l0 k6 (q3.set p5.toNat (⟨p4, wrap64 (p4 + 1), wrap64 ((wrap64 (p4 + 1)) + 1), wrap64 ((wrap64 ((wrap64 (p4 + 1)) + 1)) + 1)⟩ : S131)) (wrap64 ((wrap64 ((wrap64 ((wrap64 (p4 + 1)) + 1)) + 1)) + 1)) (wrap64 (p5 + 1)) else none else some (p4, q3)
def laws_markItemS.f (k : Nat) (l0 : List S131) (a1 : Int) : Option (Int × (List S131)) := laws_markItemS.l0 k l0 a1 0
theorem laws_markItemS.ok {k : Nat} {l0 : List S131} {a1 : Int} {r : Int × (List S131)} (H : laws_markItemS.f k l0 a1 = some r) : ACalls Try.prog 63 [(0, .row 131 4 (l0.map e131))] [.row 0, .lit (.int .i64 a1)] [(0, .row 131 4 (r.2.map e131))] (.lit (.int .i64 r.1)) := by
 refine acalls (fn := Try.f63) (nt := 41) Try.func63 rfl rfl (Nat.le_of_ble_eq_true rfl) fun E hE => ?_
 rw [laws_markItemS.f] at H
 refine aw_grp1 ?_
 refine wk_start ?_
 refine kv g0 (asg) ?_
 refine wk_end ?_
 refine ac_next ?_
 refine aw_grp1 ?_
 refine aw_grp1 ?_
 refine wk_start ?_
 refine kv g0 (asg) ?_
 refine wk_end ?_
 refine ac_next ?_
 refine aw_block ?_
 refine aw_loop3 (fun (k_ : Nat) (q3 : List S131) (p4 : Int) (p5 : Int) => k_ ≤ k ∧ laws_markItemS.l0 k_ q3 p4 p5 = some r) (fun (q3 : List S131) (p4 : Int) (p5 : Int) => ⟨[(0, .row 0), (1, .lit (.int .i64 p4)), (5, .lit (.int .i64 p5))], [(0, .row 131 4 (q3.map e131))]⟩) k l0 a1 0 ⟨Nat.le_refl _, H⟩ (fun K_ h_ => acw hE [(0, 0)] 9999 h_) (fun _ _ _ => by intro h_; have h_ := h_.2; rw [laws_markItemS.l0.eq_1] at h_; cases h_) ?_
 intro k6 q3 p4 p5 hq_ K9 hK10
 have hk6 := hq_.1
 have H := hq_.2
 clear hq_
 rw [laws_markItemS.l0.eq_2] at H
 refine aw_grp1 ?_
 refine aw_grp1 ?_
 refine wk_start ?_
 refine kv g0 (mv) ?_
 refine kv g0 (mv) ?_
 refine kv g0 (lnR lenE) ?_
 refine kv g0 (lss) ?_
 refine wk_end ?_
 refine ac_next ?_
 by_cases c7 : p5 < (q3.length : Int)
 ·rw [if_pos c7] at H
  refine aw_ifT ?_ (decide_eq_true c7)
  refine aw_skip ?_
  refine ac_next ?_
  refine aw_grp1 ?_
  refine aw_block ?_
  refine aw_grp1 ?_
  refine wk_start ?_
  refine kv g0 (mv) ?_
  refine kv g0 (mv) ?_
  refine kv g0 (mv) ?_
  obtain ⟨c8, H⟩ := of_if H
  refine kv g0 (ixR 131 c8 (ltE c7)) ?_
  refine kv g0 (faE 0 0) ?_
  refine ks g0 (stE 1 (e131 (⟨p4, (rd_T131 q3 p5).f1, (rd_T131 q3 p5).f2, (rd_T131 q3 p5).f3⟩ : S131)) ((q3.set p5.toNat (⟨p4, (rd_T131 q3 p5).f1, (rd_T131 q3 p5).f2, (rd_T131 q3 p5).f3⟩ : S131)).map e131) (getE (z := z131) c8 c7) setE) ?_
  refine wk_end ?_
  refine ac_next ?_
  refine aw_grp1 ?_
  refine wk_start ?_
  refine kv g0 (mv) ?_
  refine kv g0 (add6) ?_
  refine kv g0 (asg) ?_
  refine wk_end ?_
  refine ac_next ?_
  refine aw_grp1 ?_
  refine wk_start ?_
  refine kv g0 (mv) ?_
  refine kv g0 (mv) ?_
  refine kv g0 (mv) ?_
  refine kv g0 (ixR 131 c8 (ltE (ls c7))) ?_
  refine kv g0 (faE 1 1) ?_
  refine ks g0 (stE 1 (e131 (⟨p4, wrap64 (p4 + 1), (rd_T131 q3 p5).f2, (rd_T131 q3 p5).f3⟩ : S131)) ((q3.set p5.toNat (⟨p4, wrap64 (p4 + 1), (rd_T131 q3 p5).f2, (rd_T131 q3 p5).f3⟩ : S131)).map e131) (setG c8 (ls c7)) setE2) ?_
  refine wk_end ?_
  refine ac_next ?_
  refine aw_grp1 ?_
  refine wk_start ?_
  refine kv g0 (mv) ?_
  refine kv g0 (add6) ?_
  refine kv g0 (asg) ?_
  refine wk_end ?_
  refine ac_next ?_
  refine aw_grp1 ?_
  refine wk_start ?_
  refine kv g0 (mv) ?_
  refine kv g0 (mv) ?_
  refine kv g0 (mv) ?_
  refine kv g0 (ixR 131 c8 (ltE (ls c7))) ?_
  refine kv g0 (faE 2 2) ?_
  refine ks g0 (stE 1 (e131 (⟨p4, wrap64 (p4 + 1), wrap64 ((wrap64 (p4 + 1)) + 1), (rd_T131 q3 p5).f3⟩ : S131)) ((q3.set p5.toNat (⟨p4, wrap64 (p4 + 1), wrap64 ((wrap64 (p4 + 1)) + 1), (rd_T131 q3 p5).f3⟩ : S131)).map e131) (setG c8 (ls c7)) setE2) ?_
  refine wk_end ?_
  refine ac_next ?_
  refine aw_grp1 ?_
  refine wk_start ?_
  refine kv g0 (mv) ?_
  refine kv g0 (add6) ?_
  refine kv g0 (asg) ?_
  refine wk_end ?_
  refine ac_next ?_
  refine aw_grp1 ?_
  refine wk_start ?_
  refine kv g0 (mv) ?_
  refine kv g0 (mv) ?_
  refine kv g0 (mv) ?_
  refine kv g0 (ixR 131 c8 (ltE (ls c7))) ?_
  refine kv g0 (faE 3 3) ?_
  refine ks g0 (stE 1 (e131 (⟨p4, wrap64 (p4 + 1), wrap64 ((wrap64 (p4 + 1)) + 1), wrap64 ((wrap64 ((wrap64 (p4 + 1)) + 1)) + 1)⟩ : S131)) ((q3.set p5.toNat (⟨p4, wrap64 (p4 + 1), wrap64 ((wrap64 (p4 + 1)) + 1), wrap64 ((wrap64 ((wrap64 (p4 + 1)) + 1)) + 1)⟩ : S131)).map e131) (setG c8 (ls c7)) setE2) ?_
  refine wk_end ?_
  refine ac_next ?_
  refine wk_start ?_
  refine kv g0 (mv) ?_
  refine kv g0 (add6) ?_
  refine kv g0 (asg) ?_
  refine wk_end ?_
  refine ac_blkN ?_
  refine ac_next ?_
  refine wk_start ?_
  refine kv g0 (mv) ?_
  refine kv g0 (add6) ?_
  refine kv g0 (asg) ?_
  refine wk_end ?_
  refine ac_k ?_
  exact acw hE [(0, 0)] 9999 (hK10 k6 (q3.set p5.toNat (⟨p4, wrap64 (p4 + 1), wrap64 ((wrap64 (p4 + 1)) + 1), wrap64 ((wrap64 ((wrap64 (p4 + 1)) + 1)) + 1)⟩ : S131)) (wrap64 ((wrap64 ((wrap64 ((wrap64 (p4 + 1)) + 1)) + 1)) + 1)) (wrap64 (p5 + 1)) (Nat.le_refl _) ⟨by omega, H⟩)
 rw [if_neg c7] at H
 refine aw_ifF ?_ (decide_eq_false c7)
 refine aw_exit ?_
 refine ac_then ?_
 refine ac_then ?_
 refine ac_hit rfl ?_
 refine ac_next ?_
 refine aw_grp1 ?_
 refine wk_start ?_
 refine kv g0 (mv) ?_
 refine kv g0 (asg) ?_
 refine wk_end ?_
 refine ac_next ?_
 refine aw_ret ?_
 obtain rfl := Option.some.inj H
 exact acr hE [.tmp 4] (.tmp .nil) (.one _) [(0, 0)] 9999
/-! laws_markRingS -/
def laws_markRingS.l0 : Nat → (List S59) → Int → Int → Option (Int × (List S59))
 | 0, _, _, _ => none
 | k8 + 1, q5, p6, p7 => if p7 < (q5.length : Int) then if 0 ≤ p7 then ((laws_markItemS.f k8 ((rd_T59 q5 p7).f0) p6).bind fun t11 => laws_markRingS.l0 k8 (q5.set p7.toNat (⟨t11.2, t11.1, wrap64 (t11.1 + 1), wrap64 ((wrap64 (t11.1 + 1)) + 1)⟩ : S59)) (wrap64 ((wrap64 ((wrap64 (t11.1 + 1)) + 1)) + 1)) (wrap64 (p7 + 1))) else none else some (p6, q5)
def laws_markRingS.f (k : Nat) (l0 : List S59) (a1 : Int) : Option (Int × (List S59)) := laws_markRingS.l0 k l0 a1 0
theorem laws_markRingS.ok {k : Nat} {l0 : List S59} {a1 : Int} {r : Int × (List S59)} (H : laws_markRingS.f k l0 a1 = some r) : ACalls Try.prog 30 [(0, .drow false ds59 59 4 (l0.map e59))] [.row 0, .lit (.int .i64 a1)] [(0, .drow false ds59 59 4 (r.2.map e59))] (.lit (.int .i64 r.1)) := by
 refine acalls (fn := Try.f30) (nt := 41) Try.func30 rfl rfl (Nat.le_of_ble_eq_true rfl) fun E hE => ?_
 rw [laws_markRingS.f] at H
 refine aw_grp1 ?_
 refine wk_start ?_
 refine kv g0 (asg) ?_
 refine wk_end ?_
 refine ac_next ?_
 refine aw_grp1 ?_
 refine aw_grp1 ?_
 refine wk_start ?_
 refine kv g0 (asg) ?_
 refine wk_end ?_
 refine ac_next ?_
 refine aw_block ?_
 refine aw_loop3 (fun (k_ : Nat) (q5 : List S59) (p6 : Int) (p7 : Int) => k_ ≤ k ∧ laws_markRingS.l0 k_ q5 p6 p7 = some r) (fun (q5 : List S59) (p6 : Int) (p7 : Int) => ⟨[(0, .row 0), (1, .lit (.int .i64 p6)), (5, .lit (.int .i64 p7))], [(0, .drow false ds59 59 4 (q5.map e59))]⟩) k l0 a1 0 ⟨Nat.le_refl _, H⟩ (fun K_ h_ => acw hE [(0, 0)] 9999 h_) (fun _ _ _ => by intro h_; have h_ := h_.2; rw [laws_markRingS.l0.eq_1] at h_; cases h_) ?_
 intro k8 q5 p6 p7 hq_ K13 hK14
 have hk8 := hq_.1
 have H := hq_.2
 clear hq_
 rw [laws_markRingS.l0.eq_2] at H
 refine aw_grp1 ?_
 refine aw_grp1 ?_
 refine wk_start ?_
 refine kv g0 (mv) ?_
 refine kv g0 (mv) ?_
 refine kv g0 (lnD lenE) ?_
 refine kv g0 (lss) ?_
 refine wk_end ?_
 refine ac_next ?_
 by_cases c9 : p7 < (q5.length : Int)
 ·rw [if_pos c9] at H
  refine aw_ifT ?_ (decide_eq_true c9)
  refine aw_skip ?_
  refine ac_next ?_
  refine aw_grp1 ?_
  refine aw_block ?_
  refine aw_grp1 ?_
  refine wk_start ?_
  refine kv g0 (mv) ?_
  refine kv g0 (mv) ?_
  obtain ⟨c10, H⟩ := of_if H
  refine kv g0 (ixD 59 c10 (ltE c9)) ?_
  refine kv g0 (faE 0 0) ?_
  refine kcS2 16 (.row 1) [(0, .drow true ds59 59 4 ((q5.map e59).set p7.toNat (.agg [.row 1, .lit (.int .i64 ((rd_T59 q5 p7).f1)), .lit (.int .i64 ((rd_T59 q5 p7).f2)), .lit (.int .i64 ((rd_T59 q5 p7).f3))]))), (1, .row 131 4 (((rd_T59 q5 p7).f0).map e131))] g0 (okv_gh (tk 0 1 0 (.agg [.row 1, .lit (.int .i64 ((rd_T59 q5 p7).f1)), .lit (.int .i64 ((rd_T59 q5 p7).f2)), .lit (.int .i64 ((rd_T59 q5 p7).f3))]) (getE (f := e59) (z := z59) c10 c9) (rfl) rfl) (ldD (.row 1) (setXG (f := e59) (X := .agg [.row 1, .lit (.int .i64 ((rd_T59 q5 p7).f1)), .lit (.int .i64 ((rd_T59 q5 p7).f2)), .lit (.int .i64 ((rd_T59 q5 p7).f3))]) c10 c9) rfl)).owp rfl rfl ?_
  refine kv g0 (mv) ?_
  obtain ⟨t11, A12, H⟩ := of_bind H
  refine kcS1 18 (.lit (.int .i64 t11.1)) [(1, .row 131 4 (t11.2.map e131))] g0 (cal (laws_markItemS.ok A12) [1] 9999 .n (hf := Try.func63)) rfl rfl ?_
  refine kv g0 (asg) ?_
  refine wk_end ?_
  refine ac_next ?_
  refine aw_grp1 ?_
  refine wk_start ?_
  refine kv g0 (mv) ?_
  refine kv g0 (mv) ?_
  refine kv g0 (mv) ?_
  refine kv g0 (ixD 59 c10 (ltS (ltE c9))) ?_
  refine kv g0 (faE 1 1) ?_
  refine ks g0 (stD 4 ds59 1 1 [.lit (.int .i64 t11.1)] (.agg [.row 1, .lit (.int .i64 t11.1), .lit (.int .i64 ((rd_T59 q5 p7).f2)), .lit (.int .i64 ((rd_T59 q5 p7).f3))]) (setXG (f := e59) (X := .agg [.row 1, .lit (.int .i64 ((rd_T59 q5 p7).f1)), .lit (.int .i64 ((rd_T59 q5 p7).f2)), .lit (.int .i64 ((rd_T59 q5 p7).f3))]) c10 c9) (setXX)) ?_
  refine wk_end ?_
  refine ac_next ?_
  refine aw_grp1 ?_
  refine wk_start ?_
  refine kv g0 (mv) ?_
  refine kv g0 (add6) ?_
  refine kv g0 (asg) ?_
  refine wk_end ?_
  refine ac_next ?_
  refine aw_grp1 ?_
  refine wk_start ?_
  refine kv g0 (mv) ?_
  refine kv g0 (mv) ?_
  refine kv g0 (mv) ?_
  refine kv g0 (ixD 59 c10 (ltS (ltE c9))) ?_
  refine kv g0 (faE 2 2) ?_
  refine ks g0 (stD 4 ds59 2 1 [.lit (.int .i64 (wrap64 (t11.1 + 1)))] (.agg [.row 1, .lit (.int .i64 t11.1), .lit (.int .i64 (wrap64 (t11.1 + 1))), .lit (.int .i64 ((rd_T59 q5 p7).f3))]) (setXG (f := e59) (X := .agg [.row 1, .lit (.int .i64 t11.1), .lit (.int .i64 ((rd_T59 q5 p7).f2)), .lit (.int .i64 ((rd_T59 q5 p7).f3))]) c10 c9) (setXX)) ?_
  refine wk_end ?_
  refine ac_next ?_
  refine aw_grp1 ?_
  refine wk_start ?_
  refine kv g0 (mv) ?_
  refine kv g0 (add6) ?_
  refine kv g0 (asg) ?_
  refine wk_end ?_
  refine ac_next ?_
  refine aw_grp1 ?_
  refine wk_start ?_
  refine kv g0 (mv) ?_
  refine kv g0 (mv) ?_
  refine kv g0 (mv) ?_
  refine kv g0 (ixD 59 c10 (ltS (ltE c9))) ?_
  refine kv g0 (faE 3 3) ?_
  refine ks g0 (stD 4 ds59 3 1 [.lit (.int .i64 (wrap64 ((wrap64 (t11.1 + 1)) + 1)))] (.agg [.row 1, .lit (.int .i64 t11.1), .lit (.int .i64 (wrap64 (t11.1 + 1))), .lit (.int .i64 (wrap64 ((wrap64 (t11.1 + 1)) + 1)))]) (setXG (f := e59) (X := .agg [.row 1, .lit (.int .i64 t11.1), .lit (.int .i64 (wrap64 (t11.1 + 1))), .lit (.int .i64 ((rd_T59 q5 p7).f3))]) c10 c9) (setXX)) ?_
  refine wk_end ?_
  refine ac_next ?_
  refine wk_start ?_
  refine kv g0 (mv) ?_
  refine kv g0 (add6) ?_
  refine kv g0 (asg) ?_
  refine wk_end ?_
  refine ac_blkN ?_
  refine ac_next ?_
  refine wk_start ?_
  refine kv g0 (mv) ?_
  refine kv g0 (add6) ?_
  refine kv g0 (asg) ?_
  refine wk_end ?_
  refine ac_g2 (pk 0 1 0 (.agg [.sl .n 4 (t11.2.map e131), .lit (.int .i64 t11.1), .lit (.int .i64 (wrap64 (t11.1 + 1))), .lit (.int .i64 (wrap64 ((wrap64 (t11.1 + 1)) + 1)))]) (setXG (f := e59) (X := .agg [.row 1, .lit (.int .i64 t11.1), .lit (.int .i64 (wrap64 (t11.1 + 1))), .lit (.int .i64 (wrap64 ((wrap64 (t11.1 + 1)) + 1)))]) c10 c9) (setXX) rfl) ?_
  refine ac_g1 (sealD 0 (setSeal (f := e59) p7.toNat (⟨t11.2, t11.1, wrap64 (t11.1 + 1), wrap64 ((wrap64 (t11.1 + 1)) + 1)⟩ : S59)) cl59) ?_
  refine ac_k ?_
  exact acw hE [(0, 0)] 9999 (hK14 k8 (q5.set p7.toNat (⟨t11.2, t11.1, wrap64 (t11.1 + 1), wrap64 ((wrap64 (t11.1 + 1)) + 1)⟩ : S59)) (wrap64 ((wrap64 ((wrap64 (t11.1 + 1)) + 1)) + 1)) (wrap64 (p7 + 1)) (Nat.le_refl _) ⟨by omega, H⟩)
 rw [if_neg c9] at H
 refine aw_ifF ?_ (decide_eq_false c9)
 refine aw_exit ?_
 refine ac_then ?_
 refine ac_then ?_
 refine ac_hit rfl ?_
 refine ac_next ?_
 refine aw_grp1 ?_
 refine wk_start ?_
 refine kv g0 (mv) ?_
 refine kv g0 (asg) ?_
 refine wk_end ?_
 refine ac_next ?_
 refine aw_ret ?_
 obtain rfl := Option.some.inj H
 exact acr hE [.tmp 4] (.tmp .nil) (.one _) [(0, 0)] 9999
/-! laws_markSenderS -/
def laws_markSenderS.l0 : Nat → (List S62) → Int → Int → Option (Int × (List S62))
 | 0, _, _, _ => none
 | k8 + 1, q5, p6, p7 => if p7 < (q5.length : Int) then if 0 ≤ p7 then (laws_markItemS.f k8 ((rd_T62 q5 p7).f2) (wrap64 ((wrap64 (p6 + 1)) + 1))).bind fun t11 => laws_markSenderS.l0 k8 (q5.set p7.toNat (⟨p6, wrap64 (p6 + 1), t11.2, t11.1, wrap64 (t11.1 + 1)⟩ : S62)) (wrap64 ((wrap64 (t11.1 + 1)) + 1)) (wrap64 (p7 + 1)) else none else some (p6, q5)
def laws_markSenderS.f (k : Nat) (l0 : List S62) (a1 : Int) : Option (Int × (List S62)) := laws_markSenderS.l0 k l0 a1 0
theorem laws_markSenderS.ok {k : Nat} {l0 : List S62} {a1 : Int} {r : Int × (List S62)} (H : laws_markSenderS.f k l0 a1 = some r) : ACalls Try.prog 31 [(0, .drow false ds62 62 5 (l0.map e62))] [.row 0, .lit (.int .i64 a1)] [(0, .drow false ds62 62 5 (r.2.map e62))] (.lit (.int .i64 r.1)) := by
 refine acalls (fn := Try.f31) (nt := 48) Try.func31 rfl rfl (Nat.le_of_ble_eq_true rfl) fun E hE => ?_
 rw [laws_markSenderS.f] at H
 refine aw_grp1 ?_
 refine wk_start ?_
 refine kv g0 (asg) ?_
 refine wk_end ?_
 refine ac_next ?_
 refine aw_grp1 ?_
 refine aw_grp1 ?_
 refine wk_start ?_
 refine kv g0 (asg) ?_
 refine wk_end ?_
 refine ac_next ?_
 refine aw_block ?_
 refine aw_loop3 (fun (k_ : Nat) (q5 : List S62) (p6 : Int) (p7 : Int) => k_ ≤ k ∧ laws_markSenderS.l0 k_ q5 p6 p7 = some r) (fun (q5 : List S62) (p6 : Int) (p7 : Int) => ⟨[(0, .row 0), (1, .lit (.int .i64 p6)), (5, .lit (.int .i64 p7))], [(0, .drow false ds62 62 5 (q5.map e62))]⟩) k l0 a1 0 ⟨Nat.le_refl _, H⟩ (fun K_ h_ => acw hE [(0, 0)] 9999 h_) (fun _ _ _ => by intro h_; have h_ := h_.2; rw [laws_markSenderS.l0.eq_1] at h_; cases h_) ?_
 intro k8 q5 p6 p7 hq_ K13 hK14
 have hk8 := hq_.1
 have H := hq_.2
 clear hq_
 rw [laws_markSenderS.l0.eq_2] at H
 refine aw_grp1 ?_
 refine aw_grp1 ?_
 refine wk_start ?_
 refine kv g0 (mv) ?_
 refine kv g0 (mv) ?_
 refine kv g0 (lnD lenE) ?_
 refine kv g0 (lss) ?_
 refine wk_end ?_
 refine ac_next ?_
 by_cases c9 : p7 < (q5.length : Int)
 ·rw [if_pos c9] at H
  refine aw_ifT ?_ (decide_eq_true c9)
  refine aw_skip ?_
  refine ac_next ?_
  refine aw_grp1 ?_
  refine aw_block ?_
  refine aw_grp1 ?_
  refine wk_start ?_
  refine kv g0 (mv) ?_
  refine kv g0 (mv) ?_
  refine kv g0 (mv) ?_
  obtain ⟨c10, H⟩ := of_if H
  refine kv g0 (ixD 62 c10 (ltE c9)) ?_
  refine kv g0 (faE 0 0) ?_
  refine ks g0 (stD 5 ds62 0 1 [.lit (.int .i64 p6)] (.agg [.lit (.int .i64 p6), .lit (.int .i64 ((rd_T62 q5 p7).f1)), .sl .n 4 (((rd_T62 q5 p7).f2).map e131), .lit (.int .i64 ((rd_T62 q5 p7).f3)), .lit (.int .i64 ((rd_T62 q5 p7).f4))]) (getE (f := e62) (z := z62) c10 c9) (rfl)) ?_
  refine wk_end ?_
  refine ac_next ?_
  refine aw_grp1 ?_
  refine wk_start ?_
  refine kv g0 (mv) ?_
  refine kv g0 (add6) ?_
  refine kv g0 (asg) ?_
  refine wk_end ?_
  refine ac_next ?_
  refine aw_grp1 ?_
  refine wk_start ?_
  refine kv g0 (mv) ?_
  refine kv g0 (mv) ?_
  refine kv g0 (mv) ?_
  refine kv g0 (ixD 62 c10 (ltS (ltE c9))) ?_
  refine kv g0 (faE 1 1) ?_
  refine ks g0 (stD 5 ds62 1 1 [.lit (.int .i64 (wrap64 (p6 + 1)))] (.agg [.lit (.int .i64 p6), .lit (.int .i64 (wrap64 (p6 + 1))), .sl .n 4 (((rd_T62 q5 p7).f2).map e131), .lit (.int .i64 ((rd_T62 q5 p7).f3)), .lit (.int .i64 ((rd_T62 q5 p7).f4))]) (setXG (f := e62) (X := .agg [.lit (.int .i64 p6), .lit (.int .i64 ((rd_T62 q5 p7).f1)), .sl .n 4 (((rd_T62 q5 p7).f2).map e131), .lit (.int .i64 ((rd_T62 q5 p7).f3)), .lit (.int .i64 ((rd_T62 q5 p7).f4))]) c10 c9) (setXX)) ?_
  refine wk_end ?_
  refine ac_next ?_
  refine aw_grp1 ?_
  refine wk_start ?_
  refine kv g0 (mv) ?_
  refine kv g0 (add6) ?_
  refine kv g0 (asg) ?_
  refine wk_end ?_
  refine ac_next ?_
  refine aw_grp1 ?_
  refine wk_start ?_
  refine kv g0 (mv) ?_
  refine kv g0 (mv) ?_
  refine kv g0 (ixD 62 c10 (ltS (ltE c9))) ?_
  refine kv g0 (faE 2 2) ?_
  refine kcS2 30 (.row 1) [(0, .drow true ds62 62 5 ((q5.map e62).set p7.toNat (.agg [.lit (.int .i64 p6), .lit (.int .i64 (wrap64 (p6 + 1))), .row 1, .lit (.int .i64 ((rd_T62 q5 p7).f3)), .lit (.int .i64 ((rd_T62 q5 p7).f4))]))), (1, .row 131 4 (((rd_T62 q5 p7).f2).map e131))] g0 (okv_gh (tk 0 1 2 (.agg [.lit (.int .i64 p6), .lit (.int .i64 (wrap64 (p6 + 1))), .row 1, .lit (.int .i64 ((rd_T62 q5 p7).f3)), .lit (.int .i64 ((rd_T62 q5 p7).f4))]) (setXG (f := e62) (X := .agg [.lit (.int .i64 p6), .lit (.int .i64 (wrap64 (p6 + 1))), .sl .n 4 (((rd_T62 q5 p7).f2).map e131), .lit (.int .i64 ((rd_T62 q5 p7).f3)), .lit (.int .i64 ((rd_T62 q5 p7).f4))]) c10 c9) (setXX) rfl) (ldD (.row 1) (setXG (f := e62) (X := .agg [.lit (.int .i64 p6), .lit (.int .i64 (wrap64 (p6 + 1))), .row 1, .lit (.int .i64 ((rd_T62 q5 p7).f3)), .lit (.int .i64 ((rd_T62 q5 p7).f4))]) c10 c9) rfl)).owp rfl rfl ?_
  refine kv g0 (mv) ?_
  obtain ⟨t11, A12, H⟩ := of_bind H
  refine kcS1 32 (.lit (.int .i64 t11.1)) [(1, .row 131 4 (t11.2.map e131))] g0 (cal (laws_markItemS.ok A12) [1] 9999 .n (hf := Try.func63)) rfl rfl ?_
  refine kv g0 (asg) ?_
  refine wk_end ?_
  refine ac_next ?_
  refine aw_grp1 ?_
  refine wk_start ?_
  refine kv g0 (mv) ?_
  refine kv g0 (mv) ?_
  refine kv g0 (mv) ?_
  refine kv g0 (ixD 62 c10 (ltS (ltE c9))) ?_
  refine kv g0 (faE 3 3) ?_
  refine ks g0 (stD 5 ds62 3 1 [.lit (.int .i64 t11.1)] (.agg [.lit (.int .i64 p6), .lit (.int .i64 (wrap64 (p6 + 1))), .row 1, .lit (.int .i64 t11.1), .lit (.int .i64 ((rd_T62 q5 p7).f4))]) (setXG (f := e62) (X := .agg [.lit (.int .i64 p6), .lit (.int .i64 (wrap64 (p6 + 1))), .row 1, .lit (.int .i64 ((rd_T62 q5 p7).f3)), .lit (.int .i64 ((rd_T62 q5 p7).f4))]) c10 c9) (setXX)) ?_
  refine wk_end ?_
  refine ac_next ?_
  refine aw_grp1 ?_
  refine wk_start ?_
  refine kv g0 (mv) ?_
  refine kv g0 (add6) ?_
  refine kv g0 (asg) ?_
  refine wk_end ?_
  refine ac_next ?_
  refine aw_grp1 ?_
  refine wk_start ?_
  refine kv g0 (mv) ?_
  refine kv g0 (mv) ?_
  refine kv g0 (mv) ?_
  refine kv g0 (ixD 62 c10 (ltS (ltE c9))) ?_
  refine kv g0 (faE 4 4) ?_
  refine ks g0 (stD 5 ds62 4 1 [.lit (.int .i64 (wrap64 (t11.1 + 1)))] (.agg [.lit (.int .i64 p6), .lit (.int .i64 (wrap64 (p6 + 1))), .row 1, .lit (.int .i64 t11.1), .lit (.int .i64 (wrap64 (t11.1 + 1)))]) (setXG (f := e62) (X := .agg [.lit (.int .i64 p6), .lit (.int .i64 (wrap64 (p6 + 1))), .row 1, .lit (.int .i64 t11.1), .lit (.int .i64 ((rd_T62 q5 p7).f4))]) c10 c9) (setXX)) ?_
  refine wk_end ?_
  refine ac_next ?_
  refine wk_start ?_
  refine kv g0 (mv) ?_
  refine kv g0 (add6) ?_
  refine kv g0 (asg) ?_
  refine wk_end ?_
  refine ac_blkN ?_
  refine ac_next ?_
  refine wk_start ?_
  refine kv g0 (mv) ?_
  refine kv g0 (add6) ?_
  refine kv g0 (asg) ?_
  refine wk_end ?_
  refine ac_g2 (pk 0 1 2 (.agg [.lit (.int .i64 p6), .lit (.int .i64 (wrap64 (p6 + 1))), .sl .n 4 (t11.2.map e131), .lit (.int .i64 t11.1), .lit (.int .i64 (wrap64 (t11.1 + 1)))]) (setXG (f := e62) (X := .agg [.lit (.int .i64 p6), .lit (.int .i64 (wrap64 (p6 + 1))), .row 1, .lit (.int .i64 t11.1), .lit (.int .i64 (wrap64 (t11.1 + 1)))]) c10 c9) (setXX) rfl) ?_
  refine ac_g1 (sealD 0 (setSeal (f := e62) p7.toNat (⟨p6, wrap64 (p6 + 1), t11.2, t11.1, wrap64 (t11.1 + 1)⟩ : S62)) cl62) ?_
  refine ac_k ?_
  exact acw hE [(0, 0)] 9999 (hK14 k8 (q5.set p7.toNat (⟨p6, wrap64 (p6 + 1), t11.2, t11.1, wrap64 (t11.1 + 1)⟩ : S62)) (wrap64 ((wrap64 (t11.1 + 1)) + 1)) (wrap64 (p7 + 1)) (Nat.le_refl _) ⟨by omega, H⟩)
 rw [if_neg c9] at H
 refine aw_ifF ?_ (decide_eq_false c9)
 refine aw_exit ?_
 refine ac_then ?_
 refine ac_then ?_
 refine ac_hit rfl ?_
 refine ac_next ?_
 refine aw_grp1 ?_
 refine wk_start ?_
 refine kv g0 (mv) ?_
 refine kv g0 (asg) ?_
 refine wk_end ?_
 refine ac_next ?_
 refine aw_ret ?_
 obtain rfl := Option.some.inj H
 exact acr hE [.tmp 4] (.tmp .nil) (.one _) [(0, 0)] 9999
/-! laws_markEntryS -/
def laws_markEntryS.l0 : Nat → (List S133) → Int → Int → Option (Int × (List S133))
 | 0, _, _, _ => none
 | k6 + 1, q3, p4, p5 => if p5 < (q3.length : Int) then if 0 ≤ p5 then laws_markEntryS.l0 k6 (q3.set p5.toNat (⟨p4, wrap64 (p4 + 1), (⟨wrap64 ((wrap64 (p4 + 1)) + 1), wrap64 ((wrap64 ((wrap64 (p4 + 1)) + 1)) + 1), wrap64 ((wrap64 ((wrap64 ((wrap64 (p4 + 1)) + 1)) + 1)) + 1), wrap64 ((wrap64 ((wrap64 ((wrap64 ((wrap64 (p4 + 1)) + 1)) + 1)) + 1)) + 1)⟩ : S131)⟩ : S133)) (wrap64 ((wrap64 ((wrap64 ((wrap64 ((wrap64 ((wrap64 (p4 + 1)) + 1)) + 1)) + 1)) + 1)) + 1)) (wrap64 (p5 + 1)) else none else some (p4, q3)
def laws_markEntryS.f (k : Nat) (l0 : List S133) (a1 : Int) : Option (Int × (List S133)) := laws_markEntryS.l0 k l0 a1 0
theorem laws_markEntryS.ok {k : Nat} {l0 : List S133} {a1 : Int} {r : Int × (List S133)} (H : laws_markEntryS.f k l0 a1 = some r) : ACalls Try.prog 64 [(0, .row 133 6 (l0.map e133))] [.row 0, .lit (.int .i64 a1)] [(0, .row 133 6 (r.2.map e133))] (.lit (.int .i64 r.1)) := by
 refine acalls (fn := Try.f64) (nt := 59) Try.func64 rfl rfl (Nat.le_of_ble_eq_true rfl) fun E hE => ?_
 rw [laws_markEntryS.f] at H
 refine aw_grp1 ?_
 refine wk_start ?_
 refine kv g0 (asg) ?_
 refine wk_end ?_
 refine ac_next ?_
 refine aw_grp1 ?_
 refine aw_grp1 ?_
 refine wk_start ?_
 refine kv g0 (asg) ?_
 refine wk_end ?_
 refine ac_next ?_
 refine aw_block ?_
 refine aw_loop3 (fun (k_ : Nat) (q3 : List S133) (p4 : Int) (p5 : Int) => k_ ≤ k ∧ laws_markEntryS.l0 k_ q3 p4 p5 = some r) (fun (q3 : List S133) (p4 : Int) (p5 : Int) => ⟨[(0, .row 0), (1, .lit (.int .i64 p4)), (5, .lit (.int .i64 p5))], [(0, .row 133 6 (q3.map e133))]⟩) k l0 a1 0 ⟨Nat.le_refl _, H⟩ (fun K_ h_ => acw hE [(0, 0)] 9999 h_) (fun _ _ _ => by intro h_; have h_ := h_.2; rw [laws_markEntryS.l0.eq_1] at h_; cases h_) ?_
 intro k6 q3 p4 p5 hq_ K9 hK10
 have hk6 := hq_.1
 have H := hq_.2
 clear hq_
 rw [laws_markEntryS.l0.eq_2] at H
 refine aw_grp1 ?_
 refine aw_grp1 ?_
 refine wk_start ?_
 refine kv g0 (mv) ?_
 refine kv g0 (mv) ?_
 refine kv g0 (lnR lenE) ?_
 refine kv g0 (lss) ?_
 refine wk_end ?_
 refine ac_next ?_
 by_cases c7 : p5 < (q3.length : Int)
 ·rw [if_pos c7] at H
  refine aw_ifT ?_ (decide_eq_true c7)
  refine aw_skip ?_
  refine ac_next ?_
  refine aw_grp1 ?_
  refine aw_block ?_
  refine aw_grp1 ?_
  refine wk_start ?_
  refine kv g0 (mv) ?_
  refine kv g0 (mv) ?_
  refine kv g0 (mv) ?_
  obtain ⟨c8, H⟩ := of_if H
  refine kv g0 (ixR 133 c8 (ltE c7)) ?_
  refine kv g0 (faE 0 0) ?_
  refine ks g0 (stE 1 (e133 (⟨p4, (rd_T133 q3 p5).f1, (⟨(rd_T133 q3 p5).f2.f0, (rd_T133 q3 p5).f2.f1, (rd_T133 q3 p5).f2.f2, (rd_T133 q3 p5).f2.f3⟩ : S131)⟩ : S133)) ((q3.set p5.toNat (⟨p4, (rd_T133 q3 p5).f1, (⟨(rd_T133 q3 p5).f2.f0, (rd_T133 q3 p5).f2.f1, (rd_T133 q3 p5).f2.f2, (rd_T133 q3 p5).f2.f3⟩ : S131)⟩ : S133)).map e133) (getE (z := z133) c8 c7) setE) ?_
  refine wk_end ?_
  refine ac_next ?_
  refine aw_grp1 ?_
  refine wk_start ?_
  refine kv g0 (mv) ?_
  refine kv g0 (add6) ?_
  refine kv g0 (asg) ?_
  refine wk_end ?_
  refine ac_next ?_
  refine aw_grp1 ?_
  refine wk_start ?_
  refine kv g0 (mv) ?_
  refine kv g0 (mv) ?_
  refine kv g0 (mv) ?_
  refine kv g0 (ixR 133 c8 (ltE (ls c7))) ?_
  refine kv g0 (faE 1 1) ?_
  refine ks g0 (stE 1 (e133 (⟨p4, wrap64 (p4 + 1), (⟨(rd_T133 q3 p5).f2.f0, (rd_T133 q3 p5).f2.f1, (rd_T133 q3 p5).f2.f2, (rd_T133 q3 p5).f2.f3⟩ : S131)⟩ : S133)) ((q3.set p5.toNat (⟨p4, wrap64 (p4 + 1), (⟨(rd_T133 q3 p5).f2.f0, (rd_T133 q3 p5).f2.f1, (rd_T133 q3 p5).f2.f2, (rd_T133 q3 p5).f2.f3⟩ : S131)⟩ : S133)).map e133) (setG c8 (ls c7)) setE2) ?_
  refine wk_end ?_
  refine ac_next ?_
  refine aw_grp1 ?_
  refine wk_start ?_
  refine kv g0 (mv) ?_
  refine kv g0 (add6) ?_
  refine kv g0 (asg) ?_
  refine wk_end ?_
  refine ac_next ?_
  refine aw_grp1 ?_
  refine wk_start ?_
  refine kv g0 (mv) ?_
  refine kv g0 (mv) ?_
  refine kv g0 (mv) ?_
  refine kv g0 (ixR 133 c8 (ltE (ls c7))) ?_
  refine kv g0 (faE 2 2) ?_
  refine kv g0 (faE 0 2) ?_
  refine ks g0 (stE 1 (e133 (⟨p4, wrap64 (p4 + 1), (⟨wrap64 ((wrap64 (p4 + 1)) + 1), (rd_T133 q3 p5).f2.f1, (rd_T133 q3 p5).f2.f2, (rd_T133 q3 p5).f2.f3⟩ : S131)⟩ : S133)) ((q3.set p5.toNat (⟨p4, wrap64 (p4 + 1), (⟨wrap64 ((wrap64 (p4 + 1)) + 1), (rd_T133 q3 p5).f2.f1, (rd_T133 q3 p5).f2.f2, (rd_T133 q3 p5).f2.f3⟩ : S131)⟩ : S133)).map e133) (setG c8 (ls c7)) setE2) ?_
  refine wk_end ?_
  refine ac_next ?_
  refine aw_grp1 ?_
  refine wk_start ?_
  refine kv g0 (mv) ?_
  refine kv g0 (add6) ?_
  refine kv g0 (asg) ?_
  refine wk_end ?_
  refine ac_next ?_
  refine aw_grp1 ?_
  refine wk_start ?_
  refine kv g0 (mv) ?_
  refine kv g0 (mv) ?_
  refine kv g0 (mv) ?_
  refine kv g0 (ixR 133 c8 (ltE (ls c7))) ?_
  refine kv g0 (faE 2 2) ?_
  refine kv g0 (faE 1 3) ?_
  refine ks g0 (stE 1 (e133 (⟨p4, wrap64 (p4 + 1), (⟨wrap64 ((wrap64 (p4 + 1)) + 1), wrap64 ((wrap64 ((wrap64 (p4 + 1)) + 1)) + 1), (rd_T133 q3 p5).f2.f2, (rd_T133 q3 p5).f2.f3⟩ : S131)⟩ : S133)) ((q3.set p5.toNat (⟨p4, wrap64 (p4 + 1), (⟨wrap64 ((wrap64 (p4 + 1)) + 1), wrap64 ((wrap64 ((wrap64 (p4 + 1)) + 1)) + 1), (rd_T133 q3 p5).f2.f2, (rd_T133 q3 p5).f2.f3⟩ : S131)⟩ : S133)).map e133) (setG c8 (ls c7)) setE2) ?_
  refine wk_end ?_
  refine ac_next ?_
  refine aw_grp1 ?_
  refine wk_start ?_
  refine kv g0 (mv) ?_
  refine kv g0 (add6) ?_
  refine kv g0 (asg) ?_
  refine wk_end ?_
  refine ac_next ?_
  refine aw_grp1 ?_
  refine wk_start ?_
  refine kv g0 (mv) ?_
  refine kv g0 (mv) ?_
  refine kv g0 (mv) ?_
  refine kv g0 (ixR 133 c8 (ltE (ls c7))) ?_
  refine kv g0 (faE 2 2) ?_
  refine kv g0 (faE 2 4) ?_
  refine ks g0 (stE 1 (e133 (⟨p4, wrap64 (p4 + 1), (⟨wrap64 ((wrap64 (p4 + 1)) + 1), wrap64 ((wrap64 ((wrap64 (p4 + 1)) + 1)) + 1), wrap64 ((wrap64 ((wrap64 ((wrap64 (p4 + 1)) + 1)) + 1)) + 1), (rd_T133 q3 p5).f2.f3⟩ : S131)⟩ : S133)) ((q3.set p5.toNat (⟨p4, wrap64 (p4 + 1), (⟨wrap64 ((wrap64 (p4 + 1)) + 1), wrap64 ((wrap64 ((wrap64 (p4 + 1)) + 1)) + 1), wrap64 ((wrap64 ((wrap64 ((wrap64 (p4 + 1)) + 1)) + 1)) + 1), (rd_T133 q3 p5).f2.f3⟩ : S131)⟩ : S133)).map e133) (setG c8 (ls c7)) setE2) ?_
  refine wk_end ?_
  refine ac_next ?_
  refine aw_grp1 ?_
  refine wk_start ?_
  refine kv g0 (mv) ?_
  refine kv g0 (add6) ?_
  refine kv g0 (asg) ?_
  refine wk_end ?_
  refine ac_next ?_
  refine aw_grp1 ?_
  refine wk_start ?_
  refine kv g0 (mv) ?_
  refine kv g0 (mv) ?_
  refine kv g0 (mv) ?_
  refine kv g0 (ixR 133 c8 (ltE (ls c7))) ?_
  refine kv g0 (faE 2 2) ?_
  refine kv g0 (faE 3 5) ?_
  refine ks g0 (stE 1 (e133 (⟨p4, wrap64 (p4 + 1), (⟨wrap64 ((wrap64 (p4 + 1)) + 1), wrap64 ((wrap64 ((wrap64 (p4 + 1)) + 1)) + 1), wrap64 ((wrap64 ((wrap64 ((wrap64 (p4 + 1)) + 1)) + 1)) + 1), wrap64 ((wrap64 ((wrap64 ((wrap64 ((wrap64 (p4 + 1)) + 1)) + 1)) + 1)) + 1)⟩ : S131)⟩ : S133)) ((q3.set p5.toNat (⟨p4, wrap64 (p4 + 1), (⟨wrap64 ((wrap64 (p4 + 1)) + 1), wrap64 ((wrap64 ((wrap64 (p4 + 1)) + 1)) + 1), wrap64 ((wrap64 ((wrap64 ((wrap64 (p4 + 1)) + 1)) + 1)) + 1), wrap64 ((wrap64 ((wrap64 ((wrap64 ((wrap64 (p4 + 1)) + 1)) + 1)) + 1)) + 1)⟩ : S131)⟩ : S133)).map e133) (setG c8 (ls c7)) setE2) ?_
  refine wk_end ?_
  refine ac_next ?_
  refine wk_start ?_
  refine kv g0 (mv) ?_
  refine kv g0 (add6) ?_
  refine kv g0 (asg) ?_
  refine wk_end ?_
  refine ac_blkN ?_
  refine ac_next ?_
  refine wk_start ?_
  refine kv g0 (mv) ?_
  refine kv g0 (add6) ?_
  refine kv g0 (asg) ?_
  refine wk_end ?_
  refine ac_k ?_
  exact acw hE [(0, 0)] 9999 (hK10 k6 (q3.set p5.toNat (⟨p4, wrap64 (p4 + 1), (⟨wrap64 ((wrap64 (p4 + 1)) + 1), wrap64 ((wrap64 ((wrap64 (p4 + 1)) + 1)) + 1), wrap64 ((wrap64 ((wrap64 ((wrap64 (p4 + 1)) + 1)) + 1)) + 1), wrap64 ((wrap64 ((wrap64 ((wrap64 ((wrap64 (p4 + 1)) + 1)) + 1)) + 1)) + 1)⟩ : S131)⟩ : S133)) (wrap64 ((wrap64 ((wrap64 ((wrap64 ((wrap64 ((wrap64 (p4 + 1)) + 1)) + 1)) + 1)) + 1)) + 1)) (wrap64 (p5 + 1)) (Nat.le_refl _) ⟨by omega, H⟩)
 rw [if_neg c7] at H
 refine aw_ifF ?_ (decide_eq_false c7)
 refine aw_exit ?_
 refine ac_then ?_
 refine ac_then ?_
 refine ac_hit rfl ?_
 refine ac_next ?_
 refine aw_grp1 ?_
 refine wk_start ?_
 refine kv g0 (mv) ?_
 refine kv g0 (asg) ?_
 refine wk_end ?_
 refine ac_next ?_
 refine aw_ret ?_
 obtain rfl := Option.some.inj H
 exact acr hE [.tmp 4] (.tmp .nil) (.one _) [(0, 0)] 9999
/-! laws_markIntS -/
def laws_markIntS.l0 : Nat → (List Int) → Int → Int → Option (Int × (List Int))
 | 0, _, _, _ => none
 | k6 + 1, q3, p4, p5 => if p5 < (q3.length : Int) then if 0 ≤ p5 then laws_markIntS.l0 k6 (q3.set p5.toNat p4) (wrap64 (p4 + 1)) (wrap64 (p5 + 1)) else none else some (p4, q3)
def laws_markIntS.f (k : Nat) (l0 : List Int) (a1 : Int) : Option (Int × (List Int)) := laws_markIntS.l0 k l0 a1 0
theorem laws_markIntS.ok {k : Nat} {l0 : List Int} {a1 : Int} {r : Int × (List Int)} (H : laws_markIntS.f k l0 a1 = some r) : ACalls Try.prog 34 [(0, .row 3 1 (l0.map (eI .i64)))] [.row 0, .lit (.int .i64 a1)] [(0, .row 3 1 (r.2.map (eI .i64)))] (.lit (.int .i64 r.1)) := by
 refine acalls (fn := Try.f34) (nt := 19) Try.func34 rfl rfl (Nat.le_of_ble_eq_true rfl) fun E hE => ?_
 rw [laws_markIntS.f] at H
 refine aw_grp1 ?_
 refine wk_start ?_
 refine kv g0 (asg) ?_
 refine wk_end ?_
 refine ac_next ?_
 refine aw_grp1 ?_
 refine aw_grp1 ?_
 refine wk_start ?_
 refine kv g0 (asg) ?_
 refine wk_end ?_
 refine ac_next ?_
 refine aw_block ?_
 refine aw_loop3 (fun (k_ : Nat) (q3 : List Int) (p4 : Int) (p5 : Int) => k_ ≤ k ∧ laws_markIntS.l0 k_ q3 p4 p5 = some r) (fun (q3 : List Int) (p4 : Int) (p5 : Int) => ⟨[(0, .row 0), (1, .lit (.int .i64 p4)), (5, .lit (.int .i64 p5))], [(0, .row 3 1 (q3.map (eI .i64)))]⟩) k l0 a1 0 ⟨Nat.le_refl _, H⟩ (fun K_ h_ => acw hE [(0, 0)] 9999 h_) (fun _ _ _ => by intro h_; have h_ := h_.2; rw [laws_markIntS.l0.eq_1] at h_; cases h_) ?_
 intro k6 q3 p4 p5 hq_ K9 hK10
 have hk6 := hq_.1
 have H := hq_.2
 clear hq_
 rw [laws_markIntS.l0.eq_2] at H
 refine aw_grp1 ?_
 refine aw_grp1 ?_
 refine wk_start ?_
 refine kv g0 (mv) ?_
 refine kv g0 (mv) ?_
 refine kv g0 (lnR lenE) ?_
 refine kv g0 (lss) ?_
 refine wk_end ?_
 refine ac_next ?_
 by_cases c7 : p5 < (q3.length : Int)
 ·rw [if_pos c7] at H
  refine aw_ifT ?_ (decide_eq_true c7)
  refine aw_skip ?_
  refine ac_next ?_
  refine aw_grp1 ?_
  refine aw_block ?_
  refine aw_grp1 ?_
  refine wk_start ?_
  refine kv g0 (mv) ?_
  refine kv g0 (mv) ?_
  refine kv g0 (mv) ?_
  obtain ⟨c8, H⟩ := of_if H
  refine kv g0 (ixR 3 c8 (ltE c7)) ?_
  refine ks g0 (stE 1 (eI .i64 p4) ((q3.set p5.toNat p4).map (eI .i64)) (getE (z := (0 : Int)) c8 c7) setE) ?_
  refine wk_end ?_
  refine ac_next ?_
  refine wk_start ?_
  refine kv g0 (mv) ?_
  refine kv g0 (add6) ?_
  refine kv g0 (asg) ?_
  refine wk_end ?_
  refine ac_blkN ?_
  refine ac_next ?_
  refine wk_start ?_
  refine kv g0 (mv) ?_
  refine kv g0 (add6) ?_
  refine kv g0 (asg) ?_
  refine wk_end ?_
  refine ac_k ?_
  exact acw hE [(0, 0)] 9999 (hK10 k6 (q3.set p5.toNat p4) (wrap64 (p4 + 1)) (wrap64 (p5 + 1)) (Nat.le_refl _) ⟨by omega, H⟩)
 rw [if_neg c7] at H
 refine aw_ifF ?_ (decide_eq_false c7)
 refine aw_exit ?_
 refine ac_then ?_
 refine ac_then ?_
 refine ac_hit rfl ?_
 refine ac_next ?_
 refine aw_grp1 ?_
 refine wk_start ?_
 refine kv g0 (mv) ?_
 refine kv g0 (asg) ?_
 refine wk_end ?_
 refine ac_next ?_
 refine aw_ret ?_
 obtain rfl := Option.some.inj H
 exact acr hE [.tmp 4] (.tmp .nil) (.one _) [(0, 0)] 9999
/-! laws_markEarlyS -/
def laws_markEarlyS.l0 : Nat → (List S135) → Int → Int → Option (Int × (List S135))
 | 0, _, _, _ => none
 | k6 + 1, q3, p4, p5 => if p5 < (q3.length : Int) then if 0 ≤ p5 then laws_markEarlyS.l0 k6 (q3.set p5.toNat (⟨p4, wrap64 (p4 + 1), (⟨wrap64 ((wrap64 (p4 + 1)) + 1), wrap64 ((wrap64 ((wrap64 (p4 + 1)) + 1)) + 1), wrap64 ((wrap64 ((wrap64 ((wrap64 (p4 + 1)) + 1)) + 1)) + 1), wrap64 ((wrap64 ((wrap64 ((wrap64 ((wrap64 (p4 + 1)) + 1)) + 1)) + 1)) + 1)⟩ : S131)⟩ : S135)) (wrap64 ((wrap64 ((wrap64 ((wrap64 ((wrap64 ((wrap64 (p4 + 1)) + 1)) + 1)) + 1)) + 1)) + 1)) (wrap64 (p5 + 1)) else none else some (p4, q3)
def laws_markEarlyS.f (k : Nat) (l0 : List S135) (a1 : Int) : Option (Int × (List S135)) := laws_markEarlyS.l0 k l0 a1 0
theorem laws_markEarlyS.ok {k : Nat} {l0 : List S135} {a1 : Int} {r : Int × (List S135)} (H : laws_markEarlyS.f k l0 a1 = some r) : ACalls Try.prog 65 [(0, .row 135 6 (l0.map e135))] [.row 0, .lit (.int .i64 a1)] [(0, .row 135 6 (r.2.map e135))] (.lit (.int .i64 r.1)) := by
 refine acalls (fn := Try.f65) (nt := 59) Try.func65 rfl rfl (Nat.le_of_ble_eq_true rfl) fun E hE => ?_
 rw [laws_markEarlyS.f] at H
 refine aw_grp1 ?_
 refine wk_start ?_
 refine kv g0 (asg) ?_
 refine wk_end ?_
 refine ac_next ?_
 refine aw_grp1 ?_
 refine aw_grp1 ?_
 refine wk_start ?_
 refine kv g0 (asg) ?_
 refine wk_end ?_
 refine ac_next ?_
 refine aw_block ?_
 refine aw_loop3 (fun (k_ : Nat) (q3 : List S135) (p4 : Int) (p5 : Int) => k_ ≤ k ∧ laws_markEarlyS.l0 k_ q3 p4 p5 = some r) (fun (q3 : List S135) (p4 : Int) (p5 : Int) => ⟨[(0, .row 0), (1, .lit (.int .i64 p4)), (5, .lit (.int .i64 p5))], [(0, .row 135 6 (q3.map e135))]⟩) k l0 a1 0 ⟨Nat.le_refl _, H⟩ (fun K_ h_ => acw hE [(0, 0)] 9999 h_) (fun _ _ _ => by intro h_; have h_ := h_.2; rw [laws_markEarlyS.l0.eq_1] at h_; cases h_) ?_
 intro k6 q3 p4 p5 hq_ K9 hK10
 have hk6 := hq_.1
 have H := hq_.2
 clear hq_
 rw [laws_markEarlyS.l0.eq_2] at H
 refine aw_grp1 ?_
 refine aw_grp1 ?_
 refine wk_start ?_
 refine kv g0 (mv) ?_
 refine kv g0 (mv) ?_
 refine kv g0 (lnR lenE) ?_
 refine kv g0 (lss) ?_
 refine wk_end ?_
 refine ac_next ?_
 by_cases c7 : p5 < (q3.length : Int)
 ·rw [if_pos c7] at H
  refine aw_ifT ?_ (decide_eq_true c7)
  refine aw_skip ?_
  refine ac_next ?_
  refine aw_grp1 ?_
  refine aw_block ?_
  refine aw_grp1 ?_
  refine wk_start ?_
  refine kv g0 (mv) ?_
  refine kv g0 (mv) ?_
  refine kv g0 (mv) ?_
  obtain ⟨c8, H⟩ := of_if H
  refine kv g0 (ixR 135 c8 (ltE c7)) ?_
  refine kv g0 (faE 0 0) ?_
  refine ks g0 (stE 1 (e135 (⟨p4, (rd_T135 q3 p5).f1, (⟨(rd_T135 q3 p5).f2.f0, (rd_T135 q3 p5).f2.f1, (rd_T135 q3 p5).f2.f2, (rd_T135 q3 p5).f2.f3⟩ : S131)⟩ : S135)) ((q3.set p5.toNat (⟨p4, (rd_T135 q3 p5).f1, (⟨(rd_T135 q3 p5).f2.f0, (rd_T135 q3 p5).f2.f1, (rd_T135 q3 p5).f2.f2, (rd_T135 q3 p5).f2.f3⟩ : S131)⟩ : S135)).map e135) (getE (z := z135) c8 c7) setE) ?_
  refine wk_end ?_
  refine ac_next ?_
  refine aw_grp1 ?_
  refine wk_start ?_
  refine kv g0 (mv) ?_
  refine kv g0 (add6) ?_
  refine kv g0 (asg) ?_
  refine wk_end ?_
  refine ac_next ?_
  refine aw_grp1 ?_
  refine wk_start ?_
  refine kv g0 (mv) ?_
  refine kv g0 (mv) ?_
  refine kv g0 (mv) ?_
  refine kv g0 (ixR 135 c8 (ltE (ls c7))) ?_
  refine kv g0 (faE 1 1) ?_
  refine ks g0 (stE 1 (e135 (⟨p4, wrap64 (p4 + 1), (⟨(rd_T135 q3 p5).f2.f0, (rd_T135 q3 p5).f2.f1, (rd_T135 q3 p5).f2.f2, (rd_T135 q3 p5).f2.f3⟩ : S131)⟩ : S135)) ((q3.set p5.toNat (⟨p4, wrap64 (p4 + 1), (⟨(rd_T135 q3 p5).f2.f0, (rd_T135 q3 p5).f2.f1, (rd_T135 q3 p5).f2.f2, (rd_T135 q3 p5).f2.f3⟩ : S131)⟩ : S135)).map e135) (setG c8 (ls c7)) setE2) ?_
  refine wk_end ?_
  refine ac_next ?_
  refine aw_grp1 ?_
  refine wk_start ?_
  refine kv g0 (mv) ?_
  refine kv g0 (add6) ?_
  refine kv g0 (asg) ?_
  refine wk_end ?_
  refine ac_next ?_
  refine aw_grp1 ?_
  refine wk_start ?_
  refine kv g0 (mv) ?_
  refine kv g0 (mv) ?_
  refine kv g0 (mv) ?_
  refine kv g0 (ixR 135 c8 (ltE (ls c7))) ?_
  refine kv g0 (faE 2 2) ?_
  refine kv g0 (faE 0 2) ?_
  refine ks g0 (stE 1 (e135 (⟨p4, wrap64 (p4 + 1), (⟨wrap64 ((wrap64 (p4 + 1)) + 1), (rd_T135 q3 p5).f2.f1, (rd_T135 q3 p5).f2.f2, (rd_T135 q3 p5).f2.f3⟩ : S131)⟩ : S135)) ((q3.set p5.toNat (⟨p4, wrap64 (p4 + 1), (⟨wrap64 ((wrap64 (p4 + 1)) + 1), (rd_T135 q3 p5).f2.f1, (rd_T135 q3 p5).f2.f2, (rd_T135 q3 p5).f2.f3⟩ : S131)⟩ : S135)).map e135) (setG c8 (ls c7)) setE2) ?_
  refine wk_end ?_
  refine ac_next ?_
  refine aw_grp1 ?_
  refine wk_start ?_
  refine kv g0 (mv) ?_
  refine kv g0 (add6) ?_
  refine kv g0 (asg) ?_
  refine wk_end ?_
  refine ac_next ?_
  refine aw_grp1 ?_
  refine wk_start ?_
  refine kv g0 (mv) ?_
  refine kv g0 (mv) ?_
  refine kv g0 (mv) ?_
  refine kv g0 (ixR 135 c8 (ltE (ls c7))) ?_
  refine kv g0 (faE 2 2) ?_
  refine kv g0 (faE 1 3) ?_
  refine ks g0 (stE 1 (e135 (⟨p4, wrap64 (p4 + 1), (⟨wrap64 ((wrap64 (p4 + 1)) + 1), wrap64 ((wrap64 ((wrap64 (p4 + 1)) + 1)) + 1), (rd_T135 q3 p5).f2.f2, (rd_T135 q3 p5).f2.f3⟩ : S131)⟩ : S135)) ((q3.set p5.toNat (⟨p4, wrap64 (p4 + 1), (⟨wrap64 ((wrap64 (p4 + 1)) + 1), wrap64 ((wrap64 ((wrap64 (p4 + 1)) + 1)) + 1), (rd_T135 q3 p5).f2.f2, (rd_T135 q3 p5).f2.f3⟩ : S131)⟩ : S135)).map e135) (setG c8 (ls c7)) setE2) ?_
  refine wk_end ?_
  refine ac_next ?_
  refine aw_grp1 ?_
  refine wk_start ?_
  refine kv g0 (mv) ?_
  refine kv g0 (add6) ?_
  refine kv g0 (asg) ?_
  refine wk_end ?_
  refine ac_next ?_
  refine aw_grp1 ?_
  refine wk_start ?_
  refine kv g0 (mv) ?_
  refine kv g0 (mv) ?_
  refine kv g0 (mv) ?_
  refine kv g0 (ixR 135 c8 (ltE (ls c7))) ?_
  refine kv g0 (faE 2 2) ?_
  refine kv g0 (faE 2 4) ?_
  refine ks g0 (stE 1 (e135 (⟨p4, wrap64 (p4 + 1), (⟨wrap64 ((wrap64 (p4 + 1)) + 1), wrap64 ((wrap64 ((wrap64 (p4 + 1)) + 1)) + 1), wrap64 ((wrap64 ((wrap64 ((wrap64 (p4 + 1)) + 1)) + 1)) + 1), (rd_T135 q3 p5).f2.f3⟩ : S131)⟩ : S135)) ((q3.set p5.toNat (⟨p4, wrap64 (p4 + 1), (⟨wrap64 ((wrap64 (p4 + 1)) + 1), wrap64 ((wrap64 ((wrap64 (p4 + 1)) + 1)) + 1), wrap64 ((wrap64 ((wrap64 ((wrap64 (p4 + 1)) + 1)) + 1)) + 1), (rd_T135 q3 p5).f2.f3⟩ : S131)⟩ : S135)).map e135) (setG c8 (ls c7)) setE2) ?_
  refine wk_end ?_
  refine ac_next ?_
  refine aw_grp1 ?_
  refine wk_start ?_
  refine kv g0 (mv) ?_
  refine kv g0 (add6) ?_
  refine kv g0 (asg) ?_
  refine wk_end ?_
  refine ac_next ?_
  refine aw_grp1 ?_
  refine wk_start ?_
  refine kv g0 (mv) ?_
  refine kv g0 (mv) ?_
  refine kv g0 (mv) ?_
  refine kv g0 (ixR 135 c8 (ltE (ls c7))) ?_
  refine kv g0 (faE 2 2) ?_
  refine kv g0 (faE 3 5) ?_
  refine ks g0 (stE 1 (e135 (⟨p4, wrap64 (p4 + 1), (⟨wrap64 ((wrap64 (p4 + 1)) + 1), wrap64 ((wrap64 ((wrap64 (p4 + 1)) + 1)) + 1), wrap64 ((wrap64 ((wrap64 ((wrap64 (p4 + 1)) + 1)) + 1)) + 1), wrap64 ((wrap64 ((wrap64 ((wrap64 ((wrap64 (p4 + 1)) + 1)) + 1)) + 1)) + 1)⟩ : S131)⟩ : S135)) ((q3.set p5.toNat (⟨p4, wrap64 (p4 + 1), (⟨wrap64 ((wrap64 (p4 + 1)) + 1), wrap64 ((wrap64 ((wrap64 (p4 + 1)) + 1)) + 1), wrap64 ((wrap64 ((wrap64 ((wrap64 (p4 + 1)) + 1)) + 1)) + 1), wrap64 ((wrap64 ((wrap64 ((wrap64 ((wrap64 (p4 + 1)) + 1)) + 1)) + 1)) + 1)⟩ : S131)⟩ : S135)).map e135) (setG c8 (ls c7)) setE2) ?_
  refine wk_end ?_
  refine ac_next ?_
  refine wk_start ?_
  refine kv g0 (mv) ?_
  refine kv g0 (add6) ?_
  refine kv g0 (asg) ?_
  refine wk_end ?_
  refine ac_blkN ?_
  refine ac_next ?_
  refine wk_start ?_
  refine kv g0 (mv) ?_
  refine kv g0 (add6) ?_
  refine kv g0 (asg) ?_
  refine wk_end ?_
  refine ac_k ?_
  exact acw hE [(0, 0)] 9999 (hK10 k6 (q3.set p5.toNat (⟨p4, wrap64 (p4 + 1), (⟨wrap64 ((wrap64 (p4 + 1)) + 1), wrap64 ((wrap64 ((wrap64 (p4 + 1)) + 1)) + 1), wrap64 ((wrap64 ((wrap64 ((wrap64 (p4 + 1)) + 1)) + 1)) + 1), wrap64 ((wrap64 ((wrap64 ((wrap64 ((wrap64 (p4 + 1)) + 1)) + 1)) + 1)) + 1)⟩ : S131)⟩ : S135)) (wrap64 ((wrap64 ((wrap64 ((wrap64 ((wrap64 ((wrap64 (p4 + 1)) + 1)) + 1)) + 1)) + 1)) + 1)) (wrap64 (p5 + 1)) (Nat.le_refl _) ⟨by omega, H⟩)
 rw [if_neg c7] at H
 refine aw_ifF ?_ (decide_eq_false c7)
 refine aw_exit ?_
 refine ac_then ?_
 refine ac_then ?_
 refine ac_hit rfl ?_
 refine ac_next ?_
 refine aw_grp1 ?_
 refine wk_start ?_
 refine kv g0 (mv) ?_
 refine kv g0 (asg) ?_
 refine wk_end ?_
 refine ac_next ?_
 refine aw_ret ?_
 obtain rfl := Option.some.inj H
 exact acr hE [.tmp 4] (.tmp .nil) (.one _) [(0, 0)] 9999
/-! laws_markKeeper -/
def laws_markKeeper.f (k : Nat) (l0_0 : List S133) (l0_1 : List Int) (l0_2 : List S135) (a0_3 : Int) (l0_4 : List Int) (a1 : Int) : Option (Int × (List S133) × (List Int) × (List S135) × (List Int)) := (laws_markEntryS.f k l0_0 a1).bind fun t1 => (laws_markIntS.f k l0_1 t1.1).bind fun t3 => (laws_markEarlyS.f k l0_2 t3.1).bind fun t5 => (laws_markIntS.f k l0_4 t5.1).bind fun t7 => some (t7.1, t1.2, t3.2, t5.2, t7.2)
theorem laws_markKeeper.ok {k : Nat} {l0_0 : List S133} {l0_1 : List Int} {l0_2 : List S135} {a0_3 : Int} {l0_4 : List Int} {a1 : Int} {r : Int × (List S133) × (List Int) × (List S135) × (List Int)} (H : laws_markKeeper.f k l0_0 l0_1 l0_2 a0_3 l0_4 a1 = some r) : ACalls Try.prog 32 [(0, .row 133 6 (l0_0.map e133)), (1, .row 3 1 (l0_1.map (eI .i64))), (2, .row 135 6 (l0_2.map e135)), (3, .row 3 1 (l0_4.map (eI .i64)))] [.agg [.row 0, .row 1, .row 2, .lit (.int .i64 a0_3), .row 3], .lit (.int .i64 a1)] [(0, .row 133 6 (r.2.1.map e133)), (1, .row 3 1 (r.2.2.1.map (eI .i64))), (2, .row 135 6 (r.2.2.2.1.map e135)), (3, .row 3 1 (r.2.2.2.2.map (eI .i64)))] (.lit (.int .i64 r.1)) := by
 refine acalls (fn := Try.f32) (nt := 22) Try.func32 rfl rfl (Nat.le_of_ble_eq_true rfl) fun E hE => ?_
 rw [laws_markKeeper.f] at H
 refine aw_grp1 ?_
 refine wk_start ?_
 refine kb g0 (bxA 4) ?_
 refine kv g0 (asg) ?_
 refine wk_end ?_
 refine ac_next ?_
 refine aw_grp1 ?_
 refine wk_start ?_
 refine kv g0 (faB 0 0) ?_
 refine kv g0 (ldB) ?_
 refine kv g0 (mv) ?_
 obtain ⟨t1, A2, H⟩ := of_bind H
 refine kcS1 8 (.lit (.int .i64 t1.1)) [(0, .row 133 6 (t1.2.map e133))] g0 (cal (laws_markEntryS.ok A2) [0] 9999 .n (hf := Try.func64)) rfl rfl ?_
 refine kv g0 (asg) ?_
 refine wk_end ?_
 refine ac_next ?_
 refine aw_grp1 ?_
 refine wk_start ?_
 refine kv g0 (faB 1 1) ?_
 refine kv g0 (ldB) ?_
 refine kv g0 (mv) ?_
 obtain ⟨t3, A4, H⟩ := of_bind H
 refine kcS1 12 (.lit (.int .i64 t3.1)) [(1, .row 3 1 (t3.2.map (eI .i64)))] g0 (cal (laws_markIntS.ok A4) [1] 9999 .n (hf := Try.func34)) rfl rfl ?_
 refine kv g0 (asg) ?_
 refine wk_end ?_
 refine ac_next ?_
 refine aw_grp1 ?_
 refine wk_start ?_
 refine kv g0 (faB 2 2) ?_
 refine kv g0 (ldB) ?_
 refine kv g0 (mv) ?_
 obtain ⟨t5, A6, H⟩ := of_bind H
 refine kcS1 16 (.lit (.int .i64 t5.1)) [(2, .row 135 6 (t5.2.map e135))] g0 (cal (laws_markEarlyS.ok A6) [2] 9999 .n (hf := Try.func65)) rfl rfl ?_
 refine kv g0 (asg) ?_
 refine wk_end ?_
 refine ac_next ?_
 refine aw_grp1 ?_
 refine wk_start ?_
 refine kv g0 (faB 4 4) ?_
 refine kv g0 (ldB) ?_
 refine kv g0 (mv) ?_
 obtain ⟨t7, A8, H⟩ := of_bind H
 refine kcS1 20 (.lit (.int .i64 t7.1)) [(3, .row 3 1 (t7.2.map (eI .i64)))] g0 (cal (laws_markIntS.ok A8) [3] 9999 .n (hf := Try.func34)) rfl rfl ?_
 refine kv g0 (asg) ?_
 refine wk_end ?_
 refine ac_next ?_
 refine aw_grp1 ?_
 refine wk_start ?_
 refine kv g0 (mv) ?_
 refine kv g0 (asg) ?_
 refine wk_end ?_
 refine ac_next ?_
 refine aw_ret ?_
 obtain rfl := Option.some.inj H
 exact acr hE [.tmp 4] (.tmp .nil) (.one _) [(0, 0), (1, 1), (2, 2), (3, 3)] 9999
/-! laws_markText -/
def laws_markText.l0 : Nat → Int → ByteArray → Option (ByteArray)
 | 0, _, _ => none
 | k7 + 1, p5, p6 => if p5 > 0 then if (strOfNums ([IntKind.u8.wrap (wrap64 (48 + (p5.tmod 10)))] : List Int)).size + p6.size ≤ 9223372036854775807 then laws_markText.l0 k7 (wrap64 (p5.tdiv 10)) ((strOfNums ([IntKind.u8.wrap (wrap64 (48 + (p5.tmod 10)))] : List Int)) ++ p6) else none else if (⟨#[109]⟩ : ByteArray).size + p6.size ≤ 9223372036854775807 then some ((⟨#[109]⟩ : ByteArray) ++ p6) else none
def laws_markText.f (k : Nat) (a0 : Int) : Option (ByteArray) := if a0 ≤ 0 then some (⟨#[109, 48]⟩ : ByteArray) else laws_markText.l0 k a0 ByteArray.empty
theorem laws_markText.ok {k : Nat} {a0 : Int} {r : ByteArray} (H : laws_markText.f k a0 = some r) : ACalls Try.prog 66 [] [.lit (.int .i64 a0)] [] (.lit (.string r)) := by
 refine acalls (fn := Try.f66) (nt := 20) Try.func66 rfl rfl (Nat.le_of_ble_eq_true rfl) fun E hE => ?_
 rw [laws_markText.f] at H
 refine aw_grp1 ?_
 refine wk_start ?_
 refine kv g0 (asg) ?_
 refine wk_end ?_
 refine ac_next ?_
 refine aw_grp1 ?_
 refine aw_grp1 ?_
 refine wk_start ?_
 refine kv g0 (mv) ?_
 refine kv g0 (leq) ?_
 refine wk_end ?_
 refine ac_next ?_
 by_cases c1 : a0 ≤ 0
 ·rw [if_pos c1] at H
  refine aw_ifT ?_ (decide_eq_true c1)
  refine aw_grp1 ?_
  refine wk_start ?_
  refine kv g0 (asg) ?_
  refine wk_end ?_
  refine ac_next ?_
  refine aw_ret ?_
  refine ac_thenR ?_
  obtain rfl := Option.some.inj H
  exact acr hE [.tmp 2] (.tmp .nil) (.one _) [] 9999
 rw [if_neg c1] at H
 refine aw_ifF ?_ (decide_eq_false c1)
 refine aw_skip ?_
 refine ac_next ?_
 refine aw_grp1 ?_
 refine wk_start ?_
 refine kv g0 (asg) ?_
 refine wk_end ?_
 refine ac_next ?_
 refine aw_grp1 ?_
 refine aw_block ?_
 refine aw_loop2 (fun (k_ : Nat) (p5 : Int) (p6 : ByteArray) => k_ ≤ k ∧ laws_markText.l0 k_ p5 p6 = some r) (fun (p5 : Int) (p6 : ByteArray) => ⟨[(0, .lit (.int .i64 p5)), (3, .lit (.string p6))], []⟩) k a0 ByteArray.empty ⟨Nat.le_refl _, H⟩ (fun K_ h_ => acw hE [] 9999 h_) (fun _ _ => by intro h_; have h_ := h_.2; rw [laws_markText.l0.eq_1] at h_; cases h_) ?_
 intro k7 p5 p6 hq_ K10 hK11
 have hk7 := hq_.1
 have H := hq_.2
 clear hq_
 rw [laws_markText.l0.eq_2] at H
 refine aw_grp1 ?_
 refine aw_grp1 ?_
 refine wk_start ?_
 refine kv g0 (mv) ?_
 refine kv g0 (gtr) ?_
 refine wk_end ?_
 refine ac_next ?_
 by_cases c8 : p5 > 0
 ·rw [if_pos c8] at H
  refine aw_ifT ?_ (decide_eq_true c8)
  refine aw_skip ?_
  refine ac_next ?_
  refine aw_block ?_
  refine aw_grp1 ?_
  refine wk_start ?_
  refine kv g0 (mv) ?_
  refine kv g0 (rem (by decide : (10 : Int) ≠ 0)) ?_
  refine kv g0 (add6) ?_
  refine kv g0 (cnv .u8) ?_
  refine kb g0 (bsl 0 5 1 [.int .u8 0] (([IntKind.u8.wrap (wrap64 (48 + (p5.tmod 10)))] : List Int).map (eI .u8))) ?_
  refine kv g0 (cvB (.row rfl)) ?_
  refine kv g0 (mv) ?_
  obtain ⟨c9, H⟩ := of_if H
  refine kv g0 (cat c9) ?_
  refine kv g0 (asg) ?_
  refine wk_end ?_
  refine ac_next ?_
  refine wk_start ?_
  refine kv g0 (mv) ?_
  refine kv g0 (quo6 (by decide : (10 : Int) ≠ 0)) ?_
  refine kv g0 (asg) ?_
  refine wk_end ?_
  refine ac_blkN ?_
  refine ac_k ?_
  exact acw hE [] 9999 (hK11 k7 (wrap64 (p5.tdiv 10)) ((strOfNums ([IntKind.u8.wrap (wrap64 (48 + (p5.tmod 10)))] : List Int)) ++ p6) (Nat.le_refl _) ⟨by omega, H⟩)
 rw [if_neg c8] at H
 refine aw_ifF ?_ (decide_eq_false c8)
 refine aw_exit ?_
 refine ac_then ?_
 refine ac_then ?_
 refine ac_hit rfl ?_
 refine ac_next ?_
 refine aw_grp1 ?_
 refine wk_start ?_
 refine kv g0 (mv) ?_
 obtain ⟨c12, H⟩ := of_if H
 refine kv g0 (cat c12) ?_
 refine kv g0 (asg) ?_
 refine wk_end ?_
 refine ac_next ?_
 refine aw_ret ?_
 obtain rfl := Option.some.inj H
 exact acr hE [.tmp 2] (.tmp .nil) (.one _) [] 9999
/-! laws_markLetterS -/
def laws_markLetterS.l0 : Nat → (List S99) → Int → Int → Option (Int × (List S99))
 | 0, _, _, _ => none
 | k8 + 1, q5, p6, p7 => if p7 < (q5.length : Int) then if 0 ≤ p7 then (laws_markText.f k8 (wrap64 (p6 + 1))).bind fun t11 => laws_markLetterS.l0 k8 (q5.set p7.toNat (⟨(p6.tmod 3) == 0, t11, ((wrap64 ((wrap64 (p6 + 1)) + 1)).tmod 3) == 0⟩ : S99)) (wrap64 ((wrap64 ((wrap64 (p6 + 1)) + 1)) + 1)) (wrap64 (p7 + 1)) else none else some (p6, q5)
def laws_markLetterS.f (k : Nat) (l0 : List S99) (a1 : Int) : Option (Int × (List S99)) := laws_markLetterS.l0 k l0 a1 0
theorem laws_markLetterS.ok {k : Nat} {l0 : List S99} {a1 : Int} {r : Int × (List S99)} (H : laws_markLetterS.f k l0 a1 = some r) : ACalls Try.prog 33 [(0, .row 99 3 (l0.map e99))] [.row 0, .lit (.int .i64 a1)] [(0, .row 99 3 (r.2.map e99))] (.lit (.int .i64 r.1)) := by
 refine acalls (fn := Try.f33) (nt := 39) Try.func33 rfl rfl (Nat.le_of_ble_eq_true rfl) fun E hE => ?_
 rw [laws_markLetterS.f] at H
 refine aw_grp1 ?_
 refine wk_start ?_
 refine kv g0 (asg) ?_
 refine wk_end ?_
 refine ac_next ?_
 refine aw_grp1 ?_
 refine aw_grp1 ?_
 refine wk_start ?_
 refine kv g0 (asg) ?_
 refine wk_end ?_
 refine ac_next ?_
 refine aw_block ?_
 refine aw_loop3 (fun (k_ : Nat) (q5 : List S99) (p6 : Int) (p7 : Int) => k_ ≤ k ∧ laws_markLetterS.l0 k_ q5 p6 p7 = some r) (fun (q5 : List S99) (p6 : Int) (p7 : Int) => ⟨[(0, .row 0), (1, .lit (.int .i64 p6)), (5, .lit (.int .i64 p7))], [(0, .row 99 3 (q5.map e99))]⟩) k l0 a1 0 ⟨Nat.le_refl _, H⟩ (fun K_ h_ => acw hE [(0, 0)] 9999 h_) (fun _ _ _ => by intro h_; have h_ := h_.2; rw [laws_markLetterS.l0.eq_1] at h_; cases h_) ?_
 intro k8 q5 p6 p7 hq_ K13 hK14
 have hk8 := hq_.1
 have H := hq_.2
 clear hq_
 rw [laws_markLetterS.l0.eq_2] at H
 refine aw_grp1 ?_
 refine aw_grp1 ?_
 refine wk_start ?_
 refine kv g0 (mv) ?_
 refine kv g0 (mv) ?_
 refine kv g0 (lnR lenE) ?_
 refine kv g0 (lss) ?_
 refine wk_end ?_
 refine ac_next ?_
 by_cases c9 : p7 < (q5.length : Int)
 ·rw [if_pos c9] at H
  refine aw_ifT ?_ (decide_eq_true c9)
  refine aw_skip ?_
  refine ac_next ?_
  refine aw_grp1 ?_
  refine aw_block ?_
  refine aw_grp1 ?_
  refine wk_start ?_
  refine kv g0 (mv) ?_
  refine kv g0 (mv) ?_
  refine kv g0 (mv) ?_
  refine kv g0 (rem (by decide : (3 : Int) ≠ 0)) ?_
  refine kv g0 (eql) ?_
  obtain ⟨c10, H⟩ := of_if H
  refine kv g0 (ixR 99 c10 (ltE c9)) ?_
  refine kv g0 (faE 0 0) ?_
  refine ks g0 (stE 1 (e99 (⟨(p6.tmod 3) == 0, (rd_T99 q5 p7).f1, (rd_T99 q5 p7).f2⟩ : S99)) ((q5.set p7.toNat (⟨(p6.tmod 3) == 0, (rd_T99 q5 p7).f1, (rd_T99 q5 p7).f2⟩ : S99)).map e99) (getE (z := z99) c10 c9) setE) ?_
  refine wk_end ?_
  refine ac_next ?_
  refine aw_grp1 ?_
  refine wk_start ?_
  refine kv g0 (mv) ?_
  refine kv g0 (add6) ?_
  refine kv g0 (asg) ?_
  refine wk_end ?_
  refine ac_next ?_
  refine aw_grp1 ?_
  refine wk_start ?_
  refine kv g0 (mv) ?_
  refine kv g0 (mv) ?_
  refine kv g0 (mv) ?_
  obtain ⟨t11, A12, H⟩ := of_bind H
  refine kcS0 24 (.lit (.string t11)) [] g0 (cal (laws_markText.ok A12) [] 9999 .n (hf := Try.func66)) rfl rfl ?_
  refine kv g0 (ixR 99 c10 (ltE (ls c9))) ?_
  refine kv g0 (faE 1 1) ?_
  refine ks g0 (stE 1 (e99 (⟨(p6.tmod 3) == 0, t11, (rd_T99 q5 p7).f2⟩ : S99)) ((q5.set p7.toNat (⟨(p6.tmod 3) == 0, t11, (rd_T99 q5 p7).f2⟩ : S99)).map e99) (setG c10 (ls c9)) setE2) ?_
  refine wk_end ?_
  refine ac_next ?_
  refine aw_grp1 ?_
  refine wk_start ?_
  refine kv g0 (mv) ?_
  refine kv g0 (add6) ?_
  refine kv g0 (asg) ?_
  refine wk_end ?_
  refine ac_next ?_
  refine aw_grp1 ?_
  refine wk_start ?_
  refine kv g0 (mv) ?_
  refine kv g0 (mv) ?_
  refine kv g0 (mv) ?_
  refine kv g0 (rem (by decide : (3 : Int) ≠ 0)) ?_
  refine kv g0 (eql) ?_
  refine kv g0 (ixR 99 c10 (ltE (ls c9))) ?_
  refine kv g0 (faE 2 2) ?_
  refine ks g0 (stE 1 (e99 (⟨(p6.tmod 3) == 0, t11, ((wrap64 ((wrap64 (p6 + 1)) + 1)).tmod 3) == 0⟩ : S99)) ((q5.set p7.toNat (⟨(p6.tmod 3) == 0, t11, ((wrap64 ((wrap64 (p6 + 1)) + 1)).tmod 3) == 0⟩ : S99)).map e99) (setG c10 (ls c9)) setE2) ?_
  refine wk_end ?_
  refine ac_next ?_
  refine wk_start ?_
  refine kv g0 (mv) ?_
  refine kv g0 (add6) ?_
  refine kv g0 (asg) ?_
  refine wk_end ?_
  refine ac_blkN ?_
  refine ac_next ?_
  refine wk_start ?_
  refine kv g0 (mv) ?_
  refine kv g0 (add6) ?_
  refine kv g0 (asg) ?_
  refine wk_end ?_
  refine ac_k ?_
  exact acw hE [(0, 0)] 9999 (hK14 k8 (q5.set p7.toNat (⟨(p6.tmod 3) == 0, t11, ((wrap64 ((wrap64 (p6 + 1)) + 1)).tmod 3) == 0⟩ : S99)) (wrap64 ((wrap64 ((wrap64 (p6 + 1)) + 1)) + 1)) (wrap64 (p7 + 1)) (Nat.le_refl _) ⟨by omega, H⟩)
 rw [if_neg c9] at H
 refine aw_ifF ?_ (decide_eq_false c9)
 refine aw_exit ?_
 refine ac_then ?_
 refine ac_then ?_
 refine ac_hit rfl ?_
 refine ac_next ?_
 refine aw_grp1 ?_
 refine wk_start ?_
 refine kv g0 (mv) ?_
 refine kv g0 (asg) ?_
 refine wk_end ?_
 refine ac_next ?_
 refine aw_ret ?_
 obtain rfl := Option.some.inj H
 exact acr hE [.tmp 4] (.tmp .nil) (.one _) [(0, 0)] 9999
/-! laws_markSeenS -/
def laws_markSeenS.l0 : Nat → (List S83) → Int → Int → Option (Int × (List S83))
 | 0, _, _, _ => none
 | k6 + 1, q3, p4, p5 => if p5 < (q3.length : Int) then if 0 ≤ p5 then laws_markSeenS.l0 k6 (q3.set p5.toNat (⟨p4, wrap64 (p4 + 1), wrap64 ((wrap64 (p4 + 1)) + 1), ((wrap64 ((wrap64 ((wrap64 (p4 + 1)) + 1)) + 1)).tmod 3) == 0⟩ : S83)) (wrap64 ((wrap64 ((wrap64 ((wrap64 (p4 + 1)) + 1)) + 1)) + 1)) (wrap64 (p5 + 1)) else none else some (p4, q3)
def laws_markSeenS.f (k : Nat) (l0 : List S83) (a1 : Int) : Option (Int × (List S83)) := laws_markSeenS.l0 k l0 a1 0
theorem laws_markSeenS.ok {k : Nat} {l0 : List S83} {a1 : Int} {r : Int × (List S83)} (H : laws_markSeenS.f k l0 a1 = some r) : ACalls Try.prog 15 [(0, .row 83 4 (l0.map e83))] [.row 0, .lit (.int .i64 a1)] [(0, .row 83 4 (r.2.map e83))] (.lit (.int .i64 r.1)) := by
 refine acalls (fn := Try.f15) (nt := 43) Try.func15 rfl rfl (Nat.le_of_ble_eq_true rfl) fun E hE => ?_
 rw [laws_markSeenS.f] at H
 refine aw_grp1 ?_
 refine wk_start ?_
 refine kv g0 (asg) ?_
 refine wk_end ?_
 refine ac_next ?_
 refine aw_grp1 ?_
 refine aw_grp1 ?_
 refine wk_start ?_
 refine kv g0 (asg) ?_
 refine wk_end ?_
 refine ac_next ?_
 refine aw_block ?_
 refine aw_loop3 (fun (k_ : Nat) (q3 : List S83) (p4 : Int) (p5 : Int) => k_ ≤ k ∧ laws_markSeenS.l0 k_ q3 p4 p5 = some r) (fun (q3 : List S83) (p4 : Int) (p5 : Int) => ⟨[(0, .row 0), (1, .lit (.int .i64 p4)), (5, .lit (.int .i64 p5))], [(0, .row 83 4 (q3.map e83))]⟩) k l0 a1 0 ⟨Nat.le_refl _, H⟩ (fun K_ h_ => acw hE [(0, 0)] 9999 h_) (fun _ _ _ => by intro h_; have h_ := h_.2; rw [laws_markSeenS.l0.eq_1] at h_; cases h_) ?_
 intro k6 q3 p4 p5 hq_ K9 hK10
 have hk6 := hq_.1
 have H := hq_.2
 clear hq_
 rw [laws_markSeenS.l0.eq_2] at H
 refine aw_grp1 ?_
 refine aw_grp1 ?_
 refine wk_start ?_
 refine kv g0 (mv) ?_
 refine kv g0 (mv) ?_
 refine kv g0 (lnR lenE) ?_
 refine kv g0 (lss) ?_
 refine wk_end ?_
 refine ac_next ?_
 by_cases c7 : p5 < (q3.length : Int)
 ·rw [if_pos c7] at H
  refine aw_ifT ?_ (decide_eq_true c7)
  refine aw_skip ?_
  refine ac_next ?_
  refine aw_grp1 ?_
  refine aw_block ?_
  refine aw_grp1 ?_
  refine wk_start ?_
  refine kv g0 (mv) ?_
  refine kv g0 (mv) ?_
  refine kv g0 (mv) ?_
  obtain ⟨c8, H⟩ := of_if H
  refine kv g0 (ixR 83 c8 (ltE c7)) ?_
  refine kv g0 (faE 0 0) ?_
  refine ks g0 (stE 1 (e83 (⟨p4, (rd_T83 q3 p5).f1, (rd_T83 q3 p5).f2, (rd_T83 q3 p5).f3⟩ : S83)) ((q3.set p5.toNat (⟨p4, (rd_T83 q3 p5).f1, (rd_T83 q3 p5).f2, (rd_T83 q3 p5).f3⟩ : S83)).map e83) (getE (z := z83) c8 c7) setE) ?_
  refine wk_end ?_
  refine ac_next ?_
  refine aw_grp1 ?_
  refine wk_start ?_
  refine kv g0 (mv) ?_
  refine kv g0 (add6) ?_
  refine kv g0 (asg) ?_
  refine wk_end ?_
  refine ac_next ?_
  refine aw_grp1 ?_
  refine wk_start ?_
  refine kv g0 (mv) ?_
  refine kv g0 (mv) ?_
  refine kv g0 (mv) ?_
  refine kv g0 (ixR 83 c8 (ltE (ls c7))) ?_
  refine kv g0 (faE 1 1) ?_
  refine ks g0 (stE 1 (e83 (⟨p4, wrap64 (p4 + 1), (rd_T83 q3 p5).f2, (rd_T83 q3 p5).f3⟩ : S83)) ((q3.set p5.toNat (⟨p4, wrap64 (p4 + 1), (rd_T83 q3 p5).f2, (rd_T83 q3 p5).f3⟩ : S83)).map e83) (setG c8 (ls c7)) setE2) ?_
  refine wk_end ?_
  refine ac_next ?_
  refine aw_grp1 ?_
  refine wk_start ?_
  refine kv g0 (mv) ?_
  refine kv g0 (add6) ?_
  refine kv g0 (asg) ?_
  refine wk_end ?_
  refine ac_next ?_
  refine aw_grp1 ?_
  refine wk_start ?_
  refine kv g0 (mv) ?_
  refine kv g0 (mv) ?_
  refine kv g0 (mv) ?_
  refine kv g0 (ixR 83 c8 (ltE (ls c7))) ?_
  refine kv g0 (faE 2 2) ?_
  refine ks g0 (stE 1 (e83 (⟨p4, wrap64 (p4 + 1), wrap64 ((wrap64 (p4 + 1)) + 1), (rd_T83 q3 p5).f3⟩ : S83)) ((q3.set p5.toNat (⟨p4, wrap64 (p4 + 1), wrap64 ((wrap64 (p4 + 1)) + 1), (rd_T83 q3 p5).f3⟩ : S83)).map e83) (setG c8 (ls c7)) setE2) ?_
  refine wk_end ?_
  refine ac_next ?_
  refine aw_grp1 ?_
  refine wk_start ?_
  refine kv g0 (mv) ?_
  refine kv g0 (add6) ?_
  refine kv g0 (asg) ?_
  refine wk_end ?_
  refine ac_next ?_
  refine aw_grp1 ?_
  refine wk_start ?_
  refine kv g0 (mv) ?_
  refine kv g0 (mv) ?_
  refine kv g0 (mv) ?_
  refine kv g0 (rem (by decide : (3 : Int) ≠ 0)) ?_
  refine kv g0 (eql) ?_
  refine kv g0 (ixR 83 c8 (ltE (ls c7))) ?_
  refine kv g0 (faE 3 3) ?_
  refine ks g0 (stE 1 (e83 (⟨p4, wrap64 (p4 + 1), wrap64 ((wrap64 (p4 + 1)) + 1), ((wrap64 ((wrap64 ((wrap64 (p4 + 1)) + 1)) + 1)).tmod 3) == 0⟩ : S83)) ((q3.set p5.toNat (⟨p4, wrap64 (p4 + 1), wrap64 ((wrap64 (p4 + 1)) + 1), ((wrap64 ((wrap64 ((wrap64 (p4 + 1)) + 1)) + 1)).tmod 3) == 0⟩ : S83)).map e83) (setG c8 (ls c7)) setE2) ?_
  refine wk_end ?_
  refine ac_next ?_
  refine wk_start ?_
  refine kv g0 (mv) ?_
  refine kv g0 (add6) ?_
  refine kv g0 (asg) ?_
  refine wk_end ?_
  refine ac_blkN ?_
  refine ac_next ?_
  refine wk_start ?_
  refine kv g0 (mv) ?_
  refine kv g0 (add6) ?_
  refine kv g0 (asg) ?_
  refine wk_end ?_
  refine ac_k ?_
  exact acw hE [(0, 0)] 9999 (hK10 k6 (q3.set p5.toNat (⟨p4, wrap64 (p4 + 1), wrap64 ((wrap64 (p4 + 1)) + 1), ((wrap64 ((wrap64 ((wrap64 (p4 + 1)) + 1)) + 1)).tmod 3) == 0⟩ : S83)) (wrap64 ((wrap64 ((wrap64 ((wrap64 (p4 + 1)) + 1)) + 1)) + 1)) (wrap64 (p5 + 1)) (Nat.le_refl _) ⟨by omega, H⟩)
 rw [if_neg c7] at H
 refine aw_ifF ?_ (decide_eq_false c7)
 refine aw_exit ?_
 refine ac_then ?_
 refine ac_then ?_
 refine ac_hit rfl ?_
 refine ac_next ?_
 refine aw_grp1 ?_
 refine wk_start ?_
 refine kv g0 (mv) ?_
 refine kv g0 (asg) ?_
 refine wk_end ?_
 refine ac_next ?_
 refine aw_ret ?_
 obtain rfl := Option.some.inj H
 exact acr hE [.tmp 4] (.tmp .nil) (.one _) [(0, 0)] 9999
/-! laws_markWorld -/
def laws_markWorld.f (k : Nat) (l0_0 : List (List (List S151))) (l0_1 : List S59) (l0_2 : List S62) (l0_3 : List S133) (l0_4 : List Int) (l0_5 : List S135) (a0_6 : Int) (l0_7 : List Int) (l0_8 : List S99) (a0_9 : Int) (l0_10 : List Int) (l0_11 : List S83) (a1 : Int) : Option (Int × (List (List (List S151))) × (List S59) × (List S62) × (List S133) × (List Int) × (List S135) × (List Int) × (List S99) × (List Int) × (List S83)) := (laws_markInsSSS.f k l0_0 a1).bind fun t1 => (laws_markRingS.f k l0_1 t1.1).bind fun t3 => (laws_markSenderS.f k l0_2 t3.1).bind fun t5 => (laws_markKeeper.f k l0_3 l0_4 l0_5 a0_6 l0_7 t5.1).bind fun t7 => (laws_markLetterS.f k l0_8 t7.1).bind fun t9 => (laws_markIntS.f k l0_10 t9.1).bind fun t11 => (laws_markSeenS.f k l0_11 t11.1).bind fun t13 => some (t13.1, t1.2, t3.2, t5.2, t7.2.1, t7.2.2.1, t7.2.2.2.1, t7.2.2.2.2, t9.2, t11.2, t13.2)
theorem laws_markWorld.ok {k : Nat} {l0_0 : List (List (List S151))} {l0_1 : List S59} {l0_2 : List S62} {l0_3 : List S133} {l0_4 : List Int} {l0_5 : List S135} {a0_6 : Int} {l0_7 : List Int} {l0_8 : List S99} {a0_9 : Int} {l0_10 : List Int} {l0_11 : List S83} {a1 : Int} {r : Int × (List (List (List S151))) × (List S59) × (List S62) × (List S133) × (List Int) × (List S135) × (List Int) × (List S99) × (List Int) × (List S83)} (H : laws_markWorld.f k l0_0 l0_1 l0_2 l0_3 l0_4 l0_5 a0_6 l0_7 l0_8 a0_9 l0_10 l0_11 a1 = some r) : ACalls Try.prog 8 [(0, .drow false [.own 127 [.own 151 []]] 56 1 (l0_0.map (eL 1 (eL 4 (e151))))), (1, .drow false ds59 59 4 (l0_1.map e59)), (2, .drow false ds62 62 5 (l0_2.map e62)), (3, .row 133 6 (l0_3.map e133)), (4, .row 3 1 (l0_4.map (eI .i64))), (5, .row 135 6 (l0_5.map e135)), (6, .row 3 1 (l0_7.map (eI .i64))), (7, .row 99 3 (l0_8.map e99)), (8, .row 3 1 (l0_10.map (eI .i64))), (9, .row 83 4 (l0_11.map e83))] [.agg [.row 0, .row 1, .row 2, .row 3, .row 4, .row 5, .lit (.int .i64 a0_6), .row 6, .row 7, .lit (.int .i64 a0_9), .row 8, .row 9], .lit (.int .i64 a1)] [(0, .drow false [.own 127 [.own 151 []]] 56 1 (r.2.1.map (eL 1 (eL 4 (e151))))), (1, .drow false ds59 59 4 (r.2.2.1.map e59)), (2, .drow false ds62 62 5 (r.2.2.2.1.map e62)), (3, .row 133 6 (r.2.2.2.2.1.map e133)), (4, .row 3 1 (r.2.2.2.2.2.1.map (eI .i64))), (5, .row 135 6 (r.2.2.2.2.2.2.1.map e135)), (6, .row 3 1 (r.2.2.2.2.2.2.2.1.map (eI .i64))), (7, .row 99 3 (r.2.2.2.2.2.2.2.2.1.map e99)), (8, .row 3 1 (r.2.2.2.2.2.2.2.2.2.1.map (eI .i64))), (9, .row 83 4 (r.2.2.2.2.2.2.2.2.2.2.map e83))] (.lit (.int .i64 r.1)) := by
 refine acalls (fn := Try.f8) (nt := 34) Try.func8 rfl rfl (Nat.le_of_ble_eq_true rfl) fun E hE => ?_
 rw [laws_markWorld.f] at H
 refine aw_grp1 ?_
 refine wk_start ?_
 refine kb g0 (bxA 10) ?_
 refine kv g0 (asg) ?_
 refine wk_end ?_
 refine ac_next ?_
 refine aw_grp1 ?_
 refine wk_start ?_
 refine kv g0 (faB 0 0) ?_
 refine kv g0 (ldB) ?_
 refine kv g0 (mv) ?_
 obtain ⟨t1, A2, H⟩ := of_bind H
 refine kcS1 8 (.lit (.int .i64 t1.1)) [(0, .drow false [.own 127 [.own 151 []]] 56 1 (t1.2.map (eL 1 (eL 4 (e151)))))] g0 (cal (laws_markInsSSS.ok A2) [0] 9999 .n (hf := Try.func29)) rfl rfl ?_
 refine kv g0 (asg) ?_
 refine wk_end ?_
 refine ac_next ?_
 refine aw_grp1 ?_
 refine wk_start ?_
 refine kv g0 (faB 1 1) ?_
 refine kv g0 (ldB) ?_
 refine kv g0 (mv) ?_
 obtain ⟨t3, A4, H⟩ := of_bind H
 refine kcS1 12 (.lit (.int .i64 t3.1)) [(1, .drow false ds59 59 4 (t3.2.map e59))] g0 (cal (laws_markRingS.ok A4) [1] 9999 .n (hf := Try.func30)) rfl rfl ?_
 refine kv g0 (asg) ?_
 refine wk_end ?_
 refine ac_next ?_
 refine aw_grp1 ?_
 refine wk_start ?_
 refine kv g0 (faB 2 2) ?_
 refine kv g0 (ldB) ?_
 refine kv g0 (mv) ?_
 obtain ⟨t5, A6, H⟩ := of_bind H
 refine kcS1 16 (.lit (.int .i64 t5.1)) [(2, .drow false ds62 62 5 (t5.2.map e62))] g0 (cal (laws_markSenderS.ok A6) [2] 9999 .n (hf := Try.func31)) rfl rfl ?_
 refine kv g0 (asg) ?_
 refine wk_end ?_
 refine ac_next ?_
 refine aw_grp1 ?_
 refine wk_start ?_
 refine kv g0 (faB 3 3) ?_
 refine kv g0 (ldBA 5 [.row 3, .row 4, .row 5, .lit (.int .i64 a0_6), .row 6]) ?_
 refine kv g0 (mv) ?_
 obtain ⟨t7, A8, H⟩ := of_bind H
 refine kcS4 20 (.lit (.int .i64 t7.1)) [(3, .row 133 6 (t7.2.1.map e133)), (4, .row 3 1 (t7.2.2.1.map (eI .i64))), (5, .row 135 6 (t7.2.2.2.1.map e135)), (6, .row 3 1 (t7.2.2.2.2.map (eI .i64)))] g0 (cal (laws_markKeeper.ok A8) [3, 4, 5, 6] 9999 .n (hf := Try.func32)) rfl rfl ?_
 refine kv g0 (asg) ?_
 refine wk_end ?_
 refine ac_next ?_
 refine aw_grp1 ?_
 refine wk_start ?_
 refine kv g0 (faB 8 8) ?_
 refine kv g0 (ldB) ?_
 refine kv g0 (mv) ?_
 obtain ⟨t9, A10, H⟩ := of_bind H
 refine kcS1 24 (.lit (.int .i64 t9.1)) [(7, .row 99 3 (t9.2.map e99))] g0 (cal (laws_markLetterS.ok A10) [7] 9999 .n (hf := Try.func33)) rfl rfl ?_
 refine kv g0 (asg) ?_
 refine wk_end ?_
 refine ac_next ?_
 refine aw_grp1 ?_
 refine wk_start ?_
 refine kv g0 (faB 10 10) ?_
 refine kv g0 (ldB) ?_
 refine kv g0 (mv) ?_
 obtain ⟨t11, A12, H⟩ := of_bind H
 refine kcS1 28 (.lit (.int .i64 t11.1)) [(8, .row 3 1 (t11.2.map (eI .i64)))] g0 (cal (laws_markIntS.ok A12) [8] 9999 .n (hf := Try.func34)) rfl rfl ?_
 refine kv g0 (asg) ?_
 refine wk_end ?_
 refine ac_next ?_
 refine aw_grp1 ?_
 refine wk_start ?_
 refine kv g0 (faB 11 11) ?_
 refine kv g0 (ldB) ?_
 refine kv g0 (mv) ?_
 obtain ⟨t13, A14, H⟩ := of_bind H
 refine kcS1 32 (.lit (.int .i64 t13.1)) [(9, .row 83 4 (t13.2.map e83))] g0 (cal (laws_markSeenS.ok A14) [9] 9999 .n (hf := Try.func15)) rfl rfl ?_
 refine kv g0 (asg) ?_
 refine wk_end ?_
 refine ac_next ?_
 refine aw_grp1 ?_
 refine wk_start ?_
 refine kv g0 (mv) ?_
 refine kv g0 (asg) ?_
 refine wk_end ?_
 refine ac_next ?_
 refine aw_ret ?_
 obtain rfl := Option.some.inj H
 exact acr hE [.tmp 4] (.tmp .nil) (.one _) [(0, 0), (1, 1), (2, 2), (3, 3), (4, 4), (5, 5), (6, 6), (7, 7), (8, 8), (9, 9)] 9999
/-! laws_heldInsS -/
def laws_heldInsS.l0 : Nat → (List S151) → Int → Int → Option (Int)
 | 0, _, _, _ => none
 | k9 + 1, l0, p7, p8 => if p8 < (l0.length : Int) then if 0 ≤ p8 then if ((rd_T151 l0 p8).f0) = p7 then if ((rd_T151 l0 p8).f1) = (wrap64 (p7 + 1)) then if ((rd_T151 l0 p8).f2) = (wrap64 ((wrap64 (p7 + 1)) + 1)) then if ((rd_T151 l0 p8).f3) = (wrap64 ((wrap64 ((wrap64 (p7 + 1)) + 1)) + 1)) then laws_heldInsS.l0 k9 l0 (wrap64 ((wrap64 ((wrap64 ((wrap64 (p7 + 1)) + 1)) + 1)) + 1)) (wrap64 (p8 + 1)) else some (-1) else some (-1) else some (-1) else some (-1) else none else some p7
def laws_heldInsS.f (k : Nat) (l0 : List S151) (a1 : Int) : Option (Int) := laws_heldInsS.l0 k l0 a1 0
theorem laws_heldInsS.ok {k : Nat} {l0 : List S151} {a1 : Int} {r : Int} (H : laws_heldInsS.f k l0 a1 = some r) : ACalls Try.prog 89 [] [.sl .o 4 (l0.map e151), .lit (.int .i64 a1)] [] (.lit (.int .i64 r)) := by
 refine acalls (fn := Try.f89) (nt := 49) Try.func89 rfl rfl (Nat.le_of_ble_eq_true rfl) fun E hE => ?_
 rw [laws_heldInsS.f] at H
 refine aw_grp1 ?_
 refine wk_start ?_
 refine kv g0 (asg) ?_
 refine wk_end ?_
 refine ac_next ?_
 refine aw_grp1 ?_
 refine aw_grp1 ?_
 refine wk_start ?_
 refine kv g0 (asg) ?_
 refine wk_end ?_
 refine ac_next ?_
 refine aw_block ?_
 refine aw_loop2 (fun (k_ : Nat) (p7 : Int) (p8 : Int) => k_ ≤ k ∧ laws_heldInsS.l0 k_ l0 p7 p8 = some r) (fun (p7 : Int) (p8 : Int) => ⟨[(0, .sl .o 4 (l0.map e151)), (1, .lit (.int .i64 p7)), (5, .lit (.int .i64 p8))], []⟩) k a1 0 ⟨Nat.le_refl _, H⟩ (fun K_ h_ => acw hE [] 9999 h_) (fun _ _ => by intro h_; have h_ := h_.2; rw [laws_heldInsS.l0.eq_1] at h_; cases h_) ?_
 intro k9 p7 p8 hq_ K16 hK17
 have hk9 := hq_.1
 have H := hq_.2
 clear hq_
 rw [laws_heldInsS.l0.eq_2] at H
 refine aw_grp1 ?_
 refine aw_grp1 ?_
 refine wk_start ?_
 refine kv g0 (mv) ?_
 refine kv g0 (mv) ?_
 refine kv g0 (lnS lenE) ?_
 refine kv g0 (lss) ?_
 refine wk_end ?_
 refine ac_next ?_
 by_cases c10 : p8 < (l0.length : Int)
 ·rw [if_pos c10] at H
  refine aw_ifT ?_ (decide_eq_true c10)
  refine aw_skip ?_
  refine ac_next ?_
  refine aw_grp1 ?_
  refine aw_block ?_
  refine aw_grp1 ?_
  refine aw_grp1 ?_
  refine wk_start ?_
  refine kv g0 (mv) ?_
  refine kv g0 (mv) ?_
  obtain ⟨c11, H⟩ := of_if H
  refine kv g0 (ixS 151 (e151 (rd_T151 l0 p8)) c11 (getE (z := z151) c11 c10)) ?_
  refine kv g0 (faR 0 0) ?_
  refine kv g0 (ldR (.lit (.int .i64 ((rd_T151 l0 p8).f0)))) ?_
  refine kv g0 (mv) ?_
  refine kv g0 (neq) ?_
  refine wk_end ?_
  refine ac_next ?_
  by_cases c12 : ((rd_T151 l0 p8).f0) = p7
  ·rw [if_pos c12] at H
   refine aw_ifF ?_ (eM c12)
   refine aw_skip ?_
   refine ac_next ?_
   refine aw_grp1 ?_
   refine wk_start ?_
   refine kv g0 (mv) ?_
   refine kv g0 (add6) ?_
   refine kv g0 (asg) ?_
   refine wk_end ?_
   refine ac_next ?_
   refine aw_grp1 ?_
   refine aw_grp1 ?_
   refine wk_start ?_
   refine kv g0 (mv) ?_
   refine kv g0 (mv) ?_
   refine kv g0 (ixS 151 (e151 (rd_T151 l0 p8)) c11 (getE (z := z151) c11 c10)) ?_
   refine kv g0 (faR 1 1) ?_
   refine kv g0 (ldR (.lit (.int .i64 ((rd_T151 l0 p8).f1)))) ?_
   refine kv g0 (mv) ?_
   refine kv g0 (neq) ?_
   refine wk_end ?_
   refine ac_next ?_
   by_cases c13 : ((rd_T151 l0 p8).f1) = (wrap64 (p7 + 1))
   ·rw [if_pos c13] at H
    refine aw_ifF ?_ (eM c13)
    refine aw_skip ?_
    refine ac_next ?_
    refine aw_grp1 ?_
    refine wk_start ?_
    refine kv g0 (mv) ?_
    refine kv g0 (add6) ?_
    refine kv g0 (asg) ?_
    refine wk_end ?_
    refine ac_next ?_
    refine aw_grp1 ?_
    refine aw_grp1 ?_
    refine wk_start ?_
    refine kv g0 (mv) ?_
    refine kv g0 (mv) ?_
    refine kv g0 (ixS 151 (e151 (rd_T151 l0 p8)) c11 (getE (z := z151) c11 c10)) ?_
    refine kv g0 (faR 2 2) ?_
    refine kv g0 (ldR (.lit (.int .i64 ((rd_T151 l0 p8).f2)))) ?_
    refine kv g0 (mv) ?_
    refine kv g0 (neq) ?_
    refine wk_end ?_
    refine ac_next ?_
    by_cases c14 : ((rd_T151 l0 p8).f2) = (wrap64 ((wrap64 (p7 + 1)) + 1))
    ·rw [if_pos c14] at H
     refine aw_ifF ?_ (eM c14)
     refine aw_skip ?_
     refine ac_next ?_
     refine aw_grp1 ?_
     refine wk_start ?_
     refine kv g0 (mv) ?_
     refine kv g0 (add6) ?_
     refine kv g0 (asg) ?_
     refine wk_end ?_
     refine ac_next ?_
     refine aw_grp1 ?_
     refine aw_grp1 ?_
     refine wk_start ?_
     refine kv g0 (mv) ?_
     refine kv g0 (mv) ?_
     refine kv g0 (ixS 151 (e151 (rd_T151 l0 p8)) c11 (getE (z := z151) c11 c10)) ?_
     refine kv g0 (faR 3 3) ?_
     refine kv g0 (ldR (.lit (.int .i64 ((rd_T151 l0 p8).f3)))) ?_
     refine kv g0 (mv) ?_
     refine kv g0 (neq) ?_
     refine wk_end ?_
     refine ac_next ?_
     by_cases c15 : ((rd_T151 l0 p8).f3) = (wrap64 ((wrap64 ((wrap64 (p7 + 1)) + 1)) + 1))
     ·rw [if_pos c15] at H
      refine aw_ifF ?_ (eM c15)
      refine aw_skip ?_
      refine ac_next ?_
      refine wk_start ?_
      refine kv g0 (mv) ?_
      refine kv g0 (add6) ?_
      refine kv g0 (asg) ?_
      refine wk_end ?_
      refine ac_blkN ?_
      refine ac_next ?_
      refine wk_start ?_
      refine kv g0 (mv) ?_
      refine kv g0 (add6) ?_
      refine kv g0 (asg) ?_
      refine wk_end ?_
      refine ac_k ?_
      exact acw hE [] 9999 (hK17 k9 (wrap64 ((wrap64 ((wrap64 ((wrap64 (p7 + 1)) + 1)) + 1)) + 1)) (wrap64 (p8 + 1)) (Nat.le_refl _) ⟨by omega, H⟩)
     rw [if_neg c15] at H
     refine aw_ifT ?_ (eN c15)
     refine aw_grp1 ?_
     refine wk_start ?_
     refine kv g0 (asg) ?_
     refine wk_end ?_
     refine ac_next ?_
     refine aw_ret ?_
     refine ac_thenR ?_
     refine ac_blkR ?_
     refine ac_thenR ?_
     refine ac_thenR ?_
     refine ac_blkR ?_
     refine ac_thenR ?_
     obtain rfl := Option.some.inj H
     exact acr hE [.tmp 4] (.tmp .nil) (.one _) [] 9999
    rw [if_neg c14] at H
    refine aw_ifT ?_ (eN c14)
    refine aw_grp1 ?_
    refine wk_start ?_
    refine kv g0 (asg) ?_
    refine wk_end ?_
    refine ac_next ?_
    refine aw_ret ?_
    refine ac_thenR ?_
    refine ac_blkR ?_
    refine ac_thenR ?_
    refine ac_thenR ?_
    refine ac_blkR ?_
    refine ac_thenR ?_
    obtain rfl := Option.some.inj H
    exact acr hE [.tmp 4] (.tmp .nil) (.one _) [] 9999
   rw [if_neg c13] at H
   refine aw_ifT ?_ (eN c13)
   refine aw_grp1 ?_
   refine wk_start ?_
   refine kv g0 (asg) ?_
   refine wk_end ?_
   refine ac_next ?_
   refine aw_ret ?_
   refine ac_thenR ?_
   refine ac_blkR ?_
   refine ac_thenR ?_
   refine ac_thenR ?_
   refine ac_blkR ?_
   refine ac_thenR ?_
   obtain rfl := Option.some.inj H
   exact acr hE [.tmp 4] (.tmp .nil) (.one _) [] 9999
  rw [if_neg c12] at H
  refine aw_ifT ?_ (eN c12)
  refine aw_grp1 ?_
  refine wk_start ?_
  refine kv g0 (asg) ?_
  refine wk_end ?_
  refine ac_next ?_
  refine aw_ret ?_
  refine ac_thenR ?_
  refine ac_blkR ?_
  refine ac_thenR ?_
  refine ac_thenR ?_
  refine ac_blkR ?_
  refine ac_thenR ?_
  obtain rfl := Option.some.inj H
  exact acr hE [.tmp 4] (.tmp .nil) (.one _) [] 9999
 rw [if_neg c10] at H
 refine aw_ifF ?_ (decide_eq_false c10)
 refine aw_exit ?_
 refine ac_then ?_
 refine ac_then ?_
 refine ac_hit rfl ?_
 refine ac_next ?_
 refine aw_grp1 ?_
 refine wk_start ?_
 refine kv g0 (mv) ?_
 refine kv g0 (asg) ?_
 refine wk_end ?_
 refine ac_next ?_
 refine aw_ret ?_
 obtain rfl := Option.some.inj H
 exact acr hE [.tmp 4] (.tmp .nil) (.one _) [] 9999
/-! laws_heldInsSS -/
def laws_heldInsSS.l0 : Nat → (List (List S151)) → Int → Int → Option (Int)
 | 0, _, _, _ => none
 | k8 + 1, l0, p6, p7 => if p7 < (l0.length : Int) then if 0 ≤ p7 then ((laws_heldInsS.f k8 (rdOf ([] : List S151) l0 p7) p6).bind fun t11 => if t11 < 0 then some (-1) else laws_heldInsSS.l0 k8 l0 t11 (wrap64 (p7 + 1))) else none else some p6
def laws_heldInsSS.f (k : Nat) (l0 : List (List S151)) (a1 : Int) : Option (Int) := laws_heldInsSS.l0 k l0 a1 0
theorem laws_heldInsSS.ok {k : Nat} {l0 : List (List S151)} {a1 : Int} {r : Int} (H : laws_heldInsSS.f k l0 a1 = some r) : ACalls Try.prog 67 [] [.sl .o 1 (l0.map (eL 4 (e151))), .lit (.int .i64 a1)] [] (.lit (.int .i64 r)) := by
 refine acalls (fn := Try.f67) (nt := 21) Try.func67 rfl rfl (Nat.le_of_ble_eq_true rfl) fun E hE => ?_
 rw [laws_heldInsSS.f] at H
 refine aw_grp1 ?_
 refine wk_start ?_
 refine kv g0 (asg) ?_
 refine wk_end ?_
 refine ac_next ?_
 refine aw_grp1 ?_
 refine aw_grp1 ?_
 refine wk_start ?_
 refine kv g0 (asg) ?_
 refine wk_end ?_
 refine ac_next ?_
 refine aw_block ?_
 refine aw_loop2 (fun (k_ : Nat) (p6 : Int) (p7 : Int) => k_ ≤ k ∧ laws_heldInsSS.l0 k_ l0 p6 p7 = some r) (fun (p6 : Int) (p7 : Int) => ⟨[(0, .sl .o 1 (l0.map (eL 4 (e151)))), (1, .lit (.int .i64 p6)), (5, .lit (.int .i64 p7))], []⟩) k a1 0 ⟨Nat.le_refl _, H⟩ (fun K_ h_ => acw hE [] 9999 h_) (fun _ _ => by intro h_; have h_ := h_.2; rw [laws_heldInsSS.l0.eq_1] at h_; cases h_) ?_
 intro k8 p6 p7 hq_ K14 hK15
 have hk8 := hq_.1
 have H := hq_.2
 clear hq_
 rw [laws_heldInsSS.l0.eq_2] at H
 refine aw_grp1 ?_
 refine aw_grp1 ?_
 refine wk_start ?_
 refine kv g0 (mv) ?_
 refine kv g0 (mv) ?_
 refine kv g0 (lnS lenE) ?_
 refine kv g0 (lss) ?_
 refine wk_end ?_
 refine ac_next ?_
 by_cases c9 : p7 < (l0.length : Int)
 ·rw [if_pos c9] at H
  refine aw_ifT ?_ (decide_eq_true c9)
  refine aw_skip ?_
  refine ac_next ?_
  refine aw_grp1 ?_
  refine aw_block ?_
  refine aw_grp1 ?_
  refine wk_start ?_
  refine kv g0 (mv) ?_
  refine kv g0 (mv) ?_
  obtain ⟨c10, H⟩ := of_if H
  refine kv g0 (ixS 127 (eL 4 (e151) (rdOf ([] : List S151) l0 p7)) c10 (getE (z := ([] : List S151)) c10 c9)) ?_
  refine kv g0 (ldR (.sl .o 4 ((rdOf ([] : List S151) l0 p7).map e151))) ?_
  refine kv g0 (mv) ?_
  obtain ⟨t11, A12, H⟩ := of_bind H
  refine kcS0 17 (.lit (.int .i64 t11)) [] g0 (cal (laws_heldInsS.ok A12) [] 9999 .n (hf := Try.func89)) rfl rfl ?_
  refine kv g0 (asg) ?_
  refine wk_end ?_
  refine ac_next ?_
  refine aw_grp1 ?_
  refine wk_start ?_
  refine kv g0 (mv) ?_
  refine kv g0 (lss) ?_
  refine wk_end ?_
  refine ac_next ?_
  by_cases c13 : t11 < 0
  ·rw [if_pos c13] at H
   refine aw_ifT ?_ (decide_eq_true c13)
   refine aw_grp1 ?_
   refine wk_start ?_
   refine kv g0 (asg) ?_
   refine wk_end ?_
   refine ac_next ?_
   refine aw_ret ?_
   refine ac_blkR ?_
   refine ac_thenR ?_
   refine ac_thenR ?_
   refine ac_blkR ?_
   refine ac_thenR ?_
   obtain rfl := Option.some.inj H
   exact acr hE [.tmp 4] (.tmp .nil) (.one _) [] 9999
  rw [if_neg c13] at H
  refine aw_ifF ?_ (decide_eq_false c13)
  refine aw_skip ?_
  refine ac_blkN ?_
  refine ac_next ?_
  refine wk_start ?_
  refine kv g0 (mv) ?_
  refine kv g0 (add6) ?_
  refine kv g0 (asg) ?_
  refine wk_end ?_
  refine ac_k ?_
  exact acw hE [] 9999 (hK15 k8 t11 (wrap64 (p7 + 1)) (Nat.le_refl _) ⟨by omega, H⟩)
 rw [if_neg c9] at H
 refine aw_ifF ?_ (decide_eq_false c9)
 refine aw_exit ?_
 refine ac_then ?_
 refine ac_then ?_
 refine ac_hit rfl ?_
 refine ac_next ?_
 refine aw_grp1 ?_
 refine wk_start ?_
 refine kv g0 (mv) ?_
 refine kv g0 (asg) ?_
 refine wk_end ?_
 refine ac_next ?_
 refine aw_ret ?_
 obtain rfl := Option.some.inj H
 exact acr hE [.tmp 4] (.tmp .nil) (.one _) [] 9999
/-! laws_heldInsSSS -/
def laws_heldInsSSS.l0 : Nat → (List (List (List S151))) → Int → Int → Option (Int)
 | 0, _, _, _ => none
 | k8 + 1, l0, p6, p7 => if p7 < (l0.length : Int) then if 0 ≤ p7 then ((laws_heldInsSS.f k8 (rdOf ([] : List (List S151)) l0 p7) p6).bind fun t11 => if t11 < 0 then some (-1) else laws_heldInsSSS.l0 k8 l0 t11 (wrap64 (p7 + 1))) else none else some p6
def laws_heldInsSSS.f (k : Nat) (l0 : List (List (List S151))) (a1 : Int) : Option (Int) := laws_heldInsSSS.l0 k l0 a1 0
theorem laws_heldInsSSS.ok {k : Nat} {l0 : List (List (List S151))} {a1 : Int} {r : Int} (H : laws_heldInsSSS.f k l0 a1 = some r) : ACalls Try.prog 35 [] [.sl .o 1 (l0.map (eL 1 (eL 4 (e151)))), .lit (.int .i64 a1)] [] (.lit (.int .i64 r)) := by
 refine acalls (fn := Try.f35) (nt := 21) Try.func35 rfl rfl (Nat.le_of_ble_eq_true rfl) fun E hE => ?_
 rw [laws_heldInsSSS.f] at H
 refine aw_grp1 ?_
 refine wk_start ?_
 refine kv g0 (asg) ?_
 refine wk_end ?_
 refine ac_next ?_
 refine aw_grp1 ?_
 refine aw_grp1 ?_
 refine wk_start ?_
 refine kv g0 (asg) ?_
 refine wk_end ?_
 refine ac_next ?_
 refine aw_block ?_
 refine aw_loop2 (fun (k_ : Nat) (p6 : Int) (p7 : Int) => k_ ≤ k ∧ laws_heldInsSSS.l0 k_ l0 p6 p7 = some r) (fun (p6 : Int) (p7 : Int) => ⟨[(0, .sl .o 1 (l0.map (eL 1 (eL 4 (e151))))), (1, .lit (.int .i64 p6)), (5, .lit (.int .i64 p7))], []⟩) k a1 0 ⟨Nat.le_refl _, H⟩ (fun K_ h_ => acw hE [] 9999 h_) (fun _ _ => by intro h_; have h_ := h_.2; rw [laws_heldInsSSS.l0.eq_1] at h_; cases h_) ?_
 intro k8 p6 p7 hq_ K14 hK15
 have hk8 := hq_.1
 have H := hq_.2
 clear hq_
 rw [laws_heldInsSSS.l0.eq_2] at H
 refine aw_grp1 ?_
 refine aw_grp1 ?_
 refine wk_start ?_
 refine kv g0 (mv) ?_
 refine kv g0 (mv) ?_
 refine kv g0 (lnS lenE) ?_
 refine kv g0 (lss) ?_
 refine wk_end ?_
 refine ac_next ?_
 by_cases c9 : p7 < (l0.length : Int)
 ·rw [if_pos c9] at H
  refine aw_ifT ?_ (decide_eq_true c9)
  refine aw_skip ?_
  refine ac_next ?_
  refine aw_grp1 ?_
  refine aw_block ?_
  refine aw_grp1 ?_
  refine wk_start ?_
  refine kv g0 (mv) ?_
  refine kv g0 (mv) ?_
  obtain ⟨c10, H⟩ := of_if H
  refine kv g0 (ixS 56 (eL 1 (eL 4 (e151)) (rdOf ([] : List (List S151)) l0 p7)) c10 (getE (z := ([] : List (List S151))) c10 c9)) ?_
  refine kv g0 (ldR (.sl .o 1 ((rdOf ([] : List (List S151)) l0 p7).map (eL 4 (e151))))) ?_
  refine kv g0 (mv) ?_
  obtain ⟨t11, A12, H⟩ := of_bind H
  refine kcS0 17 (.lit (.int .i64 t11)) [] g0 (cal (laws_heldInsSS.ok A12) [] 9999 .n (hf := Try.func67)) rfl rfl ?_
  refine kv g0 (asg) ?_
  refine wk_end ?_
  refine ac_next ?_
  refine aw_grp1 ?_
  refine wk_start ?_
  refine kv g0 (mv) ?_
  refine kv g0 (lss) ?_
  refine wk_end ?_
  refine ac_next ?_
  by_cases c13 : t11 < 0
  ·rw [if_pos c13] at H
   refine aw_ifT ?_ (decide_eq_true c13)
   refine aw_grp1 ?_
   refine wk_start ?_
   refine kv g0 (asg) ?_
   refine wk_end ?_
   refine ac_next ?_
   refine aw_ret ?_
   refine ac_blkR ?_
   refine ac_thenR ?_
   refine ac_thenR ?_
   refine ac_blkR ?_
   refine ac_thenR ?_
   obtain rfl := Option.some.inj H
   exact acr hE [.tmp 4] (.tmp .nil) (.one _) [] 9999
  rw [if_neg c13] at H
  refine aw_ifF ?_ (decide_eq_false c13)
  refine aw_skip ?_
  refine ac_blkN ?_
  refine ac_next ?_
  refine wk_start ?_
  refine kv g0 (mv) ?_
  refine kv g0 (add6) ?_
  refine kv g0 (asg) ?_
  refine wk_end ?_
  refine ac_k ?_
  exact acw hE [] 9999 (hK15 k8 t11 (wrap64 (p7 + 1)) (Nat.le_refl _) ⟨by omega, H⟩)
 rw [if_neg c9] at H
 refine aw_ifF ?_ (decide_eq_false c9)
 refine aw_exit ?_
 refine ac_then ?_
 refine ac_then ?_
 refine ac_hit rfl ?_
 refine ac_next ?_
 refine aw_grp1 ?_
 refine wk_start ?_
 refine kv g0 (mv) ?_
 refine kv g0 (asg) ?_
 refine wk_end ?_
 refine ac_next ?_
 refine aw_ret ?_
 obtain rfl := Option.some.inj H
 exact acr hE [.tmp 4] (.tmp .nil) (.one _) [] 9999
/-! laws_heldItemS -/
def laws_heldItemS.l0 : Nat → (List S131) → Int → Int → Option (Int)
 | 0, _, _, _ => none
 | k9 + 1, l0, p7, p8 => if p8 < (l0.length : Int) then if 0 ≤ p8 then if ((rd_T131 l0 p8).f0) = p7 then if ((rd_T131 l0 p8).f1) = (wrap64 (p7 + 1)) then if ((rd_T131 l0 p8).f2) = (wrap64 ((wrap64 (p7 + 1)) + 1)) then if ((rd_T131 l0 p8).f3) = (wrap64 ((wrap64 ((wrap64 (p7 + 1)) + 1)) + 1)) then laws_heldItemS.l0 k9 l0 (wrap64 ((wrap64 ((wrap64 ((wrap64 (p7 + 1)) + 1)) + 1)) + 1)) (wrap64 (p8 + 1)) else some (-1) else some (-1) else some (-1) else some (-1) else none else some p7
def laws_heldItemS.f (k : Nat) (l0 : List S131) (a1 : Int) : Option (Int) := laws_heldItemS.l0 k l0 a1 0
theorem laws_heldItemS.ok {k : Nat} {l0 : List S131} {a1 : Int} {r : Int} (H : laws_heldItemS.f k l0 a1 = some r) : ACalls Try.prog 68 [] [.sl .o 4 (l0.map e131), .lit (.int .i64 a1)] [] (.lit (.int .i64 r)) := by
 refine acalls (fn := Try.f68) (nt := 49) Try.func68 rfl rfl (Nat.le_of_ble_eq_true rfl) fun E hE => ?_
 rw [laws_heldItemS.f] at H
 refine aw_grp1 ?_
 refine wk_start ?_
 refine kv g0 (asg) ?_
 refine wk_end ?_
 refine ac_next ?_
 refine aw_grp1 ?_
 refine aw_grp1 ?_
 refine wk_start ?_
 refine kv g0 (asg) ?_
 refine wk_end ?_
 refine ac_next ?_
 refine aw_block ?_
 refine aw_loop2 (fun (k_ : Nat) (p7 : Int) (p8 : Int) => k_ ≤ k ∧ laws_heldItemS.l0 k_ l0 p7 p8 = some r) (fun (p7 : Int) (p8 : Int) => ⟨[(0, .sl .o 4 (l0.map e131)), (1, .lit (.int .i64 p7)), (5, .lit (.int .i64 p8))], []⟩) k a1 0 ⟨Nat.le_refl _, H⟩ (fun K_ h_ => acw hE [] 9999 h_) (fun _ _ => by intro h_; have h_ := h_.2; rw [laws_heldItemS.l0.eq_1] at h_; cases h_) ?_
 intro k9 p7 p8 hq_ K16 hK17
 have hk9 := hq_.1
 have H := hq_.2
 clear hq_
 rw [laws_heldItemS.l0.eq_2] at H
 refine aw_grp1 ?_
 refine aw_grp1 ?_
 refine wk_start ?_
 refine kv g0 (mv) ?_
 refine kv g0 (mv) ?_
 refine kv g0 (lnS lenE) ?_
 refine kv g0 (lss) ?_
 refine wk_end ?_
 refine ac_next ?_
 by_cases c10 : p8 < (l0.length : Int)
 ·rw [if_pos c10] at H
  refine aw_ifT ?_ (decide_eq_true c10)
  refine aw_skip ?_
  refine ac_next ?_
  refine aw_grp1 ?_
  refine aw_block ?_
  refine aw_grp1 ?_
  refine aw_grp1 ?_
  refine wk_start ?_
  refine kv g0 (mv) ?_
  refine kv g0 (mv) ?_
  obtain ⟨c11, H⟩ := of_if H
  refine kv g0 (ixS 131 (e131 (rd_T131 l0 p8)) c11 (getE (z := z131) c11 c10)) ?_
  refine kv g0 (faR 0 0) ?_
  refine kv g0 (ldR (.lit (.int .i64 ((rd_T131 l0 p8).f0)))) ?_
  refine kv g0 (mv) ?_
  refine kv g0 (neq) ?_
  refine wk_end ?_
  refine ac_next ?_
  by_cases c12 : ((rd_T131 l0 p8).f0) = p7
  ·rw [if_pos c12] at H
   refine aw_ifF ?_ (eM c12)
   refine aw_skip ?_
   refine ac_next ?_
   refine aw_grp1 ?_
   refine wk_start ?_
   refine kv g0 (mv) ?_
   refine kv g0 (add6) ?_
   refine kv g0 (asg) ?_
   refine wk_end ?_
   refine ac_next ?_
   refine aw_grp1 ?_
   refine aw_grp1 ?_
   refine wk_start ?_
   refine kv g0 (mv) ?_
   refine kv g0 (mv) ?_
   refine kv g0 (ixS 131 (e131 (rd_T131 l0 p8)) c11 (getE (z := z131) c11 c10)) ?_
   refine kv g0 (faR 1 1) ?_
   refine kv g0 (ldR (.lit (.int .i64 ((rd_T131 l0 p8).f1)))) ?_
   refine kv g0 (mv) ?_
   refine kv g0 (neq) ?_
   refine wk_end ?_
   refine ac_next ?_
   by_cases c13 : ((rd_T131 l0 p8).f1) = (wrap64 (p7 + 1))
   ·rw [if_pos c13] at H
    refine aw_ifF ?_ (eM c13)
    refine aw_skip ?_
    refine ac_next ?_
    refine aw_grp1 ?_
    refine wk_start ?_
    refine kv g0 (mv) ?_
    refine kv g0 (add6) ?_
    refine kv g0 (asg) ?_
    refine wk_end ?_
    refine ac_next ?_
    refine aw_grp1 ?_
    refine aw_grp1 ?_
    refine wk_start ?_
    refine kv g0 (mv) ?_
    refine kv g0 (mv) ?_
    refine kv g0 (ixS 131 (e131 (rd_T131 l0 p8)) c11 (getE (z := z131) c11 c10)) ?_
    refine kv g0 (faR 2 2) ?_
    refine kv g0 (ldR (.lit (.int .i64 ((rd_T131 l0 p8).f2)))) ?_
    refine kv g0 (mv) ?_
    refine kv g0 (neq) ?_
    refine wk_end ?_
    refine ac_next ?_
    by_cases c14 : ((rd_T131 l0 p8).f2) = (wrap64 ((wrap64 (p7 + 1)) + 1))
    ·rw [if_pos c14] at H
     refine aw_ifF ?_ (eM c14)
     refine aw_skip ?_
     refine ac_next ?_
     refine aw_grp1 ?_
     refine wk_start ?_
     refine kv g0 (mv) ?_
     refine kv g0 (add6) ?_
     refine kv g0 (asg) ?_
     refine wk_end ?_
     refine ac_next ?_
     refine aw_grp1 ?_
     refine aw_grp1 ?_
     refine wk_start ?_
     refine kv g0 (mv) ?_
     refine kv g0 (mv) ?_
     refine kv g0 (ixS 131 (e131 (rd_T131 l0 p8)) c11 (getE (z := z131) c11 c10)) ?_
     refine kv g0 (faR 3 3) ?_
     refine kv g0 (ldR (.lit (.int .i64 ((rd_T131 l0 p8).f3)))) ?_
     refine kv g0 (mv) ?_
     refine kv g0 (neq) ?_
     refine wk_end ?_
     refine ac_next ?_
     by_cases c15 : ((rd_T131 l0 p8).f3) = (wrap64 ((wrap64 ((wrap64 (p7 + 1)) + 1)) + 1))
     ·rw [if_pos c15] at H
      refine aw_ifF ?_ (eM c15)
      refine aw_skip ?_
      refine ac_next ?_
      refine wk_start ?_
      refine kv g0 (mv) ?_
      refine kv g0 (add6) ?_
      refine kv g0 (asg) ?_
      refine wk_end ?_
      refine ac_blkN ?_
      refine ac_next ?_
      refine wk_start ?_
      refine kv g0 (mv) ?_
      refine kv g0 (add6) ?_
      refine kv g0 (asg) ?_
      refine wk_end ?_
      refine ac_k ?_
      exact acw hE [] 9999 (hK17 k9 (wrap64 ((wrap64 ((wrap64 ((wrap64 (p7 + 1)) + 1)) + 1)) + 1)) (wrap64 (p8 + 1)) (Nat.le_refl _) ⟨by omega, H⟩)
     rw [if_neg c15] at H
     refine aw_ifT ?_ (eN c15)
     refine aw_grp1 ?_
     refine wk_start ?_
     refine kv g0 (asg) ?_
     refine wk_end ?_
     refine ac_next ?_
     refine aw_ret ?_
     refine ac_thenR ?_
     refine ac_blkR ?_
     refine ac_thenR ?_
     refine ac_thenR ?_
     refine ac_blkR ?_
     refine ac_thenR ?_
     obtain rfl := Option.some.inj H
     exact acr hE [.tmp 4] (.tmp .nil) (.one _) [] 9999
    rw [if_neg c14] at H
    refine aw_ifT ?_ (eN c14)
    refine aw_grp1 ?_
    refine wk_start ?_
    refine kv g0 (asg) ?_
    refine wk_end ?_
    refine ac_next ?_
    refine aw_ret ?_
    refine ac_thenR ?_
    refine ac_blkR ?_
    refine ac_thenR ?_
    refine ac_thenR ?_
    refine ac_blkR ?_
    refine ac_thenR ?_
    obtain rfl := Option.some.inj H
    exact acr hE [.tmp 4] (.tmp .nil) (.one _) [] 9999
   rw [if_neg c13] at H
   refine aw_ifT ?_ (eN c13)
   refine aw_grp1 ?_
   refine wk_start ?_
   refine kv g0 (asg) ?_
   refine wk_end ?_
   refine ac_next ?_
   refine aw_ret ?_
   refine ac_thenR ?_
   refine ac_blkR ?_
   refine ac_thenR ?_
   refine ac_thenR ?_
   refine ac_blkR ?_
   refine ac_thenR ?_
   obtain rfl := Option.some.inj H
   exact acr hE [.tmp 4] (.tmp .nil) (.one _) [] 9999
  rw [if_neg c12] at H
  refine aw_ifT ?_ (eN c12)
  refine aw_grp1 ?_
  refine wk_start ?_
  refine kv g0 (asg) ?_
  refine wk_end ?_
  refine ac_next ?_
  refine aw_ret ?_
  refine ac_thenR ?_
  refine ac_blkR ?_
  refine ac_thenR ?_
  refine ac_thenR ?_
  refine ac_blkR ?_
  refine ac_thenR ?_
  obtain rfl := Option.some.inj H
  exact acr hE [.tmp 4] (.tmp .nil) (.one _) [] 9999
 rw [if_neg c10] at H
 refine aw_ifF ?_ (decide_eq_false c10)
 refine aw_exit ?_
 refine ac_then ?_
 refine ac_then ?_
 refine ac_hit rfl ?_
 refine ac_next ?_
 refine aw_grp1 ?_
 refine wk_start ?_
 refine kv g0 (mv) ?_
 refine kv g0 (asg) ?_
 refine wk_end ?_
 refine ac_next ?_
 refine aw_ret ?_
 obtain rfl := Option.some.inj H
 exact acr hE [.tmp 4] (.tmp .nil) (.one _) [] 9999
/-! laws_heldRingS -/
def laws_heldRingS.l0 : Nat → (List S59) → Int → Int → Option (Int)
 | 0, _, _, _ => none
 | k11 + 1, l0, p9, p10 => if p10 < (l0.length : Int) then if 0 ≤ p10 then ((laws_heldItemS.f k11 ((rd_T59 l0 p10).f0) p9).bind fun t14 => if t14 < 0 then some (-1) else if ((rd_T59 l0 p10).f1) = t14 then if ((rd_T59 l0 p10).f2) = (wrap64 (t14 + 1)) then if ((rd_T59 l0 p10).f3) = (wrap64 ((wrap64 (t14 + 1)) + 1)) then laws_heldRingS.l0 k11 l0 (wrap64 ((wrap64 ((wrap64 (t14 + 1)) + 1)) + 1)) (wrap64 (p10 + 1)) else some (-1) else some (-1) else some (-1)) else none else some p9
def laws_heldRingS.f (k : Nat) (l0 : List S59) (a1 : Int) : Option (Int) := laws_heldRingS.l0 k l0 a1 0
theorem laws_heldRingS.ok {k : Nat} {l0 : List S59} {a1 : Int} {r : Int} (H : laws_heldRingS.f k l0 a1 = some r) : ACalls Try.prog 36 [] [.sl .o 4 (l0.map e59), .lit (.int .i64 a1)] [] (.lit (.int .i64 r)) := by
 refine acalls (fn := Try.f36) (nt := 49) Try.func36 rfl rfl (Nat.le_of_ble_eq_true rfl) fun E hE => ?_
 rw [laws_heldRingS.f] at H
 refine aw_grp1 ?_
 refine wk_start ?_
 refine kv g0 (asg) ?_
 refine wk_end ?_
 refine ac_next ?_
 refine aw_grp1 ?_
 refine aw_grp1 ?_
 refine wk_start ?_
 refine kv g0 (asg) ?_
 refine wk_end ?_
 refine ac_next ?_
 refine aw_block ?_
 refine aw_loop2 (fun (k_ : Nat) (p9 : Int) (p10 : Int) => k_ ≤ k ∧ laws_heldRingS.l0 k_ l0 p9 p10 = some r) (fun (p9 : Int) (p10 : Int) => ⟨[(0, .sl .o 4 (l0.map e59)), (1, .lit (.int .i64 p9)), (5, .lit (.int .i64 p10))], []⟩) k a1 0 ⟨Nat.le_refl _, H⟩ (fun K_ h_ => acw hE [] 9999 h_) (fun _ _ => by intro h_; have h_ := h_.2; rw [laws_heldRingS.l0.eq_1] at h_; cases h_) ?_
 intro k11 p9 p10 hq_ K20 hK21
 have hk11 := hq_.1
 have H := hq_.2
 clear hq_
 rw [laws_heldRingS.l0.eq_2] at H
 refine aw_grp1 ?_
 refine aw_grp1 ?_
 refine wk_start ?_
 refine kv g0 (mv) ?_
 refine kv g0 (mv) ?_
 refine kv g0 (lnS lenE) ?_
 refine kv g0 (lss) ?_
 refine wk_end ?_
 refine ac_next ?_
 by_cases c12 : p10 < (l0.length : Int)
 ·rw [if_pos c12] at H
  refine aw_ifT ?_ (decide_eq_true c12)
  refine aw_skip ?_
  refine ac_next ?_
  refine aw_grp1 ?_
  refine aw_block ?_
  refine aw_grp1 ?_
  refine wk_start ?_
  refine kv g0 (mv) ?_
  refine kv g0 (mv) ?_
  obtain ⟨c13, H⟩ := of_if H
  refine kv g0 (ixS 59 (e59 (rd_T59 l0 p10)) c13 (getE (z := z59) c13 c12)) ?_
  refine kv g0 (faR 0 0) ?_
  refine kv g0 (ldR (.sl .o 4 (((rd_T59 l0 p10).f0).map e131))) ?_
  refine kv g0 (mv) ?_
  obtain ⟨t14, A15, H⟩ := of_bind H
  refine kcS0 18 (.lit (.int .i64 t14)) [] g0 (cal (laws_heldItemS.ok A15) [] 9999 .n (hf := Try.func68)) rfl rfl ?_
  refine kv g0 (asg) ?_
  refine wk_end ?_
  refine ac_next ?_
  refine aw_grp1 ?_
  refine aw_grp1 ?_
  refine wk_start ?_
  refine kv g0 (mv) ?_
  refine kv g0 (lss) ?_
  refine wk_end ?_
  refine ac_next ?_
  by_cases c16 : t14 < 0
  ·rw [if_pos c16] at H
   refine aw_ifT ?_ (decide_eq_true c16)
   refine aw_grp1 ?_
   refine wk_start ?_
   refine kv g0 (asg) ?_
   refine wk_end ?_
   refine ac_next ?_
   refine aw_ret ?_
   refine ac_thenR ?_
   refine ac_blkR ?_
   refine ac_thenR ?_
   refine ac_thenR ?_
   refine ac_blkR ?_
   refine ac_thenR ?_
   obtain rfl := Option.some.inj H
   exact acr hE [.tmp 4] (.tmp .nil) (.one _) [] 9999
  rw [if_neg c16] at H
  refine aw_ifF ?_ (decide_eq_false c16)
  refine aw_skip ?_
  refine ac_next ?_
  refine aw_grp1 ?_
  refine aw_grp1 ?_
  refine wk_start ?_
  refine kv g0 (mv) ?_
  refine kv g0 (mv) ?_
  refine kv g0 (ixS 59 (e59 (rd_T59 l0 p10)) c13 (getE (z := z59) c13 c12)) ?_
  refine kv g0 (faR 1 1) ?_
  refine kv g0 (ldR (.lit (.int .i64 ((rd_T59 l0 p10).f1)))) ?_
  refine kv g0 (mv) ?_
  refine kv g0 (neq) ?_
  refine wk_end ?_
  refine ac_next ?_
  by_cases c17 : ((rd_T59 l0 p10).f1) = t14
  ·rw [if_pos c17] at H
   refine aw_ifF ?_ (eM c17)
   refine aw_skip ?_
   refine ac_next ?_
   refine aw_grp1 ?_
   refine wk_start ?_
   refine kv g0 (mv) ?_
   refine kv g0 (add6) ?_
   refine kv g0 (asg) ?_
   refine wk_end ?_
   refine ac_next ?_
   refine aw_grp1 ?_
   refine aw_grp1 ?_
   refine wk_start ?_
   refine kv g0 (mv) ?_
   refine kv g0 (mv) ?_
   refine kv g0 (ixS 59 (e59 (rd_T59 l0 p10)) c13 (getE (z := z59) c13 c12)) ?_
   refine kv g0 (faR 2 2) ?_
   refine kv g0 (ldR (.lit (.int .i64 ((rd_T59 l0 p10).f2)))) ?_
   refine kv g0 (mv) ?_
   refine kv g0 (neq) ?_
   refine wk_end ?_
   refine ac_next ?_
   by_cases c18 : ((rd_T59 l0 p10).f2) = (wrap64 (t14 + 1))
   ·rw [if_pos c18] at H
    refine aw_ifF ?_ (eM c18)
    refine aw_skip ?_
    refine ac_next ?_
    refine aw_grp1 ?_
    refine wk_start ?_
    refine kv g0 (mv) ?_
    refine kv g0 (add6) ?_
    refine kv g0 (asg) ?_
    refine wk_end ?_
    refine ac_next ?_
    refine aw_grp1 ?_
    refine aw_grp1 ?_
    refine wk_start ?_
    refine kv g0 (mv) ?_
    refine kv g0 (mv) ?_
    refine kv g0 (ixS 59 (e59 (rd_T59 l0 p10)) c13 (getE (z := z59) c13 c12)) ?_
    refine kv g0 (faR 3 3) ?_
    refine kv g0 (ldR (.lit (.int .i64 ((rd_T59 l0 p10).f3)))) ?_
    refine kv g0 (mv) ?_
    refine kv g0 (neq) ?_
    refine wk_end ?_
    refine ac_next ?_
    by_cases c19 : ((rd_T59 l0 p10).f3) = (wrap64 ((wrap64 (t14 + 1)) + 1))
    ·rw [if_pos c19] at H
     refine aw_ifF ?_ (eM c19)
     refine aw_skip ?_
     refine ac_next ?_
     refine wk_start ?_
     refine kv g0 (mv) ?_
     refine kv g0 (add6) ?_
     refine kv g0 (asg) ?_
     refine wk_end ?_
     refine ac_blkN ?_
     refine ac_next ?_
     refine wk_start ?_
     refine kv g0 (mv) ?_
     refine kv g0 (add6) ?_
     refine kv g0 (asg) ?_
     refine wk_end ?_
     refine ac_k ?_
     exact acw hE [] 9999 (hK21 k11 (wrap64 ((wrap64 ((wrap64 (t14 + 1)) + 1)) + 1)) (wrap64 (p10 + 1)) (Nat.le_refl _) ⟨by omega, H⟩)
    rw [if_neg c19] at H
    refine aw_ifT ?_ (eN c19)
    refine aw_grp1 ?_
    refine wk_start ?_
    refine kv g0 (asg) ?_
    refine wk_end ?_
    refine ac_next ?_
    refine aw_ret ?_
    refine ac_thenR ?_
    refine ac_blkR ?_
    refine ac_thenR ?_
    refine ac_thenR ?_
    refine ac_blkR ?_
    refine ac_thenR ?_
    obtain rfl := Option.some.inj H
    exact acr hE [.tmp 4] (.tmp .nil) (.one _) [] 9999
   rw [if_neg c18] at H
   refine aw_ifT ?_ (eN c18)
   refine aw_grp1 ?_
   refine wk_start ?_
   refine kv g0 (asg) ?_
   refine wk_end ?_
   refine ac_next ?_
   refine aw_ret ?_
   refine ac_thenR ?_
   refine ac_blkR ?_
   refine ac_thenR ?_
   refine ac_thenR ?_
   refine ac_blkR ?_
   refine ac_thenR ?_
   obtain rfl := Option.some.inj H
   exact acr hE [.tmp 4] (.tmp .nil) (.one _) [] 9999
  rw [if_neg c17] at H
  refine aw_ifT ?_ (eN c17)
  refine aw_grp1 ?_
  refine wk_start ?_
  refine kv g0 (asg) ?_
  refine wk_end ?_
  refine ac_next ?_
  refine aw_ret ?_
  refine ac_thenR ?_
  refine ac_blkR ?_
  refine ac_thenR ?_
  refine ac_thenR ?_
  refine ac_blkR ?_
  refine ac_thenR ?_
  obtain rfl := Option.some.inj H
  exact acr hE [.tmp 4] (.tmp .nil) (.one _) [] 9999
 rw [if_neg c12] at H
 refine aw_ifF ?_ (decide_eq_false c12)
 refine aw_exit ?_
 refine ac_then ?_
 refine ac_then ?_
 refine ac_hit rfl ?_
 refine ac_next ?_
 refine aw_grp1 ?_
 refine wk_start ?_
 refine kv g0 (mv) ?_
 refine kv g0 (asg) ?_
 refine wk_end ?_
 refine ac_next ?_
 refine aw_ret ?_
 obtain rfl := Option.some.inj H
 exact acr hE [.tmp 4] (.tmp .nil) (.one _) [] 9999
/-! laws_heldSenderS -/
def laws_heldSenderS.l0 : Nat → (List S62) → Int → Int → Option (Int)
 | 0, _, _, _ => none
 | k12 + 1, l0, p10, p11 => if p11 < (l0.length : Int) then if 0 ≤ p11 then if ((rd_T62 l0 p11).f0) = p10 then if ((rd_T62 l0 p11).f1) = (wrap64 (p10 + 1)) then (laws_heldItemS.f k12 ((rd_T62 l0 p11).f2) (wrap64 ((wrap64 (p10 + 1)) + 1))).bind fun t17 => if t17 < 0 then some (-1) else if ((rd_T62 l0 p11).f3) = t17 then if ((rd_T62 l0 p11).f4) = (wrap64 (t17 + 1)) then laws_heldSenderS.l0 k12 l0 (wrap64 ((wrap64 (t17 + 1)) + 1)) (wrap64 (p11 + 1)) else some (-1) else some (-1) else some (-1) else some (-1) else none else some p10
def laws_heldSenderS.f (k : Nat) (l0 : List S62) (a1 : Int) : Option (Int) := laws_heldSenderS.l0 k l0 a1 0
theorem laws_heldSenderS.ok {k : Nat} {l0 : List S62} {a1 : Int} {r : Int} (H : laws_heldSenderS.f k l0 a1 = some r) : ACalls Try.prog 37 [] [.sl .o 5 (l0.map e62), .lit (.int .i64 a1)] [] (.lit (.int .i64 r)) := by
 refine acalls (fn := Try.f37) (nt := 58) Try.func37 rfl rfl (Nat.le_of_ble_eq_true rfl) fun E hE => ?_
 rw [laws_heldSenderS.f] at H
 refine aw_grp1 ?_
 refine wk_start ?_
 refine kv g0 (asg) ?_
 refine wk_end ?_
 refine ac_next ?_
 refine aw_grp1 ?_
 refine aw_grp1 ?_
 refine wk_start ?_
 refine kv g0 (asg) ?_
 refine wk_end ?_
 refine ac_next ?_
 refine aw_block ?_
 refine aw_loop2 (fun (k_ : Nat) (p10 : Int) (p11 : Int) => k_ ≤ k ∧ laws_heldSenderS.l0 k_ l0 p10 p11 = some r) (fun (p10 : Int) (p11 : Int) => ⟨[(0, .sl .o 5 (l0.map e62)), (1, .lit (.int .i64 p10)), (5, .lit (.int .i64 p11))], []⟩) k a1 0 ⟨Nat.le_refl _, H⟩ (fun K_ h_ => acw hE [] 9999 h_) (fun _ _ => by intro h_; have h_ := h_.2; rw [laws_heldSenderS.l0.eq_1] at h_; cases h_) ?_
 intro k12 p10 p11 hq_ K22 hK23
 have hk12 := hq_.1
 have H := hq_.2
 clear hq_
 rw [laws_heldSenderS.l0.eq_2] at H
 refine aw_grp1 ?_
 refine aw_grp1 ?_
 refine wk_start ?_
 refine kv g0 (mv) ?_
 refine kv g0 (mv) ?_
 refine kv g0 (lnS lenE) ?_
 refine kv g0 (lss) ?_
 refine wk_end ?_
 refine ac_next ?_
 by_cases c13 : p11 < (l0.length : Int)
 ·rw [if_pos c13] at H
  refine aw_ifT ?_ (decide_eq_true c13)
  refine aw_skip ?_
  refine ac_next ?_
  refine aw_grp1 ?_
  refine aw_block ?_
  refine aw_grp1 ?_
  refine aw_grp1 ?_
  refine wk_start ?_
  refine kv g0 (mv) ?_
  refine kv g0 (mv) ?_
  obtain ⟨c14, H⟩ := of_if H
  refine kv g0 (ixS 62 (e62 (rd_T62 l0 p11)) c14 (getE (z := z62) c14 c13)) ?_
  refine kv g0 (faR 0 0) ?_
  refine kv g0 (ldR (.lit (.int .i64 ((rd_T62 l0 p11).f0)))) ?_
  refine kv g0 (mv) ?_
  refine kv g0 (neq) ?_
  refine wk_end ?_
  refine ac_next ?_
  by_cases c15 : ((rd_T62 l0 p11).f0) = p10
  ·rw [if_pos c15] at H
   refine aw_ifF ?_ (eM c15)
   refine aw_skip ?_
   refine ac_next ?_
   refine aw_grp1 ?_
   refine wk_start ?_
   refine kv g0 (mv) ?_
   refine kv g0 (add6) ?_
   refine kv g0 (asg) ?_
   refine wk_end ?_
   refine ac_next ?_
   refine aw_grp1 ?_
   refine aw_grp1 ?_
   refine wk_start ?_
   refine kv g0 (mv) ?_
   refine kv g0 (mv) ?_
   refine kv g0 (ixS 62 (e62 (rd_T62 l0 p11)) c14 (getE (z := z62) c14 c13)) ?_
   refine kv g0 (faR 1 1) ?_
   refine kv g0 (ldR (.lit (.int .i64 ((rd_T62 l0 p11).f1)))) ?_
   refine kv g0 (mv) ?_
   refine kv g0 (neq) ?_
   refine wk_end ?_
   refine ac_next ?_
   by_cases c16 : ((rd_T62 l0 p11).f1) = (wrap64 (p10 + 1))
   ·rw [if_pos c16] at H
    refine aw_ifF ?_ (eM c16)
    refine aw_skip ?_
    refine ac_next ?_
    refine aw_grp1 ?_
    refine wk_start ?_
    refine kv g0 (mv) ?_
    refine kv g0 (add6) ?_
    refine kv g0 (asg) ?_
    refine wk_end ?_
    refine ac_next ?_
    refine aw_grp1 ?_
    refine wk_start ?_
    refine kv g0 (mv) ?_
    refine kv g0 (mv) ?_
    refine kv g0 (ixS 62 (e62 (rd_T62 l0 p11)) c14 (getE (z := z62) c14 c13)) ?_
    refine kv g0 (faR 2 2) ?_
    refine kv g0 (ldR (.sl .o 4 (((rd_T62 l0 p11).f2).map e131))) ?_
    refine kv g0 (mv) ?_
    obtain ⟨t17, A18, H⟩ := of_bind H
    refine kcS0 36 (.lit (.int .i64 t17)) [] g0 (cal (laws_heldItemS.ok A18) [] 9999 .n (hf := Try.func68)) rfl rfl ?_
    refine kv g0 (asg) ?_
    refine wk_end ?_
    refine ac_next ?_
    refine aw_grp1 ?_
    refine aw_grp1 ?_
    refine wk_start ?_
    refine kv g0 (mv) ?_
    refine kv g0 (lss) ?_
    refine wk_end ?_
    refine ac_next ?_
    by_cases c19 : t17 < 0
    ·rw [if_pos c19] at H
     refine aw_ifT ?_ (decide_eq_true c19)
     refine aw_grp1 ?_
     refine wk_start ?_
     refine kv g0 (asg) ?_
     refine wk_end ?_
     refine ac_next ?_
     refine aw_ret ?_
     refine ac_thenR ?_
     refine ac_blkR ?_
     refine ac_thenR ?_
     refine ac_thenR ?_
     refine ac_blkR ?_
     refine ac_thenR ?_
     obtain rfl := Option.some.inj H
     exact acr hE [.tmp 4] (.tmp .nil) (.one _) [] 9999
    rw [if_neg c19] at H
    refine aw_ifF ?_ (decide_eq_false c19)
    refine aw_skip ?_
    refine ac_next ?_
    refine aw_grp1 ?_
    refine aw_grp1 ?_
    refine wk_start ?_
    refine kv g0 (mv) ?_
    refine kv g0 (mv) ?_
    refine kv g0 (ixS 62 (e62 (rd_T62 l0 p11)) c14 (getE (z := z62) c14 c13)) ?_
    refine kv g0 (faR 3 3) ?_
    refine kv g0 (ldR (.lit (.int .i64 ((rd_T62 l0 p11).f3)))) ?_
    refine kv g0 (mv) ?_
    refine kv g0 (neq) ?_
    refine wk_end ?_
    refine ac_next ?_
    by_cases c20 : ((rd_T62 l0 p11).f3) = t17
    ·rw [if_pos c20] at H
     refine aw_ifF ?_ (eM c20)
     refine aw_skip ?_
     refine ac_next ?_
     refine aw_grp1 ?_
     refine wk_start ?_
     refine kv g0 (mv) ?_
     refine kv g0 (add6) ?_
     refine kv g0 (asg) ?_
     refine wk_end ?_
     refine ac_next ?_
     refine aw_grp1 ?_
     refine aw_grp1 ?_
     refine wk_start ?_
     refine kv g0 (mv) ?_
     refine kv g0 (mv) ?_
     refine kv g0 (ixS 62 (e62 (rd_T62 l0 p11)) c14 (getE (z := z62) c14 c13)) ?_
     refine kv g0 (faR 4 4) ?_
     refine kv g0 (ldR (.lit (.int .i64 ((rd_T62 l0 p11).f4)))) ?_
     refine kv g0 (mv) ?_
     refine kv g0 (neq) ?_
     refine wk_end ?_
     refine ac_next ?_
     by_cases c21 : ((rd_T62 l0 p11).f4) = (wrap64 (t17 + 1))
     ·rw [if_pos c21] at H
      refine aw_ifF ?_ (eM c21)
      refine aw_skip ?_
      refine ac_next ?_
      refine wk_start ?_
      refine kv g0 (mv) ?_
      refine kv g0 (add6) ?_
      refine kv g0 (asg) ?_
      refine wk_end ?_
      refine ac_blkN ?_
      refine ac_next ?_
      refine wk_start ?_
      refine kv g0 (mv) ?_
      refine kv g0 (add6) ?_
      refine kv g0 (asg) ?_
      refine wk_end ?_
      refine ac_k ?_
      exact acw hE [] 9999 (hK23 k12 (wrap64 ((wrap64 (t17 + 1)) + 1)) (wrap64 (p11 + 1)) (Nat.le_refl _) ⟨by omega, H⟩)
     rw [if_neg c21] at H
     refine aw_ifT ?_ (eN c21)
     refine aw_grp1 ?_
     refine wk_start ?_
     refine kv g0 (asg) ?_
     refine wk_end ?_
     refine ac_next ?_
     refine aw_ret ?_
     refine ac_thenR ?_
     refine ac_blkR ?_
     refine ac_thenR ?_
     refine ac_thenR ?_
     refine ac_blkR ?_
     refine ac_thenR ?_
     obtain rfl := Option.some.inj H
     exact acr hE [.tmp 4] (.tmp .nil) (.one _) [] 9999
    rw [if_neg c20] at H
    refine aw_ifT ?_ (eN c20)
    refine aw_grp1 ?_
    refine wk_start ?_
    refine kv g0 (asg) ?_
    refine wk_end ?_
    refine ac_next ?_
    refine aw_ret ?_
    refine ac_thenR ?_
    refine ac_blkR ?_
    refine ac_thenR ?_
    refine ac_thenR ?_
    refine ac_blkR ?_
    refine ac_thenR ?_
    obtain rfl := Option.some.inj H
    exact acr hE [.tmp 4] (.tmp .nil) (.one _) [] 9999
   rw [if_neg c16] at H
   refine aw_ifT ?_ (eN c16)
   refine aw_grp1 ?_
   refine wk_start ?_
   refine kv g0 (asg) ?_
   refine wk_end ?_
   refine ac_next ?_
   refine aw_ret ?_
   refine ac_thenR ?_
   refine ac_blkR ?_
   refine ac_thenR ?_
   refine ac_thenR ?_
   refine ac_blkR ?_
   refine ac_thenR ?_
   obtain rfl := Option.some.inj H
   exact acr hE [.tmp 4] (.tmp .nil) (.one _) [] 9999
  rw [if_neg c15] at H
  refine aw_ifT ?_ (eN c15)
  refine aw_grp1 ?_
  refine wk_start ?_
  refine kv g0 (asg) ?_
  refine wk_end ?_
  refine ac_next ?_
  refine aw_ret ?_
  refine ac_thenR ?_
  refine ac_blkR ?_
  refine ac_thenR ?_
  refine ac_thenR ?_
  refine ac_blkR ?_
  refine ac_thenR ?_
  obtain rfl := Option.some.inj H
  exact acr hE [.tmp 4] (.tmp .nil) (.one _) [] 9999
 rw [if_neg c13] at H
 refine aw_ifF ?_ (decide_eq_false c13)
 refine aw_exit ?_
 refine ac_then ?_
 refine ac_then ?_
 refine ac_hit rfl ?_
 refine ac_next ?_
 refine aw_grp1 ?_
 refine wk_start ?_
 refine kv g0 (mv) ?_
 refine kv g0 (asg) ?_
 refine wk_end ?_
 refine ac_next ?_
 refine aw_ret ?_
 obtain rfl := Option.some.inj H
 exact acr hE [.tmp 4] (.tmp .nil) (.one _) [] 9999
/-! laws_heldEntryS -/
def laws_heldEntryS.l0 : Nat → (List S133) → Int → Int → Option (Int)
 | 0, _, _, _ => none
 | k11 + 1, l0, p9, p10 => if p10 < (l0.length : Int) then if 0 ≤ p10 then if ((rd_T133 l0 p10).f0) = p9 then if ((rd_T133 l0 p10).f1) = (wrap64 (p9 + 1)) then if ((rd_T133 l0 p10).f2.f0) = (wrap64 ((wrap64 (p9 + 1)) + 1)) then if ((rd_T133 l0 p10).f2.f1) = (wrap64 ((wrap64 ((wrap64 (p9 + 1)) + 1)) + 1)) then if ((rd_T133 l0 p10).f2.f2) = (wrap64 ((wrap64 ((wrap64 ((wrap64 (p9 + 1)) + 1)) + 1)) + 1)) then if ((rd_T133 l0 p10).f2.f3) = (wrap64 ((wrap64 ((wrap64 ((wrap64 ((wrap64 (p9 + 1)) + 1)) + 1)) + 1)) + 1)) then laws_heldEntryS.l0 k11 l0 (wrap64 ((wrap64 ((wrap64 ((wrap64 ((wrap64 ((wrap64 (p9 + 1)) + 1)) + 1)) + 1)) + 1)) + 1)) (wrap64 (p10 + 1)) else some (-1) else some (-1) else some (-1) else some (-1) else some (-1) else some (-1) else none else some p9
def laws_heldEntryS.f (k : Nat) (l0 : List S133) (a1 : Int) : Option (Int) := laws_heldEntryS.l0 k l0 a1 0
theorem laws_heldEntryS.ok {k : Nat} {l0 : List S133} {a1 : Int} {r : Int} (H : laws_heldEntryS.f k l0 a1 = some r) : ACalls Try.prog 69 [] [.sl .o 6 (l0.map e133), .lit (.int .i64 a1)] [] (.lit (.int .i64 r)) := by
 refine acalls (fn := Try.f69) (nt := 71) Try.func69 rfl rfl (Nat.le_of_ble_eq_true rfl) fun E hE => ?_
 rw [laws_heldEntryS.f] at H
 refine aw_grp1 ?_
 refine wk_start ?_
 refine kv g0 (asg) ?_
 refine wk_end ?_
 refine ac_next ?_
 refine aw_grp1 ?_
 refine aw_grp1 ?_
 refine wk_start ?_
 refine kv g0 (asg) ?_
 refine wk_end ?_
 refine ac_next ?_
 refine aw_block ?_
 refine aw_loop2 (fun (k_ : Nat) (p9 : Int) (p10 : Int) => k_ ≤ k ∧ laws_heldEntryS.l0 k_ l0 p9 p10 = some r) (fun (p9 : Int) (p10 : Int) => ⟨[(0, .sl .o 6 (l0.map e133)), (1, .lit (.int .i64 p9)), (5, .lit (.int .i64 p10))], []⟩) k a1 0 ⟨Nat.le_refl _, H⟩ (fun K_ h_ => acw hE [] 9999 h_) (fun _ _ => by intro h_; have h_ := h_.2; rw [laws_heldEntryS.l0.eq_1] at h_; cases h_) ?_
 intro k11 p9 p10 hq_ K20 hK21
 have hk11 := hq_.1
 have H := hq_.2
 clear hq_
 rw [laws_heldEntryS.l0.eq_2] at H
 refine aw_grp1 ?_
 refine aw_grp1 ?_
 refine wk_start ?_
 refine kv g0 (mv) ?_
 refine kv g0 (mv) ?_
 refine kv g0 (lnS lenE) ?_
 refine kv g0 (lss) ?_
 refine wk_end ?_
 refine ac_next ?_
 by_cases c12 : p10 < (l0.length : Int)
 ·rw [if_pos c12] at H
  refine aw_ifT ?_ (decide_eq_true c12)
  refine aw_skip ?_
  refine ac_next ?_
  refine aw_grp1 ?_
  refine aw_block ?_
  refine aw_grp1 ?_
  refine aw_grp1 ?_
  refine wk_start ?_
  refine kv g0 (mv) ?_
  refine kv g0 (mv) ?_
  obtain ⟨c13, H⟩ := of_if H
  refine kv g0 (ixS 133 (e133 (rd_T133 l0 p10)) c13 (getE (z := z133) c13 c12)) ?_
  refine kv g0 (faR 0 0) ?_
  refine kv g0 (ldR (.lit (.int .i64 ((rd_T133 l0 p10).f0)))) ?_
  refine kv g0 (mv) ?_
  refine kv g0 (neq) ?_
  refine wk_end ?_
  refine ac_next ?_
  by_cases c14 : ((rd_T133 l0 p10).f0) = p9
  ·rw [if_pos c14] at H
   refine aw_ifF ?_ (eM c14)
   refine aw_skip ?_
   refine ac_next ?_
   refine aw_grp1 ?_
   refine wk_start ?_
   refine kv g0 (mv) ?_
   refine kv g0 (add6) ?_
   refine kv g0 (asg) ?_
   refine wk_end ?_
   refine ac_next ?_
   refine aw_grp1 ?_
   refine aw_grp1 ?_
   refine wk_start ?_
   refine kv g0 (mv) ?_
   refine kv g0 (mv) ?_
   refine kv g0 (ixS 133 (e133 (rd_T133 l0 p10)) c13 (getE (z := z133) c13 c12)) ?_
   refine kv g0 (faR 1 1) ?_
   refine kv g0 (ldR (.lit (.int .i64 ((rd_T133 l0 p10).f1)))) ?_
   refine kv g0 (mv) ?_
   refine kv g0 (neq) ?_
   refine wk_end ?_
   refine ac_next ?_
   by_cases c15 : ((rd_T133 l0 p10).f1) = (wrap64 (p9 + 1))
   ·rw [if_pos c15] at H
    refine aw_ifF ?_ (eM c15)
    refine aw_skip ?_
    refine ac_next ?_
    refine aw_grp1 ?_
    refine wk_start ?_
    refine kv g0 (mv) ?_
    refine kv g0 (add6) ?_
    refine kv g0 (asg) ?_
    refine wk_end ?_
    refine ac_next ?_
    refine aw_grp1 ?_
    refine aw_grp1 ?_
    refine wk_start ?_
    refine kv g0 (mv) ?_
    refine kv g0 (mv) ?_
    refine kv g0 (ixS 133 (e133 (rd_T133 l0 p10)) c13 (getE (z := z133) c13 c12)) ?_
    refine kv g0 (faR 2 2) ?_
    refine kv g0 (faR 0 2) ?_
    refine kv g0 (ldR (.lit (.int .i64 ((rd_T133 l0 p10).f2.f0)))) ?_
    refine kv g0 (mv) ?_
    refine kv g0 (neq) ?_
    refine wk_end ?_
    refine ac_next ?_
    by_cases c16 : ((rd_T133 l0 p10).f2.f0) = (wrap64 ((wrap64 (p9 + 1)) + 1))
    ·rw [if_pos c16] at H
     refine aw_ifF ?_ (eM c16)
     refine aw_skip ?_
     refine ac_next ?_
     refine aw_grp1 ?_
     refine wk_start ?_
     refine kv g0 (mv) ?_
     refine kv g0 (add6) ?_
     refine kv g0 (asg) ?_
     refine wk_end ?_
     refine ac_next ?_
     refine aw_grp1 ?_
     refine aw_grp1 ?_
     refine wk_start ?_
     refine kv g0 (mv) ?_
     refine kv g0 (mv) ?_
     refine kv g0 (ixS 133 (e133 (rd_T133 l0 p10)) c13 (getE (z := z133) c13 c12)) ?_
     refine kv g0 (faR 2 2) ?_
     refine kv g0 (faR 1 3) ?_
     refine kv g0 (ldR (.lit (.int .i64 ((rd_T133 l0 p10).f2.f1)))) ?_
     refine kv g0 (mv) ?_
     refine kv g0 (neq) ?_
     refine wk_end ?_
     refine ac_next ?_
     by_cases c17 : ((rd_T133 l0 p10).f2.f1) = (wrap64 ((wrap64 ((wrap64 (p9 + 1)) + 1)) + 1))
     ·rw [if_pos c17] at H
      refine aw_ifF ?_ (eM c17)
      refine aw_skip ?_
      refine ac_next ?_
      refine aw_grp1 ?_
      refine wk_start ?_
      refine kv g0 (mv) ?_
      refine kv g0 (add6) ?_
      refine kv g0 (asg) ?_
      refine wk_end ?_
      refine ac_next ?_
      refine aw_grp1 ?_
      refine aw_grp1 ?_
      refine wk_start ?_
      refine kv g0 (mv) ?_
      refine kv g0 (mv) ?_
      refine kv g0 (ixS 133 (e133 (rd_T133 l0 p10)) c13 (getE (z := z133) c13 c12)) ?_
      refine kv g0 (faR 2 2) ?_
      refine kv g0 (faR 2 4) ?_
      refine kv g0 (ldR (.lit (.int .i64 ((rd_T133 l0 p10).f2.f2)))) ?_
      refine kv g0 (mv) ?_
      refine kv g0 (neq) ?_
      refine wk_end ?_
      refine ac_next ?_
      by_cases c18 : ((rd_T133 l0 p10).f2.f2) = (wrap64 ((wrap64 ((wrap64 ((wrap64 (p9 + 1)) + 1)) + 1)) + 1))
      ·rw [if_pos c18] at H
       refine aw_ifF ?_ (eM c18)
       refine aw_skip ?_
       refine ac_next ?_
       refine aw_grp1 ?_
       refine wk_start ?_
       refine kv g0 (mv) ?_
       refine kv g0 (add6) ?_
       refine kv g0 (asg) ?_
       refine wk_end ?_
       refine ac_next ?_
       refine aw_grp1 ?_
       refine aw_grp1 ?_
       refine wk_start ?_
       refine kv g0 (mv) ?_
       refine kv g0 (mv) ?_
       refine kv g0 (ixS 133 (e133 (rd_T133 l0 p10)) c13 (getE (z := z133) c13 c12)) ?_
       refine kv g0 (faR 2 2) ?_
       refine kv g0 (faR 3 5) ?_
       refine kv g0 (ldR (.lit (.int .i64 ((rd_T133 l0 p10).f2.f3)))) ?_
       refine kv g0 (mv) ?_
       refine kv g0 (neq) ?_
       refine wk_end ?_
       refine ac_next ?_
       by_cases c19 : ((rd_T133 l0 p10).f2.f3) = (wrap64 ((wrap64 ((wrap64 ((wrap64 ((wrap64 (p9 + 1)) + 1)) + 1)) + 1)) + 1))
       ·rw [if_pos c19] at H
        refine aw_ifF ?_ (eM c19)
        refine aw_skip ?_
        refine ac_next ?_
        refine wk_start ?_
        refine kv g0 (mv) ?_
        refine kv g0 (add6) ?_
        refine kv g0 (asg) ?_
        refine wk_end ?_
        refine ac_blkN ?_
        refine ac_next ?_
        refine wk_start ?_
        refine kv g0 (mv) ?_
        refine kv g0 (add6) ?_
        refine kv g0 (asg) ?_
        refine wk_end ?_
        refine ac_k ?_
        exact acw hE [] 9999 (hK21 k11 (wrap64 ((wrap64 ((wrap64 ((wrap64 ((wrap64 ((wrap64 (p9 + 1)) + 1)) + 1)) + 1)) + 1)) + 1)) (wrap64 (p10 + 1)) (Nat.le_refl _) ⟨by omega, H⟩)
       rw [if_neg c19] at H
       refine aw_ifT ?_ (eN c19)
       refine aw_grp1 ?_
       refine wk_start ?_
       refine kv g0 (asg) ?_
       refine wk_end ?_
       refine ac_next ?_
       refine aw_ret ?_
       refine ac_thenR ?_
       refine ac_blkR ?_
       refine ac_thenR ?_
       refine ac_thenR ?_
       refine ac_blkR ?_
       refine ac_thenR ?_
       obtain rfl := Option.some.inj H
       exact acr hE [.tmp 4] (.tmp .nil) (.one _) [] 9999
      rw [if_neg c18] at H
      refine aw_ifT ?_ (eN c18)
      refine aw_grp1 ?_
      refine wk_start ?_
      refine kv g0 (asg) ?_
      refine wk_end ?_
      refine ac_next ?_
      refine aw_ret ?_
      refine ac_thenR ?_
      refine ac_blkR ?_
      refine ac_thenR ?_
      refine ac_thenR ?_
      refine ac_blkR ?_
      refine ac_thenR ?_
      obtain rfl := Option.some.inj H
      exact acr hE [.tmp 4] (.tmp .nil) (.one _) [] 9999
     rw [if_neg c17] at H
     refine aw_ifT ?_ (eN c17)
     refine aw_grp1 ?_
     refine wk_start ?_
     refine kv g0 (asg) ?_
     refine wk_end ?_
     refine ac_next ?_
     refine aw_ret ?_
     refine ac_thenR ?_
     refine ac_blkR ?_
     refine ac_thenR ?_
     refine ac_thenR ?_
     refine ac_blkR ?_
     refine ac_thenR ?_
     obtain rfl := Option.some.inj H
     exact acr hE [.tmp 4] (.tmp .nil) (.one _) [] 9999
    rw [if_neg c16] at H
    refine aw_ifT ?_ (eN c16)
    refine aw_grp1 ?_
    refine wk_start ?_
    refine kv g0 (asg) ?_
    refine wk_end ?_
    refine ac_next ?_
    refine aw_ret ?_
    refine ac_thenR ?_
    refine ac_blkR ?_
    refine ac_thenR ?_
    refine ac_thenR ?_
    refine ac_blkR ?_
    refine ac_thenR ?_
    obtain rfl := Option.some.inj H
    exact acr hE [.tmp 4] (.tmp .nil) (.one _) [] 9999
   rw [if_neg c15] at H
   refine aw_ifT ?_ (eN c15)
   refine aw_grp1 ?_
   refine wk_start ?_
   refine kv g0 (asg) ?_
   refine wk_end ?_
   refine ac_next ?_
   refine aw_ret ?_
   refine ac_thenR ?_
   refine ac_blkR ?_
   refine ac_thenR ?_
   refine ac_thenR ?_
   refine ac_blkR ?_
   refine ac_thenR ?_
   obtain rfl := Option.some.inj H
   exact acr hE [.tmp 4] (.tmp .nil) (.one _) [] 9999
  rw [if_neg c14] at H
  refine aw_ifT ?_ (eN c14)
  refine aw_grp1 ?_
  refine wk_start ?_
  refine kv g0 (asg) ?_
  refine wk_end ?_
  refine ac_next ?_
  refine aw_ret ?_
  refine ac_thenR ?_
  refine ac_blkR ?_
  refine ac_thenR ?_
  refine ac_thenR ?_
  refine ac_blkR ?_
  refine ac_thenR ?_
  obtain rfl := Option.some.inj H
  exact acr hE [.tmp 4] (.tmp .nil) (.one _) [] 9999
 rw [if_neg c12] at H
 refine aw_ifF ?_ (decide_eq_false c12)
 refine aw_exit ?_
 refine ac_then ?_
 refine ac_then ?_
 refine ac_hit rfl ?_
 refine ac_next ?_
 refine aw_grp1 ?_
 refine wk_start ?_
 refine kv g0 (mv) ?_
 refine kv g0 (asg) ?_
 refine wk_end ?_
 refine ac_next ?_
 refine aw_ret ?_
 obtain rfl := Option.some.inj H
 exact acr hE [.tmp 4] (.tmp .nil) (.one _) [] 9999
/-! laws_heldIntS -/
def laws_heldIntS.l0 : Nat → (List Int) → Int → Int → Option (Int)
 | 0, _, _, _ => none
 | k6 + 1, l0, p4, p5 => if p5 < (l0.length : Int) then if 0 ≤ p5 then if (rd l0 p5) = p4 then laws_heldIntS.l0 k6 l0 (wrap64 (p4 + 1)) (wrap64 (p5 + 1)) else some (-1) else none else some p4
def laws_heldIntS.f (k : Nat) (l0 : List Int) (a1 : Int) : Option (Int) := laws_heldIntS.l0 k l0 a1 0
theorem laws_heldIntS.ok {k : Nat} {l0 : List Int} {a1 : Int} {r : Int} (H : laws_heldIntS.f k l0 a1 = some r) : ACalls Try.prog 40 [] [.sl .o 1 (l0.map (eI .i64)), .lit (.int .i64 a1)] [] (.lit (.int .i64 r)) := by
 refine acalls (fn := Try.f40) (nt := 21) Try.func40 rfl rfl (Nat.le_of_ble_eq_true rfl) fun E hE => ?_
 rw [laws_heldIntS.f] at H
 refine aw_grp1 ?_
 refine wk_start ?_
 refine kv g0 (asg) ?_
 refine wk_end ?_
 refine ac_next ?_
 refine aw_grp1 ?_
 refine aw_grp1 ?_
 refine wk_start ?_
 refine kv g0 (asg) ?_
 refine wk_end ?_
 refine ac_next ?_
 refine aw_block ?_
 refine aw_loop2 (fun (k_ : Nat) (p4 : Int) (p5 : Int) => k_ ≤ k ∧ laws_heldIntS.l0 k_ l0 p4 p5 = some r) (fun (p4 : Int) (p5 : Int) => ⟨[(0, .sl .o 1 (l0.map (eI .i64))), (1, .lit (.int .i64 p4)), (5, .lit (.int .i64 p5))], []⟩) k a1 0 ⟨Nat.le_refl _, H⟩ (fun K_ h_ => acw hE [] 9999 h_) (fun _ _ => by intro h_; have h_ := h_.2; rw [laws_heldIntS.l0.eq_1] at h_; cases h_) ?_
 intro k6 p4 p5 hq_ K10 hK11
 have hk6 := hq_.1
 have H := hq_.2
 clear hq_
 rw [laws_heldIntS.l0.eq_2] at H
 refine aw_grp1 ?_
 refine aw_grp1 ?_
 refine wk_start ?_
 refine kv g0 (mv) ?_
 refine kv g0 (mv) ?_
 refine kv g0 (lnS lenE) ?_
 refine kv g0 (lss) ?_
 refine wk_end ?_
 refine ac_next ?_
 by_cases c7 : p5 < (l0.length : Int)
 ·rw [if_pos c7] at H
  refine aw_ifT ?_ (decide_eq_true c7)
  refine aw_skip ?_
  refine ac_next ?_
  refine aw_grp1 ?_
  refine aw_block ?_
  refine aw_grp1 ?_
  refine aw_grp1 ?_
  refine wk_start ?_
  refine kv g0 (mv) ?_
  refine kv g0 (mv) ?_
  obtain ⟨c8, H⟩ := of_if H
  refine kv g0 (ixS 3 (eI .i64 (rd l0 p5)) c8 (getE (z := (0 : Int)) c8 c7)) ?_
  refine kv g0 (ldR (.lit (.int .i64 (rd l0 p5)))) ?_
  refine kv g0 (mv) ?_
  refine kv g0 (neq) ?_
  refine wk_end ?_
  refine ac_next ?_
  by_cases c9 : (rd l0 p5) = p4
  ·rw [if_pos c9] at H
   refine aw_ifF ?_ (eM c9)
   refine aw_skip ?_
   refine ac_next ?_
   refine wk_start ?_
   refine kv g0 (mv) ?_
   refine kv g0 (add6) ?_
   refine kv g0 (asg) ?_
   refine wk_end ?_
   refine ac_blkN ?_
   refine ac_next ?_
   refine wk_start ?_
   refine kv g0 (mv) ?_
   refine kv g0 (add6) ?_
   refine kv g0 (asg) ?_
   refine wk_end ?_
   refine ac_k ?_
   exact acw hE [] 9999 (hK11 k6 (wrap64 (p4 + 1)) (wrap64 (p5 + 1)) (Nat.le_refl _) ⟨by omega, H⟩)
  rw [if_neg c9] at H
  refine aw_ifT ?_ (eN c9)
  refine aw_grp1 ?_
  refine wk_start ?_
  refine kv g0 (asg) ?_
  refine wk_end ?_
  refine ac_next ?_
  refine aw_ret ?_
  refine ac_thenR ?_
  refine ac_blkR ?_
  refine ac_thenR ?_
  refine ac_thenR ?_
  refine ac_blkR ?_
  refine ac_thenR ?_
  obtain rfl := Option.some.inj H
  exact acr hE [.tmp 4] (.tmp .nil) (.one _) [] 9999
 rw [if_neg c7] at H
 refine aw_ifF ?_ (decide_eq_false c7)
 refine aw_exit ?_
 refine ac_then ?_
 refine ac_then ?_
 refine ac_hit rfl ?_
 refine ac_next ?_
 refine aw_grp1 ?_
 refine wk_start ?_
 refine kv g0 (mv) ?_
 refine kv g0 (asg) ?_
 refine wk_end ?_
 refine ac_next ?_
 refine aw_ret ?_
 obtain rfl := Option.some.inj H
 exact acr hE [.tmp 4] (.tmp .nil) (.one _) [] 9999
end Go.Proofs.Ytkkglhhkpihmgaa.PFnExactWorldNew
