import Derived.Test.YtfeaemlakniijaaPFnExactLogRightx1
set_option linter.unusedVariables false
set_option linter.unusedSimpArgs false
set_option maxRecDepth 100000
namespace Go.Proofs.Ytfeaemlakniijaa.PFnExactLogRight
open Go Go.RowKit Go.Proofs.YtfeaemlakniijaaA
/-! spec_EntriesOf -/
def spec_EntriesOf.l0 : Nat → (List S98) → (List Int) → (List S97) → Int → (List Int) → Int → (List S34) → Int → Option ((List S34))
 | 0, _, _, _, _, _, _, _, _ => none
 | k7 + 1, l0_0, l0_1, l0_2, a0_3, l0_4, a1, q5, p6 => if p6 < (l0_0.length : Int) then if 0 ≤ p6 then if ((rd_T98 l0_0 p6).f0) = a1 then (if q5.length + ([(⟨(rd_T98 l0_0 p6).f2.f0, (rd_T98 l0_0 p6).f2.f1, (rd_T98 l0_0 p6).f2.f2, (rd_T98 l0_0 p6).f2.f3⟩ : S34)] : List S34).length < 4398046511104 then spec_EntriesOf.l0 k7 l0_0 l0_1 l0_2 a0_3 l0_4 a1 (q5 ++ ([(⟨(rd_T98 l0_0 p6).f2.f0, (rd_T98 l0_0 p6).f2.f1, (rd_T98 l0_0 p6).f2.f2, (rd_T98 l0_0 p6).f2.f3⟩ : S34)] : List S34)) (wrap64 (p6 + 1)) else none) else spec_EntriesOf.l0 k7 l0_0 l0_1 l0_2 a0_3 l0_4 a1 q5 (wrap64 (p6 + 1)) else none else some q5
def spec_EntriesOf.f (k : Nat) (l0_0 : List S98) (l0_1 : List Int) (l0_2 : List S97) (a0_3 : Int) (l0_4 : List Int) (a1 : Int) : Option ((List S34)) := spec_EntriesOf.l0 k l0_0 l0_1 l0_2 a0_3 l0_4 a1 ([] : List S34) 0
theorem spec_EntriesOf.ok {k : Nat} {l0_0 : List S98} {l0_1 : List Int} {l0_2 : List S97} {a0_3 : Int} {l0_4 : List Int} {a1 : Int} {r : (List S34)} (H : spec_EntriesOf.f k l0_0 l0_1 l0_2 a0_3 l0_4 a1 = some r) : ACalls Try.prog 19 [] [.agg [.sl .o 6 (l0_0.map e98), .sl .o 1 (l0_1.map (eI .i64)), .sl .o 6 (l0_2.map e97), .lit (.int .i64 a0_3), .sl .o 1 (l0_4.map (eI .i64))], .lit (.int .i64 a1)] [(0, .row 34 4 (r.map e34))] (.row 0) := by
 refine acalls (fn := Try.f19) (nt := 33) Try.func19 rfl rfl (Nat.le_of_ble_eq_true rfl) fun E hE => ?_
 rw [spec_EntriesOf.f] at H
 refine aw_grp1 ?_
 refine wk_start ?_
 refine kb g0 (bxA 0) ?_
 refine kv g0 (asg) ?_
 refine wk_end ?_
 refine ac_next ?_
 refine aw_grp1 ?_
 refine wk_start ?_
 refine kb g0 (bsl 1 34 4 [.int .i64 0, .int .i64 0, .int .i64 0, .int .i64 0] (([] : List S34).map e34)) ?_
 refine kv g0 (asg) ?_
 refine wk_end ?_
 refine ac_next ?_
 refine aw_grp1 ?_
 refine aw_grp1 ?_
 refine wk_start ?_
 refine kv g0 (asg) ?_
 refine wk_end ?_
 refine ac_next ?_
 refine aw_block ?_
 refine aw_loop2 (fun (k_ : Nat) (q5 : List S34) (p6 : Int) => k_ ≤ k ∧ spec_EntriesOf.l0 k_ l0_0 l0_1 l0_2 a0_3 l0_4 a1 q5 p6 = some r) (fun (q5 : List S34) (p6 : Int) => ⟨[(1, .lit (.int .i64 a1)), (2, .box 0 0), (5, .row 1), (6, .lit (.int .i64 p6))], [(0, .box 29 [.sl .o 6 (l0_0.map e98), .sl .o 1 (l0_1.map (eI .i64)), .sl .o 6 (l0_2.map e97), .lit (.int .i64 a0_3), .sl .o 1 (l0_4.map (eI .i64))]), (1, .row 34 4 (q5.map e34))]⟩) k ([] : List S34) 0 ⟨Nat.le_refl _, H⟩ (fun K_ h_ => acw hE [(0, 0), (1, 1)] 9999 h_) (fun _ _ => by intro h_; have h_ := h_.2; rw [spec_EntriesOf.l0.eq_1] at h_; cases h_) ?_
 intro k7 q5 p6 hq_ K12 hK13
 have hk7 := hq_.1
 have H := hq_.2
 clear hq_
 rw [spec_EntriesOf.l0.eq_2] at H
 refine aw_grp1 ?_
 refine aw_grp1 ?_
 refine wk_start ?_
 refine kv g0 (mv) ?_
 refine kv g0 (faB 0 0) ?_
 refine kv g0 (ldB) ?_
 refine kv g0 (lnS lenE) ?_
 refine kv g0 (lss) ?_
 refine wk_end ?_
 refine ac_next ?_
 by_cases c8 : p6 < (l0_0.length : Int)
 ·rw [if_pos c8] at H
  refine aw_ifT ?_ (decide_eq_true c8)
  refine aw_skip ?_
  refine ac_next ?_
  refine aw_grp1 ?_
  refine aw_block ?_
  refine aw_grp1 ?_
  refine wk_start ?_
  refine kv g0 (faB 0 0) ?_
  refine kv g0 (ldB) ?_
  refine kv g0 (mv) ?_
  obtain ⟨c9, H⟩ := of_if H
  refine kv g0 (ixS 98 (e98 (rd_T98 l0_0 p6)) c9 (getE (z := z98) c9 c8)) ?_
  refine kv g0 (faR 0 0) ?_
  refine kv g0 (ldR (.lit (.int .i64 ((rd_T98 l0_0 p6).f0)))) ?_
  refine kv g0 (mv) ?_
  refine kv g0 (eql) ?_
  refine wk_end ?_
  refine ac_next ?_
  by_cases c10 : ((rd_T98 l0_0 p6).f0) = a1
  ·rw [if_pos c10] at H
   refine aw_ifT ?_ (eT c10)
   refine wk_start ?_
   refine kv g0 (mv) ?_
   refine kv g0 (faB 0 0) ?_
   refine kv g0 (ldB) ?_
   refine kv g0 (mv) ?_
   refine kv g0 (ixS 98 (e98 (rd_T98 l0_0 p6)) c9 (getE (z := z98) c9 c8)) ?_
   refine kv g0 (faR 2 2) ?_
   refine kv g0 (ldRA 4 [.lit (.int .i64 ((rd_T98 l0_0 p6).f2.f0)), .lit (.int .i64 ((rd_T98 l0_0 p6).f2.f1)), .lit (.int .i64 ((rd_T98 l0_0 p6).f2.f2)), .lit (.int .i64 ((rd_T98 l0_0 p6).f2.f3))]) ?_
   refine kb g0 (bsl 2 34 4 [.int .i64 0, .int .i64 0, .int .i64 0, .int .i64 0] (([(⟨(rd_T98 l0_0 p6).f2.f0, (rd_T98 l0_0 p6).f2.f1, (rd_T98 l0_0 p6).f2.f2, (rd_T98 l0_0 p6).f2.f3⟩ : S34)] : List S34).map e34)) ?_
   obtain ⟨c11, H⟩ := of_if H
   refine kc g0 (apR 3 34 4 32 [.int .i64 0, .int .i64 0, .int .i64 0, .int .i64 0] ((q5 ++ ([(⟨(rd_T98 l0_0 p6).f2.f0, (rd_T98 l0_0 p6).f2.f1, (rd_T98 l0_0 p6).f2.f2, (rd_T98 l0_0 p6).f2.f3⟩ : S34)] : List S34)).map e34) (.row rfl) (apb c11 rfl) appE) ?_
   refine kv g0 (asg) ?_
   refine wk_end ?_
   refine ac_blkN ?_
   refine ac_next ?_
   refine wk_start ?_
   refine kv g0 (mv) ?_
   refine kv g0 (add6) ?_
   refine kv g0 (asg) ?_
   refine wk_end ?_
   refine ac_k ?_
   exact acw hE [(0, 0), (1, 3)] 9999 (hK13 k7 (q5 ++ ([(⟨(rd_T98 l0_0 p6).f2.f0, (rd_T98 l0_0 p6).f2.f1, (rd_T98 l0_0 p6).f2.f2, (rd_T98 l0_0 p6).f2.f3⟩ : S34)] : List S34)) (wrap64 (p6 + 1)) (Nat.le_refl _) ⟨by omega, H⟩)
  rw [if_neg c10] at H
  refine aw_ifF ?_ (eF c10)
  refine aw_skip ?_
  refine ac_blkN ?_
  refine ac_next ?_
  refine wk_start ?_
  refine kv g0 (mv) ?_
  refine kv g0 (add6) ?_
  refine kv g0 (asg) ?_
  refine wk_end ?_
  refine ac_k ?_
  exact acw hE [(0, 0), (1, 1)] 9999 (hK13 k7 q5 (wrap64 (p6 + 1)) (Nat.le_refl _) ⟨by omega, H⟩)
 rw [if_neg c8] at H
 refine aw_ifF ?_ (decide_eq_false c8)
 refine aw_exit ?_
 refine ac_then ?_
 refine ac_then ?_
 refine ac_hit rfl ?_
 refine ac_next ?_
 refine aw_grp1 ?_
 refine wk_start ?_
 refine kv g0 (mv) ?_
 refine kv g0 (asg) ?_
 refine wk_end ?_
 refine ac_next ?_
 refine aw_ret ?_
 obtain rfl := Option.some.inj H
 exact acr hE [.tmp 4] (.tmp .nil) (.one _) [(0, 1)] 9999
/-! spec_FiledOf -/
def spec_FiledOf.l0 : Nat → (List (List (List S212))) → (List S164) → (List S75) → (List S98) → (List Int) → (List S97) → Int → (List Int) → (List S169) → Int → (List Int) → (List S160) → Int → (List S160) → Int → Option ((List S160))
 | 0, _, _, _, _, _, _, _, _, _, _, _, _, _, _, _ => none
 | k7 + 1, l0_0, l0_1, l0_2, l0_3, l0_4, l0_5, a0_6, l0_7, l0_8, a0_9, l0_10, l0_11, a1, q5, p6 => if p6 < (l0_11.length : Int) then if 0 ≤ p6 then if ((rd_T160 l0_11 p6).f0) = a1 then (if q5.length + ([(⟨(rd_T160 l0_11 p6).f0, (rd_T160 l0_11 p6).f1, (rd_T160 l0_11 p6).f2, (rd_T160 l0_11 p6).f3⟩ : S160)] : List S160).length < 4398046511104 then spec_FiledOf.l0 k7 l0_0 l0_1 l0_2 l0_3 l0_4 l0_5 a0_6 l0_7 l0_8 a0_9 l0_10 l0_11 a1 (q5 ++ ([(⟨(rd_T160 l0_11 p6).f0, (rd_T160 l0_11 p6).f1, (rd_T160 l0_11 p6).f2, (rd_T160 l0_11 p6).f3⟩ : S160)] : List S160)) (wrap64 (p6 + 1)) else none) else spec_FiledOf.l0 k7 l0_0 l0_1 l0_2 l0_3 l0_4 l0_5 a0_6 l0_7 l0_8 a0_9 l0_10 l0_11 a1 q5 (wrap64 (p6 + 1)) else none else some q5
def spec_FiledOf.f (k : Nat) (l0_0 : List (List (List S212))) (l0_1 : List S164) (l0_2 : List S75) (l0_3 : List S98) (l0_4 : List Int) (l0_5 : List S97) (a0_6 : Int) (l0_7 : List Int) (l0_8 : List S169) (a0_9 : Int) (l0_10 : List Int) (l0_11 : List S160) (a1 : Int) : Option ((List S160)) := spec_FiledOf.l0 k l0_0 l0_1 l0_2 l0_3 l0_4 l0_5 a0_6 l0_7 l0_8 a0_9 l0_10 l0_11 a1 ([] : List S160) 0
theorem spec_FiledOf.ok {k : Nat} {l0_0 : List (List (List S212))} {l0_1 : List S164} {l0_2 : List S75} {l0_3 : List S98} {l0_4 : List Int} {l0_5 : List S97} {a0_6 : Int} {l0_7 : List Int} {l0_8 : List S169} {a0_9 : Int} {l0_10 : List Int} {l0_11 : List S160} {a1 : Int} {r : (List S160)} (H : spec_FiledOf.f k l0_0 l0_1 l0_2 l0_3 l0_4 l0_5 a0_6 l0_7 l0_8 a0_9 l0_10 l0_11 a1 = some r) : ACalls Try.prog 78 [] [.agg [.sl .o 1 (l0_0.map (eL 1 (eL 4 (e212)))), .sl .o 4 (l0_1.map e164), .sl .o 5 (l0_2.map e75), .sl .o 6 (l0_3.map e98), .sl .o 1 (l0_4.map (eI .i64)), .sl .o 6 (l0_5.map e97), .lit (.int .i64 a0_6), .sl .o 1 (l0_7.map (eI .i64)), .sl .o 3 (l0_8.map e169), .lit (.int .i64 a0_9), .sl .o 1 (l0_10.map (eI .i64)), .sl .o 4 (l0_11.map e160)], .lit (.int .i64 a1)] [(0, .row 160 4 (r.map e160))] (.row 0) := by
 refine acalls (fn := Try.f78) (nt := 32) Try.func78 rfl rfl (Nat.le_of_ble_eq_true rfl) fun E hE => ?_
 rw [spec_FiledOf.f] at H
 refine aw_grp1 ?_
 refine wk_start ?_
 refine kb g0 (bxA 0) ?_
 refine kv g0 (asg) ?_
 refine wk_end ?_
 refine ac_next ?_
 refine aw_grp1 ?_
 refine wk_start ?_
 refine kb g0 (bsl 1 160 4 [.int .i64 0, .int .i64 0, .int .i64 0, .bool false] (([] : List S160).map e160)) ?_
 refine kv g0 (asg) ?_
 refine wk_end ?_
 refine ac_next ?_
 refine aw_grp1 ?_
 refine aw_grp1 ?_
 refine wk_start ?_
 refine kv g0 (asg) ?_
 refine wk_end ?_
 refine ac_next ?_
 refine aw_block ?_
 refine aw_loop2 (fun (k_ : Nat) (q5 : List S160) (p6 : Int) => k_ ≤ k ∧ spec_FiledOf.l0 k_ l0_0 l0_1 l0_2 l0_3 l0_4 l0_5 a0_6 l0_7 l0_8 a0_9 l0_10 l0_11 a1 q5 p6 = some r) (fun (q5 : List S160) (p6 : Int) => ⟨[(1, .lit (.int .i64 a1)), (2, .box 0 0), (5, .row 1), (6, .lit (.int .i64 p6))], [(0, .box 70 [.sl .o 1 (l0_0.map (eL 1 (eL 4 (e212)))), .sl .o 4 (l0_1.map e164), .sl .o 5 (l0_2.map e75), .sl .o 6 (l0_3.map e98), .sl .o 1 (l0_4.map (eI .i64)), .sl .o 6 (l0_5.map e97), .lit (.int .i64 a0_6), .sl .o 1 (l0_7.map (eI .i64)), .sl .o 3 (l0_8.map e169), .lit (.int .i64 a0_9), .sl .o 1 (l0_10.map (eI .i64)), .sl .o 4 (l0_11.map e160)]), (1, .row 160 4 (q5.map e160))]⟩) k ([] : List S160) 0 ⟨Nat.le_refl _, H⟩ (fun K_ h_ => acw hE [(0, 0), (1, 1)] 9999 h_) (fun _ _ => by intro h_; have h_ := h_.2; rw [spec_FiledOf.l0.eq_1] at h_; cases h_) ?_
 intro k7 q5 p6 hq_ K12 hK13
 have hk7 := hq_.1
 have H := hq_.2
 clear hq_
 rw [spec_FiledOf.l0.eq_2] at H
 refine aw_grp1 ?_
 refine aw_grp1 ?_
 refine wk_start ?_
 refine kv g0 (mv) ?_
 refine kv g0 (faB 11 11) ?_
 refine kv g0 (ldB) ?_
 refine kv g0 (lnS lenE) ?_
 refine kv g0 (lss) ?_
 refine wk_end ?_
 refine ac_next ?_
 by_cases c8 : p6 < (l0_11.length : Int)
 ·rw [if_pos c8] at H
  refine aw_ifT ?_ (decide_eq_true c8)
  refine aw_skip ?_
  refine ac_next ?_
  refine aw_grp1 ?_
  refine aw_block ?_
  refine aw_grp1 ?_
  refine wk_start ?_
  refine kv g0 (faB 11 11) ?_
  refine kv g0 (ldB) ?_
  refine kv g0 (mv) ?_
  obtain ⟨c9, H⟩ := of_if H
  refine kv g0 (ixS 160 (e160 (rd_T160 l0_11 p6)) c9 (getE (z := z160) c9 c8)) ?_
  refine kv g0 (faR 0 0) ?_
  refine kv g0 (ldR (.lit (.int .i64 ((rd_T160 l0_11 p6).f0)))) ?_
  refine kv g0 (mv) ?_
  refine kv g0 (eql) ?_
  refine wk_end ?_
  refine ac_next ?_
  by_cases c10 : ((rd_T160 l0_11 p6).f0) = a1
  ·rw [if_pos c10] at H
   refine aw_ifT ?_ (eT c10)
   refine wk_start ?_
   refine kv g0 (mv) ?_
   refine kv g0 (faB 11 11) ?_
   refine kv g0 (ldB) ?_
   refine kv g0 (mv) ?_
   refine kv g0 (ixS 160 (e160 (rd_T160 l0_11 p6)) c9 (getE (z := z160) c9 c8)) ?_
   refine kv g0 (ldRA 4 [.lit (.int .i64 ((rd_T160 l0_11 p6).f0)), .lit (.int .i64 ((rd_T160 l0_11 p6).f1)), .lit (.int .i64 ((rd_T160 l0_11 p6).f2)), .lit (.bool ((rd_T160 l0_11 p6).f3))]) ?_
   refine kb g0 (bsl 2 160 4 [.int .i64 0, .int .i64 0, .int .i64 0, .bool false] (([(⟨(rd_T160 l0_11 p6).f0, (rd_T160 l0_11 p6).f1, (rd_T160 l0_11 p6).f2, (rd_T160 l0_11 p6).f3⟩ : S160)] : List S160).map e160)) ?_
   obtain ⟨c11, H⟩ := of_if H
   refine kc g0 (apR 3 160 4 32 [.int .i64 0, .int .i64 0, .int .i64 0, .bool false] ((q5 ++ ([(⟨(rd_T160 l0_11 p6).f0, (rd_T160 l0_11 p6).f1, (rd_T160 l0_11 p6).f2, (rd_T160 l0_11 p6).f3⟩ : S160)] : List S160)).map e160) (.row rfl) (apb c11 rfl) appE) ?_
   refine kv g0 (asg) ?_
   refine wk_end ?_
   refine ac_blkN ?_
   refine ac_next ?_
   refine wk_start ?_
   refine kv g0 (mv) ?_
   refine kv g0 (add6) ?_
   refine kv g0 (asg) ?_
   refine wk_end ?_
   refine ac_k ?_
   exact acw hE [(0, 0), (1, 3)] 9999 (hK13 k7 (q5 ++ ([(⟨(rd_T160 l0_11 p6).f0, (rd_T160 l0_11 p6).f1, (rd_T160 l0_11 p6).f2, (rd_T160 l0_11 p6).f3⟩ : S160)] : List S160)) (wrap64 (p6 + 1)) (Nat.le_refl _) ⟨by omega, H⟩)
  rw [if_neg c10] at H
  refine aw_ifF ?_ (eF c10)
  refine aw_skip ?_
  refine ac_blkN ?_
  refine ac_next ?_
  refine wk_start ?_
  refine kv g0 (mv) ?_
  refine kv g0 (add6) ?_
  refine kv g0 (asg) ?_
  refine wk_end ?_
  refine ac_k ?_
  exact acw hE [(0, 0), (1, 1)] 9999 (hK13 k7 q5 (wrap64 (p6 + 1)) (Nat.le_refl _) ⟨by omega, H⟩)
 rw [if_neg c8] at H
 refine aw_ifF ?_ (decide_eq_false c8)
 refine aw_exit ?_
 refine ac_then ?_
 refine ac_then ?_
 refine ac_hit rfl ?_
 refine ac_next ?_
 refine aw_grp1 ?_
 refine wk_start ?_
 refine kv g0 (mv) ?_
 refine kv g0 (asg) ?_
 refine wk_end ?_
 refine ac_next ?_
 refine aw_ret ?_
 obtain rfl := Option.some.inj H
 exact acr hE [.tmp 4] (.tmp .nil) (.one _) [(0, 1)] 9999
/-! spec_Spread -/
mutual
def spec_Spread.l0 : Nat → (List S34) → Int → (List S34) → Int → Option ((List S34))
 | 0, _, _, _, _ => none
 | k30 + 1, l0, p18, q28, p29 => if p29 < ((rd_T34 l0 p18).f3) then if (q28.length : Int) ≤ 1000 then if q28.length + ([(⟨2, 0, 0, 1⟩ : S34)] : List S34).length < 4398046511104 then spec_Spread.l0 k30 l0 p18 (q28 ++ ([(⟨2, 0, 0, 1⟩ : S34)] : List S34)) (wrap64 (p29 + 1)) else none else spec_Spread.l1 k30 l0 q28 (wrap64 (p18 + 1)) else spec_Spread.l1 k30 l0 q28 (wrap64 (p18 + 1))
def spec_Spread.l1 : Nat → (List S34) → (List S34) → Int → Option ((List S34))
 | 0, _, _, _ => none
 | k19 + 1, l0, q17, p18 => if p18 < (l0.length : Int) then if 0 ≤ p18 then if ((rd_T34 l0 p18).f0) = 2 then spec_Spread.l0 k19 l0 p18 q17 0 else (if q17.length + ([(⟨(rd_T34 l0 p18).f0, (rd_T34 l0 p18).f1, (rd_T34 l0 p18).f2, (rd_T34 l0 p18).f3⟩ : S34)] : List S34).length < 4398046511104 then spec_Spread.l1 k19 l0 (q17 ++ ([(⟨(rd_T34 l0 p18).f0, (rd_T34 l0 p18).f1, (rd_T34 l0 p18).f2, (rd_T34 l0 p18).f3⟩ : S34)] : List S34)) (wrap64 (p18 + 1)) else none) else none else some q17
end
def spec_Spread.f (k : Nat) (l0 : List S34) : Option ((List S34)) := spec_Spread.l1 k l0 ([] : List S34) 0
theorem spec_Spread.ok {k : Nat} {l0 : List S34} {r : (List S34)} (H : spec_Spread.f k l0 = some r) : ACalls Try.prog 123 [] [.sl .o 4 (l0.map e34)] [(0, .row 34 4 (r.map e34))] (.row 0) := by
 refine acalls (fn := Try.f123) (nt := 45) Try.func123 rfl rfl (Nat.le_of_ble_eq_true rfl) fun E hE => ?_
 rw [spec_Spread.f] at H
 refine aw_grp1 ?_
 refine wk_start ?_
 refine kv g0 (asg) ?_
 refine wk_end ?_
 refine ac_next ?_
 refine aw_grp1 ?_
 refine wk_start ?_
 refine kb g0 (bsl 0 34 4 [.int .i64 0, .int .i64 0, .int .i64 0, .int .i64 0] (([] : List S34).map e34)) ?_
 refine kv g0 (asg) ?_
 refine wk_end ?_
 refine ac_next ?_
 refine aw_grp1 ?_
 refine aw_grp1 ?_
 refine wk_start ?_
 refine kv g0 (asg) ?_
 refine wk_end ?_
 refine ac_next ?_
 refine aw_block ?_
 refine aw_loop2 (fun (k_ : Nat) (q17 : List S34) (p18 : Int) => k_ ≤ k ∧ spec_Spread.l1 k_ l0 q17 p18 = some r) (fun (q17 : List S34) (p18 : Int) => ⟨[(0, .sl .o 4 (l0.map e34)), (3, .row 0), (4, .lit (.int .i64 p18))], [(0, .row 34 4 (q17.map e34))]⟩) k ([] : List S34) 0 ⟨Nat.le_refl _, H⟩ (fun K_ h_ => acw hE [(0, 0)] 9999 h_) (fun _ _ => by intro h_; have h_ := h_.2; rw [spec_Spread.l1.eq_1] at h_; cases h_) ?_
 intro k19 q17 p18 hq_ K36 hK37
 have hk19 := hq_.1
 have H := hq_.2
 clear hq_
 rw [spec_Spread.l1.eq_2] at H
 refine aw_grp1 ?_
 refine aw_grp1 ?_
 refine wk_start ?_
 refine kv g0 (mv) ?_
 refine kv g0 (mv) ?_
 refine kv g0 (lnS lenE) ?_
 refine kv g0 (lss) ?_
 refine wk_end ?_
 refine ac_next ?_
 by_cases c20 : p18 < (l0.length : Int)
 ·rw [if_pos c20] at H
  refine aw_ifT ?_ (decide_eq_true c20)
  refine aw_skip ?_
  refine ac_next ?_
  refine aw_grp1 ?_
  refine aw_block ?_
  refine aw_grp1 ?_
  refine aw_grp1 ?_
  refine wk_start ?_
  refine kv g0 (mv) ?_
  refine kv g0 (mv) ?_
  obtain ⟨c21, H⟩ := of_if H
  refine kv g0 (ixS 34 (e34 (rd_T34 l0 p18)) c21 (getE (z := z34) c21 c20)) ?_
  refine kv g0 (faR 0 0) ?_
  refine kv g0 (ldR (.lit (.int .i64 ((rd_T34 l0 p18).f0)))) ?_
  refine kv g0 (neq) ?_
  refine wk_end ?_
  refine ac_next ?_
  by_cases c22 : ((rd_T34 l0 p18).f0) = 2
  ·rw [if_pos c22] at H
   refine aw_ifF ?_ (eM c22)
   refine aw_skip ?_
   refine ac_next ?_
   refine aw_grp1 ?_
   refine wk_start ?_
   refine kv g0 (asg) ?_
   refine wk_end ?_
   refine ac_next ?_
   refine aw_block ?_
   refine aw_loop2 (fun (k_ : Nat) (q28 : List S34) (p29 : Int) => k_ ≤ k19 ∧ spec_Spread.l0 k_ l0 p18 q28 p29 = some r) (fun (q28 : List S34) (p29 : Int) => ⟨[(0, .sl .o 4 (l0.map e34)), (3, .row 0), (4, .lit (.int .i64 p18)), (5, .lit (.int .i64 p29))], [(0, .row 34 4 (q28.map e34))]⟩) k19 q17 0 ⟨Nat.le_refl _, H⟩ (fun K_ h_ => acw hE [(0, 0)] 9999 h_) (fun _ _ => by intro h_; have h_ := h_.2; rw [spec_Spread.l0.eq_1] at h_; cases h_) ?_
   intro k30 q28 p29 hq_ K34 hK35
   have hk30 := hq_.1
   have H := hq_.2
   clear hq_
   rw [spec_Spread.l0.eq_2] at H
   refine aw_grp1 ?_
   refine aw_grp1 ?_
   refine wk_start ?_
   refine kv g0 (mv) ?_
   refine kv g0 (mv) ?_
   refine kv g0 (mv) ?_
   refine kv g0 (ixS 34 (e34 (rd_T34 l0 p18)) c21 (getE (z := z34) c21 c20)) ?_
   refine kv g0 (faR 3 3) ?_
   refine kv g0 (ldR (.lit (.int .i64 ((rd_T34 l0 p18).f3)))) ?_
   refine kv g0 (lss) ?_
   refine kv g0 (mv) ?_
   by_cases c31 : p29 < ((rd_T34 l0 p18).f3)
   ·rw [if_pos c31] at H
    refine kv (g1 (decide_eq_true c31)) (mv) ?_
    refine kv (g1 (decide_eq_true c31)) (lnR lenE) ?_
    refine kv (g1 (decide_eq_true c31)) (leq) ?_
    refine kv g0 (pkT (decide_eq_true c31)) ?_
    refine wk_end ?_
    refine ac_next ?_
    by_cases c32 : (q28.length : Int) ≤ 1000
    ·rw [if_pos c32] at H
     refine aw_ifT ?_ (decide_eq_true c32)
     refine aw_skip ?_
     refine ac_next ?_
     refine aw_grp1 ?_
     refine aw_block ?_
     refine wk_start ?_
     refine kv g0 (mv) ?_
     refine kv g0 (bld [(0, 1), (1, 1), (2, 1), (3, 1)] [.int .i64 0, .int .i64 0, .int .i64 0, .int .i64 0] [.lit (.int .i64 2), .lit (.int .i64 0), .lit (.int .i64 0), .lit (.int .i64 1)]) ?_
     refine kb g0 (bsl 3 34 4 [.int .i64 0, .int .i64 0, .int .i64 0, .int .i64 0] (([(⟨2, 0, 0, 1⟩ : S34)] : List S34).map e34)) ?_
     obtain ⟨c33, H⟩ := of_if H
     refine kc g0 (apR 4 34 4 32 [.int .i64 0, .int .i64 0, .int .i64 0, .int .i64 0] ((q28 ++ ([(⟨2, 0, 0, 1⟩ : S34)] : List S34)).map e34) (.row rfl) (apb c33 rfl) appE) ?_
     refine kv g0 (asg) ?_
     refine wk_end ?_
     refine ac_blkN ?_
     refine ac_next ?_
     refine wk_start ?_
     refine kv g0 (mv) ?_
     refine kv g0 (add6) ?_
     refine kv g0 (asg) ?_
     refine wk_end ?_
     refine ac_k ?_
     exact acw hE [(0, 4)] 9999 (hK35 k30 (q28 ++ ([(⟨2, 0, 0, 1⟩ : S34)] : List S34)) (wrap64 (p29 + 1)) (Nat.le_refl _) ⟨by omega, H⟩)
    rw [if_neg c32] at H
    refine aw_ifF ?_ (decide_eq_false c32)
    refine aw_exit ?_
    refine ac_then ?_
    refine ac_then ?_
    refine ac_hit rfl ?_
    refine ac_blkN ?_
    refine ac_next ?_
    refine wk_start ?_
    refine kv g0 (mv) ?_
    refine kv g0 (add6) ?_
    refine kv g0 (asg) ?_
    refine wk_end ?_
    refine ac_k ?_
    exact acw hE [(0, 0)] 9999 (hK37 k30 q28 (wrap64 (p18 + 1)) (by omega) ⟨by omega, H⟩)
   rw [if_neg c31] at H
   refine kx (hT (decide_eq_false c31)) ?_
   refine kx (hT (decide_eq_false c31)) ?_
   refine kx (hT (decide_eq_false c31)) ?_
   refine kv g0 (pkF (decide_eq_false c31)) ?_
   refine wk_end ?_
   refine ac_next ?_
   refine aw_ifF ?_ rfl
   refine aw_exit ?_
   refine ac_then ?_
   refine ac_then ?_
   refine ac_hit rfl ?_
   refine ac_blkN ?_
   refine ac_next ?_
   refine wk_start ?_
   refine kv g0 (mv) ?_
   refine kv g0 (add6) ?_
   refine kv g0 (asg) ?_
   refine wk_end ?_
   refine ac_k ?_
   exact acw hE [(0, 0)] 9999 (hK37 k30 q28 (wrap64 (p18 + 1)) (by omega) ⟨by omega, H⟩)
  rw [if_neg c22] at H
  refine aw_ifT ?_ (eN c22)
  refine aw_grp1 ?_
  refine wk_start ?_
  refine kv g0 (mv) ?_
  refine kv g0 (mv) ?_
  refine kv g0 (mv) ?_
  refine kv g0 (ixS 34 (e34 (rd_T34 l0 p18)) c21 (getE (z := z34) c21 c20)) ?_
  refine kv g0 (ldRA 4 [.lit (.int .i64 ((rd_T34 l0 p18).f0)), .lit (.int .i64 ((rd_T34 l0 p18).f1)), .lit (.int .i64 ((rd_T34 l0 p18).f2)), .lit (.int .i64 ((rd_T34 l0 p18).f3))]) ?_
  refine kb g0 (bsl 1 34 4 [.int .i64 0, .int .i64 0, .int .i64 0, .int .i64 0] (([(⟨(rd_T34 l0 p18).f0, (rd_T34 l0 p18).f1, (rd_T34 l0 p18).f2, (rd_T34 l0 p18).f3⟩ : S34)] : List S34).map e34)) ?_
  obtain ⟨c23, H⟩ := of_if H
  refine kc g0 (apR 2 34 4 32 [.int .i64 0, .int .i64 0, .int .i64 0, .int .i64 0] ((q17 ++ ([(⟨(rd_T34 l0 p18).f0, (rd_T34 l0 p18).f1, (rd_T34 l0 p18).f2, (rd_T34 l0 p18).f3⟩ : S34)] : List S34)).map e34) (.row rfl) (apb c23 rfl) appE) ?_
  refine kv g0 (asg) ?_
  refine wk_end ?_
  refine ac_next ?_
  refine aw_exit ?_
  refine ac_then ?_
  refine ac_hit rfl ?_
  refine ac_next ?_
  refine wk_start ?_
  refine kv g0 (mv) ?_
  refine kv g0 (add6) ?_
  refine kv g0 (asg) ?_
  refine wk_end ?_
  refine ac_k ?_
  exact acw hE [(0, 2)] 9999 (hK37 k19 (q17 ++ ([(⟨(rd_T34 l0 p18).f0, (rd_T34 l0 p18).f1, (rd_T34 l0 p18).f2, (rd_T34 l0 p18).f3⟩ : S34)] : List S34)) (wrap64 (p18 + 1)) (Nat.le_refl _) ⟨by omega, H⟩)
 rw [if_neg c20] at H
 refine aw_ifF ?_ (decide_eq_false c20)
 refine aw_exit ?_
 refine ac_then ?_
 refine ac_then ?_
 refine ac_hit rfl ?_
 refine ac_next ?_
 refine aw_grp1 ?_
 refine wk_start ?_
 refine kv g0 (mv) ?_
 refine kv g0 (asg) ?_
 refine wk_end ?_
 refine ac_next ?_
 refine aw_ret ?_
 obtain rfl := Option.some.inj H
 exact acr hE [.tmp 2] (.tmp .nil) (.one _) [(0, 0)] 9999
/-! spec_Fits -/
def spec_Fits.l0 : Nat → (List S160) → ((List S34)) → Int → Option (Bool)
 | 0, _, _, _ => none
 | k12 + 1, l1, t1, p11 => if p11 < (t1.length : Int) then if 0 ≤ p11 then if p11 < (l1.length : Int) then if (((rd_T34 t1 p11).f0) == 2) = ((rd_T160 l1 p11).f3) then some false else if ((rd_T34 t1 p11).f0) = 2 then spec_Fits.l0 k12 l1 t1 (wrap64 (p11 + 1)) else (if ((rd_T34 t1 p11).f1) = ((rd_T160 l1 p11).f1) then if ((rd_T34 t1 p11).f2) = ((rd_T160 l1 p11).f2) then spec_Fits.l0 k12 l1 t1 (wrap64 (p11 + 1)) else some false else some false) else none else none else some true
def spec_Fits.f (k : Nat) (l0 : List S34) (l1 : List S160) : Option (Bool) := (spec_Spread.f k l0).bind fun t1 => if (t1.length : Int) > (l1.length : Int) then some false else spec_Fits.l0 k l1 t1 0
theorem spec_Fits.ok {k : Nat} {l0 : List S34} {l1 : List S160} {r : Bool} (H : spec_Fits.f k l0 l1 = some r) : ACalls Try.prog 77 [] [.sl .o 4 (l0.map e34), .sl .o 4 (l1.map e160)] [] (.lit (.bool r)) := by
 refine acalls (fn := Try.f77) (nt := 57) Try.func77 rfl rfl (Nat.le_of_ble_eq_true rfl) fun E hE => ?_
 rw [spec_Fits.f] at H
 refine aw_grp1 ?_
 refine wk_start ?_
 refine kv g0 (asg) ?_
 refine wk_end ?_
 refine ac_next ?_
 refine aw_grp1 ?_
 refine wk_start ?_
 refine kv g0 (mv) ?_
 obtain ⟨t1, A2, H⟩ := of_bind H
 refine kcS1 9 (.row 0) [(0, .row 34 4 (t1.map e34))] g0 (cal (spec_Spread.ok A2) [0] 9999 .n (hf := Try.func123)) rfl rfl ?_
 refine kv g0 (asg) ?_
 refine wk_end ?_
 refine ac_next ?_
 refine aw_grp1 ?_
 refine aw_grp1 ?_
 refine wk_start ?_
 refine kv g0 (mv) ?_
 refine kv g0 (lnR lenE) ?_
 refine kv g0 (mv) ?_
 refine kv g0 (lnS lenE) ?_
 refine kv g0 (gtr) ?_
 refine wk_end ?_
 refine ac_next ?_
 by_cases c3 : (t1.length : Int) > (l1.length : Int)
 ·rw [if_pos c3] at H
  refine aw_ifT ?_ (decide_eq_true c3)
  refine aw_grp1 ?_
  refine wk_start ?_
  refine kv g0 (asg) ?_
  refine wk_end ?_
  refine ac_next ?_
  refine aw_ret ?_
  refine ac_thenR ?_
  obtain rfl := Option.some.inj H
  exact acr hE [.tmp 4] (.tmp .nil) (.one _) [] 9999
 rw [if_neg c3] at H
 refine aw_ifF ?_ (decide_eq_false c3)
 refine aw_skip ?_
 refine ac_next ?_
 refine aw_grp1 ?_
 refine aw_grp1 ?_
 refine wk_start ?_
 refine kv g0 (asg) ?_
 refine wk_end ?_
 refine ac_next ?_
 refine aw_block ?_
 refine aw_loop1 (fun (k_ : Nat) (p11 : Int) => k_ ≤ k ∧ spec_Fits.l0 k_ l1 t1 p11 = some r) (fun (p11 : Int) => ⟨[(1, .sl .o 4 (l1.map e160)), (5, .row 0), (6, .lit (.int .i64 p11))], [(0, .row 34 4 (t1.map e34))]⟩) k 0 ⟨Nat.le_refl _, H⟩ (fun K_ h_ => acw hE [(0, 0)] 9999 h_) (fun _ => by intro h_; have h_ := h_.2; rw [spec_Fits.l0.eq_1] at h_; cases h_) ?_
 intro k12 p11 hq_ K20 hK21
 have hk12 := hq_.1
 have H := hq_.2
 clear hq_
 rw [spec_Fits.l0.eq_2] at H
 refine aw_grp1 ?_
 refine aw_grp1 ?_
 refine wk_start ?_
 refine kv g0 (mv) ?_
 refine kv g0 (mv) ?_
 refine kv g0 (lnR lenE) ?_
 refine kv g0 (lss) ?_
 refine wk_end ?_
 refine ac_next ?_
 by_cases c13 : p11 < (t1.length : Int)
 ·rw [if_pos c13] at H
  refine aw_ifT ?_ (decide_eq_true c13)
  refine aw_skip ?_
  refine ac_next ?_
  refine aw_grp1 ?_
  refine aw_block ?_
  refine aw_grp1 ?_
  refine wk_start ?_
  refine kv g0 (mv) ?_
  refine kv g0 (mv) ?_
  obtain ⟨c14, H⟩ := of_if H
  refine kv g0 (ixR 34 c14 (ltE c13)) ?_
  refine kv g0 (ldEA 4 (e34 (rd_T34 t1 p11)) [.lit (.int .i64 ((rd_T34 t1 p11).f0)), .lit (.int .i64 ((rd_T34 t1 p11).f1)), .lit (.int .i64 ((rd_T34 t1 p11).f2)), .lit (.int .i64 ((rd_T34 t1 p11).f3))] (getE (z := z34) c14 c13)) ?_
  refine kb g0 (alc 1 [.int .i64 0, .int .i64 0, .int .i64 0, .int .i64 0] [.lit (.int .i64 0), .lit (.int .i64 0), .lit (.int .i64 0), .lit (.int .i64 0)]) ?_
  refine ks g0 (stB 4 [.lit (.int .i64 ((rd_T34 t1 p11).f0)), .lit (.int .i64 ((rd_T34 t1 p11).f1)), .lit (.int .i64 ((rd_T34 t1 p11).f2)), .lit (.int .i64 ((rd_T34 t1 p11).f3))]) ?_
  refine wk_end ?_
  refine ac_next ?_
  refine aw_grp1 ?_
  refine aw_grp1 ?_
  refine wk_start ?_
  refine kv g0 (faB 0 0) ?_
  refine kv g0 (ldB) ?_
  refine kv g0 (eql) ?_
  refine kv g0 (mv) ?_
  refine kv g0 (mv) ?_
  obtain ⟨c15, H⟩ := of_if H
  refine kv g0 (ixS 160 (e160 (rd_T160 l1 p11)) c14 (getE (z := z160) c14 c15)) ?_
  refine kv g0 (faR 3 3) ?_
  refine kv g0 (ldR (.lit (.bool ((rd_T160 l1 p11).f3)))) ?_
  refine kv g0 (beq) ?_
  refine wk_end_draw hM (by kernel_rfl) ?_
  refine ac_next ?_
  by_cases c16 : (((rd_T34 t1 p11).f0) == 2) = ((rd_T160 l1 p11).f3)
  ·rw [if_pos c16] at H
   refine aw_ifT ?_ (eTb c16)
   refine aw_grp1 ?_
   refine wk_start ?_
   refine kv g0 (asg) ?_
   refine wk_end ?_
   refine ac_next ?_
   refine aw_ret ?_
   refine ac_thenR ?_
   refine ac_blkR ?_
   refine ac_thenR ?_
   refine ac_thenR ?_
   refine ac_blkR ?_
   refine ac_thenR ?_
   obtain rfl := Option.some.inj H
   exact acr hE [.tmp 4] (.tmp .nil) (.one _) [] 9999
  rw [if_neg c16] at H
  refine aw_ifF ?_ (eFb c16)
  refine aw_skip ?_
  refine ac_next ?_
  refine aw_grp1 ?_
  refine wk_start ?_
  refine kv g0 (faB 0 0) ?_
  refine kv g0 (ldB) ?_
  refine kv g0 (neq) ?_
  refine kv g0 (mv) ?_
  by_cases c17 : ((rd_T34 t1 p11).f0) = 2
  ·rw [if_pos c17] at H
   refine kx (hT (eM c17)) ?_
   refine kx (hT (eM c17)) ?_
   refine kx (hT (eM c17)) ?_
   refine kx (hT (eM c17)) ?_
   refine kx (hT (eM c17)) ?_
   refine kx (hT (eM c17)) ?_
   refine kx (hT (eM c17)) ?_
   refine kx (hT (eM c17)) ?_
   refine ku (neT (hT (eM c17))) ?_
   refine ku neU ?_
   refine ku neU ?_
   refine ku neU ?_
   refine ku neU ?_
   refine ku neU ?_
   refine ku neU ?_
   refine ku neU ?_
   refine ku neU ?_
   refine kx (hT (eM c17)) ?_
   refine kv g0 (pkF (eM c17)) ?_
   refine wk_end_draw hM (by kernel_rfl) ?_
   refine ac_next ?_
   refine aw_ifF ?_ rfl
   refine aw_skip ?_
   refine ac_blkN ?_
   refine ac_next ?_
   refine wk_start ?_
   refine kv g0 (mv) ?_
   refine kv g0 (add6) ?_
   refine kv g0 (asg) ?_
   refine wk_end ?_
   refine ac_k ?_
   exact acw hE [(0, 0)] 9999 (hK21 k12 (wrap64 (p11 + 1)) (Nat.le_refl _) ⟨by omega, H⟩)
  rw [if_neg c17] at H
  refine kv (g1 (eN c17)) (faB 1 1) ?_
  refine kv (g1 (eN c17)) (ldB) ?_
  refine kv (g1 (eN c17)) (mv) ?_
  refine kv (g1 (eN c17)) (mv) ?_
  refine kv (g1 (eN c17)) (ixS 160 (e160 (rd_T160 l1 p11)) c14 (getE (z := z160) c14 c15)) ?_
  refine kv (g1 (eN c17)) (faR 1 1) ?_
  refine kv (g1 (eN c17)) (ldR (.lit (.int .i64 ((rd_T160 l1 p11).f1)))) ?_
  refine kv (g1 (eN c17)) (neq) ?_
  refine kv (g1 (eN c17)) (mv) ?_
  by_cases c18 : ((rd_T34 t1 p11).f1) = ((rd_T160 l1 p11).f1)
  ·rw [if_pos c18] at H
   refine kv (g1 (eM c18)) (faB 2 2) ?_
   refine kv (g1 (eM c18)) (ldB) ?_
   refine kv (g1 (eM c18)) (mv) ?_
   refine kv (g1 (eM c18)) (mv) ?_
   refine kv (g1 (eM c18)) (ixS 160 (e160 (rd_T160 l1 p11)) c14 (getE (z := z160) c14 c15)) ?_
   refine kv (g1 (eM c18)) (faR 2 2) ?_
   refine kv (g1 (eM c18)) (ldR (.lit (.int .i64 ((rd_T160 l1 p11).f2)))) ?_
   refine kv (g1 (eM c18)) (neq) ?_
   refine kv (g1 (eN c17)) (pkF (eM c18)) ?_
   refine kv g0 (pkT (eN c17)) ?_
   refine wk_end_draw hM (by kernel_rfl) ?_
   refine ac_next ?_
   by_cases c19 : ((rd_T34 t1 p11).f2) = ((rd_T160 l1 p11).f2)
   ·rw [if_pos c19] at H
    refine aw_ifF ?_ (eM c19)
    refine aw_skip ?_
    refine ac_blkN ?_
    refine ac_next ?_
    refine wk_start ?_
    refine kv g0 (mv) ?_
    refine kv g0 (add6) ?_
    refine kv g0 (asg) ?_
    refine wk_end ?_
    refine ac_k ?_
    exact acw hE [(0, 0)] 9999 (hK21 k12 (wrap64 (p11 + 1)) (Nat.le_refl _) ⟨by omega, H⟩)
   rw [if_neg c19] at H
   refine aw_ifT ?_ (eN c19)
   refine aw_grp1 ?_
   refine wk_start ?_
   refine kv g0 (asg) ?_
   refine wk_end ?_
   refine ac_next ?_
   refine aw_ret ?_
   refine ac_blkR ?_
   refine ac_thenR ?_
   refine ac_thenR ?_
   refine ac_blkR ?_
   refine ac_thenR ?_
   obtain rfl := Option.some.inj H
   exact acr hE [.tmp 4] (.tmp .nil) (.one _) [] 9999
  rw [if_neg c18] at H
  refine kx (hF (eN c18)) ?_
  refine kx (hF (eN c18)) ?_
  refine kx (hF (eN c18)) ?_
  refine kx (hF (eN c18)) ?_
  refine kx (hF (eN c18)) ?_
  refine kx (hF (eN c18)) ?_
  refine kx (hF (eN c18)) ?_
  refine kx (hF (eN c18)) ?_
  refine kv (g1 (eN c17)) (pkT (eN c18)) ?_
  refine kv g0 (pkT (eN c17)) ?_
  refine wk_end_draw hM (by kernel_rfl) ?_
  refine ac_next ?_
  refine aw_ifT ?_ rfl
  refine aw_grp1 ?_
  refine wk_start ?_
  refine kv g0 (asg) ?_
  refine wk_end ?_
  refine ac_next ?_
  refine aw_ret ?_
  refine ac_blkR ?_
  refine ac_thenR ?_
  refine ac_thenR ?_
  refine ac_blkR ?_
  refine ac_thenR ?_
  obtain rfl := Option.some.inj H
  exact acr hE [.tmp 4] (.tmp .nil) (.one _) [] 9999
 rw [if_neg c13] at H
 refine aw_ifF ?_ (decide_eq_false c13)
 refine aw_exit ?_
 refine ac_then ?_
 refine ac_then ?_
 refine ac_hit rfl ?_
 refine ac_next ?_
 refine aw_grp1 ?_
 refine wk_start ?_
 refine kv g0 (asg) ?_
 refine wk_end ?_
 refine ac_next ?_
 refine aw_ret ?_
 obtain rfl := Option.some.inj H
 exact acr hE [.tmp 4] (.tmp .nil) (.one _) [] 9999
/-! spec_l01In -/
def spec_l01In.f (a0 : Int) (a1 : Int) (a2 : Int) : Option (Bool) := if a0 ≥ a1 then some (decide (a0 ≤ a2)) else some false
theorem spec_l01In.ok {a0 : Int} {a1 : Int} {a2 : Int} {r : Bool} (H : spec_l01In.f a0 a1 a2 = some r) : ACalls Try.prog 63 [] [.lit (.int .i64 a0), .lit (.int .i64 a1), .lit (.int .i64 a2)] [] (.lit (.bool r)) := by
 refine acalls (fn := Try.f63) (nt := 15) Try.func63 rfl rfl (Nat.le_of_ble_eq_true rfl) fun E hE => ?_
 rw [spec_l01In.f] at H
 refine aw_grp1 ?_
 refine wk_start ?_
 refine kv g0 (asg) ?_
 refine wk_end ?_
 refine ac_next ?_
 refine aw_grp1 ?_
 refine wk_start ?_
 refine kv g0 (mv) ?_
 refine kv g0 (mv) ?_
 refine kv g0 (geq) ?_
 refine kv g0 (mv) ?_
 by_cases c1 : a0 ≥ a1
 ·rw [if_pos c1] at H
  refine kv (g1 (decide_eq_true c1)) (mv) ?_
  refine kv (g1 (decide_eq_true c1)) (mv) ?_
  refine kv (g1 (decide_eq_true c1)) (leq) ?_
  refine kv g0 (pkT (decide_eq_true c1)) ?_
  refine kv g0 (asg) ?_
  refine wk_end ?_
  refine ac_next ?_
  refine aw_ret ?_
  obtain rfl := Option.some.inj H
  exact acr hE [.tmp 6] (.tmp .nil) (.one _) [] 9999
 rw [if_neg c1] at H
 refine kx (hT (decide_eq_false c1)) ?_
 refine kx (hT (decide_eq_false c1)) ?_
 refine kx (hT (decide_eq_false c1)) ?_
 refine kv g0 (pkF (decide_eq_false c1)) ?_
 refine kv g0 (asg) ?_
 refine wk_end ?_
 refine ac_next ?_
 refine aw_ret ?_
 obtain rfl := Option.some.inj H
 exact acr hE [.tmp 6] (.tmp .nil) (.one _) [] 9999
/-! spec_HalfOk -/
def spec_HalfOk.f (a0 : Int) : Option (Bool) := (spec_l01In.f a0 0 4294967295).bind fun t1 => some t1
theorem spec_HalfOk.ok {a0 : Int} {r : Bool} (H : spec_HalfOk.f a0 = some r) : ACalls Try.prog 116 [] [.lit (.int .i64 a0)] [] (.lit (.bool r)) := by
 refine acalls (fn := Try.f116) (nt := 5) Try.func116 rfl rfl (Nat.le_of_ble_eq_true rfl) fun E hE => ?_
 rw [spec_HalfOk.f] at H
 refine aw_grp1 ?_
 refine wk_start ?_
 refine kv g0 (asg) ?_
 refine wk_end ?_
 refine ac_next ?_
 refine aw_grp1 ?_
 refine wk_start ?_
 refine kv g0 (mv) ?_
 obtain ⟨t1, A2, H⟩ := of_bind H
 refine kcS0 4 (.lit (.bool t1)) [] g0 (cal (spec_l01In.ok A2) [] 9999 .n (hf := Try.func63)) rfl rfl ?_
 refine kv g0 (asg) ?_
 refine wk_end ?_
 refine ac_next ?_
 refine aw_ret ?_
 obtain rfl := Option.some.inj H
 exact acr hE [.tmp 2] (.tmp .nil) (.one _) [] 9999
/-! spec_ItemOk -/
def spec_ItemOk.f (a0_0 : Int) (a0_1 : Int) (a0_2 : Int) (a0_3 : Int) : Option (Bool) := if a0_0 = 1 then ((spec_HalfOk.f a0_1).bind fun t2 => (if t2 = true then ((spec_HalfOk.f a0_2).bind fun t5 => (if t5 = true then some (a0_3 == 0) else some false)) else some false)) else if a0_0 = 2 then ((spec_l01In.f a0_3 1 1000000000).bind fun t9 => (if t9 = true then (if a0_1 = 0 then some (a0_2 == 0) else some false) else some false)) else some false
theorem spec_ItemOk.ok {a0_0 : Int} {a0_1 : Int} {a0_2 : Int} {a0_3 : Int} {r : Bool} (H : spec_ItemOk.f a0_0 a0_1 a0_2 a0_3 = some r) : ACalls Try.prog 69 [] [.agg [.lit (.int .i64 a0_0), .lit (.int .i64 a0_1), .lit (.int .i64 a0_2), .lit (.int .i64 a0_3)]] [] (.lit (.bool r)) := by
 refine acalls (fn := Try.f69) (nt := 37) Try.func69 rfl rfl (Nat.le_of_ble_eq_true rfl) fun E hE => ?_
 rw [spec_ItemOk.f] at H
 refine aw_grp1 ?_
 refine wk_start ?_
 refine kb g0 (bxA 0) ?_
 refine kv g0 (asg) ?_
 refine wk_end ?_
 refine ac_next ?_
 refine aw_grp1 ?_
 refine aw_grp1 ?_
 refine wk_start ?_
 refine kv g0 (faB 0 0) ?_
 refine kv g0 (ldB) ?_
 refine kv g0 (eql) ?_
 refine wk_end ?_
 refine ac_next ?_
 by_cases c1 : a0_0 = 1
 ·rw [if_pos c1] at H
  refine aw_ifT ?_ (eT c1)
  refine aw_grp1 ?_
  refine wk_start ?_
  refine kv g0 (faB 1 1) ?_
  refine kv g0 (ldB) ?_
  obtain ⟨t2, A3, H⟩ := of_bind H
  refine kcS0 8 (.lit (.bool t2)) [] g0 (cal (spec_HalfOk.ok A3) [] 9999 .n (hf := Try.func116)) rfl rfl ?_
  refine kv g0 (mv) ?_
  by_cases c4 : t2 = true
  ·rw [if_pos c4] at H
   refine kv (g1 c4) (faB 2 2) ?_
   refine kv (g1 c4) (ldB) ?_
   obtain ⟨t5, A6, H⟩ := of_bind H
   refine kcS0 12 (.lit (.bool t5)) [] (g1 c4) (cal (spec_HalfOk.ok A6) [] 9999 .n (hf := Try.func116)) rfl rfl ?_
   refine kv g0 (pkT c4) ?_
   refine kv g0 (mv) ?_
   by_cases c7 : t5 = true
   ·rw [if_pos c7] at H
    refine kv (g1 c7) (faB 3 3) ?_
    refine kv (g1 c7) (ldB) ?_
    refine kv (g1 c7) (eql) ?_
    refine kv g0 (pkT c7) ?_
    refine kv g0 (asg) ?_
    refine wk_end ?_
    refine ac_next ?_
    refine aw_ret ?_
    refine ac_thenR ?_
    obtain rfl := Option.some.inj H
    exact acr hE [.tmp 2] (.tmp .nil) (.one _) [] 9999
   rw [if_neg c7] at H
   refine kx (hT (bF c7)) ?_
   refine kx (hT (bF c7)) ?_
   refine kx (hT (bF c7)) ?_
   refine kv g0 (pkF (bF c7)) ?_
   refine kv g0 (asg) ?_
   refine wk_end ?_
   refine ac_next ?_
   refine aw_ret ?_
   refine ac_thenR ?_
   obtain rfl := Option.some.inj H
   exact acr hE [.tmp 2] (.tmp .nil) (.one _) [] 9999
  rw [if_neg c4] at H
  refine kx (hT (bF c4)) ?_
  refine kx (hT (bF c4)) ?_
  refine kx (hT (bF c4)) ?_
  refine kv g0 (pkF (bF c4)) ?_
  refine kv g0 (mv) ?_
  refine kx (hT rfl) ?_
  refine kx (hT rfl) ?_
  refine kx (hT rfl) ?_
  refine kv g0 (pkF rfl) ?_
  refine kv g0 (asg) ?_
  refine wk_end ?_
  refine ac_next ?_
  refine aw_ret ?_
  refine ac_thenR ?_
  obtain rfl := Option.some.inj H
  exact acr hE [.tmp 2] (.tmp .nil) (.one _) [] 9999
 rw [if_neg c1] at H
 refine aw_ifF ?_ (eF c1)
 refine aw_skip ?_
 refine ac_next ?_
 refine aw_grp1 ?_
 refine wk_start ?_
 refine kv g0 (faB 0 0) ?_
 refine kv g0 (ldB) ?_
 refine kv g0 (eql) ?_
 refine kv g0 (mv) ?_
 by_cases c8 : a0_0 = 2
 ·rw [if_pos c8] at H
  refine kv (g1 (eT c8)) (faB 3 3) ?_
  refine kv (g1 (eT c8)) (ldB) ?_
  obtain ⟨t9, A10, H⟩ := of_bind H
  refine kcS0 25 (.lit (.bool t9)) [] (g1 (eT c8)) (cal (spec_l01In.ok A10) [] 9999 .n (hf := Try.func63)) rfl rfl ?_
  refine kv g0 (pkT (eT c8)) ?_
  refine kv g0 (mv) ?_
  by_cases c11 : t9 = true
  ·rw [if_pos c11] at H
   refine kv (g1 c11) (faB 1 1) ?_
   refine kv (g1 c11) (ldB) ?_
   refine kv (g1 c11) (eql) ?_
   refine kv g0 (pkT c11) ?_
   refine kv g0 (mv) ?_
   by_cases c12 : a0_1 = 0
   ·rw [if_pos c12] at H
    refine kv (g1 (eT c12)) (faB 2 2) ?_
    refine kv (g1 (eT c12)) (ldB) ?_
    refine kv (g1 (eT c12)) (eql) ?_
    refine kv g0 (pkT (eT c12)) ?_
    refine kv g0 (asg) ?_
    refine wk_end ?_
    refine ac_next ?_
    refine aw_ret ?_
    obtain rfl := Option.some.inj H
    exact acr hE [.tmp 2] (.tmp .nil) (.one _) [] 9999
   rw [if_neg c12] at H
   refine kx (hT (eF c12)) ?_
   refine kx (hT (eF c12)) ?_
   refine kx (hT (eF c12)) ?_
   refine kv g0 (pkF (eF c12)) ?_
   refine kv g0 (asg) ?_
   refine wk_end ?_
   refine ac_next ?_
   refine aw_ret ?_
   obtain rfl := Option.some.inj H
   exact acr hE [.tmp 2] (.tmp .nil) (.one _) [] 9999
  rw [if_neg c11] at H
  refine kx (hT (bF c11)) ?_
  refine kx (hT (bF c11)) ?_
  refine kx (hT (bF c11)) ?_
  refine kv g0 (pkF (bF c11)) ?_
  refine kv g0 (mv) ?_
  refine kx (hT rfl) ?_
  refine kx (hT rfl) ?_
  refine kx (hT rfl) ?_
  refine kv g0 (pkF rfl) ?_
  refine kv g0 (asg) ?_
  refine wk_end ?_
  refine ac_next ?_
  refine aw_ret ?_
  obtain rfl := Option.some.inj H
  exact acr hE [.tmp 2] (.tmp .nil) (.one _) [] 9999
 rw [if_neg c8] at H
 refine kx (hT (eF c8)) ?_
 refine kx (hT (eF c8)) ?_
 refine kx (hT (eF c8)) ?_
 refine kv g0 (pkF (eF c8)) ?_
 refine kv g0 (mv) ?_
 refine kx (hT rfl) ?_
 refine kx (hT rfl) ?_
 refine kx (hT rfl) ?_
 refine kv g0 (pkF rfl) ?_
 refine kv g0 (mv) ?_
 refine kx (hT rfl) ?_
 refine kx (hT rfl) ?_
 refine kx (hT rfl) ?_
 refine kv g0 (pkF rfl) ?_
 refine kv g0 (asg) ?_
 refine wk_end ?_
 refine ac_next ?_
 refine aw_ret ?_
 obtain rfl := Option.some.inj H
 exact acr hE [.tmp 2] (.tmp .nil) (.one _) [] 9999
/-! spec_l20Counts -/
def spec_l20Counts.l0 : Nat → (List S98) → Int → (List Int) → Int → Option ((List Int) × Bool)
 | 0, _, _, _, _ => none
 | k15 + 1, l0, a1, q13, p14 => if p14 < a1 then if 0 ≤ p14 then (if p14 < (l0.length : Int) then (spec_l01In.f ((rd_T98 l0 p14).f0) 0 2).bind fun t19 => (if t19 = true then (if 0 ≤ ((rd_T98 l0 p14).f0) then (if ((rd_T98 l0 p14).f0) < (q13.length : Int) then (if ((rd_T98 l0 p14).f1) = (wrap64 ((rd q13 ((rd_T98 l0 p14).f0)) + 1)) then ((spec_ItemOk.f ((rd_T98 l0 p14).f2.f0) ((rd_T98 l0 p14).f2.f1) ((rd_T98 l0 p14).f2.f2) ((rd_T98 l0 p14).f2.f3)).bind fun t25 => if t25 = true then spec_l20Counts.l0 k15 l0 a1 (q13.set ((rd_T98 l0 p14).f0).toNat (wrap64 ((rd q13 ((rd_T98 l0 p14).f0)) + 1))) (wrap64 (p14 + 1)) else some (q13, false)) else some (q13, false)) else none) else none) else some (q13, false)) else none) else none else some (q13, true)
def spec_l20Counts.f (k : Nat) (l0 : List S98) (a1 : Int) : Option ((List Int) × Bool) := spec_l20Counts.l0 k l0 a1 (List.replicate 3 (0 : Int)) 0
theorem spec_l20Counts.ok {k : Nat} {l0 : List S98} {a1 : Int} {r : (List Int) × Bool} (H : spec_l20Counts.f k l0 a1 = some r) : ACalls Try.prog 68 [] [.sl .o 6 (l0.map e98), .lit (.int .i64 a1)] [(0, .row 3 1 (r.1.map (eI .i64)))] (.tup [.row 0, .lit (.bool r.2)]) := by
 refine acalls (fn := Try.f68) (nt := 49) Try.func68 rfl rfl (Nat.le_of_ble_eq_true rfl) fun E hE => ?_
 rw [spec_l20Counts.f] at H
 refine aw_grp1 ?_
 refine wk_start ?_
 refine kv g0 (asg) ?_
 refine kv g0 (asg) ?_
 refine wk_end ?_
 refine ac_next ?_
 refine aw_grp1 ?_
 refine wk_start ?_
 refine kb g0 (mks 0 3 1 8 [.int .i64 0] (eI .i64 (0 : Int)) ((List.replicate 3 (0 : Int)).map (eI .i64)) (by decide : (0 : Int) ≤ 3) (mkb (by decide : (3 : Nat) ≤ 35184372088832) rfl) repE) ?_
 refine kv g0 (asg) ?_
 refine wk_end ?_
 refine ac_next ?_
 refine aw_grp1 ?_
 refine aw_grp1 ?_
 refine wk_start ?_
 refine kv g0 (asg) ?_
 refine wk_end ?_
 refine ac_next ?_
 refine aw_block ?_
 refine aw_loop2 (fun (k_ : Nat) (q13 : List Int) (p14 : Int) => k_ ≤ k ∧ spec_l20Counts.l0 k_ l0 a1 q13 p14 = some r) (fun (q13 : List Int) (p14 : Int) => ⟨[(0, .sl .o 6 (l0.map e98)), (1, .lit (.int .i64 a1)), (6, .row 0), (7, .lit (.int .i64 p14))], [(0, .row 3 1 (q13.map (eI .i64)))]⟩) k (List.replicate 3 (0 : Int)) 0 ⟨Nat.le_refl _, H⟩ (fun K_ h_ => acw hE [(0, 0)] 9999 h_) (fun _ _ => by intro h_; have h_ := h_.2; rw [spec_l20Counts.l0.eq_1] at h_; cases h_) ?_
 intro k15 q13 p14 hq_ K28 hK29
 have hk15 := hq_.1
 have H := hq_.2
 clear hq_
 rw [spec_l20Counts.l0.eq_2] at H
 refine aw_grp1 ?_
 refine aw_grp1 ?_
 refine wk_start ?_
 refine kv g0 (mv) ?_
 refine kv g0 (mv) ?_
 refine kv g0 (lss) ?_
 refine wk_end ?_
 refine ac_next ?_
 by_cases c16 : p14 < a1
 ·rw [if_pos c16] at H
  refine aw_ifT ?_ (decide_eq_true c16)
  refine aw_skip ?_
  refine ac_next ?_
  refine aw_grp1 ?_
  refine aw_block ?_
  refine aw_grp1 ?_
  refine wk_start ?_
  refine kv g0 (mv) ?_
  refine kv g0 (mv) ?_
  obtain ⟨c17, H⟩ := of_if H
  obtain ⟨c18, H⟩ := of_if H
  refine kv g0 (ixS 98 (e98 (rd_T98 l0 p14)) c17 (getE (z := z98) c17 c18)) ?_
  refine kv g0 (ldRA 6 [.lit (.int .i64 ((rd_T98 l0 p14).f0)), .lit (.int .i64 ((rd_T98 l0 p14).f1)), .lit (.int .i64 ((rd_T98 l0 p14).f2.f0)), .lit (.int .i64 ((rd_T98 l0 p14).f2.f1)), .lit (.int .i64 ((rd_T98 l0 p14).f2.f2)), .lit (.int .i64 ((rd_T98 l0 p14).f2.f3))]) ?_
  refine kb g0 (alc 1 [.int .i64 0, .int .i64 0, .int .i64 0, .int .i64 0, .int .i64 0, .int .i64 0] [.lit (.int .i64 0), .lit (.int .i64 0), .lit (.int .i64 0), .lit (.int .i64 0), .lit (.int .i64 0), .lit (.int .i64 0)]) ?_
  refine ks g0 (stB 6 [.lit (.int .i64 ((rd_T98 l0 p14).f0)), .lit (.int .i64 ((rd_T98 l0 p14).f1)), .lit (.int .i64 ((rd_T98 l0 p14).f2.f0)), .lit (.int .i64 ((rd_T98 l0 p14).f2.f1)), .lit (.int .i64 ((rd_T98 l0 p14).f2.f2)), .lit (.int .i64 ((rd_T98 l0 p14).f2.f3))]) ?_
  refine wk_end ?_
  refine ac_next ?_
  refine aw_grp1 ?_
  refine aw_grp1 ?_
  refine wk_start ?_
  refine kv g0 (faB 0 0) ?_
  refine kv g0 (ldB) ?_
  obtain ⟨t19, A20, H⟩ := of_bind H
  refine kcS0 21 (.lit (.bool t19)) [] g0 (cal (spec_l01In.ok A20) [] 9999 .n (hf := Try.func63)) rfl rfl ?_
  refine kv g0 (not_) ?_
  refine kv g0 (mv) ?_
  by_cases c21 : t19 = true
  ·rw [if_pos c21] at H
   refine kv (g1 (nF c21)) (faB 1 1) ?_
   refine kv (g1 (nF c21)) (ldB) ?_
   refine kv (g1 (nF c21)) (mv) ?_
   refine kv (g1 (nF c21)) (faB 0 0) ?_
   refine kv (g1 (nF c21)) (ldB) ?_
   obtain ⟨c22, H⟩ := of_if H
   obtain ⟨c23, H⟩ := of_if H
   refine kv (g1 (nF c21)) (ixR 3 c22 (ltE c23)) ?_
   refine kv (g1 (nF c21)) (ldE (eI .i64 (rd q13 ((rd_T98 l0 p14).f0))) (.lit (.int .i64 (rd q13 ((rd_T98 l0 p14).f0)))) (getE (z := (0 : Int)) c22 c23)) ?_
   refine kv (g1 (nF c21)) (add6) ?_
   refine kv (g1 (nF c21)) (neq) ?_
   refine kv g0 (pkF (nF c21)) ?_
   refine kv g0 (mv) ?_
   by_cases c24 : ((rd_T98 l0 p14).f1) = (wrap64 ((rd q13 ((rd_T98 l0 p14).f0)) + 1))
   ·rw [if_pos c24] at H
    refine kv (g1 (eM c24)) (faB 2 2) ?_
    refine kv (g1 (eM c24)) (ldBA 4 [.lit (.int .i64 ((rd_T98 l0 p14).f2.f0)), .lit (.int .i64 ((rd_T98 l0 p14).f2.f1)), .lit (.int .i64 ((rd_T98 l0 p14).f2.f2)), .lit (.int .i64 ((rd_T98 l0 p14).f2.f3))]) ?_
    obtain ⟨t25, A26, H⟩ := of_bind H
    refine kcS0 37 (.lit (.bool t25)) [] (g1 (eM c24)) (cal (spec_ItemOk.ok A26) [] 9999 .n (hf := Try.func69)) rfl rfl ?_
    refine kv (g1 (eM c24)) (not_) ?_
    refine kv g0 (pkF (eM c24)) ?_
    refine wk_end_draw hM (by kernel_rfl) ?_
    refine ac_next ?_
    by_cases c27 : t25 = true
    ·rw [if_pos c27] at H
     refine aw_ifF ?_ (nF c27)
     refine aw_skip ?_
     refine ac_next ?_
     refine wk_start ?_
     refine kv g0 (mv) ?_
     refine kv g0 (faB 0 0) ?_
     refine kv g0 (ldB) ?_
     refine kv g0 (ixR 3 c22 (ltE c23)) ?_
     refine kv g0 (ldE (eI .i64 (rd q13 ((rd_T98 l0 p14).f0))) (.lit (.int .i64 (rd q13 ((rd_T98 l0 p14).f0)))) (getE (z := (0 : Int)) c22 c23)) ?_
     refine kv g0 (add6) ?_
     refine kv g0 (ixR 3 c22 (ltE c23)) ?_
     refine ks g0 (stE 1 (eI .i64 (wrap64 ((rd q13 ((rd_T98 l0 p14).f0)) + 1))) ((q13.set ((rd_T98 l0 p14).f0).toNat (wrap64 ((rd q13 ((rd_T98 l0 p14).f0)) + 1))).map (eI .i64)) (getE (z := (0 : Int)) c22 c23) setE) ?_
     refine wk_end ?_
     refine ac_blkN ?_
     refine ac_next ?_
     refine wk_start ?_
     refine kv g0 (mv) ?_
     refine kv g0 (add6) ?_
     refine kv g0 (asg) ?_
     refine wk_end ?_
     refine ac_k ?_
     exact acw hE [(0, 0)] 9999 (hK29 k15 (q13.set ((rd_T98 l0 p14).f0).toNat (wrap64 ((rd q13 ((rd_T98 l0 p14).f0)) + 1))) (wrap64 (p14 + 1)) (Nat.le_refl _) ⟨by omega, H⟩)
    rw [if_neg c27] at H
    refine aw_ifT ?_ (nT (bF c27))
    refine aw_grp1 ?_
    refine wk_start ?_
    refine kv g0 (mv) ?_
    refine kv g0 (asg) ?_
    refine kv g0 (asg) ?_
    refine wk_end ?_
    refine ac_next ?_
    refine aw_ret ?_
    refine ac_thenR ?_
    refine ac_blkR ?_
    refine ac_thenR ?_
    refine ac_thenR ?_
    refine ac_blkR ?_
    refine ac_thenR ?_
    obtain rfl := Option.some.inj H
    exact acr hE [.tmp 4, .tmp 5] (.tmp (.tmp .nil)) (.many _ _ _) [(0, 0)] 9999
   rw [if_neg c24] at H
   refine kx (hF (eN c24)) ?_
   refine kx (hF (eN c24)) ?_
   refine kx (hF (eN c24)) ?_
   refine kx (hF (eN c24)) ?_
   refine kv g0 (pkT (eN c24)) ?_
   refine wk_end_draw hM (by kernel_rfl) ?_
   refine ac_next ?_
   refine aw_ifT ?_ rfl
   refine aw_grp1 ?_
   refine wk_start ?_
   refine kv g0 (mv) ?_
   refine kv g0 (asg) ?_
   refine kv g0 (asg) ?_
   refine wk_end ?_
   refine ac_next ?_
   refine aw_ret ?_
   refine ac_thenR ?_
   refine ac_blkR ?_
   refine ac_thenR ?_
   refine ac_thenR ?_
   refine ac_blkR ?_
   refine ac_thenR ?_
   obtain rfl := Option.some.inj H
   exact acr hE [.tmp 4, .tmp 5] (.tmp (.tmp .nil)) (.many _ _ _) [(0, 0)] 9999
  rw [if_neg c21] at H
  refine kx (hF (nT (bF c21))) ?_
  refine kx (hF (nT (bF c21))) ?_
  refine kx (hF (nT (bF c21))) ?_
  refine kx (hF (nT (bF c21))) ?_
  refine kx (hF (nT (bF c21))) ?_
  refine kx (hF (nT (bF c21))) ?_
  refine kx (hF (nT (bF c21))) ?_
  refine kx (hF (nT (bF c21))) ?_
  refine kx (hF (nT (bF c21))) ?_
  refine kv g0 (pkT (nT (bF c21))) ?_
  refine kv g0 (mv) ?_
  refine kx (hF rfl) ?_
  refine kx (hF rfl) ?_
  refine kx (hF rfl) ?_
  refine kx (hF rfl) ?_
  refine kv g0 (pkT rfl) ?_
  refine wk_end_draw hM (by kernel_rfl) ?_
  refine ac_next ?_
  refine aw_ifT ?_ rfl
  refine aw_grp1 ?_
  refine wk_start ?_
  refine kv g0 (mv) ?_
  refine kv g0 (asg) ?_
  refine kv g0 (asg) ?_
  refine wk_end ?_
  refine ac_next ?_
  refine aw_ret ?_
  refine ac_thenR ?_
  refine ac_blkR ?_
  refine ac_thenR ?_
  refine ac_thenR ?_
  refine ac_blkR ?_
  refine ac_thenR ?_
  obtain rfl := Option.some.inj H
  exact acr hE [.tmp 4, .tmp 5] (.tmp (.tmp .nil)) (.many _ _ _) [(0, 0)] 9999
 rw [if_neg c16] at H
 refine aw_ifF ?_ (decide_eq_false c16)
 refine aw_exit ?_
 refine ac_then ?_
 refine ac_then ?_
 refine ac_hit rfl ?_
 refine ac_next ?_
 refine aw_grp1 ?_
 refine wk_start ?_
 refine kv g0 (mv) ?_
 refine kv g0 (asg) ?_
 refine kv g0 (asg) ?_
 refine wk_end ?_
 refine ac_next ?_
 refine aw_ret ?_
 obtain rfl := Option.some.inj H
 exact acr hE [.tmp 4, .tmp 5] (.tmp (.tmp .nil)) (.many _ _ _) [(0, 0)] 9999
/-! spec_l20Early -/
def spec_l20Early.l0 : Nat → (List S97) → Int → Int → Int → Option (Int)
 | 0, _, _, _, _ => none
 | k6 + 1, l0, a1, a2, p5 => if p5 < (l0.length : Int) then if 0 ≤ p5 then (if ((rd_T97 l0 p5).f0) = a1 then if ((rd_T97 l0 p5).f1) = a2 then some p5 else spec_l20Early.l0 k6 l0 a1 a2 (wrap64 (p5 + 1)) else spec_l20Early.l0 k6 l0 a1 a2 (wrap64 (p5 + 1))) else none else some (-1)
def spec_l20Early.f (k : Nat) (l0 : List S97) (a1 : Int) (a2 : Int) : Option (Int) := spec_l20Early.l0 k l0 a1 a2 0
theorem spec_l20Early.ok {k : Nat} {l0 : List S97} {a1 : Int} {a2 : Int} {r : Int} (H : spec_l20Early.f k l0 a1 a2 = some r) : ACalls Try.prog 66 [] [.sl .o 6 (l0.map e97), .lit (.int .i64 a1), .lit (.int .i64 a2)] [] (.lit (.int .i64 r)) := by
 refine acalls (fn := Try.f66) (nt := 31) Try.func66 rfl rfl (Nat.le_of_ble_eq_true rfl) fun E hE => ?_
 rw [spec_l20Early.f] at H
 refine aw_grp1 ?_
 refine wk_start ?_
 refine kv g0 (asg) ?_
 refine wk_end ?_
 refine ac_next ?_
 refine aw_grp1 ?_
 refine aw_grp1 ?_
 refine wk_start ?_
 refine kv g0 (asg) ?_
 refine wk_end ?_
 refine ac_next ?_
 refine aw_block ?_
 refine aw_loop1 (fun (k_ : Nat) (p5 : Int) => k_ ≤ k ∧ spec_l20Early.l0 k_ l0 a1 a2 p5 = some r) (fun (p5 : Int) => ⟨[(0, .sl .o 6 (l0.map e97)), (1, .lit (.int .i64 a1)), (2, .lit (.int .i64 a2)), (7, .lit (.int .i64 p5))], []⟩) k 0 ⟨Nat.le_refl _, H⟩ (fun K_ h_ => acw hE [] 9999 h_) (fun _ => by intro h_; have h_ := h_.2; rw [spec_l20Early.l0.eq_1] at h_; cases h_) ?_
 intro k6 p5 hq_ K11 hK12
 have hk6 := hq_.1
 have H := hq_.2
 clear hq_
 rw [spec_l20Early.l0.eq_2] at H
 refine aw_grp1 ?_
 refine aw_grp1 ?_
 refine wk_start ?_
 refine kv g0 (mv) ?_
 refine kv g0 (mv) ?_
 refine kv g0 (lnS lenE) ?_
 refine kv g0 (lss) ?_
 refine wk_end ?_
 refine ac_next ?_
 by_cases c7 : p5 < (l0.length : Int)
 ·rw [if_pos c7] at H
  refine aw_ifT ?_ (decide_eq_true c7)
  refine aw_skip ?_
  refine ac_next ?_
  refine aw_grp1 ?_
  refine aw_block ?_
  refine aw_grp1 ?_
  refine wk_start ?_
  refine kv g0 (mv) ?_
  refine kv g0 (mv) ?_
  obtain ⟨c8, H⟩ := of_if H
  refine kv g0 (ixS 97 (e97 (rd_T97 l0 p5)) c8 (getE (z := z97) c8 c7)) ?_
  refine kv g0 (faR 0 0) ?_
  refine kv g0 (ldR (.lit (.int .i64 ((rd_T97 l0 p5).f0)))) ?_
  refine kv g0 (mv) ?_
  refine kv g0 (eql) ?_
  refine kv g0 (mv) ?_
  by_cases c9 : ((rd_T97 l0 p5).f0) = a1
  ·rw [if_pos c9] at H
   refine kv (g1 (eT c9)) (mv) ?_
   refine kv (g1 (eT c9)) (mv) ?_
   refine kv (g1 (eT c9)) (ixS 97 (e97 (rd_T97 l0 p5)) c8 (getE (z := z97) c8 c7)) ?_
   refine kv (g1 (eT c9)) (faR 1 1) ?_
   refine kv (g1 (eT c9)) (ldR (.lit (.int .i64 ((rd_T97 l0 p5).f1)))) ?_
   refine kv (g1 (eT c9)) (mv) ?_
   refine kv (g1 (eT c9)) (eql) ?_
   refine kv g0 (pkT (eT c9)) ?_
   refine wk_end ?_
   refine ac_next ?_
   by_cases c10 : ((rd_T97 l0 p5).f1) = a2
   ·rw [if_pos c10] at H
    refine aw_ifT ?_ (eT c10)
    refine aw_grp1 ?_
    refine wk_start ?_
    refine kv g0 (mv) ?_
    refine kv g0 (asg) ?_
    refine wk_end ?_
    refine ac_next ?_
    refine aw_ret ?_
    refine ac_blkR ?_
    refine ac_thenR ?_
    refine ac_thenR ?_
    refine ac_blkR ?_
    refine ac_thenR ?_
    obtain rfl := Option.some.inj H
    exact acr hE [.tmp 6] (.tmp .nil) (.one _) [] 9999
   rw [if_neg c10] at H
   refine aw_ifF ?_ (eF c10)
   refine aw_skip ?_
   refine ac_blkN ?_
   refine ac_next ?_
   refine wk_start ?_
   refine kv g0 (mv) ?_
   refine kv g0 (add6) ?_
   refine kv g0 (asg) ?_
   refine wk_end ?_
   refine ac_k ?_
   exact acw hE [] 9999 (hK12 k6 (wrap64 (p5 + 1)) (Nat.le_refl _) ⟨by omega, H⟩)
  rw [if_neg c9] at H
  refine kx (hT (eF c9)) ?_
  refine kx (hT (eF c9)) ?_
  refine kx (hT (eF c9)) ?_
  refine kx (hT (eF c9)) ?_
  refine kx (hT (eF c9)) ?_
  refine kx (hT (eF c9)) ?_
  refine kx (hT (eF c9)) ?_
  refine kv g0 (pkF (eF c9)) ?_
  refine wk_end ?_
  refine ac_next ?_
  refine aw_ifF ?_ rfl
  refine aw_skip ?_
  refine ac_blkN ?_
  refine ac_next ?_
  refine wk_start ?_
  refine kv g0 (mv) ?_
  refine kv g0 (add6) ?_
  refine kv g0 (asg) ?_
  refine wk_end ?_
  refine ac_k ?_
  exact acw hE [] 9999 (hK12 k6 (wrap64 (p5 + 1)) (Nat.le_refl _) ⟨by omega, H⟩)
 rw [if_neg c7] at H
 refine aw_ifF ?_ (decide_eq_false c7)
 refine aw_exit ?_
 refine ac_then ?_
 refine ac_then ?_
 refine ac_hit rfl ?_
 refine ac_next ?_
 refine aw_grp1 ?_
 refine wk_start ?_
 refine kv g0 (asg) ?_
 refine wk_end ?_
 refine ac_next ?_
 refine aw_ret ?_
 obtain rfl := Option.some.inj H
 exact acr hE [.tmp 6] (.tmp .nil) (.one _) [] 9999
/-! spec_KeeperOk -/
mutual
def spec_KeeperOk.l0 : Nat → (List S98) → (List Int) → (List S97) → Int → (List Int) → ((List Int) × Bool) → ((List Int) × Bool) → Int → Option (Bool)
 | 0, _, _, _, _, _, _, _, _ => none
 | k22 + 1, l0_0, l0_1, l0_2, a0_3, l0_4, t8, t10, p21 => if p21 < 3 then if 0 ≤ p21 then (if p21 < (l0_1.length : Int) then (if p21 < (t8.1.length : Int) then (if (rd l0_1 p21) = (wrap64 ((rd t8.1 p21) + 1)) then (if p21 < (l0_4.length : Int) then (if p21 < (t10.1.length : Int) then if (rd l0_4 p21) = (wrap64 ((rd t10.1 p21) + 1)) then spec_KeeperOk.l0 k22 l0_0 l0_1 l0_2 a0_3 l0_4 t8 t10 (wrap64 (p21 + 1)) else some false else none) else none) else some false) else none) else none) else none else spec_KeeperOk.l1 k22 l0_0 l0_1 l0_2 a0_3 l0_4 0
def spec_KeeperOk.l1 : Nat → (List S98) → (List Int) → (List S97) → Int → (List Int) → Int → Option (Bool)
 | 0, _, _, _, _, _, _ => none
 | k51 + 1, l0_0, l0_1, l0_2, a0_3, l0_4, p50 => if p50 < (l0_2.length : Int) then if 0 ≤ p50 then (spec_l01In.f ((rd_T97 l0_2 p50).f0) 0 2).bind fun t54 => (if t54 = true then (if 0 ≤ ((rd_T97 l0_2 p50).f0) then (if ((rd_T97 l0_2 p50).f0) < (l0_1.length : Int) then ((spec_l01In.f ((rd_T97 l0_2 p50).f1) (wrap64 ((rd l0_1 ((rd_T97 l0_2 p50).f0)) + 1)) 1000000000).bind fun t59 => (if t59 = true then ((spec_ItemOk.f ((rd_T97 l0_2 p50).f2.f0) ((rd_T97 l0_2 p50).f2.f1) ((rd_T97 l0_2 p50).f2.f2) ((rd_T97 l0_2 p50).f2.f3)).bind fun t62 => (if t62 = true then (if p50 ≤ (l0_2.length : Int) then ((spec_l20Early.f k51 (l0_2.take p50.toNat) ((rd_T97 l0_2 p50).f0) ((rd_T97 l0_2 p50).f1)).bind fun t66 => if t66 ≥ 0 then some false else spec_KeeperOk.l1 k51 l0_0 l0_1 l0_2 a0_3 l0_4 (wrap64 (p50 + 1))) else none) else some false)) else some false)) else none) else none) else some false) else none else some true
end
def spec_KeeperOk.f (k : Nat) (l0_0 : List S98) (l0_1 : List Int) (l0_2 : List S97) (a0_3 : Int) (l0_4 : List Int) : Option (Bool) := if (l0_1.length : Int) = 3 then (if (l0_4.length : Int) = 3 then (if (l0_0.length : Int) > 200 then some false else ((spec_l01In.f a0_3 0 (l0_0.length : Int)).bind fun t4 => (if t4 = true then if (l0_2.length : Int) > 3 then some false else (spec_l20Counts.f k l0_0 (l0_0.length : Int)).bind fun t8 => (spec_l20Counts.f k l0_0 a0_3).bind fun t10 => if t8.2 = true then if t10.2 = true then spec_KeeperOk.l0 k l0_0 l0_1 l0_2 a0_3 l0_4 t8 t10 0 else some false else some false else some false))) else some false) else some false
theorem spec_KeeperOk.ok {k : Nat} {l0_0 : List S98} {l0_1 : List Int} {l0_2 : List S97} {a0_3 : Int} {l0_4 : List Int} {r : Bool} (H : spec_KeeperOk.f k l0_0 l0_1 l0_2 a0_3 l0_4 = some r) : ACalls Try.prog 26 [] [.agg [.sl .o 6 (l0_0.map e98), .sl .o 1 (l0_1.map (eI .i64)), .sl .o 6 (l0_2.map e97), .lit (.int .i64 a0_3), .sl .o 1 (l0_4.map (eI .i64))]] [] (.lit (.bool r)) := by
 refine acalls (fn := Try.f26) (nt := 139) Try.func26 rfl rfl (Nat.le_of_ble_eq_true rfl) fun E hE => ?_
 rw [spec_KeeperOk.f] at H
 refine aw_grp1 ?_
 refine wk_start ?_
 refine kb g0 (bxA 0) ?_
 refine kv g0 (asg) ?_
 refine wk_end ?_
 refine ac_next ?_
 refine aw_grp1 ?_
 refine aw_grp1 ?_
 refine wk_start ?_
 refine kv g0 (faB 1 1) ?_
 refine kv g0 (ldB) ?_
 refine kv g0 (lnS lenE) ?_
 refine kv g0 (neq) ?_
 refine kv g0 (mv) ?_
 by_cases c1 : (l0_1.length : Int) = 3
 ·rw [if_pos c1] at H
  refine kv (g1 (eM c1)) (faB 4 4) ?_
  refine kv (g1 (eM c1)) (ldB) ?_
  refine kv (g1 (eM c1)) (lnS lenE) ?_
  refine kv (g1 (eM c1)) (neq) ?_
  refine kv g0 (pkF (eM c1)) ?_
  refine kv g0 (mv) ?_
  by_cases c2 : (l0_4.length : Int) = 3
  ·rw [if_pos c2] at H
   refine kv (g1 (eM c2)) (faB 0 0) ?_
   refine kv (g1 (eM c2)) (ldB) ?_
   refine kv (g1 (eM c2)) (lnS lenE) ?_
   refine kv (g1 (eM c2)) (gtr) ?_
   refine kv g0 (pkF (eM c2)) ?_
   refine kv g0 (mv) ?_
   by_cases c3 : (l0_0.length : Int) > 200
   ·rw [if_pos c3] at H
    refine kx (hF (decide_eq_true c3)) ?_
    refine kx (hF (decide_eq_true c3)) ?_
    refine kx (hF (decide_eq_true c3)) ?_
    refine kx (hF (decide_eq_true c3)) ?_
    refine kx (hF (decide_eq_true c3)) ?_
    refine kx (hF (decide_eq_true c3)) ?_
    refine kx (hF (decide_eq_true c3)) ?_
    refine kv g0 (pkT (decide_eq_true c3)) ?_
    refine kv g0 (mv) ?_
    refine kx (hF rfl) ?_
    refine kx (hF rfl) ?_
    refine kx (hF rfl) ?_
    refine kx (hF rfl) ?_
    refine kv g0 (pkT rfl) ?_
    refine wk_end ?_
    refine ac_next ?_
    refine aw_ifT ?_ rfl
    refine aw_grp1 ?_
    refine wk_start ?_
    refine kv g0 (asg) ?_
    refine wk_end ?_
    refine ac_next ?_
    refine aw_ret ?_
    refine ac_thenR ?_
    obtain rfl := Option.some.inj H
    exact acr hE [.tmp 2] (.tmp .nil) (.one _) [] 9999
   rw [if_neg c3] at H
   refine kv (g1 (decide_eq_false c3)) (faB 3 3) ?_
   refine kv (g1 (decide_eq_false c3)) (ldB) ?_
   refine kv (g1 (decide_eq_false c3)) (faB 0 0) ?_
   refine kv (g1 (decide_eq_false c3)) (ldB) ?_
   refine kv (g1 (decide_eq_false c3)) (lnS lenE) ?_
   obtain ⟨t4, A5, H⟩ := of_bind H
   refine kcS0 32 (.lit (.bool t4)) [] (g1 (decide_eq_false c3)) (cal (spec_l01In.ok A5) [] 9999 .n (hf := Try.func63)) rfl rfl ?_
   refine kv (g1 (decide_eq_false c3)) (not_) ?_
   refine kv g0 (pkF (decide_eq_false c3)) ?_
   refine kv g0 (mv) ?_
   by_cases c6 : t4 = true
   ·rw [if_pos c6] at H
    refine kv (g1 (nF c6)) (faB 2 2) ?_
    refine kv (g1 (nF c6)) (ldB) ?_
    refine kv (g1 (nF c6)) (lnS lenE) ?_
    refine kv (g1 (nF c6)) (gtr) ?_
    refine kv g0 (pkF (nF c6)) ?_
    refine wk_end ?_
    refine ac_next ?_
    by_cases c7 : (l0_2.length : Int) > 3
    ·rw [if_pos c7] at H
     refine aw_ifT ?_ (decide_eq_true c7)
     refine aw_grp1 ?_
     refine wk_start ?_
     refine kv g0 (asg) ?_
     refine wk_end ?_
     refine ac_next ?_
     refine aw_ret ?_
     refine ac_thenR ?_
     obtain rfl := Option.some.inj H
     exact acr hE [.tmp 2] (.tmp .nil) (.one _) [] 9999
    rw [if_neg c7] at H
    refine aw_ifF ?_ (decide_eq_false c7)
    refine aw_skip ?_
    refine ac_next ?_
    refine aw_grp1 ?_
    refine wk_start ?_
    refine kv g0 (faB 0 0) ?_
    refine kv g0 (ldB) ?_
    refine kv g0 (faB 0 0) ?_
    refine kv g0 (ldB) ?_
    refine kv g0 (lnS lenE) ?_
    obtain ⟨t8, A9, H⟩ := of_bind H
    refine kcS1 47 (.tup [.row 1, .lit (.bool t8.2)]) [(1, .row 3 1 (t8.1.map (eI .i64)))] g0 (cal (spec_l20Counts.ok A9) [1] 9999 .n (hf := Try.func68)) rfl rfl ?_
    refine kv g0 (mv) ?_
    refine kv g0 (ext) ?_
    refine kv g0 (ext) ?_
    refine kv g0 (asg) ?_
    refine kv g0 (asg) ?_
    refine wk_end ?_
    refine ac_next ?_
    refine aw_grp1 ?_
    refine wk_start ?_
    refine kv g0 (faB 0 0) ?_
    refine kv g0 (ldB) ?_
    refine kv g0 (faB 3 3) ?_
    refine kv g0 (ldB) ?_
    obtain ⟨t10, A11, H⟩ := of_bind H
    refine kcS1 55 (.tup [.row 2, .lit (.bool t10.2)]) [(2, .row 3 1 (t10.1.map (eI .i64)))] g0 (cal (spec_l20Counts.ok A11) [2] 9999 .n (hf := Try.func68)) rfl rfl ?_
    refine kv g0 (mv) ?_
    refine kv g0 (ext) ?_
    refine kv g0 (ext) ?_
    refine kv g0 (asg) ?_
    refine kv g0 (asg) ?_
    refine wk_end ?_
    refine ac_next ?_
    refine aw_grp1 ?_
    refine aw_grp1 ?_
    refine wk_start ?_
    refine kv g0 (mv) ?_
    refine kv g0 (not_) ?_
    refine kv g0 (mv) ?_
    by_cases c12 : t8.2 = true
    ·rw [if_pos c12] at H
     refine kv (g1 (nF c12)) (mv) ?_
     refine kv (g1 (nF c12)) (not_) ?_
     refine kv g0 (pkF (nF c12)) ?_
     refine wk_end ?_
     refine ac_next ?_
     by_cases c13 : t10.2 = true
     ·rw [if_pos c13] at H
      refine aw_ifF ?_ (nF c13)
      refine aw_skip ?_
      refine ac_next ?_
      refine aw_grp1 ?_
      refine aw_grp1 ?_
      refine wk_start ?_
      refine kv g0 (asg) ?_
      refine wk_end ?_
      refine ac_next ?_
      refine aw_block ?_
      refine aw_loop1 (fun (k_ : Nat) (p21 : Int) => k_ ≤ k ∧ spec_KeeperOk.l0 k_ l0_0 l0_1 l0_2 a0_3 l0_4 t8 t10 p21 = some r) (fun (p21 : Int) => ⟨[(1, .box 0 0), (3, .row 1), (5, .row 2), (7, .lit (.int .i64 p21))], [(0, .box 29 [.sl .o 6 (l0_0.map e98), .sl .o 1 (l0_1.map (eI .i64)), .sl .o 6 (l0_2.map e97), .lit (.int .i64 a0_3), .sl .o 1 (l0_4.map (eI .i64))]), (1, .row 3 1 (t8.1.map (eI .i64))), (2, .row 3 1 (t10.1.map (eI .i64)))]⟩) k 0 ⟨Nat.le_refl _, H⟩ (fun K_ h_ => acw hE [(0, 0), (1, 1), (2, 2)] 9999 h_) (fun _ => by intro h_; have h_ := h_.2; rw [spec_KeeperOk.l0.eq_1] at h_; cases h_) ?_
      intro k22 p21 hq_ K31 hK32
      have hk22 := hq_.1
      have H := hq_.2
      clear hq_
      rw [spec_KeeperOk.l0.eq_2] at H
      refine aw_grp1 ?_
      refine aw_grp1 ?_
      refine wk_start ?_
      refine kv g0 (mv) ?_
      refine kv g0 (lss) ?_
      refine wk_end ?_
      refine ac_next ?_
      by_cases c23 : p21 < 3
      ·rw [if_pos c23] at H
       refine aw_ifT ?_ (decide_eq_true c23)
       refine aw_skip ?_
       refine ac_next ?_
       refine aw_grp1 ?_
       refine aw_block ?_
       refine aw_grp1 ?_
       refine wk_start ?_
       refine kv g0 (faB 1 1) ?_
       refine kv g0 (ldB) ?_
       refine kv g0 (mv) ?_
       obtain ⟨c24, H⟩ := of_if H
       obtain ⟨c25, H⟩ := of_if H
       refine kv g0 (ixS 3 (eI .i64 (rd l0_1 p21)) c24 (getE (z := (0 : Int)) c24 c25)) ?_
       refine kv g0 (ldR (.lit (.int .i64 (rd l0_1 p21)))) ?_
       refine kv g0 (mv) ?_
       refine kv g0 (mv) ?_
       obtain ⟨c26, H⟩ := of_if H
       refine kv g0 (ixR 3 c24 (ltE c26)) ?_
       refine kv g0 (ldE (eI .i64 (rd t8.1 p21)) (.lit (.int .i64 (rd t8.1 p21))) (getE (z := (0 : Int)) c24 c26)) ?_
       refine kv g0 (add6) ?_
       refine kv g0 (neq) ?_
       refine kv g0 (mv) ?_
       by_cases c27 : (rd l0_1 p21) = (wrap64 ((rd t8.1 p21) + 1))
       ·rw [if_pos c27] at H
        refine kv (g1 (eM c27)) (faB 4 4) ?_
        refine kv (g1 (eM c27)) (ldB) ?_
        refine kv (g1 (eM c27)) (mv) ?_
        obtain ⟨c28, H⟩ := of_if H
        refine kv (g1 (eM c27)) (ixS 3 (eI .i64 (rd l0_4 p21)) c24 (getE (z := (0 : Int)) c24 c28)) ?_
        refine kv (g1 (eM c27)) (ldR (.lit (.int .i64 (rd l0_4 p21)))) ?_
        refine kv (g1 (eM c27)) (mv) ?_
        refine kv (g1 (eM c27)) (mv) ?_
        obtain ⟨c29, H⟩ := of_if H
        refine kv (g1 (eM c27)) (ixR 3 c24 (ltE c29)) ?_
        refine kv (g1 (eM c27)) (ldE (eI .i64 (rd t10.1 p21)) (.lit (.int .i64 (rd t10.1 p21))) (getE (z := (0 : Int)) c24 c29)) ?_
        refine kv (g1 (eM c27)) (add6) ?_
        refine kv (g1 (eM c27)) (neq) ?_
        refine kv g0 (pkF (eM c27)) ?_
        refine wk_end_draw hM (by kernel_rfl) ?_
        refine ac_next ?_
        by_cases c30 : (rd l0_4 p21) = (wrap64 ((rd t10.1 p21) + 1))
        ·rw [if_pos c30] at H
         refine aw_ifF ?_ (eM c30)
         refine aw_skip ?_
         refine ac_blkN ?_
         refine ac_next ?_
         refine wk_start ?_
         refine kv g0 (mv) ?_
         refine kv g0 (add6) ?_
         refine kv g0 (asg) ?_
         refine wk_end ?_
         refine ac_k ?_
         exact acw hE [(0, 0), (1, 1), (2, 2)] 9999 (hK32 k22 (wrap64 (p21 + 1)) (Nat.le_refl _) ⟨by omega, H⟩)
        rw [if_neg c30] at H
        refine aw_ifT ?_ (eN c30)
        refine aw_grp1 ?_
        refine wk_start ?_
        refine kv g0 (asg) ?_
        refine wk_end ?_
        refine ac_next ?_
        refine aw_ret ?_
        refine ac_blkR ?_
        refine ac_thenR ?_
        refine ac_thenR ?_
        refine ac_blkR ?_
        refine ac_thenR ?_
        obtain rfl := Option.some.inj H
        exact acr hE [.tmp 2] (.tmp .nil) (.one _) [] 9999
       rw [if_neg c27] at H
       refine kx (hF (eN c27)) ?_
       refine kx (hF (eN c27)) ?_
       refine kx (hF (eN c27)) ?_
       refine kx (hF (eN c27)) ?_
       refine kx (hF (eN c27)) ?_
       refine kx (hF (eN c27)) ?_
       refine kx (hF (eN c27)) ?_
       refine kx (hF (eN c27)) ?_
       refine kx (hF (eN c27)) ?_
       refine kx (hF (eN c27)) ?_
       refine kx (hF (eN c27)) ?_
       refine kv g0 (pkT (eN c27)) ?_
       refine wk_end_draw hM (by kernel_rfl) ?_
       refine ac_next ?_
       refine aw_ifT ?_ rfl
       refine aw_grp1 ?_
       refine wk_start ?_
       refine kv g0 (asg) ?_
       refine wk_end ?_
       refine ac_next ?_
       refine aw_ret ?_
       refine ac_blkR ?_
       refine ac_thenR ?_
       refine ac_thenR ?_
       refine ac_blkR ?_
       refine ac_thenR ?_
       obtain rfl := Option.some.inj H
       exact acr hE [.tmp 2] (.tmp .nil) (.one _) [] 9999
      rw [if_neg c23] at H
      refine aw_ifF ?_ (decide_eq_false c23)
      refine aw_exit ?_
      refine ac_then ?_
      refine ac_then ?_
      refine ac_hit rfl ?_
      refine ac_next ?_
      refine aw_grp1 ?_
      refine aw_grp1 ?_
      refine wk_start ?_
      refine kv g0 (asg) ?_
      refine wk_end ?_
      refine ac_next ?_
      refine aw_block ?_
      refine aw_loop1 (fun (k_ : Nat) (p50 : Int) => k_ ≤ k22 ∧ spec_KeeperOk.l1 k_ l0_0 l0_1 l0_2 a0_3 l0_4 p50 = some r) (fun (p50 : Int) => ⟨[(1, .box 0 0), (8, .lit (.int .i64 p50))], [(0, .box 29 [.sl .o 6 (l0_0.map e98), .sl .o 1 (l0_1.map (eI .i64)), .sl .o 6 (l0_2.map e97), .lit (.int .i64 a0_3), .sl .o 1 (l0_4.map (eI .i64))])]⟩) k22 0 ⟨Nat.le_refl _, H⟩ (fun K_ h_ => acw hE [(0, 0)] 9999 h_) (fun _ => by intro h_; have h_ := h_.2; rw [spec_KeeperOk.l1.eq_1] at h_; cases h_) ?_
      intro k51 p50 hq_ K69 hK70
      have hk51 := hq_.1
      have H := hq_.2
      clear hq_
      rw [spec_KeeperOk.l1.eq_2] at H
      refine aw_grp1 ?_
      refine aw_grp1 ?_
      refine wk_start ?_
      refine kv g0 (mv) ?_
      refine kv g0 (faB 2 2) ?_
      refine kv g0 (ldB) ?_
      refine kv g0 (lnS lenE) ?_
      refine kv g0 (lss) ?_
      refine wk_end ?_
      refine ac_next ?_
      by_cases c52 : p50 < (l0_2.length : Int)
      ·rw [if_pos c52] at H
       refine aw_ifT ?_ (decide_eq_true c52)
       refine aw_skip ?_
       refine ac_next ?_
       refine aw_grp1 ?_
       refine aw_block ?_
       refine aw_grp1 ?_
       refine wk_start ?_
       refine kv g0 (faB 2 2) ?_
       refine kv g0 (ldB) ?_
       refine kv g0 (mv) ?_
       obtain ⟨c53, H⟩ := of_if H
       refine kv g0 (ixS 97 (e97 (rd_T97 l0_2 p50)) c53 (getE (z := z97) c53 c52)) ?_
       refine kv g0 (ldRA 6 [.lit (.int .i64 ((rd_T97 l0_2 p50).f0)), .lit (.int .i64 ((rd_T97 l0_2 p50).f1)), .lit (.int .i64 ((rd_T97 l0_2 p50).f2.f0)), .lit (.int .i64 ((rd_T97 l0_2 p50).f2.f1)), .lit (.int .i64 ((rd_T97 l0_2 p50).f2.f2)), .lit (.int .i64 ((rd_T97 l0_2 p50).f2.f3))]) ?_
       refine kb g0 (alc 3 [.int .i64 0, .int .i64 0, .int .i64 0, .int .i64 0, .int .i64 0, .int .i64 0] [.lit (.int .i64 0), .lit (.int .i64 0), .lit (.int .i64 0), .lit (.int .i64 0), .lit (.int .i64 0), .lit (.int .i64 0)]) ?_
       refine ks g0 (stB 6 [.lit (.int .i64 ((rd_T97 l0_2 p50).f0)), .lit (.int .i64 ((rd_T97 l0_2 p50).f1)), .lit (.int .i64 ((rd_T97 l0_2 p50).f2.f0)), .lit (.int .i64 ((rd_T97 l0_2 p50).f2.f1)), .lit (.int .i64 ((rd_T97 l0_2 p50).f2.f2)), .lit (.int .i64 ((rd_T97 l0_2 p50).f2.f3))]) ?_
       refine wk_end ?_
       refine ac_next ?_
       refine aw_grp1 ?_
       refine wk_start ?_
       refine kv g0 (faB 0 0) ?_
       refine kv g0 (ldB) ?_
       obtain ⟨t54, A55, H⟩ := of_bind H
       refine kcS0 106 (.lit (.bool t54)) [] g0 (cal (spec_l01In.ok A55) [] 9999 .n (hf := Try.func63)) rfl rfl ?_
       refine kv g0 (not_) ?_
       refine kv g0 (mv) ?_
       by_cases c56 : t54 = true
       ·rw [if_pos c56] at H
        refine kv (g1 (nF c56)) (faB 1 1) ?_
        refine kv (g1 (nF c56)) (ldB) ?_
        refine kv (g1 (nF c56)) (faB 1 1) ?_
        refine kv (g1 (nF c56)) (ldB) ?_
        refine kv (g1 (nF c56)) (faB 0 0) ?_
        refine kv (g1 (nF c56)) (ldB) ?_
        obtain ⟨c57, H⟩ := of_if H
        obtain ⟨c58, H⟩ := of_if H
        refine kv (g1 (nF c56)) (ixS 3 (eI .i64 (rd l0_1 ((rd_T97 l0_2 p50).f0))) c57 (getE (z := (0 : Int)) c57 c58)) ?_
        refine kv (g1 (nF c56)) (ldR (.lit (.int .i64 (rd l0_1 ((rd_T97 l0_2 p50).f0))))) ?_
        refine kv (g1 (nF c56)) (add6) ?_
        obtain ⟨t59, A60, H⟩ := of_bind H
        refine kcS0 118 (.lit (.bool t59)) [] (g1 (nF c56)) (cal (spec_l01In.ok A60) [] 9999 .n (hf := Try.func63)) rfl rfl ?_
        refine kv (g1 (nF c56)) (not_) ?_
        refine kv g0 (pkF (nF c56)) ?_
        refine kv g0 (mv) ?_
        by_cases c61 : t59 = true
        ·rw [if_pos c61] at H
         refine kv (g1 (nF c61)) (faB 2 2) ?_
         refine kv (g1 (nF c61)) (ldBA 4 [.lit (.int .i64 ((rd_T97 l0_2 p50).f2.f0)), .lit (.int .i64 ((rd_T97 l0_2 p50).f2.f1)), .lit (.int .i64 ((rd_T97 l0_2 p50).f2.f2)), .lit (.int .i64 ((rd_T97 l0_2 p50).f2.f3))]) ?_
         obtain ⟨t62, A63, H⟩ := of_bind H
         refine kcS0 124 (.lit (.bool t62)) [] (g1 (nF c61)) (cal (spec_ItemOk.ok A63) [] 9999 .n (hf := Try.func69)) rfl rfl ?_
         refine kv (g1 (nF c61)) (not_) ?_
         refine kv g0 (pkF (nF c61)) ?_
         refine kv g0 (mv) ?_
         by_cases c64 : t62 = true
         ·rw [if_pos c64] at H
          refine kv (g1 (nF c64)) (faB 2 2) ?_
          refine kv (g1 (nF c64)) (ldB) ?_
          refine kv (g1 (nF c64)) (mv) ?_
          obtain ⟨c65, H⟩ := of_if H
          refine kv (g1 (nF c64)) (slH 97 c53 c65) ?_
          refine kv (g1 (nF c64)) (faB 0 0) ?_
          refine kv (g1 (nF c64)) (ldB) ?_
          refine kv (g1 (nF c64)) (faB 1 1) ?_
          refine kv (g1 (nF c64)) (ldB) ?_
          obtain ⟨t66, A67, H⟩ := of_bind H
          refine kcS0 136 (.lit (.int .i64 t66)) [] (g1 (nF c64)) (cal (spec_l20Early.ok A67) [] 9999 .n (hf := Try.func66)) rfl rfl ?_
          refine kv (g1 (nF c64)) (geq) ?_
          refine kv g0 (pkF (nF c64)) ?_
          refine wk_end_draw hM (by kernel_rfl) ?_
          refine ac_next ?_
          by_cases c68 : t66 ≥ 0
          ·rw [if_pos c68] at H
           refine aw_ifT ?_ (decide_eq_true c68)
           refine aw_grp1 ?_
           refine wk_start ?_
           refine kv g0 (asg) ?_
           refine wk_end ?_
           refine ac_next ?_
           refine aw_ret ?_
           refine ac_blkR ?_
           refine ac_thenR ?_
           refine ac_thenR ?_
           refine ac_blkR ?_
           refine ac_thenR ?_
           obtain rfl := Option.some.inj H
           exact acr hE [.tmp 2] (.tmp .nil) (.one _) [] 9999
          rw [if_neg c68] at H
          refine aw_ifF ?_ (decide_eq_false c68)
          refine aw_skip ?_
          refine ac_blkN ?_
          refine ac_next ?_
          refine wk_start ?_
          refine kv g0 (mv) ?_
          refine kv g0 (add6) ?_
          refine kv g0 (asg) ?_
          refine wk_end ?_
          refine ac_k ?_
          exact acw hE [(0, 0)] 9999 (hK70 k51 (wrap64 (p50 + 1)) (Nat.le_refl _) ⟨by omega, H⟩)
         rw [if_neg c64] at H
         refine kx (hF (nT (bF c64))) ?_
         refine kx (hF (nT (bF c64))) ?_
         refine kx (hF (nT (bF c64))) ?_
         refine kx (hF (nT (bF c64))) ?_
         refine kx (hF (nT (bF c64))) ?_
         refine kx (hF (nT (bF c64))) ?_
         refine kx (hF (nT (bF c64))) ?_
         refine kx (hF (nT (bF c64))) ?_
         refine kx (hF (nT (bF c64))) ?_
         refine kx (hF (nT (bF c64))) ?_
         refine kv g0 (pkT (nT (bF c64))) ?_
         refine wk_end_draw hM (by kernel_rfl) ?_
         refine ac_next ?_
         refine aw_ifT ?_ rfl
         refine aw_grp1 ?_
         refine wk_start ?_
         refine kv g0 (asg) ?_
         refine wk_end ?_
         refine ac_next ?_
         refine aw_ret ?_
         refine ac_blkR ?_
         refine ac_thenR ?_
         refine ac_thenR ?_
         refine ac_blkR ?_
         refine ac_thenR ?_
         obtain rfl := Option.some.inj H
         exact acr hE [.tmp 2] (.tmp .nil) (.one _) [] 9999
        rw [if_neg c61] at H
        refine kx (hF (nT (bF c61))) ?_
        refine kx (hF (nT (bF c61))) ?_
        refine kx (hF (nT (bF c61))) ?_
        refine kx (hF (nT (bF c61))) ?_
        refine kv g0 (pkT (nT (bF c61))) ?_
        refine kv g0 (mv) ?_
        refine kx (hF rfl) ?_
        refine kx (hF rfl) ?_
        refine kx (hF rfl) ?_
        refine kx (hF rfl) ?_
        refine kx (hF rfl) ?_
        refine kx (hF rfl) ?_
        refine kx (hF rfl) ?_
        refine kx (hF rfl) ?_
        refine kx (hF rfl) ?_
        refine kx (hF rfl) ?_
        refine kv g0 (pkT rfl) ?_
        refine wk_end_draw hM (by kernel_rfl) ?_
        refine ac_next ?_
        refine aw_ifT ?_ rfl
        refine aw_grp1 ?_
        refine wk_start ?_
        refine kv g0 (asg) ?_
        refine wk_end ?_
        refine ac_next ?_
        refine aw_ret ?_
        refine ac_blkR ?_
        refine ac_thenR ?_
        refine ac_thenR ?_
        refine ac_blkR ?_
        refine ac_thenR ?_
        obtain rfl := Option.some.inj H
        exact acr hE [.tmp 2] (.tmp .nil) (.one _) [] 9999
       rw [if_neg c56] at H
       refine kx (hF (nT (bF c56))) ?_
       refine kx (hF (nT (bF c56))) ?_
       refine kx (hF (nT (bF c56))) ?_
       refine kx (hF (nT (bF c56))) ?_
       refine kx (hF (nT (bF c56))) ?_
       refine kx (hF (nT (bF c56))) ?_
       refine kx (hF (nT (bF c56))) ?_
       refine kx (hF (nT (bF c56))) ?_
       refine kx (hF (nT (bF c56))) ?_
       refine kx (hF (nT (bF c56))) ?_
       refine kx (hF (nT (bF c56))) ?_
       refine kv g0 (pkT (nT (bF c56))) ?_
       refine kv g0 (mv) ?_
       refine kx (hF rfl) ?_
       refine kx (hF rfl) ?_
       refine kx (hF rfl) ?_
       refine kx (hF rfl) ?_
       refine kv g0 (pkT rfl) ?_
       refine kv g0 (mv) ?_
       refine kx (hF rfl) ?_
       refine kx (hF rfl) ?_
       refine kx (hF rfl) ?_
       refine kx (hF rfl) ?_
       refine kx (hF rfl) ?_
       refine kx (hF rfl) ?_
       refine kx (hF rfl) ?_
       refine kx (hF rfl) ?_
       refine kx (hF rfl) ?_
       refine kx (hF rfl) ?_
       refine kv g0 (pkT rfl) ?_
       refine wk_end_draw hM (by kernel_rfl) ?_
       refine ac_next ?_
       refine aw_ifT ?_ rfl
       refine aw_grp1 ?_
       refine wk_start ?_
       refine kv g0 (asg) ?_
       refine wk_end ?_
       refine ac_next ?_
       refine aw_ret ?_
       refine ac_blkR ?_
       refine ac_thenR ?_
       refine ac_thenR ?_
       refine ac_blkR ?_
       refine ac_thenR ?_
       obtain rfl := Option.some.inj H
       exact acr hE [.tmp 2] (.tmp .nil) (.one _) [] 9999
      rw [if_neg c52] at H
      refine aw_ifF ?_ (decide_eq_false c52)
      refine aw_exit ?_
      refine ac_then ?_
      refine ac_then ?_
      refine ac_hit rfl ?_
      refine ac_next ?_
      refine aw_grp1 ?_
      refine wk_start ?_
      refine kv g0 (asg) ?_
      refine wk_end ?_
      refine ac_next ?_
      refine aw_ret ?_
      obtain rfl := Option.some.inj H
      exact acr hE [.tmp 2] (.tmp .nil) (.one _) [] 9999
     rw [if_neg c13] at H
     refine aw_ifT ?_ (nT (bF c13))
     refine aw_grp1 ?_
     refine wk_start ?_
     refine kv g0 (asg) ?_
     refine wk_end ?_
     refine ac_next ?_
     refine aw_ret ?_
     refine ac_thenR ?_
     obtain rfl := Option.some.inj H
     exact acr hE [.tmp 2] (.tmp .nil) (.one _) [] 9999
    rw [if_neg c12] at H
    refine kx (hF (nT (bF c12))) ?_
    refine kx (hF (nT (bF c12))) ?_
    refine kv g0 (pkT (nT (bF c12))) ?_
    refine wk_end ?_
    refine ac_next ?_
    refine aw_ifT ?_ rfl
    refine aw_grp1 ?_
    refine wk_start ?_
    refine kv g0 (asg) ?_
    refine wk_end ?_
    refine ac_next ?_
    refine aw_ret ?_
    refine ac_thenR ?_
    obtain rfl := Option.some.inj H
    exact acr hE [.tmp 2] (.tmp .nil) (.one _) [] 9999
   rw [if_neg c6] at H
   refine kx (hF (nT (bF c6))) ?_
   refine kx (hF (nT (bF c6))) ?_
   refine kx (hF (nT (bF c6))) ?_
   refine kx (hF (nT (bF c6))) ?_
   refine kv g0 (pkT (nT (bF c6))) ?_
   refine wk_end ?_
   refine ac_next ?_
   refine aw_ifT ?_ rfl
   refine aw_grp1 ?_
   refine wk_start ?_
   refine kv g0 (asg) ?_
   refine wk_end ?_
   refine ac_next ?_
   refine aw_ret ?_
   refine ac_thenR ?_
   obtain rfl := Option.some.inj H
   exact acr hE [.tmp 2] (.tmp .nil) (.one _) [] 9999
  rw [if_neg c2] at H
  refine kx (hF (eN c2)) ?_
  refine kx (hF (eN c2)) ?_
  refine kx (hF (eN c2)) ?_
  refine kx (hF (eN c2)) ?_
  refine kv g0 (pkT (eN c2)) ?_
  refine kv g0 (mv) ?_
  refine kx (hF rfl) ?_
  refine kx (hF rfl) ?_
  refine kx (hF rfl) ?_
  refine kx (hF rfl) ?_
  refine kx (hF rfl) ?_
  refine kx (hF rfl) ?_
  refine kx (hF rfl) ?_
  refine kv g0 (pkT rfl) ?_
  refine kv g0 (mv) ?_
  refine kx (hF rfl) ?_
  refine kx (hF rfl) ?_
  refine kx (hF rfl) ?_
  refine kx (hF rfl) ?_
  refine kv g0 (pkT rfl) ?_
  refine wk_end ?_
  refine ac_next ?_
  refine aw_ifT ?_ rfl
  refine aw_grp1 ?_
  refine wk_start ?_
  refine kv g0 (asg) ?_
  refine wk_end ?_
  refine ac_next ?_
  refine aw_ret ?_
  refine ac_thenR ?_
  obtain rfl := Option.some.inj H
  exact acr hE [.tmp 2] (.tmp .nil) (.one _) [] 9999
 rw [if_neg c1] at H
 refine kx (hF (eN c1)) ?_
 refine kx (hF (eN c1)) ?_
 refine kx (hF (eN c1)) ?_
 refine kx (hF (eN c1)) ?_
 refine kv g0 (pkT (eN c1)) ?_
 refine kv g0 (mv) ?_
 refine kx (hF rfl) ?_
 refine kx (hF rfl) ?_
 refine kx (hF rfl) ?_
 refine kx (hF rfl) ?_
 refine kv g0 (pkT rfl) ?_
 refine kv g0 (mv) ?_
 refine kx (hF rfl) ?_
 refine kx (hF rfl) ?_
 refine kx (hF rfl) ?_
 refine kx (hF rfl) ?_
 refine kx (hF rfl) ?_
 refine kx (hF rfl) ?_
 refine kx (hF rfl) ?_
 refine kv g0 (pkT rfl) ?_
 refine kv g0 (mv) ?_
 refine kx (hF rfl) ?_
 refine kx (hF rfl) ?_
 refine kx (hF rfl) ?_
 refine kx (hF rfl) ?_
 refine kv g0 (pkT rfl) ?_
 refine wk_end ?_
 refine ac_next ?_
 refine aw_ifT ?_ rfl
 refine aw_grp1 ?_
 refine wk_start ?_
 refine kv g0 (asg) ?_
 refine wk_end ?_
 refine ac_next ?_
 refine aw_ret ?_
 refine ac_thenR ?_
 obtain rfl := Option.some.inj H
 exact acr hE [.tmp 2] (.tmp .nil) (.one _) [] 9999
/-! spec_LogRight -/
def spec_LogRight.l0 : Nat → (List (List (List S212))) → (List S164) → (List S75) → (List S98) → (List Int) → (List S97) → Int → (List Int) → (List S169) → Int → (List Int) → (List S160) → Int → Option (Bool)
 | 0, _, _, _, _, _, _, _, _, _, _, _, _, _ => none
 | k10 + 1, l0_0, l0_1, l0_2, l0_3, l0_4, l0_5, a0_6, l0_7, l0_8, a0_9, l0_10, l0_11, p9 => if p9 < 3 then (spec_EntriesOf.f k10 l0_3 l0_4 l0_5 a0_6 l0_7 p9).bind fun t12 => ((spec_FiledOf.f k10 l0_0 l0_1 l0_2 l0_3 l0_4 l0_5 a0_6 l0_7 l0_8 a0_9 l0_10 l0_11 p9).bind fun t14 => ((spec_Fits.f k10 t12 t14).bind fun t16 => if t16 = true then spec_LogRight.l0 k10 l0_0 l0_1 l0_2 l0_3 l0_4 l0_5 a0_6 l0_7 l0_8 a0_9 l0_10 l0_11 (wrap64 (p9 + 1)) else some false)) else (spec_KeeperOk.f k10 l0_3 l0_4 l0_5 a0_6 l0_7).bind fun t21 => some t21
def spec_LogRight.f (k : Nat) (l0_0 : List (List (List S212))) (l0_1 : List S164) (l0_2 : List S75) (l0_3 : List S98) (l0_4 : List Int) (l0_5 : List S97) (a0_6 : Int) (l0_7 : List Int) (l0_8 : List S169) (a0_9 : Int) (l0_10 : List Int) (l0_11 : List S160) : Option (Bool) := spec_LogRight.l0 k l0_0 l0_1 l0_2 l0_3 l0_4 l0_5 a0_6 l0_7 l0_8 a0_9 l0_10 l0_11 0
theorem spec_LogRight.ok {k : Nat} {l0_0 : List (List (List S212))} {l0_1 : List S164} {l0_2 : List S75} {l0_3 : List S98} {l0_4 : List Int} {l0_5 : List S97} {a0_6 : Int} {l0_7 : List Int} {l0_8 : List S169} {a0_9 : Int} {l0_10 : List Int} {l0_11 : List S160} {r : Bool} (H : spec_LogRight.f k l0_0 l0_1 l0_2 l0_3 l0_4 l0_5 a0_6 l0_7 l0_8 a0_9 l0_10 l0_11 = some r) : ACalls Try.prog 31 [] [.agg [.sl .o 1 (l0_0.map (eL 1 (eL 4 (e212)))), .sl .o 4 (l0_1.map e164), .sl .o 5 (l0_2.map e75), .sl .o 6 (l0_3.map e98), .sl .o 1 (l0_4.map (eI .i64)), .sl .o 6 (l0_5.map e97), .lit (.int .i64 a0_6), .sl .o 1 (l0_7.map (eI .i64)), .sl .o 3 (l0_8.map e169), .lit (.int .i64 a0_9), .sl .o 1 (l0_10.map (eI .i64)), .sl .o 4 (l0_11.map e160)]] [] (.lit (.bool r)) := by
 refine acalls (fn := Try.f31) (nt := 20) Try.func31 rfl rfl (Nat.le_of_ble_eq_true rfl) fun E hE => ?_
 rw [spec_LogRight.f] at H
 refine aw_grp1 ?_
 refine wk_start ?_
 refine kb g0 (bxA 0) ?_
 refine kv g0 (asg) ?_
 refine wk_end ?_
 refine ac_next ?_
 refine aw_grp1 ?_
 refine aw_grp1 ?_
 refine wk_start ?_
 refine kv g0 (asg) ?_
 refine wk_end ?_
 refine ac_next ?_
 refine aw_block ?_
 refine aw_loop1 (fun (k_ : Nat) (p9 : Int) => k_ ≤ k ∧ spec_LogRight.l0 k_ l0_0 l0_1 l0_2 l0_3 l0_4 l0_5 a0_6 l0_7 l0_8 a0_9 l0_10 l0_11 p9 = some r) (fun (p9 : Int) => ⟨[(1, .box 0 0), (3, .lit (.int .i64 p9))], [(0, .box 70 [.sl .o 1 (l0_0.map (eL 1 (eL 4 (e212)))), .sl .o 4 (l0_1.map e164), .sl .o 5 (l0_2.map e75), .sl .o 6 (l0_3.map e98), .sl .o 1 (l0_4.map (eI .i64)), .sl .o 6 (l0_5.map e97), .lit (.int .i64 a0_6), .sl .o 1 (l0_7.map (eI .i64)), .sl .o 3 (l0_8.map e169), .lit (.int .i64 a0_9), .sl .o 1 (l0_10.map (eI .i64)), .sl .o 4 (l0_11.map e160)])]⟩) k 0 ⟨Nat.le_refl _, H⟩ (fun K_ h_ => acw hE [(0, 0)] 9999 h_) (fun _ => by intro h_; have h_ := h_.2; rw [spec_LogRight.l0.eq_1] at h_; cases h_) ?_
 intro k10 p9 hq_ K19 hK20
 have hk10 := hq_.1
 have H := hq_.2
 clear hq_
 rw [spec_LogRight.l0.eq_2] at H
 refine aw_grp1 ?_
 refine aw_grp1 ?_
 refine wk_start ?_
 refine kv g0 (mv) ?_
 refine kv g0 (lss) ?_
 refine wk_end ?_
 refine ac_next ?_
 by_cases c11 : p9 < 3
 ·rw [if_pos c11] at H
  refine aw_ifT ?_ (decide_eq_true c11)
  refine aw_skip ?_
  refine ac_next ?_
  refine aw_grp1 ?_
  refine aw_block ?_
  refine aw_grp1 ?_
  refine wk_start ?_
  refine kv g0 (faB 3 3) ?_
  refine kv g0 (ldBA 5 [.sl .o 6 (l0_3.map e98), .sl .o 1 (l0_4.map (eI .i64)), .sl .o 6 (l0_5.map e97), .lit (.int .i64 a0_6), .sl .o 1 (l0_7.map (eI .i64))]) ?_
  refine kv g0 (mv) ?_
  obtain ⟨t12, A13, H⟩ := of_bind H
  refine kcS1 11 (.row 1) [(1, .row 34 4 (t12.map e34))] g0 (cal (spec_EntriesOf.ok A13) [1] 9999 .n (hf := Try.func19)) rfl rfl ?_
  refine kv g0 (ldBA 12 [.sl .o 1 (l0_0.map (eL 1 (eL 4 (e212)))), .sl .o 4 (l0_1.map e164), .sl .o 5 (l0_2.map e75), .sl .o 6 (l0_3.map e98), .sl .o 1 (l0_4.map (eI .i64)), .sl .o 6 (l0_5.map e97), .lit (.int .i64 a0_6), .sl .o 1 (l0_7.map (eI .i64)), .sl .o 3 (l0_8.map e169), .lit (.int .i64 a0_9), .sl .o 1 (l0_10.map (eI .i64)), .sl .o 4 (l0_11.map e160)]) ?_
  refine kv g0 (mv) ?_
  obtain ⟨t14, A15, H⟩ := of_bind H
  refine kcS1 14 (.row 2) [(2, .row 160 4 (t14.map e160))] g0 (cal (spec_FiledOf.ok A15) [2] 9999 .n (hf := Try.func78)) rfl rfl ?_
  obtain ⟨t16, A17, H⟩ := of_bind H
  refine kcS0 15 (.lit (.bool t16)) [] g0 (cal (spec_Fits.ok A17) [] 9999 .n (hf := Try.func77)) rfl rfl ?_
  refine kv g0 (not_) ?_
  refine wk_end_draw hM (by kernel_rfl) ?_
  refine ac_next ?_
  by_cases c18 : t16 = true
  ·rw [if_pos c18] at H
   refine aw_ifF ?_ (nF c18)
   refine aw_skip ?_
   refine ac_blkN ?_
   refine ac_next ?_
   refine wk_start ?_
   refine kv g0 (mv) ?_
   refine kv g0 (add6) ?_
   refine kv g0 (asg) ?_
   refine wk_end ?_
   refine ac_k ?_
   exact acw hE [(0, 0)] 9999 (hK20 k10 (wrap64 (p9 + 1)) (Nat.le_refl _) ⟨by omega, H⟩)
  rw [if_neg c18] at H
  refine aw_ifT ?_ (nT (bF c18))
  refine aw_grp1 ?_
  refine wk_start ?_
  refine kv g0 (asg) ?_
  refine wk_end ?_
  refine ac_next ?_
  refine aw_ret ?_
  refine ac_blkR ?_
  refine ac_thenR ?_
  refine ac_thenR ?_
  refine ac_blkR ?_
  refine ac_thenR ?_
  obtain rfl := Option.some.inj H
  exact acr hE [.tmp 2] (.tmp .nil) (.one _) [] 9999
 rw [if_neg c11] at H
 refine aw_ifF ?_ (decide_eq_false c11)
 refine aw_exit ?_
 refine ac_then ?_
 refine ac_then ?_
 refine ac_hit rfl ?_
 refine ac_next ?_
 refine aw_grp1 ?_
 refine wk_start ?_
 refine kv g0 (faB 3 3) ?_
 refine kv g0 (ldBA 5 [.sl .o 6 (l0_3.map e98), .sl .o 1 (l0_4.map (eI .i64)), .sl .o 6 (l0_5.map e97), .lit (.int .i64 a0_6), .sl .o 1 (l0_7.map (eI .i64))]) ?_
 obtain ⟨t21, A22, H⟩ := of_bind H
 refine kcS0 19 (.lit (.bool t21)) [] g0 (cal (spec_KeeperOk.ok A22) [] 9999 .n (hf := Try.func26)) rfl rfl ?_
 refine kv g0 (asg) ?_
 refine wk_end ?_
 refine ac_next ?_
 refine aw_ret ?_
 obtain rfl := Option.some.inj H
 exact acr hE [.tmp 2] (.tmp .nil) (.one _) [] 9999
/-! impl_EntriesOf -/
def impl_EntriesOf.l0 : Nat → (List S98) → Int → (List S34) → Int → Option ((List S34))
 | 0, _, _, _, _ => none
 | k7 + 1, l0_0, a1, q5, p6 => if p6 < (l0_0.length : Int) then if 0 ≤ p6 then if ((rd_T98 l0_0 p6).f0) = a1 then (if q5.length + ([(⟨(rd_T98 l0_0 p6).f2.f0, (rd_T98 l0_0 p6).f2.f1, (rd_T98 l0_0 p6).f2.f2, (rd_T98 l0_0 p6).f2.f3⟩ : S34)] : List S34).length < 4398046511104 then impl_EntriesOf.l0 k7 l0_0 a1 (q5 ++ ([(⟨(rd_T98 l0_0 p6).f2.f0, (rd_T98 l0_0 p6).f2.f1, (rd_T98 l0_0 p6).f2.f2, (rd_T98 l0_0 p6).f2.f3⟩ : S34)] : List S34)) (wrap64 (p6 + 1)) else none) else impl_EntriesOf.l0 k7 l0_0 a1 q5 (wrap64 (p6 + 1)) else none else some q5
def impl_EntriesOf.f (k : Nat) (l0_0 : List S98) (l0_1 : List Int) (l0_2 : List S97) (a0_3 : Int) (l0_4 : List Int) (a1 : Int) : Option ((List S34)) := impl_EntriesOf.l0 k l0_0 a1 ([] : List S34) 0
theorem impl_EntriesOf.ok {k : Nat} {l0_0 : List S98} {l0_1 : List Int} {l0_2 : List S97} {a0_3 : Int} {l0_4 : List Int} {a1 : Int} {r : (List S34)} (H : impl_EntriesOf.f k l0_0 l0_1 l0_2 a0_3 l0_4 a1 = some r) : ACalls Try.prog 13 [] [.agg [.sl .o 6 (l0_0.map e98), .sl .o 1 (l0_1.map (eI .i64)), .sl .o 6 (l0_2.map e97), .lit (.int .i64 a0_3), .sl .o 1 (l0_4.map (eI .i64))], .lit (.int .i64 a1)] [(0, .row 34 4 (r.map e34))] (.row 0) := by
 refine acalls (fn := Try.f13) (nt := 27) Try.func13 rfl rfl (Nat.le_of_ble_eq_true rfl) fun E hE => ?_
 rw [impl_EntriesOf.f] at H
 refine aw_grp1 ?_
 refine wk_start ?_
 refine kb g0 (bxA 0) ?_
 refine kv g0 (asg) ?_
 refine wk_end ?_
 refine ac_next ?_
 refine aw_grp1 ?_
 refine wk_start ?_
 refine kb g0 (bsl 1 34 4 [.int .i64 0, .int .i64 0, .int .i64 0, .int .i64 0] (([] : List S34).map e34)) ?_
 refine kv g0 (asg) ?_
 refine wk_end ?_
 refine ac_next ?_
 refine aw_grp1 ?_
 refine aw_grp1 ?_
 refine wk_start ?_
 refine kv g0 (faB 0 0) ?_
 refine kv g0 (ldB) ?_
 refine kv g0 (lnS lenE) ?_
 refine kv g0 (mv) ?_
 refine wk_end ?_
 refine ac_next ?_
 refine aw_block ?_
 refine aw_loop2 (fun (k_ : Nat) (q5 : List S34) (p6 : Int) => k_ ≤ k ∧ impl_EntriesOf.l0 k_ l0_0 a1 q5 p6 = some r) (fun (q5 : List S34) (p6 : Int) => ⟨[(1, .lit (.int .i64 a1)), (5, .row 1), (10, .sl .o 6 (l0_0.map e98)), (11, .lit (.int .i64 (l0_0.length : Int))), (12, .lit (.int .i64 p6))], [(1, .row 34 4 (q5.map e34))]⟩) k ([] : List S34) 0 ⟨Nat.le_refl _, H⟩ (fun K_ h_ => acw hE [(1, 1)] 9999 h_) (fun _ _ => by intro h_; have h_ := h_.2; rw [impl_EntriesOf.l0.eq_1] at h_; cases h_) ?_
 intro k7 q5 p6 hq_ K12 hK13
 have hk7 := hq_.1
 have H := hq_.2
 clear hq_
 rw [impl_EntriesOf.l0.eq_2] at H
 refine aw_grp1 ?_
 refine wk_start ?_
 refine kv g0 (lss) ?_
 refine wk_end ?_
 refine ac_next ?_
 refine aw_grp1 ?_
 by_cases c8 : p6 < (l0_0.length : Int)
 ·rw [if_pos c8] at H
  refine aw_ifT ?_ (decide_eq_true c8)
  refine aw_skip ?_
  refine ac_next ?_
  refine aw_grp1 ?_
  refine aw_block ?_
  refine aw_grp1 ?_
  refine wk_start ?_
  obtain ⟨c9, H⟩ := of_if H
  refine kv g0 (ixS 98 (e98 (rd_T98 l0_0 p6)) c9 (getE (z := z98) c9 c8)) ?_
  refine kv g0 (ldRA 6 [.lit (.int .i64 ((rd_T98 l0_0 p6).f0)), .lit (.int .i64 ((rd_T98 l0_0 p6).f1)), .lit (.int .i64 ((rd_T98 l0_0 p6).f2.f0)), .lit (.int .i64 ((rd_T98 l0_0 p6).f2.f1)), .lit (.int .i64 ((rd_T98 l0_0 p6).f2.f2)), .lit (.int .i64 ((rd_T98 l0_0 p6).f2.f3))]) ?_
  refine kb g0 (alc 2 [.int .i64 0, .int .i64 0, .int .i64 0, .int .i64 0, .int .i64 0, .int .i64 0] [.lit (.int .i64 0), .lit (.int .i64 0), .lit (.int .i64 0), .lit (.int .i64 0), .lit (.int .i64 0), .lit (.int .i64 0)]) ?_
  refine ks g0 (stB 6 [.lit (.int .i64 ((rd_T98 l0_0 p6).f0)), .lit (.int .i64 ((rd_T98 l0_0 p6).f1)), .lit (.int .i64 ((rd_T98 l0_0 p6).f2.f0)), .lit (.int .i64 ((rd_T98 l0_0 p6).f2.f1)), .lit (.int .i64 ((rd_T98 l0_0 p6).f2.f2)), .lit (.int .i64 ((rd_T98 l0_0 p6).f2.f3))]) ?_
  refine wk_end ?_
  refine ac_next ?_
  refine aw_grp1 ?_
  refine wk_start ?_
  refine kv g0 (faB 0 0) ?_
  refine kv g0 (ldB) ?_
  refine kv g0 (mv) ?_
  refine kv g0 (eql) ?_
  refine wk_end ?_
  refine ac_next ?_
  by_cases c10 : ((rd_T98 l0_0 p6).f0) = a1
  ·rw [if_pos c10] at H
   refine aw_ifT ?_ (eT c10)
   refine wk_start ?_
   refine kv g0 (mv) ?_
   refine kv g0 (faB 2 2) ?_
   refine kv g0 (ldBA 4 [.lit (.int .i64 ((rd_T98 l0_0 p6).f2.f0)), .lit (.int .i64 ((rd_T98 l0_0 p6).f2.f1)), .lit (.int .i64 ((rd_T98 l0_0 p6).f2.f2)), .lit (.int .i64 ((rd_T98 l0_0 p6).f2.f3))]) ?_
   refine kb g0 (bsl 3 34 4 [.int .i64 0, .int .i64 0, .int .i64 0, .int .i64 0] (([(⟨(rd_T98 l0_0 p6).f2.f0, (rd_T98 l0_0 p6).f2.f1, (rd_T98 l0_0 p6).f2.f2, (rd_T98 l0_0 p6).f2.f3⟩ : S34)] : List S34).map e34)) ?_
   obtain ⟨c11, H⟩ := of_if H
   refine kc g0 (apR 4 34 4 32 [.int .i64 0, .int .i64 0, .int .i64 0, .int .i64 0] ((q5 ++ ([(⟨(rd_T98 l0_0 p6).f2.f0, (rd_T98 l0_0 p6).f2.f1, (rd_T98 l0_0 p6).f2.f2, (rd_T98 l0_0 p6).f2.f3⟩ : S34)] : List S34)).map e34) (.row rfl) (apb c11 rfl) appE) ?_
   refine kv g0 (asg) ?_
   refine wk_end ?_
   refine ac_blkN ?_
   refine ac_next ?_
   refine wk_start ?_
   refine kv g0 (add6) ?_
   refine kv g0 (mv) ?_
   refine wk_end ?_
   refine ac_k ?_
   exact acw hE [(1, 4)] 9999 (hK13 k7 (q5 ++ ([(⟨(rd_T98 l0_0 p6).f2.f0, (rd_T98 l0_0 p6).f2.f1, (rd_T98 l0_0 p6).f2.f2, (rd_T98 l0_0 p6).f2.f3⟩ : S34)] : List S34)) (wrap64 (p6 + 1)) (Nat.le_refl _) ⟨by omega, H⟩)
  rw [if_neg c10] at H
  refine aw_ifF ?_ (eF c10)
  refine aw_skip ?_
  refine ac_blkN ?_
  refine ac_next ?_
  refine wk_start ?_
  refine kv g0 (add6) ?_
  refine kv g0 (mv) ?_
  refine wk_end ?_
  refine ac_k ?_
  exact acw hE [(1, 1)] 9999 (hK13 k7 q5 (wrap64 (p6 + 1)) (Nat.le_refl _) ⟨by omega, H⟩)
 rw [if_neg c8] at H
 refine aw_ifF ?_ (decide_eq_false c8)
 refine aw_exit ?_
 refine ac_then ?_
 refine ac_then ?_
 refine ac_hit rfl ?_
 refine ac_next ?_
 refine aw_grp1 ?_
 refine wk_start ?_
 refine kv g0 (mv) ?_
 refine kv g0 (asg) ?_
 refine wk_end ?_
 refine ac_next ?_
 refine aw_ret ?_
 obtain rfl := Option.some.inj H
 exact acr hE [.tmp 4] (.tmp .nil) (.one _) [(0, 1)] 9999
/-! impl_FiledOf -/
def impl_FiledOf.l0 : Nat → (List S160) → Int → (List S160) → Int → Option ((List S160))
 | 0, _, _, _, _ => none
 | k7 + 1, l0_11, a1, q5, p6 => if p6 < (l0_11.length : Int) then if 0 ≤ p6 then if ((rd_T160 l0_11 p6).f0) = a1 then (if q5.length + ([(⟨(rd_T160 l0_11 p6).f0, (rd_T160 l0_11 p6).f1, (rd_T160 l0_11 p6).f2, (rd_T160 l0_11 p6).f3⟩ : S160)] : List S160).length < 4398046511104 then impl_FiledOf.l0 k7 l0_11 a1 (q5 ++ ([(⟨(rd_T160 l0_11 p6).f0, (rd_T160 l0_11 p6).f1, (rd_T160 l0_11 p6).f2, (rd_T160 l0_11 p6).f3⟩ : S160)] : List S160)) (wrap64 (p6 + 1)) else none) else impl_FiledOf.l0 k7 l0_11 a1 q5 (wrap64 (p6 + 1)) else none else some q5
def impl_FiledOf.f (k : Nat) (l0_0 : List (List (List S212))) (l0_1 : List S164) (l0_2 : List S75) (l0_3 : List S98) (l0_4 : List Int) (l0_5 : List S97) (a0_6 : Int) (l0_7 : List Int) (l0_8 : List S169) (a0_9 : Int) (l0_10 : List Int) (l0_11 : List S160) (a1 : Int) : Option ((List S160)) := impl_FiledOf.l0 k l0_11 a1 ([] : List S160) 0
theorem impl_FiledOf.ok {k : Nat} {l0_0 : List (List (List S212))} {l0_1 : List S164} {l0_2 : List S75} {l0_3 : List S98} {l0_4 : List Int} {l0_5 : List S97} {a0_6 : Int} {l0_7 : List Int} {l0_8 : List S169} {a0_9 : Int} {l0_10 : List Int} {l0_11 : List S160} {a1 : Int} {r : (List S160)} (H : impl_FiledOf.f k l0_0 l0_1 l0_2 l0_3 l0_4 l0_5 a0_6 l0_7 l0_8 a0_9 l0_10 l0_11 a1 = some r) : ACalls Try.prog 87 [] [.agg [.sl .o 1 (l0_0.map (eL 1 (eL 4 (e212)))), .sl .o 4 (l0_1.map e164), .sl .o 5 (l0_2.map e75), .sl .o 6 (l0_3.map e98), .sl .o 1 (l0_4.map (eI .i64)), .sl .o 6 (l0_5.map e97), .lit (.int .i64 a0_6), .sl .o 1 (l0_7.map (eI .i64)), .sl .o 3 (l0_8.map e169), .lit (.int .i64 a0_9), .sl .o 1 (l0_10.map (eI .i64)), .sl .o 4 (l0_11.map e160)], .lit (.int .i64 a1)] [(0, .row 160 4 (r.map e160))] (.row 0) := by
 refine acalls (fn := Try.f87) (nt := 26) Try.func87 rfl rfl (Nat.le_of_ble_eq_true rfl) fun E hE => ?_
 rw [impl_FiledOf.f] at H
 refine aw_grp1 ?_
 refine wk_start ?_
 refine kb g0 (bxA 0) ?_
 refine kv g0 (asg) ?_
 refine wk_end ?_
 refine ac_next ?_
 refine aw_grp1 ?_
 refine wk_start ?_
 refine kb g0 (bsl 1 160 4 [.int .i64 0, .int .i64 0, .int .i64 0, .bool false] (([] : List S160).map e160)) ?_
 refine kv g0 (asg) ?_
 refine wk_end ?_
 refine ac_next ?_
 refine aw_grp1 ?_
 refine aw_grp1 ?_
 refine wk_start ?_
 refine kv g0 (faB 11 11) ?_
 refine kv g0 (ldB) ?_
 refine kv g0 (lnS lenE) ?_
 refine kv g0 (mv) ?_
 refine wk_end ?_
 refine ac_next ?_
 refine aw_block ?_
 refine aw_loop2 (fun (k_ : Nat) (q5 : List S160) (p6 : Int) => k_ ≤ k ∧ impl_FiledOf.l0 k_ l0_11 a1 q5 p6 = some r) (fun (q5 : List S160) (p6 : Int) => ⟨[(1, .lit (.int .i64 a1)), (5, .row 1), (10, .sl .o 4 (l0_11.map e160)), (11, .lit (.int .i64 (l0_11.length : Int))), (12, .lit (.int .i64 p6))], [(1, .row 160 4 (q5.map e160))]⟩) k ([] : List S160) 0 ⟨Nat.le_refl _, H⟩ (fun K_ h_ => acw hE [(1, 1)] 9999 h_) (fun _ _ => by intro h_; have h_ := h_.2; rw [impl_FiledOf.l0.eq_1] at h_; cases h_) ?_
 intro k7 q5 p6 hq_ K12 hK13
 have hk7 := hq_.1
 have H := hq_.2
 clear hq_
 rw [impl_FiledOf.l0.eq_2] at H
 refine aw_grp1 ?_
 refine wk_start ?_
 refine kv g0 (lss) ?_
 refine wk_end ?_
 refine ac_next ?_
 refine aw_grp1 ?_
 by_cases c8 : p6 < (l0_11.length : Int)
 ·rw [if_pos c8] at H
  refine aw_ifT ?_ (decide_eq_true c8)
  refine aw_skip ?_
  refine ac_next ?_
  refine aw_grp1 ?_
  refine aw_block ?_
  refine aw_grp1 ?_
  refine wk_start ?_
  obtain ⟨c9, H⟩ := of_if H
  refine kv g0 (ixS 160 (e160 (rd_T160 l0_11 p6)) c9 (getE (z := z160) c9 c8)) ?_
  refine kv g0 (ldRA 4 [.lit (.int .i64 ((rd_T160 l0_11 p6).f0)), .lit (.int .i64 ((rd_T160 l0_11 p6).f1)), .lit (.int .i64 ((rd_T160 l0_11 p6).f2)), .lit (.bool ((rd_T160 l0_11 p6).f3))]) ?_
  refine kb g0 (alc 2 [.int .i64 0, .int .i64 0, .int .i64 0, .bool false] [.lit (.int .i64 0), .lit (.int .i64 0), .lit (.int .i64 0), .lit (.bool false)]) ?_
  refine ks g0 (stB 4 [.lit (.int .i64 ((rd_T160 l0_11 p6).f0)), .lit (.int .i64 ((rd_T160 l0_11 p6).f1)), .lit (.int .i64 ((rd_T160 l0_11 p6).f2)), .lit (.bool ((rd_T160 l0_11 p6).f3))]) ?_
  refine wk_end ?_
  refine ac_next ?_
  refine aw_grp1 ?_
  refine wk_start ?_
  refine kv g0 (faB 0 0) ?_
  refine kv g0 (ldB) ?_
  refine kv g0 (mv) ?_
  refine kv g0 (eql) ?_
  refine wk_end ?_
  refine ac_next ?_
  by_cases c10 : ((rd_T160 l0_11 p6).f0) = a1
  ·rw [if_pos c10] at H
   refine aw_ifT ?_ (eT c10)
   refine wk_start ?_
   refine kv g0 (mv) ?_
   refine kv g0 (ldBA 4 [.lit (.int .i64 ((rd_T160 l0_11 p6).f0)), .lit (.int .i64 ((rd_T160 l0_11 p6).f1)), .lit (.int .i64 ((rd_T160 l0_11 p6).f2)), .lit (.bool ((rd_T160 l0_11 p6).f3))]) ?_
   refine kb g0 (bsl 3 160 4 [.int .i64 0, .int .i64 0, .int .i64 0, .bool false] (([(⟨(rd_T160 l0_11 p6).f0, (rd_T160 l0_11 p6).f1, (rd_T160 l0_11 p6).f2, (rd_T160 l0_11 p6).f3⟩ : S160)] : List S160).map e160)) ?_
   obtain ⟨c11, H⟩ := of_if H
   refine kc g0 (apR 4 160 4 32 [.int .i64 0, .int .i64 0, .int .i64 0, .bool false] ((q5 ++ ([(⟨(rd_T160 l0_11 p6).f0, (rd_T160 l0_11 p6).f1, (rd_T160 l0_11 p6).f2, (rd_T160 l0_11 p6).f3⟩ : S160)] : List S160)).map e160) (.row rfl) (apb c11 rfl) appE) ?_
   refine kv g0 (asg) ?_
   refine wk_end ?_
   refine ac_blkN ?_
   refine ac_next ?_
   refine wk_start ?_
   refine kv g0 (add6) ?_
   refine kv g0 (mv) ?_
   refine wk_end ?_
   refine ac_k ?_
   exact acw hE [(1, 4)] 9999 (hK13 k7 (q5 ++ ([(⟨(rd_T160 l0_11 p6).f0, (rd_T160 l0_11 p6).f1, (rd_T160 l0_11 p6).f2, (rd_T160 l0_11 p6).f3⟩ : S160)] : List S160)) (wrap64 (p6 + 1)) (Nat.le_refl _) ⟨by omega, H⟩)
  rw [if_neg c10] at H
  refine aw_ifF ?_ (eF c10)
  refine aw_skip ?_
  refine ac_blkN ?_
  refine ac_next ?_
  refine wk_start ?_
  refine kv g0 (add6) ?_
  refine kv g0 (mv) ?_
  refine wk_end ?_
  refine ac_k ?_
  exact acw hE [(1, 1)] 9999 (hK13 k7 q5 (wrap64 (p6 + 1)) (Nat.le_refl _) ⟨by omega, H⟩)
 rw [if_neg c8] at H
 refine aw_ifF ?_ (decide_eq_false c8)
 refine aw_exit ?_
 refine ac_then ?_
 refine ac_then ?_
 refine ac_hit rfl ?_
 refine ac_next ?_
 refine aw_grp1 ?_
 refine wk_start ?_
 refine kv g0 (mv) ?_
 refine kv g0 (asg) ?_
 refine wk_end ?_
 refine ac_next ?_
 refine aw_ret ?_
 obtain rfl := Option.some.inj H
 exact acr hE [.tmp 4] (.tmp .nil) (.one _) [(0, 1)] 9999
/-! impl_Spread -/
mutual
def impl_Spread.l0 : Nat → (List S34) → Int → (List S34) → Int → Option ((List S34))
 | 0, _, _, _, _ => none
 | k30 + 1, l0, p18, q28, p29 => if p29 < ((rd_T34 l0 p18).f3) then if (q28.length : Int) ≤ 1000 then if q28.length + ([(⟨2, 0, 0, 1⟩ : S34)] : List S34).length < 4398046511104 then impl_Spread.l0 k30 l0 p18 (q28 ++ ([(⟨2, 0, 0, 1⟩ : S34)] : List S34)) (wrap64 (p29 + 1)) else none else impl_Spread.l1 k30 l0 q28 (wrap64 (p18 + 1)) else impl_Spread.l1 k30 l0 q28 (wrap64 (p18 + 1))
def impl_Spread.l1 : Nat → (List S34) → (List S34) → Int → Option ((List S34))
 | 0, _, _, _ => none
 | k19 + 1, l0, q17, p18 => if p18 < (l0.length : Int) then if 0 ≤ p18 then if ((rd_T34 l0 p18).f0) = 2 then impl_Spread.l0 k19 l0 p18 q17 0 else (if q17.length + ([(⟨(rd_T34 l0 p18).f0, (rd_T34 l0 p18).f1, (rd_T34 l0 p18).f2, (rd_T34 l0 p18).f3⟩ : S34)] : List S34).length < 4398046511104 then impl_Spread.l1 k19 l0 (q17 ++ ([(⟨(rd_T34 l0 p18).f0, (rd_T34 l0 p18).f1, (rd_T34 l0 p18).f2, (rd_T34 l0 p18).f3⟩ : S34)] : List S34)) (wrap64 (p18 + 1)) else none) else none else some q17
end
def impl_Spread.f (k : Nat) (l0 : List S34) : Option ((List S34)) := impl_Spread.l1 k l0 ([] : List S34) 0
theorem impl_Spread.ok {k : Nat} {l0 : List S34} {r : (List S34)} (H : impl_Spread.f k l0 = some r) : ACalls Try.prog 131 [] [.sl .o 4 (l0.map e34)] [(0, .row 34 4 (r.map e34))] (.row 0) := by
 refine acalls (fn := Try.f131) (nt := 38) Try.func131 rfl rfl (Nat.le_of_ble_eq_true rfl) fun E hE => ?_
 rw [impl_Spread.f] at H
 refine aw_grp1 ?_
 refine wk_start ?_
 refine kv g0 (asg) ?_
 refine wk_end ?_
 refine ac_next ?_
 refine aw_grp1 ?_
 refine wk_start ?_
 refine kb g0 (bsl 0 34 4 [.int .i64 0, .int .i64 0, .int .i64 0, .int .i64 0] (([] : List S34).map e34)) ?_
 refine kv g0 (asg) ?_
 refine wk_end ?_
 refine ac_next ?_
 refine aw_grp1 ?_
 refine aw_grp1 ?_
 refine wk_start ?_
 refine kv g0 (mv) ?_
 refine kv g0 (lnS lenE) ?_
 refine kv g0 (mv) ?_
 refine wk_end ?_
 refine ac_next ?_
 refine aw_block ?_
 refine aw_loop2 (fun (k_ : Nat) (q17 : List S34) (p18 : Int) => k_ ≤ k ∧ impl_Spread.l1 k_ l0 q17 p18 = some r) (fun (q17 : List S34) (p18 : Int) => ⟨[(3, .row 0), (8, .sl .o 4 (l0.map e34)), (9, .lit (.int .i64 (l0.length : Int))), (10, .lit (.int .i64 p18))], [(0, .row 34 4 (q17.map e34))]⟩) k ([] : List S34) 0 ⟨Nat.le_refl _, H⟩ (fun K_ h_ => acw hE [(0, 0)] 9999 h_) (fun _ _ => by intro h_; have h_ := h_.2; rw [impl_Spread.l1.eq_1] at h_; cases h_) ?_
 intro k19 q17 p18 hq_ K36 hK37
 have hk19 := hq_.1
 have H := hq_.2
 clear hq_
 rw [impl_Spread.l1.eq_2] at H
 refine aw_grp1 ?_
 refine wk_start ?_
 refine kv g0 (lss) ?_
 refine wk_end ?_
 refine ac_next ?_
 refine aw_grp1 ?_
 by_cases c20 : p18 < (l0.length : Int)
 ·rw [if_pos c20] at H
  refine aw_ifT ?_ (decide_eq_true c20)
  refine aw_skip ?_
  refine ac_next ?_
  refine aw_grp1 ?_
  refine aw_block ?_
  refine aw_grp1 ?_
  refine wk_start ?_
  obtain ⟨c21, H⟩ := of_if H
  refine kv g0 (ixS 34 (e34 (rd_T34 l0 p18)) c21 (getE (z := z34) c21 c20)) ?_
  refine kv g0 (ldRA 4 [.lit (.int .i64 ((rd_T34 l0 p18).f0)), .lit (.int .i64 ((rd_T34 l0 p18).f1)), .lit (.int .i64 ((rd_T34 l0 p18).f2)), .lit (.int .i64 ((rd_T34 l0 p18).f3))]) ?_
  refine kb g0 (alc 1 [.int .i64 0, .int .i64 0, .int .i64 0, .int .i64 0] [.lit (.int .i64 0), .lit (.int .i64 0), .lit (.int .i64 0), .lit (.int .i64 0)]) ?_
  refine ks g0 (stB 4 [.lit (.int .i64 ((rd_T34 l0 p18).f0)), .lit (.int .i64 ((rd_T34 l0 p18).f1)), .lit (.int .i64 ((rd_T34 l0 p18).f2)), .lit (.int .i64 ((rd_T34 l0 p18).f3))]) ?_
  refine wk_end ?_
  refine ac_next ?_
  refine aw_grp1 ?_
  refine aw_grp1 ?_
  refine wk_start ?_
  refine kv g0 (faB 0 0) ?_
  refine kv g0 (ldB) ?_
  refine kv g0 (neq) ?_
  refine wk_end ?_
  refine ac_next ?_
  by_cases c22 : ((rd_T34 l0 p18).f0) = 2
  ·rw [if_pos c22] at H
   refine aw_ifF ?_ (eM c22)
   refine aw_skip ?_
   refine ac_next ?_
   refine aw_grp1 ?_
   refine wk_start ?_
   refine kv g0 (asg) ?_
   refine wk_end ?_
   refine ac_next ?_
   refine aw_block ?_
   refine aw_loop2 (fun (k_ : Nat) (q28 : List S34) (p29 : Int) => k_ ≤ k19 ∧ impl_Spread.l0 k_ l0 p18 q28 p29 = some r) (fun (q28 : List S34) (p29 : Int) => ⟨[(3, .row 0), (5, .box 1 0), (6, .lit (.int .i64 p29)), (8, .sl .o 4 (l0.map e34)), (9, .lit (.int .i64 (l0.length : Int))), (10, .lit (.int .i64 p18))], [(0, .row 34 4 (q28.map e34)), (1, .box 34 [.lit (.int .i64 ((rd_T34 l0 p18).f0)), .lit (.int .i64 ((rd_T34 l0 p18).f1)), .lit (.int .i64 ((rd_T34 l0 p18).f2)), .lit (.int .i64 ((rd_T34 l0 p18).f3))])]⟩) k19 q17 0 ⟨Nat.le_refl _, H⟩ (fun K_ h_ => acw hE [(0, 0), (1, 1)] 9999 h_) (fun _ _ => by intro h_; have h_ := h_.2; rw [impl_Spread.l0.eq_1] at h_; cases h_) ?_
   intro k30 q28 p29 hq_ K34 hK35
   have hk30 := hq_.1
   have H := hq_.2
   clear hq_
   rw [impl_Spread.l0.eq_2] at H
   refine aw_grp1 ?_
   refine aw_grp1 ?_
   refine wk_start ?_
   refine kv g0 (mv) ?_
   refine kv g0 (faB 3 3) ?_
   refine kv g0 (ldB) ?_
   refine kv g0 (lss) ?_
   refine kv g0 (mv) ?_
   by_cases c31 : p29 < ((rd_T34 l0 p18).f3)
   ·rw [if_pos c31] at H
    refine kv (g1 (decide_eq_true c31)) (mv) ?_
    refine kv (g1 (decide_eq_true c31)) (lnR lenE) ?_
    refine kv (g1 (decide_eq_true c31)) (leq) ?_
    refine kv g0 (pkT (decide_eq_true c31)) ?_
    refine wk_end ?_
    refine ac_next ?_
    by_cases c32 : (q28.length : Int) ≤ 1000
    ·rw [if_pos c32] at H
     refine aw_ifT ?_ (decide_eq_true c32)
     refine aw_skip ?_
     refine ac_next ?_
     refine aw_grp1 ?_
     refine aw_block ?_
     refine wk_start ?_
     refine kv g0 (mv) ?_
     refine kv g0 (bld [(0, 1), (1, 1), (2, 1), (3, 1)] [.int .i64 0, .int .i64 0, .int .i64 0, .int .i64 0] [.lit (.int .i64 2), .lit (.int .i64 0), .lit (.int .i64 0), .lit (.int .i64 1)]) ?_
     refine kb g0 (bsl 4 34 4 [.int .i64 0, .int .i64 0, .int .i64 0, .int .i64 0] (([(⟨2, 0, 0, 1⟩ : S34)] : List S34).map e34)) ?_
     obtain ⟨c33, H⟩ := of_if H
     refine kc g0 (apR 5 34 4 32 [.int .i64 0, .int .i64 0, .int .i64 0, .int .i64 0] ((q28 ++ ([(⟨2, 0, 0, 1⟩ : S34)] : List S34)).map e34) (.row rfl) (apb c33 rfl) appE) ?_
     refine kv g0 (asg) ?_
     refine wk_end ?_
     refine ac_blkN ?_
     refine ac_next ?_
     refine wk_start ?_
     refine kv g0 (mv) ?_
     refine kv g0 (add6) ?_
     refine kv g0 (asg) ?_
     refine wk_end ?_
     refine ac_k ?_
     exact acw hE [(0, 5), (1, 1)] 9999 (hK35 k30 (q28 ++ ([(⟨2, 0, 0, 1⟩ : S34)] : List S34)) (wrap64 (p29 + 1)) (Nat.le_refl _) ⟨by omega, H⟩)
    rw [if_neg c32] at H
    refine aw_ifF ?_ (decide_eq_false c32)
    refine aw_exit ?_
    refine ac_then ?_
    refine ac_then ?_
    refine ac_hit rfl ?_
    refine ac_blkN ?_
    refine ac_next ?_
    refine wk_start ?_
    refine kv g0 (add6) ?_
    refine kv g0 (mv) ?_
    refine wk_end ?_
    refine ac_k ?_
    exact acw hE [(0, 0)] 9999 (hK37 k30 q28 (wrap64 (p18 + 1)) (by omega) ⟨by omega, H⟩)
   rw [if_neg c31] at H
   refine kx (hT (decide_eq_false c31)) ?_
   refine kx (hT (decide_eq_false c31)) ?_
   refine kx (hT (decide_eq_false c31)) ?_
   refine kv g0 (pkF (decide_eq_false c31)) ?_
   refine wk_end ?_
   refine ac_next ?_
   refine aw_ifF ?_ rfl
   refine aw_exit ?_
   refine ac_then ?_
   refine ac_then ?_
   refine ac_hit rfl ?_
   refine ac_blkN ?_
   refine ac_next ?_
   refine wk_start ?_
   refine kv g0 (add6) ?_
   refine kv g0 (mv) ?_
   refine wk_end ?_
   refine ac_k ?_
   exact acw hE [(0, 0)] 9999 (hK37 k30 q28 (wrap64 (p18 + 1)) (by omega) ⟨by omega, H⟩)
  rw [if_neg c22] at H
  refine aw_ifT ?_ (eN c22)
  refine aw_grp1 ?_
  refine wk_start ?_
  refine kv g0 (mv) ?_
  refine kv g0 (ldBA 4 [.lit (.int .i64 ((rd_T34 l0 p18).f0)), .lit (.int .i64 ((rd_T34 l0 p18).f1)), .lit (.int .i64 ((rd_T34 l0 p18).f2)), .lit (.int .i64 ((rd_T34 l0 p18).f3))]) ?_
  refine kb g0 (bsl 2 34 4 [.int .i64 0, .int .i64 0, .int .i64 0, .int .i64 0] (([(⟨(rd_T34 l0 p18).f0, (rd_T34 l0 p18).f1, (rd_T34 l0 p18).f2, (rd_T34 l0 p18).f3⟩ : S34)] : List S34).map e34)) ?_
  obtain ⟨c23, H⟩ := of_if H
  refine kc g0 (apR 3 34 4 32 [.int .i64 0, .int .i64 0, .int .i64 0, .int .i64 0] ((q17 ++ ([(⟨(rd_T34 l0 p18).f0, (rd_T34 l0 p18).f1, (rd_T34 l0 p18).f2, (rd_T34 l0 p18).f3⟩ : S34)] : List S34)).map e34) (.row rfl) (apb c23 rfl) appE) ?_
  refine kv g0 (asg) ?_
  refine wk_end ?_
  refine ac_next ?_
  refine aw_exit ?_
  refine ac_then ?_
  refine ac_hit rfl ?_
  refine ac_next ?_
  refine wk_start ?_
  refine kv g0 (add6) ?_
  refine kv g0 (mv) ?_
  refine wk_end ?_
  refine ac_k ?_
  exact acw hE [(0, 3)] 9999 (hK37 k19 (q17 ++ ([(⟨(rd_T34 l0 p18).f0, (rd_T34 l0 p18).f1, (rd_T34 l0 p18).f2, (rd_T34 l0 p18).f3⟩ : S34)] : List S34)) (wrap64 (p18 + 1)) (Nat.le_refl _) ⟨by omega, H⟩)
 rw [if_neg c20] at H
 refine aw_ifF ?_ (decide_eq_false c20)
 refine aw_exit ?_
 refine ac_then ?_
 refine ac_then ?_
 refine ac_hit rfl ?_
 refine ac_next ?_
 refine aw_grp1 ?_
 refine wk_start ?_
 refine kv g0 (mv) ?_
 refine kv g0 (asg) ?_
 refine wk_end ?_
 refine ac_next ?_
 refine aw_ret ?_
 obtain rfl := Option.some.inj H
 exact acr hE [.tmp 2] (.tmp .nil) (.one _) [(0, 0)] 9999
/-! impl_Fits -/
def impl_Fits.l0 : Nat → (List S160) → ((List S34)) → Int → Option (Bool)
 | 0, _, _, _ => none
 | k12 + 1, l1, t1, p11 => if p11 < (t1.length : Int) then if 0 ≤ p11 then if p11 < (l1.length : Int) then if (((rd_T34 t1 p11).f0) == 2) = ((rd_T160 l1 p11).f3) then some false else (if ((rd_T34 t1 p11).f0) = 2 then impl_Fits.l0 k12 l1 t1 (wrap64 (p11 + 1)) else (if ((rd_T34 t1 p11).f1) = ((rd_T160 l1 p11).f1) then if ((rd_T34 t1 p11).f2) = ((rd_T160 l1 p11).f2) then impl_Fits.l0 k12 l1 t1 (wrap64 (p11 + 1)) else some false else some false)) else none else none else some true
def impl_Fits.f (k : Nat) (l0 : List S34) (l1 : List S160) : Option (Bool) := (impl_Spread.f k l0).bind fun t1 => if (t1.length : Int) > (l1.length : Int) then some false else impl_Fits.l0 k l1 t1 0
theorem impl_Fits.ok {k : Nat} {l0 : List S34} {l1 : List S160} {r : Bool} (H : impl_Fits.f k l0 l1 = some r) : ACalls Try.prog 86 [] [.sl .o 4 (l0.map e34), .sl .o 4 (l1.map e160)] [] (.lit (.bool r)) := by
 refine acalls (fn := Try.f86) (nt := 54) Try.func86 rfl rfl (Nat.le_of_ble_eq_true rfl) fun E hE => ?_
 rw [impl_Fits.f] at H
 refine aw_grp1 ?_
 refine wk_start ?_
 refine kv g0 (asg) ?_
 refine wk_end ?_
 refine ac_next ?_
 refine aw_grp1 ?_
 refine wk_start ?_
 refine kv g0 (mv) ?_
 obtain ⟨t1, A2, H⟩ := of_bind H
 refine kcS1 11 (.row 0) [(0, .row 34 4 (t1.map e34))] g0 (cal (impl_Spread.ok A2) [0] 9999 .n (hf := Try.func131)) rfl rfl ?_
 refine kv g0 (asg) ?_
 refine wk_end ?_
 refine ac_next ?_
 refine aw_grp1 ?_
 refine aw_grp1 ?_
 refine wk_start ?_
 refine kv g0 (mv) ?_
 refine kv g0 (lnR lenE) ?_
 refine kv g0 (mv) ?_
 refine kv g0 (lnS lenE) ?_
 refine kv g0 (gtr) ?_
 refine wk_end ?_
 refine ac_next ?_
 by_cases c3 : (t1.length : Int) > (l1.length : Int)
 ·rw [if_pos c3] at H
  refine aw_ifT ?_ (decide_eq_true c3)
  refine aw_grp1 ?_
  refine wk_start ?_
  refine kv g0 (asg) ?_
  refine wk_end ?_
  refine ac_next ?_
  refine aw_ret ?_
  refine ac_thenR ?_
  obtain rfl := Option.some.inj H
  exact acr hE [.tmp 4] (.tmp .nil) (.one _) [] 9999
 rw [if_neg c3] at H
 refine aw_ifF ?_ (decide_eq_false c3)
 refine aw_skip ?_
 refine ac_next ?_
 refine aw_grp1 ?_
 refine aw_grp1 ?_
 refine wk_start ?_
 refine kv g0 (mv) ?_
 refine kv g0 (lnR lenE) ?_
 refine kv g0 (mv) ?_
 refine wk_end ?_
 refine ac_next ?_
 refine aw_block ?_
 refine aw_loop1 (fun (k_ : Nat) (p11 : Int) => k_ ≤ k ∧ impl_Fits.l0 k_ l1 t1 p11 = some r) (fun (p11 : Int) => ⟨[(1, .sl .o 4 (l1.map e160)), (17, .row 0), (18, .lit (.int .i64 (t1.length : Int))), (19, .lit (.int .i64 p11))], [(0, .row 34 4 (t1.map e34))]⟩) k 0 ⟨Nat.le_refl _, H⟩ (fun K_ h_ => acw hE [(0, 0)] 9999 h_) (fun _ => by intro h_; have h_ := h_.2; rw [impl_Fits.l0.eq_1] at h_; cases h_) ?_
 intro k12 p11 hq_ K20 hK21
 have hk12 := hq_.1
 have H := hq_.2
 clear hq_
 rw [impl_Fits.l0.eq_2] at H
 refine aw_grp1 ?_
 refine wk_start ?_
 refine kv g0 (lss) ?_
 refine wk_end ?_
 refine ac_next ?_
 refine aw_grp1 ?_
 by_cases c13 : p11 < (t1.length : Int)
 ·rw [if_pos c13] at H
  refine aw_ifT ?_ (decide_eq_true c13)
  refine aw_skip ?_
  refine ac_next ?_
  refine aw_grp1 ?_
  refine aw_block ?_
  refine aw_grp1 ?_
  refine wk_start ?_
  refine kv g0 (mv) ?_
  obtain ⟨c14, H⟩ := of_if H
  refine kv g0 (ixR 34 c14 (ltE c13)) ?_
  refine kv g0 (ldEA 4 (e34 (rd_T34 t1 p11)) [.lit (.int .i64 ((rd_T34 t1 p11).f0)), .lit (.int .i64 ((rd_T34 t1 p11).f1)), .lit (.int .i64 ((rd_T34 t1 p11).f2)), .lit (.int .i64 ((rd_T34 t1 p11).f3))] (getE (z := z34) c14 c13)) ?_
  refine kb g0 (alc 1 [.int .i64 0, .int .i64 0, .int .i64 0, .int .i64 0] [.lit (.int .i64 0), .lit (.int .i64 0), .lit (.int .i64 0), .lit (.int .i64 0)]) ?_
  refine kv g0 (asg) ?_
  refine ks g0 (stB 4 [.lit (.int .i64 ((rd_T34 t1 p11).f0)), .lit (.int .i64 ((rd_T34 t1 p11).f1)), .lit (.int .i64 ((rd_T34 t1 p11).f2)), .lit (.int .i64 ((rd_T34 t1 p11).f3))]) ?_
  refine wk_end ?_
  refine ac_next ?_
  refine aw_grp1 ?_
  refine wk_start ?_
  refine kv g0 (mv) ?_
  refine kv g0 (mv) ?_
  obtain ⟨c15, H⟩ := of_if H
  refine kv g0 (ixS 160 (e160 (rd_T160 l1 p11)) c14 (getE (z := z160) c14 c15)) ?_
  refine kv g0 (ldRA 4 [.lit (.int .i64 ((rd_T160 l1 p11).f0)), .lit (.int .i64 ((rd_T160 l1 p11).f1)), .lit (.int .i64 ((rd_T160 l1 p11).f2)), .lit (.bool ((rd_T160 l1 p11).f3))]) ?_
  refine kb g0 (alc 2 [.int .i64 0, .int .i64 0, .int .i64 0, .bool false] [.lit (.int .i64 0), .lit (.int .i64 0), .lit (.int .i64 0), .lit (.bool false)]) ?_
  refine ks g0 (stB 4 [.lit (.int .i64 ((rd_T160 l1 p11).f0)), .lit (.int .i64 ((rd_T160 l1 p11).f1)), .lit (.int .i64 ((rd_T160 l1 p11).f2)), .lit (.bool ((rd_T160 l1 p11).f3))]) ?_
  refine wk_end ?_
  refine ac_next ?_
  refine aw_grp1 ?_
  refine wk_start ?_
  refine kv g0 (faB 0 0) ?_
  refine kv g0 (ldB) ?_
  refine kv g0 (eql) ?_
  refine kv g0 (asg) ?_
  refine wk_end ?_
  refine ac_next ?_
  refine aw_grp1 ?_
  refine wk_start ?_
  refine kv g0 (mv) ?_
  refine kv g0 (faB 3 3) ?_
  refine kv g0 (ldB) ?_
  refine kv g0 (beq) ?_
  refine kv g0 (mv) ?_
  by_cases c16 : (((rd_T34 t1 p11).f0) == 2) = ((rd_T160 l1 p11).f3)
  ·rw [if_pos c16] at H
   refine kx (hF (eTb c16)) ?_
   refine kx (hF (eTb c16)) ?_
   refine ku (neT (hF (eTb c16))) ?_
   refine ku neU ?_
   refine ku neU ?_
   refine ku neU ?_
   refine ku neU ?_
   refine ku neU ?_
   refine ku neU ?_
   refine ku neU ?_
   refine ku neU ?_
   refine ku neU ?_
   refine ku neU ?_
   refine ku neU ?_
   refine ku neU ?_
   refine kx (hF (eTb c16)) ?_
   refine kv g0 (pkT (eTb c16)) ?_
   refine wk_end ?_
   refine ac_next ?_
   refine aw_ifT ?_ rfl
   refine aw_grp1 ?_
   refine wk_start ?_
   refine kv g0 (asg) ?_
   refine wk_end ?_
   refine ac_next ?_
   refine aw_ret ?_
   refine ac_blkR ?_
   refine ac_thenR ?_
   refine ac_thenR ?_
   refine ac_blkR ?_
   refine ac_thenR ?_
   obtain rfl := Option.some.inj H
   exact acr hE [.tmp 4] (.tmp .nil) (.one _) [] 9999
  rw [if_neg c16] at H
  refine kv (g1 (eFb c16)) (mv) ?_
  refine kv (g1 (eFb c16)) (not_) ?_
  refine kv (g1 (eFb c16)) (mv) ?_
  by_cases c17 : ((rd_T34 t1 p11).f0) = 2
  ·rw [if_pos c17] at H
   refine kx (hT (nF (eT c17))) ?_
   refine kx (hT (nF (eT c17))) ?_
   refine kx (hT (nF (eT c17))) ?_
   refine kx (hT (nF (eT c17))) ?_
   refine kx (hT (nF (eT c17))) ?_
   refine ku (neT (hT (nF (eT c17)))) ?_
   refine ku neU ?_
   refine ku neU ?_
   refine ku neU ?_
   refine ku neU ?_
   refine ku neU ?_
   refine kx (hT (nF (eT c17))) ?_
   refine kv (g1 (eFb c16)) (pkF (nF (eT c17))) ?_
   refine kv g0 (pkF (eFb c16)) ?_
   refine wk_end ?_
   refine ac_next ?_
   refine aw_ifF ?_ rfl
   refine aw_skip ?_
   refine ac_blkN ?_
   refine ac_next ?_
   refine wk_start ?_
   refine kv g0 (add6) ?_
   refine kv g0 (mv) ?_
   refine wk_end ?_
   refine ac_k ?_
   exact acw hE [(0, 0)] 9999 (hK21 k12 (wrap64 (p11 + 1)) (Nat.le_refl _) ⟨by omega, H⟩)
  rw [if_neg c17] at H
  refine kv (g1 (nT (eF c17))) (faB 1 1) ?_
  refine kv (g1 (nT (eF c17))) (ldB) ?_
  refine kv (g1 (nT (eF c17))) (faB 1 1) ?_
  refine kv (g1 (nT (eF c17))) (ldB) ?_
  refine kv (g1 (nT (eF c17))) (neq) ?_
  refine kv (g1 (nT (eF c17))) (mv) ?_
  by_cases c18 : ((rd_T34 t1 p11).f1) = ((rd_T160 l1 p11).f1)
  ·rw [if_pos c18] at H
   refine kv (g1 (eM c18)) (faB 2 2) ?_
   refine kv (g1 (eM c18)) (ldB) ?_
   refine kv (g1 (eM c18)) (faB 2 2) ?_
   refine kv (g1 (eM c18)) (ldB) ?_
   refine kv (g1 (eM c18)) (neq) ?_
   refine kv (g1 (nT (eF c17))) (pkF (eM c18)) ?_
   refine kv (g1 (eFb c16)) (pkT (nT (eF c17))) ?_
   refine kv g0 (pkF (eFb c16)) ?_
   refine wk_end ?_
   refine ac_next ?_
   by_cases c19 : ((rd_T34 t1 p11).f2) = ((rd_T160 l1 p11).f2)
   ·rw [if_pos c19] at H
    refine aw_ifF ?_ (eM c19)
    refine aw_skip ?_
    refine ac_blkN ?_
    refine ac_next ?_
    refine wk_start ?_
    refine kv g0 (add6) ?_
    refine kv g0 (mv) ?_
    refine wk_end ?_
    refine ac_k ?_
    exact acw hE [(0, 0)] 9999 (hK21 k12 (wrap64 (p11 + 1)) (Nat.le_refl _) ⟨by omega, H⟩)
   rw [if_neg c19] at H
   refine aw_ifT ?_ (eN c19)
   refine aw_grp1 ?_
   refine wk_start ?_
   refine kv g0 (asg) ?_
   refine wk_end ?_
   refine ac_next ?_
   refine aw_ret ?_
   refine ac_blkR ?_
   refine ac_thenR ?_
   refine ac_thenR ?_
   refine ac_blkR ?_
   refine ac_thenR ?_
   obtain rfl := Option.some.inj H
   exact acr hE [.tmp 4] (.tmp .nil) (.one _) [] 9999
  rw [if_neg c18] at H
  refine kx (hF (eN c18)) ?_
  refine kx (hF (eN c18)) ?_
  refine kx (hF (eN c18)) ?_
  refine kx (hF (eN c18)) ?_
  refine kx (hF (eN c18)) ?_
  refine kv (g1 (nT (eF c17))) (pkT (eN c18)) ?_
  refine kv (g1 (eFb c16)) (pkT (nT (eF c17))) ?_
  refine kv g0 (pkF (eFb c16)) ?_
  refine wk_end ?_
  refine ac_next ?_
  refine aw_ifT ?_ rfl
  refine aw_grp1 ?_
  refine wk_start ?_
  refine kv g0 (asg) ?_
  refine wk_end ?_
  refine ac_next ?_
  refine aw_ret ?_
  refine ac_blkR ?_
  refine ac_thenR ?_
  refine ac_thenR ?_
  refine ac_blkR ?_
  refine ac_thenR ?_
  obtain rfl := Option.some.inj H
  exact acr hE [.tmp 4] (.tmp .nil) (.one _) [] 9999
 rw [if_neg c13] at H
 refine aw_ifF ?_ (decide_eq_false c13)
 refine aw_exit ?_
 refine ac_then ?_
 refine ac_then ?_
 refine ac_hit rfl ?_
 refine ac_next ?_
 refine aw_grp1 ?_
 refine wk_start ?_
 refine kv g0 (asg) ?_
 refine wk_end ?_
 refine ac_next ?_
 refine aw_ret ?_
 obtain rfl := Option.some.inj H
 exact acr hE [.tmp 4] (.tmp .nil) (.one _) [] 9999
/-! impl_within -/
def impl_within.f (a0 : Int) (a1 : Int) (a2 : Int) : Option (Bool) := if a0 ≥ a1 then some (decide (a0 ≤ a2)) else some false
theorem impl_within.ok {a0 : Int} {a1 : Int} {a2 : Int} {r : Bool} (H : impl_within.f a0 a1 a2 = some r) : ACalls Try.prog 55 [] [.lit (.int .i64 a0), .lit (.int .i64 a1), .lit (.int .i64 a2)] [] (.lit (.bool r)) := by
 refine acalls (fn := Try.f55) (nt := 15) Try.func55 rfl rfl (Nat.le_of_ble_eq_true rfl) fun E hE => ?_
 rw [impl_within.f] at H
 refine aw_grp1 ?_
 refine wk_start ?_
 refine kv g0 (asg) ?_
 refine wk_end ?_
 refine ac_next ?_
 refine aw_grp1 ?_
 refine wk_start ?_
 refine kv g0 (mv) ?_
 refine kv g0 (mv) ?_
 refine kv g0 (geq) ?_
 refine kv g0 (mv) ?_
 by_cases c1 : a0 ≥ a1
 ·rw [if_pos c1] at H
  refine kv (g1 (decide_eq_true c1)) (mv) ?_
  refine kv (g1 (decide_eq_true c1)) (mv) ?_
  refine kv (g1 (decide_eq_true c1)) (leq) ?_
  refine kv g0 (pkT (decide_eq_true c1)) ?_
  refine kv g0 (asg) ?_
  refine wk_end ?_
  refine ac_next ?_
  refine aw_ret ?_
  obtain rfl := Option.some.inj H
  exact acr hE [.tmp 6] (.tmp .nil) (.one _) [] 9999
 rw [if_neg c1] at H
 refine kx (hT (decide_eq_false c1)) ?_
 refine kx (hT (decide_eq_false c1)) ?_
 refine kx (hT (decide_eq_false c1)) ?_
 refine kv g0 (pkF (decide_eq_false c1)) ?_
 refine kv g0 (asg) ?_
 refine wk_end ?_
 refine ac_next ?_
 refine aw_ret ?_
 obtain rfl := Option.some.inj H
 exact acr hE [.tmp 6] (.tmp .nil) (.one _) [] 9999
/-! impl_isPid -/
def impl_isPid.f (a0 : Int) : Option (Bool) := (impl_within.f a0 0 2).bind fun t1 => some t1
theorem impl_isPid.ok {a0 : Int} {r : Bool} (H : impl_isPid.f a0 = some r) : ACalls Try.prog 56 [] [.lit (.int .i64 a0)] [] (.lit (.bool r)) := by
 refine acalls (fn := Try.f56) (nt := 5) Try.func56 rfl rfl (Nat.le_of_ble_eq_true rfl) fun E hE => ?_
 rw [impl_isPid.f] at H
 refine aw_grp1 ?_
 refine wk_start ?_
 refine kv g0 (asg) ?_
 refine wk_end ?_
 refine ac_next ?_
 refine aw_grp1 ?_
 refine wk_start ?_
 refine kv g0 (mv) ?_
 obtain ⟨t1, A2, H⟩ := of_bind H
 refine kcS0 4 (.lit (.bool t1)) [] g0 (cal (impl_within.ok A2) [] 9999 .n (hf := Try.func55)) rfl rfl ?_
 refine kv g0 (asg) ?_
 refine wk_end ?_
 refine ac_next ?_
 refine aw_ret ?_
 obtain rfl := Option.some.inj H
 exact acr hE [.tmp 2] (.tmp .nil) (.one _) [] 9999
/-! impl_HalfOk -/
def impl_HalfOk.f (a0 : Int) : Option (Bool) := (impl_within.f a0 0 4294967295).bind fun t1 => some t1
theorem impl_HalfOk.ok {a0 : Int} {r : Bool} (H : impl_HalfOk.f a0 = some r) : ACalls Try.prog 113 [] [.lit (.int .i64 a0)] [] (.lit (.bool r)) := by
 refine acalls (fn := Try.f113) (nt := 5) Try.func113 rfl rfl (Nat.le_of_ble_eq_true rfl) fun E hE => ?_
 rw [impl_HalfOk.f] at H
 refine aw_grp1 ?_
 refine wk_start ?_
 refine kv g0 (asg) ?_
 refine wk_end ?_
 refine ac_next ?_
 refine aw_grp1 ?_
 refine wk_start ?_
 refine kv g0 (mv) ?_
 obtain ⟨t1, A2, H⟩ := of_bind H
 refine kcS0 4 (.lit (.bool t1)) [] g0 (cal (impl_within.ok A2) [] 9999 .n (hf := Try.func55)) rfl rfl ?_
 refine kv g0 (asg) ?_
 refine wk_end ?_
 refine ac_next ?_
 refine aw_ret ?_
 obtain rfl := Option.some.inj H
 exact acr hE [.tmp 2] (.tmp .nil) (.one _) [] 9999
/-! impl_ItemOk -/
def impl_ItemOk.f (a0_0 : Int) (a0_1 : Int) (a0_2 : Int) (a0_3 : Int) : Option (Bool) := if a0_0 = 1 then ((impl_HalfOk.f a0_1).bind fun t2 => (if t2 = true then ((impl_HalfOk.f a0_2).bind fun t5 => (if t5 = true then some (a0_3 == 0) else some false)) else some false)) else if a0_0 = 2 then ((impl_within.f a0_3 1 1000000000).bind fun t9 => (if t9 = true then (if a0_1 = 0 then some (a0_2 == 0) else some false) else some false)) else some false
theorem impl_ItemOk.ok {a0_0 : Int} {a0_1 : Int} {a0_2 : Int} {a0_3 : Int} {r : Bool} (H : impl_ItemOk.f a0_0 a0_1 a0_2 a0_3 = some r) : ACalls Try.prog 57 [] [.agg [.lit (.int .i64 a0_0), .lit (.int .i64 a0_1), .lit (.int .i64 a0_2), .lit (.int .i64 a0_3)]] [] (.lit (.bool r)) := by
 refine acalls (fn := Try.f57) (nt := 35) Try.func57 rfl rfl (Nat.le_of_ble_eq_true rfl) fun E hE => ?_
 rw [impl_ItemOk.f] at H
 refine aw_grp1 ?_
 refine wk_start ?_
 refine kb g0 (bxA 0) ?_
 refine kv g0 (asg) ?_
 refine wk_end ?_
 refine ac_next ?_
 refine aw_grp1 ?_
 refine aw_grp1 ?_
 refine wk_start ?_
 refine kv g0 (faB 0 0) ?_
 refine kv g0 (ldB) ?_
 refine wk_end ?_
 refine ac_next ?_
 refine aw_block ?_
 refine aw_grp1 ?_
 refine wk_start ?_
 refine kv g0 (eql) ?_
 refine kv g0 (asg) ?_
 refine wk_end ?_
 refine ac_next ?_
 by_cases c1 : a0_0 = 1
 ·rw [if_pos c1] at H
  refine aw_ifT ?_ (eT c1)
  refine aw_grp1 ?_
  refine wk_start ?_
  refine kv g0 (faB 1 1) ?_
  refine kv g0 (ldB) ?_
  obtain ⟨t2, A3, H⟩ := of_bind H
  refine kcS0 9 (.lit (.bool t2)) [] g0 (cal (impl_HalfOk.ok A3) [] 9999 .n (hf := Try.func113)) rfl rfl ?_
  refine kv g0 (mv) ?_
  by_cases c4 : t2 = true
  ·rw [if_pos c4] at H
   refine kv (g1 c4) (faB 2 2) ?_
   refine kv (g1 c4) (ldB) ?_
   obtain ⟨t5, A6, H⟩ := of_bind H
   refine kcS0 13 (.lit (.bool t5)) [] (g1 c4) (cal (impl_HalfOk.ok A6) [] 9999 .n (hf := Try.func113)) rfl rfl ?_
   refine kv g0 (pkT c4) ?_
   refine kv g0 (mv) ?_
   by_cases c7 : t5 = true
   ·rw [if_pos c7] at H
    refine kv (g1 c7) (faB 3 3) ?_
    refine kv (g1 c7) (ldB) ?_
    refine kv (g1 c7) (eql) ?_
    refine kv g0 (pkT c7) ?_
    refine kv g0 (asg) ?_
    refine wk_end ?_
    refine ac_next ?_
    refine aw_ret ?_
    refine ac_blkR ?_
    refine ac_thenR ?_
    obtain rfl := Option.some.inj H
    exact acr hE [.tmp 2] (.tmp .nil) (.one _) [] 9999
   rw [if_neg c7] at H
   refine kx (hT (bF c7)) ?_
   refine kx (hT (bF c7)) ?_
   refine kx (hT (bF c7)) ?_
   refine kv g0 (pkF (bF c7)) ?_
   refine kv g0 (asg) ?_
   refine wk_end ?_
   refine ac_next ?_
   refine aw_ret ?_
   refine ac_blkR ?_
   refine ac_thenR ?_
   obtain rfl := Option.some.inj H
   exact acr hE [.tmp 2] (.tmp .nil) (.one _) [] 9999
  rw [if_neg c4] at H
  refine kx (hT (bF c4)) ?_
  refine kx (hT (bF c4)) ?_
  refine kx (hT (bF c4)) ?_
  refine kv g0 (pkF (bF c4)) ?_
  refine kv g0 (mv) ?_
  refine kx (hT rfl) ?_
  refine kx (hT rfl) ?_
  refine kx (hT rfl) ?_
  refine kv g0 (pkF rfl) ?_
  refine kv g0 (asg) ?_
  refine wk_end ?_
  refine ac_next ?_
  refine aw_ret ?_
  refine ac_blkR ?_
  refine ac_thenR ?_
  obtain rfl := Option.some.inj H
  exact acr hE [.tmp 2] (.tmp .nil) (.one _) [] 9999
 rw [if_neg c1] at H
 refine aw_ifF ?_ (eF c1)
 refine aw_grp1 ?_
 refine wk_start ?_
 refine kv g0 (eql) ?_
 refine kv g0 (asg) ?_
 refine wk_end ?_
 refine ac_next ?_
 by_cases c8 : a0_0 = 2
 ·rw [if_pos c8] at H
  refine aw_ifT ?_ (eT c8)
  refine aw_grp1 ?_
  refine wk_start ?_
  refine kv g0 (faB 3 3) ?_
  refine kv g0 (ldB) ?_
  obtain ⟨t9, A10, H⟩ := of_bind H
  refine kcS0 24 (.lit (.bool t9)) [] g0 (cal (impl_within.ok A10) [] 9999 .n (hf := Try.func55)) rfl rfl ?_
  refine kv g0 (mv) ?_
  by_cases c11 : t9 = true
  ·rw [if_pos c11] at H
   refine kv (g1 c11) (faB 1 1) ?_
   refine kv (g1 c11) (ldB) ?_
   refine kv (g1 c11) (eql) ?_
   refine kv g0 (pkT c11) ?_
   refine kv g0 (mv) ?_
   by_cases c12 : a0_1 = 0
   ·rw [if_pos c12] at H
    refine kv (g1 (eT c12)) (faB 2 2) ?_
    refine kv (g1 (eT c12)) (ldB) ?_
    refine kv (g1 (eT c12)) (eql) ?_
    refine kv g0 (pkT (eT c12)) ?_
    refine kv g0 (asg) ?_
    refine wk_end ?_
    refine ac_next ?_
    refine aw_ret ?_
    refine ac_blkR ?_
    refine ac_thenR ?_
    obtain rfl := Option.some.inj H
    exact acr hE [.tmp 2] (.tmp .nil) (.one _) [] 9999
   rw [if_neg c12] at H
   refine kx (hT (eF c12)) ?_
   refine kx (hT (eF c12)) ?_
   refine kx (hT (eF c12)) ?_
   refine kv g0 (pkF (eF c12)) ?_
   refine kv g0 (asg) ?_
   refine wk_end ?_
   refine ac_next ?_
   refine aw_ret ?_
   refine ac_blkR ?_
   refine ac_thenR ?_
   obtain rfl := Option.some.inj H
   exact acr hE [.tmp 2] (.tmp .nil) (.one _) [] 9999
  rw [if_neg c11] at H
  refine kx (hT (bF c11)) ?_
  refine kx (hT (bF c11)) ?_
  refine kx (hT (bF c11)) ?_
  refine kv g0 (pkF (bF c11)) ?_
  refine kv g0 (mv) ?_
  refine kx (hT rfl) ?_
  refine kx (hT rfl) ?_
  refine kx (hT rfl) ?_
  refine kv g0 (pkF rfl) ?_
  refine kv g0 (asg) ?_
  refine wk_end ?_
  refine ac_next ?_
  refine aw_ret ?_
  refine ac_blkR ?_
  refine ac_thenR ?_
  obtain rfl := Option.some.inj H
  exact acr hE [.tmp 2] (.tmp .nil) (.one _) [] 9999
 rw [if_neg c8] at H
 refine aw_ifF ?_ (eF c8)
 refine aw_skip ?_
 refine ac_blkN ?_
 refine ac_next ?_
 refine aw_grp1 ?_
 refine wk_start ?_
 refine kv g0 (asg) ?_
 refine wk_end ?_
 refine ac_next ?_
 refine aw_ret ?_
 obtain rfl := Option.some.inj H
 exact acr hE [.tmp 2] (.tmp .nil) (.one _) [] 9999
/-! impl_earlyAt -/
def impl_earlyAt.l0 : Nat → (List S97) → Int → Int → Int → Option (Int)
 | 0, _, _, _, _ => none
 | k6 + 1, l0, a1, a2, p5 => if p5 < (l0.length : Int) then if 0 ≤ p5 then if ((rd_T97 l0 p5).f0) = a1 then if ((rd_T97 l0 p5).f1) = a2 then some p5 else impl_earlyAt.l0 k6 l0 a1 a2 (wrap64 (p5 + 1)) else impl_earlyAt.l0 k6 l0 a1 a2 (wrap64 (p5 + 1)) else none else some (-1)
def impl_earlyAt.f (k : Nat) (l0 : List S97) (a1 : Int) (a2 : Int) : Option (Int) := impl_earlyAt.l0 k l0 a1 a2 0
theorem impl_earlyAt.ok {k : Nat} {l0 : List S97} {a1 : Int} {a2 : Int} {r : Int} (H : impl_earlyAt.f k l0 a1 a2 = some r) : ACalls Try.prog 54 [] [.sl .o 6 (l0.map e97), .lit (.int .i64 a1), .lit (.int .i64 a2)] [] (.lit (.int .i64 r)) := by
 refine acalls (fn := Try.f54) (nt := 28) Try.func54 rfl rfl (Nat.le_of_ble_eq_true rfl) fun E hE => ?_
 rw [impl_earlyAt.f] at H
 refine aw_grp1 ?_
 refine wk_start ?_
 refine kv g0 (asg) ?_
 refine wk_end ?_
 refine ac_next ?_
 refine aw_grp1 ?_
 refine aw_grp1 ?_
 refine wk_start ?_
 refine kv g0 (mv) ?_
 refine kv g0 (lnS lenE) ?_
 refine kv g0 (mv) ?_
 refine wk_end ?_
 refine ac_next ?_
 refine aw_block ?_
 refine aw_loop1 (fun (k_ : Nat) (p5 : Int) => k_ ≤ k ∧ impl_earlyAt.l0 k_ l0 a1 a2 p5 = some r) (fun (p5 : Int) => ⟨[(1, .lit (.int .i64 a1)), (2, .lit (.int .i64 a2)), (9, .sl .o 6 (l0.map e97)), (10, .lit (.int .i64 (l0.length : Int))), (11, .lit (.int .i64 p5))], []⟩) k 0 ⟨Nat.le_refl _, H⟩ (fun K_ h_ => acw hE [] 9999 h_) (fun _ => by intro h_; have h_ := h_.2; rw [impl_earlyAt.l0.eq_1] at h_; cases h_) ?_
 intro k6 p5 hq_ K11 hK12
 have hk6 := hq_.1
 have H := hq_.2
 clear hq_
 rw [impl_earlyAt.l0.eq_2] at H
 refine aw_grp1 ?_
 refine wk_start ?_
 refine kv g0 (lss) ?_
 refine wk_end ?_
 refine ac_next ?_
 refine aw_grp1 ?_
 by_cases c7 : p5 < (l0.length : Int)
 ·rw [if_pos c7] at H
  refine aw_ifT ?_ (decide_eq_true c7)
  refine aw_skip ?_
  refine ac_next ?_
  refine aw_grp1 ?_
  refine aw_block ?_
  refine aw_grp1 ?_
  refine wk_start ?_
  refine kv g0 (mv) ?_
  obtain ⟨c8, H⟩ := of_if H
  refine kv g0 (ixS 97 (e97 (rd_T97 l0 p5)) c8 (getE (z := z97) c8 c7)) ?_
  refine kv g0 (ldRA 6 [.lit (.int .i64 ((rd_T97 l0 p5).f0)), .lit (.int .i64 ((rd_T97 l0 p5).f1)), .lit (.int .i64 ((rd_T97 l0 p5).f2.f0)), .lit (.int .i64 ((rd_T97 l0 p5).f2.f1)), .lit (.int .i64 ((rd_T97 l0 p5).f2.f2)), .lit (.int .i64 ((rd_T97 l0 p5).f2.f3))]) ?_
  refine kb g0 (alc 0 [.int .i64 0, .int .i64 0, .int .i64 0, .int .i64 0, .int .i64 0, .int .i64 0] [.lit (.int .i64 0), .lit (.int .i64 0), .lit (.int .i64 0), .lit (.int .i64 0), .lit (.int .i64 0), .lit (.int .i64 0)]) ?_
  refine kv g0 (asg) ?_
  refine ks g0 (stB 6 [.lit (.int .i64 ((rd_T97 l0 p5).f0)), .lit (.int .i64 ((rd_T97 l0 p5).f1)), .lit (.int .i64 ((rd_T97 l0 p5).f2.f0)), .lit (.int .i64 ((rd_T97 l0 p5).f2.f1)), .lit (.int .i64 ((rd_T97 l0 p5).f2.f2)), .lit (.int .i64 ((rd_T97 l0 p5).f2.f3))]) ?_
  refine wk_end ?_
  refine ac_next ?_
  refine aw_grp1 ?_
  refine wk_start ?_
  refine kv g0 (faB 0 0) ?_
  refine kv g0 (ldB) ?_
  refine kv g0 (mv) ?_
  refine kv g0 (eql) ?_
  refine kv g0 (mv) ?_
  by_cases c9 : ((rd_T97 l0 p5).f0) = a1
  ·rw [if_pos c9] at H
   refine kv (g1 (eT c9)) (faB 1 1) ?_
   refine kv (g1 (eT c9)) (ldB) ?_
   refine kv (g1 (eT c9)) (mv) ?_
   refine kv (g1 (eT c9)) (eql) ?_
   refine kv g0 (pkT (eT c9)) ?_
   refine wk_end ?_
   refine ac_next ?_
   by_cases c10 : ((rd_T97 l0 p5).f1) = a2
   ·rw [if_pos c10] at H
    refine aw_ifT ?_ (eT c10)
    refine aw_grp1 ?_
    refine wk_start ?_
    refine kv g0 (mv) ?_
    refine kv g0 (asg) ?_
    refine wk_end ?_
    refine ac_next ?_
    refine aw_ret ?_
    refine ac_blkR ?_
    refine ac_thenR ?_
    refine ac_thenR ?_
    refine ac_blkR ?_
    refine ac_thenR ?_
    obtain rfl := Option.some.inj H
    exact acr hE [.tmp 6] (.tmp .nil) (.one _) [] 9999
   rw [if_neg c10] at H
   refine aw_ifF ?_ (eF c10)
   refine aw_skip ?_
   refine ac_blkN ?_
   refine ac_next ?_
   refine wk_start ?_
   refine kv g0 (add6) ?_
   refine kv g0 (mv) ?_
   refine wk_end ?_
   refine ac_k ?_
   exact acw hE [] 9999 (hK12 k6 (wrap64 (p5 + 1)) (Nat.le_refl _) ⟨by omega, H⟩)
  rw [if_neg c9] at H
  refine kx (hT (eF c9)) ?_
  refine kx (hT (eF c9)) ?_
  refine kx (hT (eF c9)) ?_
  refine kx (hT (eF c9)) ?_
  refine kv g0 (pkF (eF c9)) ?_
  refine wk_end ?_
  refine ac_next ?_
  refine aw_ifF ?_ rfl
  refine aw_skip ?_
  refine ac_blkN ?_
  refine ac_next ?_
  refine wk_start ?_
  refine kv g0 (add6) ?_
  refine kv g0 (mv) ?_
  refine wk_end ?_
  refine ac_k ?_
  exact acw hE [] 9999 (hK12 k6 (wrap64 (p5 + 1)) (Nat.le_refl _) ⟨by omega, H⟩)
 rw [if_neg c7] at H
 refine aw_ifF ?_ (decide_eq_false c7)
 refine aw_exit ?_
 refine ac_then ?_
 refine ac_then ?_
 refine ac_hit rfl ?_
 refine ac_next ?_
 refine aw_grp1 ?_
 refine wk_start ?_
 refine kv g0 (asg) ?_
 refine wk_end ?_
 refine ac_next ?_
 refine aw_ret ?_
 obtain rfl := Option.some.inj H
 exact acr hE [.tmp 6] (.tmp .nil) (.one _) [] 9999
end Go.Proofs.Ytfeaemlakniijaa.PFnExactLogRight
