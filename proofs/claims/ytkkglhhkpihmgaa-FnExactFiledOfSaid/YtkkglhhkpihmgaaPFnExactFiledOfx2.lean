import Derived.Test.YtkkglhhkpihmgaaPFnExactFiledOfx1
set_option linter.unusedVariables false
set_option linter.unusedSimpArgs false
set_option maxRecDepth 100000
namespace Go.Proofs.Ytkkglhhkpihmgaa.PFnExactFiledOf
open Go Go.RowKit Go.Proofs.YtkkglhhkpihmgaaA
/-! spec_FiledOf -/
def spec_FiledOf.l0 : Nat → (List (List (List S151))) → (List S59) → (List S62) → (List S133) → (List Int) → (List S135) → Int → (List Int) → (List S99) → Int → (List Int) → (List S83) → Int → (List S83) → Int → Option ((List S83))
 | 0, _, _, _, _, _, _, _, _, _, _, _, _, _, _, _ => none
 | k7 + 1, l0_0, l0_1, l0_2, l0_3, l0_4, l0_5, a0_6, l0_7, l0_8, a0_9, l0_10, l0_11, a1, q5, p6 => if p6 < (l0_11.length : Int) then if 0 ≤ p6 then if ((rd_T83 l0_11 p6).f0) = a1 then (if q5.length + ([(⟨(rd_T83 l0_11 p6).f0, (rd_T83 l0_11 p6).f1, (rd_T83 l0_11 p6).f2, (rd_T83 l0_11 p6).f3⟩ : S83)] : List S83).length < 4398046511104 then spec_FiledOf.l0 k7 l0_0 l0_1 l0_2 l0_3 l0_4 l0_5 a0_6 l0_7 l0_8 a0_9 l0_10 l0_11 a1 (q5 ++ ([(⟨(rd_T83 l0_11 p6).f0, (rd_T83 l0_11 p6).f1, (rd_T83 l0_11 p6).f2, (rd_T83 l0_11 p6).f3⟩ : S83)] : List S83)) (wrap64 (p6 + 1)) else none) else spec_FiledOf.l0 k7 l0_0 l0_1 l0_2 l0_3 l0_4 l0_5 a0_6 l0_7 l0_8 a0_9 l0_10 l0_11 a1 q5 (wrap64 (p6 + 1)) else none else some q5
def spec_FiledOf.f (k : Nat) (l0_0 : List (List (List S151))) (l0_1 : List S59) (l0_2 : List S62) (l0_3 : List S133) (l0_4 : List Int) (l0_5 : List S135) (a0_6 : Int) (l0_7 : List Int) (l0_8 : List S99) (a0_9 : Int) (l0_10 : List Int) (l0_11 : List S83) (a1 : Int) : Option ((List S83)) := spec_FiledOf.l0 k l0_0 l0_1 l0_2 l0_3 l0_4 l0_5 a0_6 l0_7 l0_8 a0_9 l0_10 l0_11 a1 ([] : List S83) 0
theorem spec_FiledOf.ok {k : Nat} {l0_0 : List (List (List S151))} {l0_1 : List S59} {l0_2 : List S62} {l0_3 : List S133} {l0_4 : List Int} {l0_5 : List S135} {a0_6 : Int} {l0_7 : List Int} {l0_8 : List S99} {a0_9 : Int} {l0_10 : List Int} {l0_11 : List S83} {a1 : Int} {r : (List S83)} (H : spec_FiledOf.f k l0_0 l0_1 l0_2 l0_3 l0_4 l0_5 a0_6 l0_7 l0_8 a0_9 l0_10 l0_11 a1 = some r) : ACalls Try.prog 11 [] [.agg [.sl .o 1 (l0_0.map (eL 1 (eL 4 (e151)))), .sl .o 4 (l0_1.map e59), .sl .o 5 (l0_2.map e62), .sl .o 6 (l0_3.map e133), .sl .o 1 (l0_4.map (eI .i64)), .sl .o 6 (l0_5.map e135), .lit (.int .i64 a0_6), .sl .o 1 (l0_7.map (eI .i64)), .sl .o 3 (l0_8.map e99), .lit (.int .i64 a0_9), .sl .o 1 (l0_10.map (eI .i64)), .sl .o 4 (l0_11.map e83)], .lit (.int .i64 a1)] [(0, .row 83 4 (r.map e83))] (.row 0) := by
 refine acalls (fn := Try.f11) (nt := 32) Try.func11 rfl rfl (Nat.le_of_ble_eq_true rfl) fun E hE => ?_
 rw [spec_FiledOf.f] at H
 refine aw_grp1 ?_
 refine wk_start ?_
 refine kb g0 (bxA 0) ?_
 refine kv g0 (asg) ?_
 refine wk_end ?_
 refine ac_next ?_
 refine aw_grp1 ?_
 refine wk_start ?_
 refine kb g0 (bsl 1 83 4 [.int .i64 0, .int .i64 0, .int .i64 0, .bool false] (([] : List S83).map e83)) ?_
 refine kv g0 (asg) ?_
 refine wk_end ?_
 refine ac_next ?_
 refine aw_grp1 ?_
 refine aw_grp1 ?_
 refine wk_start ?_
 refine kv g0 (asg) ?_
 refine wk_end ?_
 refine ac_next ?_
 refine aw_block ?_
 refine aw_loop2 (fun (k_ : Nat) (q5 : List S83) (p6 : Int) => k_ ≤ k ∧ spec_FiledOf.l0 k_ l0_0 l0_1 l0_2 l0_3 l0_4 l0_5 a0_6 l0_7 l0_8 a0_9 l0_10 l0_11 a1 q5 p6 = some r) (fun (q5 : List S83) (p6 : Int) => ⟨[(1, .lit (.int .i64 a1)), (2, .box 0 0), (5, .row 1), (6, .lit (.int .i64 p6))], [(0, .box 33 [.sl .o 1 (l0_0.map (eL 1 (eL 4 (e151)))), .sl .o 4 (l0_1.map e59), .sl .o 5 (l0_2.map e62), .sl .o 6 (l0_3.map e133), .sl .o 1 (l0_4.map (eI .i64)), .sl .o 6 (l0_5.map e135), .lit (.int .i64 a0_6), .sl .o 1 (l0_7.map (eI .i64)), .sl .o 3 (l0_8.map e99), .lit (.int .i64 a0_9), .sl .o 1 (l0_10.map (eI .i64)), .sl .o 4 (l0_11.map e83)]), (1, .row 83 4 (q5.map e83))]⟩) k ([] : List S83) 0 ⟨Nat.le_refl _, H⟩ (fun K_ h_ => acw hE [(0, 0), (1, 1)] 9999 h_) (fun _ _ => by intro h_; have h_ := h_.2; rw [spec_FiledOf.l0.eq_1] at h_; cases h_) ?_
 intro k7 q5 p6 hq_ K12 hK13
 have hk7 := hq_.1
 have H := hq_.2
 clear hq_
 rw [spec_FiledOf.l0.eq_2] at H
 refine aw_grp1 ?_
 refine aw_grp1 ?_
 refine wk_start ?_
 refine kv g0 (mv) ?_
 refine kv g0 (faB 11 11) ?_
 refine kv g0 (ldB) ?_
 refine kv g0 (lnS lenE) ?_
 refine kv g0 (lss) ?_
 refine wk_end ?_
 refine ac_next ?_
 by_cases c8 : p6 < (l0_11.length : Int)
 ·rw [if_pos c8] at H
  refine aw_ifT ?_ (decide_eq_true c8)
  refine aw_skip ?_
  refine ac_next ?_
  refine aw_grp1 ?_
  refine aw_block ?_
  refine aw_grp1 ?_
  refine wk_start ?_
  refine kv g0 (faB 11 11) ?_
  refine kv g0 (ldB) ?_
  refine kv g0 (mv) ?_
  obtain ⟨c9, H⟩ := of_if H
  refine kv g0 (ixS 83 (e83 (rd_T83 l0_11 p6)) c9 (getE (z := z83) c9 c8)) ?_
  refine kv g0 (faR 0 0) ?_
  refine kv g0 (ldR (.lit (.int .i64 ((rd_T83 l0_11 p6).f0)))) ?_
  refine kv g0 (mv) ?_
  refine kv g0 (eql) ?_
  refine wk_end ?_
  refine ac_next ?_
  by_cases c10 : ((rd_T83 l0_11 p6).f0) = a1
  ·rw [if_pos c10] at H
   refine aw_ifT ?_ (eT c10)
   refine wk_start ?_
   refine kv g0 (mv) ?_
   refine kv g0 (faB 11 11) ?_
   refine kv g0 (ldB) ?_
   refine kv g0 (mv) ?_
   refine kv g0 (ixS 83 (e83 (rd_T83 l0_11 p6)) c9 (getE (z := z83) c9 c8)) ?_
   refine kv g0 (ldRA 4 [.lit (.int .i64 ((rd_T83 l0_11 p6).f0)), .lit (.int .i64 ((rd_T83 l0_11 p6).f1)), .lit (.int .i64 ((rd_T83 l0_11 p6).f2)), .lit (.bool ((rd_T83 l0_11 p6).f3))]) ?_
   refine kb g0 (bsl 2 83 4 [.int .i64 0, .int .i64 0, .int .i64 0, .bool false] (([(⟨(rd_T83 l0_11 p6).f0, (rd_T83 l0_11 p6).f1, (rd_T83 l0_11 p6).f2, (rd_T83 l0_11 p6).f3⟩ : S83)] : List S83).map e83)) ?_
   obtain ⟨c11, H⟩ := of_if H
   refine kc g0 (apR 3 83 4 32 [.int .i64 0, .int .i64 0, .int .i64 0, .bool false] ((q5 ++ ([(⟨(rd_T83 l0_11 p6).f0, (rd_T83 l0_11 p6).f1, (rd_T83 l0_11 p6).f2, (rd_T83 l0_11 p6).f3⟩ : S83)] : List S83)).map e83) (.row rfl) (apb c11 rfl) appE) ?_
   refine kv g0 (asg) ?_
   refine wk_end ?_
   refine ac_blkN ?_
   refine ac_next ?_
   refine wk_start ?_
   refine kv g0 (mv) ?_
   refine kv g0 (add6) ?_
   refine kv g0 (asg) ?_
   refine wk_end ?_
   refine ac_k ?_
   exact acw hE [(0, 0), (1, 3)] 9999 (hK13 k7 (q5 ++ ([(⟨(rd_T83 l0_11 p6).f0, (rd_T83 l0_11 p6).f1, (rd_T83 l0_11 p6).f2, (rd_T83 l0_11 p6).f3⟩ : S83)] : List S83)) (wrap64 (p6 + 1)) (Nat.le_refl _) ⟨by omega, H⟩)
  rw [if_neg c10] at H
  refine aw_ifF ?_ (eF c10)
  refine aw_skip ?_
  refine ac_blkN ?_
  refine ac_next ?_
  refine wk_start ?_
  refine kv g0 (mv) ?_
  refine kv g0 (add6) ?_
  refine kv g0 (asg) ?_
  refine wk_end ?_
  refine ac_k ?_
  exact acw hE [(0, 0), (1, 1)] 9999 (hK13 k7 q5 (wrap64 (p6 + 1)) (Nat.le_refl _) ⟨by omega, H⟩)
 rw [if_neg c8] at H
 refine aw_ifF ?_ (decide_eq_false c8)
 refine aw_exit ?_
 refine ac_then ?_
 refine ac_then ?_
 refine ac_hit rfl ?_
 refine ac_next ?_
 refine aw_grp1 ?_
 refine wk_start ?_
 refine kv g0 (mv) ?_
 refine kv g0 (asg) ?_
 refine wk_end ?_
 refine ac_next ?_
 refine aw_ret ?_
 obtain rfl := Option.some.inj H
 exact acr hE [.tmp 4] (.tmp .nil) (.one _) [(0, 1)] 9999
/-! impl_FiledOf -/
def impl_FiledOf.l0 : Nat → (List S83) → Int → (List S83) → Int → Option ((List S83))
 | 0, _, _, _, _ => none
 | k7 + 1, l0_11, a1, q5, p6 => if p6 < (l0_11.length : Int) then if 0 ≤ p6 then if ((rd_T83 l0_11 p6).f0) = a1 then (if q5.length + ([(⟨(rd_T83 l0_11 p6).f0, (rd_T83 l0_11 p6).f1, (rd_T83 l0_11 p6).f2, (rd_T83 l0_11 p6).f3⟩ : S83)] : List S83).length < 4398046511104 then impl_FiledOf.l0 k7 l0_11 a1 (q5 ++ ([(⟨(rd_T83 l0_11 p6).f0, (rd_T83 l0_11 p6).f1, (rd_T83 l0_11 p6).f2, (rd_T83 l0_11 p6).f3⟩ : S83)] : List S83)) (wrap64 (p6 + 1)) else none) else impl_FiledOf.l0 k7 l0_11 a1 q5 (wrap64 (p6 + 1)) else none else some q5
def impl_FiledOf.f (k : Nat) (l0_0 : List (List (List S151))) (l0_1 : List S59) (l0_2 : List S62) (l0_3 : List S133) (l0_4 : List Int) (l0_5 : List S135) (a0_6 : Int) (l0_7 : List Int) (l0_8 : List S99) (a0_9 : Int) (l0_10 : List Int) (l0_11 : List S83) (a1 : Int) : Option ((List S83)) := impl_FiledOf.l0 k l0_11 a1 ([] : List S83) 0
theorem impl_FiledOf.ok {k : Nat} {l0_0 : List (List (List S151))} {l0_1 : List S59} {l0_2 : List S62} {l0_3 : List S133} {l0_4 : List Int} {l0_5 : List S135} {a0_6 : Int} {l0_7 : List Int} {l0_8 : List S99} {a0_9 : Int} {l0_10 : List Int} {l0_11 : List S83} {a1 : Int} {r : (List S83)} (H : impl_FiledOf.f k l0_0 l0_1 l0_2 l0_3 l0_4 l0_5 a0_6 l0_7 l0_8 a0_9 l0_10 l0_11 a1 = some r) : ACalls Try.prog 13 [] [.agg [.sl .o 1 (l0_0.map (eL 1 (eL 4 (e151)))), .sl .o 4 (l0_1.map e59), .sl .o 5 (l0_2.map e62), .sl .o 6 (l0_3.map e133), .sl .o 1 (l0_4.map (eI .i64)), .sl .o 6 (l0_5.map e135), .lit (.int .i64 a0_6), .sl .o 1 (l0_7.map (eI .i64)), .sl .o 3 (l0_8.map e99), .lit (.int .i64 a0_9), .sl .o 1 (l0_10.map (eI .i64)), .sl .o 4 (l0_11.map e83)], .lit (.int .i64 a1)] [(0, .row 83 4 (r.map e83))] (.row 0) := by
 refine acalls (fn := Try.f13) (nt := 26) Try.func13 rfl rfl (Nat.le_of_ble_eq_true rfl) fun E hE => ?_
 rw [impl_FiledOf.f] at H
 refine aw_grp1 ?_
 refine wk_start ?_
 refine kb g0 (bxA 0) ?_
 refine kv g0 (asg) ?_
 refine wk_end ?_
 refine ac_next ?_
 refine aw_grp1 ?_
 refine wk_start ?_
 refine kb g0 (bsl 1 83 4 [.int .i64 0, .int .i64 0, .int .i64 0, .bool false] (([] : List S83).map e83)) ?_
 refine kv g0 (asg) ?_
 refine wk_end ?_
 refine ac_next ?_
 refine aw_grp1 ?_
 refine aw_grp1 ?_
 refine wk_start ?_
 refine kv g0 (faB 11 11) ?_
 refine kv g0 (ldB) ?_
 refine kv g0 (lnS lenE) ?_
 refine kv g0 (mv) ?_
 refine wk_end ?_
 refine ac_next ?_
 refine aw_block ?_
 refine aw_loop2 (fun (k_ : Nat) (q5 : List S83) (p6 : Int) => k_ ≤ k ∧ impl_FiledOf.l0 k_ l0_11 a1 q5 p6 = some r) (fun (q5 : List S83) (p6 : Int) => ⟨[(1, .lit (.int .i64 a1)), (5, .row 1), (10, .sl .o 4 (l0_11.map e83)), (11, .lit (.int .i64 (l0_11.length : Int))), (12, .lit (.int .i64 p6))], [(1, .row 83 4 (q5.map e83))]⟩) k ([] : List S83) 0 ⟨Nat.le_refl _, H⟩ (fun K_ h_ => acw hE [(1, 1)] 9999 h_) (fun _ _ => by intro h_; have h_ := h_.2; rw [impl_FiledOf.l0.eq_1] at h_; cases h_) ?_
 intro k7 q5 p6 hq_ K12 hK13
 have hk7 := hq_.1
 have H := hq_.2
 clear hq_
 rw [impl_FiledOf.l0.eq_2] at H
 refine aw_grp1 ?_
 refine wk_start ?_
 refine kv g0 (lss) ?_
 refine wk_end ?_
 refine ac_next ?_
 refine aw_grp1 ?_
 by_cases c8 : p6 < (l0_11.length : Int)
 ·rw [if_pos c8] at H
  refine aw_ifT ?_ (decide_eq_true c8)
  refine aw_skip ?_
  refine ac_next ?_
  refine aw_grp1 ?_
  refine aw_block ?_
  refine aw_grp1 ?_
  refine wk_start ?_
  obtain ⟨c9, H⟩ := of_if H
  refine kv g0 (ixS 83 (e83 (rd_T83 l0_11 p6)) c9 (getE (z := z83) c9 c8)) ?_
  refine kv g0 (ldRA 4 [.lit (.int .i64 ((rd_T83 l0_11 p6).f0)), .lit (.int .i64 ((rd_T83 l0_11 p6).f1)), .lit (.int .i64 ((rd_T83 l0_11 p6).f2)), .lit (.bool ((rd_T83 l0_11 p6).f3))]) ?_
  refine kb g0 (alc 2 [.int .i64 0, .int .i64 0, .int .i64 0, .bool false] [.lit (.int .i64 0), .lit (.int .i64 0), .lit (.int .i64 0), .lit (.bool false)]) ?_
  refine ks g0 (stB 4 [.lit (.int .i64 ((rd_T83 l0_11 p6).f0)), .lit (.int .i64 ((rd_T83 l0_11 p6).f1)), .lit (.int .i64 ((rd_T83 l0_11 p6).f2)), .lit (.bool ((rd_T83 l0_11 p6).f3))]) ?_
  refine wk_end ?_
  refine ac_next ?_
  refine aw_grp1 ?_
  refine wk_start ?_
  refine kv g0 (faB 0 0) ?_
  refine kv g0 (ldB) ?_
  refine kv g0 (mv) ?_
  refine kv g0 (eql) ?_
  refine wk_end ?_
  refine ac_next ?_
  by_cases c10 : ((rd_T83 l0_11 p6).f0) = a1
  ·rw [if_pos c10] at H
   refine aw_ifT ?_ (eT c10)
   refine wk_start ?_
   refine kv g0 (mv) ?_
   refine kv g0 (ldBA 4 [.lit (.int .i64 ((rd_T83 l0_11 p6).f0)), .lit (.int .i64 ((rd_T83 l0_11 p6).f1)), .lit (.int .i64 ((rd_T83 l0_11 p6).f2)), .lit (.bool ((rd_T83 l0_11 p6).f3))]) ?_
   refine kb g0 (bsl 3 83 4 [.int .i64 0, .int .i64 0, .int .i64 0, .bool false] (([(⟨(rd_T83 l0_11 p6).f0, (rd_T83 l0_11 p6).f1, (rd_T83 l0_11 p6).f2, (rd_T83 l0_11 p6).f3⟩ : S83)] : List S83).map e83)) ?_
   obtain ⟨c11, H⟩ := of_if H
   refine kc g0 (apR 4 83 4 32 [.int .i64 0, .int .i64 0, .int .i64 0, .bool false] ((q5 ++ ([(⟨(rd_T83 l0_11 p6).f0, (rd_T83 l0_11 p6).f1, (rd_T83 l0_11 p6).f2, (rd_T83 l0_11 p6).f3⟩ : S83)] : List S83)).map e83) (.row rfl) (apb c11 rfl) appE) ?_
   refine kv g0 (asg) ?_
   refine wk_end ?_
   refine ac_blkN ?_
   refine ac_next ?_
   refine wk_start ?_
   refine kv g0 (add6) ?_
   refine kv g0 (mv) ?_
   refine wk_end ?_
   refine ac_k ?_
   exact acw hE [(1, 4)] 9999 (hK13 k7 (q5 ++ ([(⟨(rd_T83 l0_11 p6).f0, (rd_T83 l0_11 p6).f1, (rd_T83 l0_11 p6).f2, (rd_T83 l0_11 p6).f3⟩ : S83)] : List S83)) (wrap64 (p6 + 1)) (Nat.le_refl _) ⟨by omega, H⟩)
  rw [if_neg c10] at H
  refine aw_ifF ?_ (eF c10)
  refine aw_skip ?_
  refine ac_blkN ?_
  refine ac_next ?_
  refine wk_start ?_
  refine kv g0 (add6) ?_
  refine kv g0 (mv) ?_
  refine wk_end ?_
  refine ac_k ?_
  exact acw hE [(1, 1)] 9999 (hK13 k7 q5 (wrap64 (p6 + 1)) (Nat.le_refl _) ⟨by omega, H⟩)
 rw [if_neg c8] at H
 refine aw_ifF ?_ (decide_eq_false c8)
 refine aw_exit ?_
 refine ac_then ?_
 refine ac_then ?_
 refine ac_hit rfl ?_
 refine ac_next ?_
 refine aw_grp1 ?_
 refine wk_start ?_
 refine kv g0 (mv) ?_
 refine kv g0 (asg) ?_
 refine wk_end ?_
 refine ac_next ?_
 refine aw_ret ?_
 obtain rfl := Option.some.inj H
 exact acr hE [.tmp 4] (.tmp .nil) (.one _) [(0, 1)] 9999
/-! laws_eqSeen -/
def laws_eqSeen.f (a0_0 : Int) (a0_1 : Int) (a0_2 : Int) (a0_3 : Bool) (a1_0 : Int) (a1_1 : Int) (a1_2 : Int) (a1_3 : Bool) : Option (Bool) := if a0_0 = a1_0 then if a0_1 = a1_1 then if a0_2 = a1_2 then if a0_3 = a1_3 then some true else some false else some false else some false else some false
theorem laws_eqSeen.ok {a0_0 : Int} {a0_1 : Int} {a0_2 : Int} {a0_3 : Bool} {a1_0 : Int} {a1_1 : Int} {a1_2 : Int} {a1_3 : Bool} {r : Bool} (H : laws_eqSeen.f a0_0 a0_1 a0_2 a0_3 a1_0 a1_1 a1_2 a1_3 = some r) : ACalls Try.prog 55 [] [.agg [.lit (.int .i64 a0_0), .lit (.int .i64 a0_1), .lit (.int .i64 a0_2), .lit (.bool a0_3)], .agg [.lit (.int .i64 a1_0), .lit (.int .i64 a1_1), .lit (.int .i64 a1_2), .lit (.bool a1_3)]] [] (.lit (.bool r)) := by
 refine acalls (fn := Try.f55) (nt := 25) Try.func55 rfl rfl (Nat.le_of_ble_eq_true rfl) fun E hE => ?_
 rw [laws_eqSeen.f] at H
 refine aw_grp1 ?_
 refine wk_start ?_
 refine kb g0 (bxA 0) ?_
 refine kb g0 (bxA 1) ?_
 refine kv g0 (asg) ?_
 refine wk_end ?_
 refine ac_next ?_
 refine aw_grp1 ?_
 refine aw_grp1 ?_
 refine wk_start ?_
 refine kv g0 (faB 0 0) ?_
 refine kv g0 (ldB) ?_
 refine kv g0 (faB 0 0) ?_
 refine kv g0 (ldB) ?_
 refine kv g0 (neq) ?_
 refine wk_end ?_
 refine ac_next ?_
 by_cases c1 : a0_0 = a1_0
 ·rw [if_pos c1] at H
  refine aw_ifF ?_ (eM c1)
  refine aw_skip ?_
  refine ac_next ?_
  refine aw_grp1 ?_
  refine aw_grp1 ?_
  refine wk_start ?_
  refine kv g0 (faB 1 1) ?_
  refine kv g0 (ldB) ?_
  refine kv g0 (faB 1 1) ?_
  refine kv g0 (ldB) ?_
  refine kv g0 (neq) ?_
  refine wk_end ?_
  refine ac_next ?_
  by_cases c2 : a0_1 = a1_1
  ·rw [if_pos c2] at H
   refine aw_ifF ?_ (eM c2)
   refine aw_skip ?_
   refine ac_next ?_
   refine aw_grp1 ?_
   refine aw_grp1 ?_
   refine wk_start ?_
   refine kv g0 (faB 2 2) ?_
   refine kv g0 (ldB) ?_
   refine kv g0 (faB 2 2) ?_
   refine kv g0 (ldB) ?_
   refine kv g0 (neq) ?_
   refine wk_end ?_
   refine ac_next ?_
   by_cases c3 : a0_2 = a1_2
   ·rw [if_pos c3] at H
    refine aw_ifF ?_ (eM c3)
    refine aw_skip ?_
    refine ac_next ?_
    refine aw_grp1 ?_
    refine aw_grp1 ?_
    refine wk_start ?_
    refine kv g0 (faB 3 3) ?_
    refine kv g0 (ldB) ?_
    refine kv g0 (faB 3 3) ?_
    refine kv g0 (ldB) ?_
    refine kv g0 (bne) ?_
    refine wk_end ?_
    refine ac_next ?_
    by_cases c4 : a0_3 = a1_3
    ·rw [if_pos c4] at H
     refine aw_ifF ?_ (nF (eTb c4))
     refine aw_skip ?_
     refine ac_next ?_
     refine aw_grp1 ?_
     refine wk_start ?_
     refine kv g0 (asg) ?_
     refine wk_end ?_
     refine ac_next ?_
     refine aw_ret ?_
     obtain rfl := Option.some.inj H
     exact acr hE [.tmp 4] (.tmp .nil) (.one _) [] 9999
    rw [if_neg c4] at H
    refine aw_ifT ?_ (nT (eFb c4))
    refine aw_grp1 ?_
    refine wk_start ?_
    refine kv g0 (asg) ?_
    refine wk_end ?_
    refine ac_next ?_
    refine aw_ret ?_
    refine ac_thenR ?_
    obtain rfl := Option.some.inj H
    exact acr hE [.tmp 4] (.tmp .nil) (.one _) [] 9999
   rw [if_neg c3] at H
   refine aw_ifT ?_ (eN c3)
   refine aw_grp1 ?_
   refine wk_start ?_
   refine kv g0 (asg) ?_
   refine wk_end ?_
   refine ac_next ?_
   refine aw_ret ?_
   refine ac_thenR ?_
   obtain rfl := Option.some.inj H
   exact acr hE [.tmp 4] (.tmp .nil) (.one _) [] 9999
  rw [if_neg c2] at H
  refine aw_ifT ?_ (eN c2)
  refine aw_grp1 ?_
  refine wk_start ?_
  refine kv g0 (asg) ?_
  refine wk_end ?_
  refine ac_next ?_
  refine aw_ret ?_
  refine ac_thenR ?_
  obtain rfl := Option.some.inj H
  exact acr hE [.tmp 4] (.tmp .nil) (.one _) [] 9999
 rw [if_neg c1] at H
 refine aw_ifT ?_ (eN c1)
 refine aw_grp1 ?_
 refine wk_start ?_
 refine kv g0 (asg) ?_
 refine wk_end ?_
 refine ac_next ?_
 refine aw_ret ?_
 refine ac_thenR ?_
 obtain rfl := Option.some.inj H
 exact acr hE [.tmp 4] (.tmp .nil) (.one _) [] 9999
/-! laws_eqSeenS -/
def laws_eqSeenS.l0 : Nat → (List S83) → (List S83) → Int → Option (Bool)
 | 0, _, _, _ => none
 | k9 + 1, l0, l1, p8 => if p8 < (l0.length : Int) then if 0 ≤ p8 then (if p8 < (l1.length : Int) then ((laws_eqSeen.f ((rd_T83 l0 p8).f0) ((rd_T83 l0 p8).f1) ((rd_T83 l0 p8).f2) ((rd_T83 l0 p8).f3) ((rd_T83 l1 p8).f0) ((rd_T83 l1 p8).f1) ((rd_T83 l1 p8).f2) ((rd_T83 l1 p8).f3)).bind fun t13 => if t13 = true then laws_eqSeenS.l0 k9 l0 l1 (wrap64 (p8 + 1)) else some false) else none) else none else some true
def laws_eqSeenS.f (k : Nat) (l0 : List S83) (l1 : List S83) : Option (Bool) := if (l0.length : Int) = (l1.length : Int) then laws_eqSeenS.l0 k l0 l1 0 else some false
theorem laws_eqSeenS.ok {k : Nat} {l0 : List S83} {l1 : List S83} {r : Bool} (H : laws_eqSeenS.f k l0 l1 = some r) : ACalls Try.prog 14 [] [.sl .o 4 (l0.map e83), .sl .o 4 (l1.map e83)] [] (.lit (.bool r)) := by
 refine acalls (fn := Try.f14) (nt := 27) Try.func14 rfl rfl (Nat.le_of_ble_eq_true rfl) fun E hE => ?_
 rw [laws_eqSeenS.f] at H
 refine aw_grp1 ?_
 refine wk_start ?_
 refine kv g0 (asg) ?_
 refine wk_end ?_
 refine ac_next ?_
 refine aw_grp1 ?_
 refine aw_grp1 ?_
 refine wk_start ?_
 refine kv g0 (mv) ?_
 refine kv g0 (lnS lenE) ?_
 refine kv g0 (mv) ?_
 refine kv g0 (lnS lenE) ?_
 refine kv g0 (neq) ?_
 refine wk_end ?_
 refine ac_next ?_
 by_cases c1 : (l0.length : Int) = (l1.length : Int)
 ·rw [if_pos c1] at H
  refine aw_ifF ?_ (eM c1)
  refine aw_skip ?_
  refine ac_next ?_
  refine aw_grp1 ?_
  refine aw_grp1 ?_
  refine wk_start ?_
  refine kv g0 (asg) ?_
  refine wk_end ?_
  refine ac_next ?_
  refine aw_block ?_
  refine aw_loop1 (fun (k_ : Nat) (p8 : Int) => k_ ≤ k ∧ laws_eqSeenS.l0 k_ l0 l1 p8 = some r) (fun (p8 : Int) => ⟨[(0, .sl .o 4 (l0.map e83)), (1, .sl .o 4 (l1.map e83)), (5, .lit (.int .i64 p8))], []⟩) k 0 ⟨Nat.le_refl _, H⟩ (fun K_ h_ => acw hE [] 9999 h_) (fun _ => by intro h_; have h_ := h_.2; rw [laws_eqSeenS.l0.eq_1] at h_; cases h_) ?_
  intro k9 p8 hq_ K16 hK17
  have hk9 := hq_.1
  have H := hq_.2
  clear hq_
  rw [laws_eqSeenS.l0.eq_2] at H
  refine aw_grp1 ?_
  refine aw_grp1 ?_
  refine wk_start ?_
  refine kv g0 (mv) ?_
  refine kv g0 (mv) ?_
  refine kv g0 (lnS lenE) ?_
  refine kv g0 (lss) ?_
  refine wk_end ?_
  refine ac_next ?_
  by_cases c10 : p8 < (l0.length : Int)
  ·rw [if_pos c10] at H
   refine aw_ifT ?_ (decide_eq_true c10)
   refine aw_skip ?_
   refine ac_next ?_
   refine aw_grp1 ?_
   refine aw_block ?_
   refine aw_grp1 ?_
   refine wk_start ?_
   refine kv g0 (mv) ?_
   refine kv g0 (mv) ?_
   obtain ⟨c11, H⟩ := of_if H
   refine kv g0 (ixS 83 (e83 (rd_T83 l0 p8)) c11 (getE (z := z83) c11 c10)) ?_
   refine kv g0 (ldRA 4 [.lit (.int .i64 ((rd_T83 l0 p8).f0)), .lit (.int .i64 ((rd_T83 l0 p8).f1)), .lit (.int .i64 ((rd_T83 l0 p8).f2)), .lit (.bool ((rd_T83 l0 p8).f3))]) ?_
   refine kv g0 (mv) ?_
   refine kv g0 (mv) ?_
   obtain ⟨c12, H⟩ := of_if H
   refine kv g0 (ixS 83 (e83 (rd_T83 l1 p8)) c11 (getE (z := z83) c11 c12)) ?_
   refine kv g0 (ldRA 4 [.lit (.int .i64 ((rd_T83 l1 p8).f0)), .lit (.int .i64 ((rd_T83 l1 p8).f1)), .lit (.int .i64 ((rd_T83 l1 p8).f2)), .lit (.bool ((rd_T83 l1 p8).f3))]) ?_
   obtain ⟨t13, A14, H⟩ := of_bind H
   refine kcS0 25 (.lit (.bool t13)) [] g0 (cal (laws_eqSeen.ok A14) [] 9999 .n (hf := Try.func55)) rfl rfl ?_
   refine kv g0 (not_) ?_
   refine wk_end_draw hM (by kernel_rfl) ?_
   refine ac_next ?_
   by_cases c15 : t13 = true
   ·rw [if_pos c15] at H
    refine aw_ifF ?_ (nF c15)
    refine aw_skip ?_
    refine ac_blkN ?_
    refine ac_next ?_
    refine wk_start ?_
    refine kv g0 (mv) ?_
    refine kv g0 (add6) ?_
    refine kv g0 (asg) ?_
    refine wk_end ?_
    refine ac_k ?_
    exact acw hE [] 9999 (hK17 k9 (wrap64 (p8 + 1)) (Nat.le_refl _) ⟨by omega, H⟩)
   rw [if_neg c15] at H
   refine aw_ifT ?_ (nT (bF c15))
   refine aw_grp1 ?_
   refine wk_start ?_
   refine kv g0 (asg) ?_
   refine wk_end ?_
   refine ac_next ?_
   refine aw_ret ?_
   refine ac_blkR ?_
   refine ac_thenR ?_
   refine ac_thenR ?_
   refine ac_blkR ?_
   refine ac_thenR ?_
   obtain rfl := Option.some.inj H
   exact acr hE [.tmp 4] (.tmp .nil) (.one _) [] 9999
  rw [if_neg c10] at H
  refine aw_ifF ?_ (decide_eq_false c10)
  refine aw_exit ?_
  refine ac_then ?_
  refine ac_then ?_
  refine ac_hit rfl ?_
  refine ac_next ?_
  refine aw_grp1 ?_
  refine wk_start ?_
  refine kv g0 (asg) ?_
  refine wk_end ?_
  refine ac_next ?_
  refine aw_ret ?_
  obtain rfl := Option.some.inj H
  exact acr hE [.tmp 4] (.tmp .nil) (.one _) [] 9999
 rw [if_neg c1] at H
 refine aw_ifT ?_ (eN c1)
 refine aw_grp1 ?_
 refine wk_start ?_
 refine kv g0 (asg) ?_
 refine wk_end ?_
 refine ac_next ?_
 refine aw_ret ?_
 refine ac_thenR ?_
 obtain rfl := Option.some.inj H
 exact acr hE [.tmp 4] (.tmp .nil) (.one _) [] 9999
/-! laws_eqIns -/
def laws_eqIns.f (a0_0 : Int) (a0_1 : Int) (a0_2 : Int) (a0_3 : Int) (a1_0 : Int) (a1_1 : Int) (a1_2 : Int) (a1_3 : Int) : Option (Bool) := if a0_0 = a1_0 then if a0_1 = a1_1 then if a0_2 = a1_2 then if a0_3 = a1_3 then some true else some false else some false else some false else some false
theorem laws_eqIns.ok {a0_0 : Int} {a0_1 : Int} {a0_2 : Int} {a0_3 : Int} {a1_0 : Int} {a1_1 : Int} {a1_2 : Int} {a1_3 : Int} {r : Bool} (H : laws_eqIns.f a0_0 a0_1 a0_2 a0_3 a1_0 a1_1 a1_2 a1_3 = some r) : ACalls Try.prog 96 [] [.agg [.lit (.int .i64 a0_0), .lit (.int .i64 a0_1), .lit (.int .i64 a0_2), .lit (.int .i64 a0_3)], .agg [.lit (.int .i64 a1_0), .lit (.int .i64 a1_1), .lit (.int .i64 a1_2), .lit (.int .i64 a1_3)]] [] (.lit (.bool r)) := by
 refine acalls (fn := Try.f96) (nt := 25) Try.func96 rfl rfl (Nat.le_of_ble_eq_true rfl) fun E hE => ?_
 rw [laws_eqIns.f] at H
 refine aw_grp1 ?_
 refine wk_start ?_
 refine kb g0 (bxA 0) ?_
 refine kb g0 (bxA 1) ?_
 refine kv g0 (asg) ?_
 refine wk_end ?_
 refine ac_next ?_
 refine aw_grp1 ?_
 refine aw_grp1 ?_
 refine wk_start ?_
 refine kv g0 (faB 0 0) ?_
 refine kv g0 (ldB) ?_
 refine kv g0 (faB 0 0) ?_
 refine kv g0 (ldB) ?_
 refine kv g0 (neq) ?_
 refine wk_end ?_
 refine ac_next ?_
 by_cases c1 : a0_0 = a1_0
 ·rw [if_pos c1] at H
  refine aw_ifF ?_ (eM c1)
  refine aw_skip ?_
  refine ac_next ?_
  refine aw_grp1 ?_
  refine aw_grp1 ?_
  refine wk_start ?_
  refine kv g0 (faB 1 1) ?_
  refine kv g0 (ldB) ?_
  refine kv g0 (faB 1 1) ?_
  refine kv g0 (ldB) ?_
  refine kv g0 (neq) ?_
  refine wk_end ?_
  refine ac_next ?_
  by_cases c2 : a0_1 = a1_1
  ·rw [if_pos c2] at H
   refine aw_ifF ?_ (eM c2)
   refine aw_skip ?_
   refine ac_next ?_
   refine aw_grp1 ?_
   refine aw_grp1 ?_
   refine wk_start ?_
   refine kv g0 (faB 2 2) ?_
   refine kv g0 (ldB) ?_
   refine kv g0 (faB 2 2) ?_
   refine kv g0 (ldB) ?_
   refine kv g0 (neq) ?_
   refine wk_end ?_
   refine ac_next ?_
   by_cases c3 : a0_2 = a1_2
   ·rw [if_pos c3] at H
    refine aw_ifF ?_ (eM c3)
    refine aw_skip ?_
    refine ac_next ?_
    refine aw_grp1 ?_
    refine aw_grp1 ?_
    refine wk_start ?_
    refine kv g0 (faB 3 3) ?_
    refine kv g0 (ldB) ?_
    refine kv g0 (faB 3 3) ?_
    refine kv g0 (ldB) ?_
    refine kv g0 (neq) ?_
    refine wk_end ?_
    refine ac_next ?_
    by_cases c4 : a0_3 = a1_3
    ·rw [if_pos c4] at H
     refine aw_ifF ?_ (eM c4)
     refine aw_skip ?_
     refine ac_next ?_
     refine aw_grp1 ?_
     refine wk_start ?_
     refine kv g0 (asg) ?_
     refine wk_end ?_
     refine ac_next ?_
     refine aw_ret ?_
     obtain rfl := Option.some.inj H
     exact acr hE [.tmp 4] (.tmp .nil) (.one _) [] 9999
    rw [if_neg c4] at H
    refine aw_ifT ?_ (eN c4)
    refine aw_grp1 ?_
    refine wk_start ?_
    refine kv g0 (asg) ?_
    refine wk_end ?_
    refine ac_next ?_
    refine aw_ret ?_
    refine ac_thenR ?_
    obtain rfl := Option.some.inj H
    exact acr hE [.tmp 4] (.tmp .nil) (.one _) [] 9999
   rw [if_neg c3] at H
   refine aw_ifT ?_ (eN c3)
   refine aw_grp1 ?_
   refine wk_start ?_
   refine kv g0 (asg) ?_
   refine wk_end ?_
   refine ac_next ?_
   refine aw_ret ?_
   refine ac_thenR ?_
   obtain rfl := Option.some.inj H
   exact acr hE [.tmp 4] (.tmp .nil) (.one _) [] 9999
  rw [if_neg c2] at H
  refine aw_ifT ?_ (eN c2)
  refine aw_grp1 ?_
  refine wk_start ?_
  refine kv g0 (asg) ?_
  refine wk_end ?_
  refine ac_next ?_
  refine aw_ret ?_
  refine ac_thenR ?_
  obtain rfl := Option.some.inj H
  exact acr hE [.tmp 4] (.tmp .nil) (.one _) [] 9999
 rw [if_neg c1] at H
 refine aw_ifT ?_ (eN c1)
 refine aw_grp1 ?_
 refine wk_start ?_
 refine kv g0 (asg) ?_
 refine wk_end ?_
 refine ac_next ?_
 refine aw_ret ?_
 refine ac_thenR ?_
 obtain rfl := Option.some.inj H
 exact acr hE [.tmp 4] (.tmp .nil) (.one _) [] 9999
/-! laws_eqInsS -/
def laws_eqInsS.l0 : Nat → (List S151) → (List S151) → Int → Option (Bool)
 | 0, _, _, _ => none
 | k9 + 1, l0, l1, p8 => if p8 < (l0.length : Int) then if 0 ≤ p8 then (if p8 < (l1.length : Int) then ((laws_eqIns.f ((rd_T151 l0 p8).f0) ((rd_T151 l0 p8).f1) ((rd_T151 l0 p8).f2) ((rd_T151 l0 p8).f3) ((rd_T151 l1 p8).f0) ((rd_T151 l1 p8).f1) ((rd_T151 l1 p8).f2) ((rd_T151 l1 p8).f3)).bind fun t13 => if t13 = true then laws_eqInsS.l0 k9 l0 l1 (wrap64 (p8 + 1)) else some false) else none) else none else some true
def laws_eqInsS.f (k : Nat) (l0 : List S151) (l1 : List S151) : Option (Bool) := if (l0.length : Int) = (l1.length : Int) then laws_eqInsS.l0 k l0 l1 0 else some false
theorem laws_eqInsS.ok {k : Nat} {l0 : List S151} {l1 : List S151} {r : Bool} (H : laws_eqInsS.f k l0 l1 = some r) : ACalls Try.prog 84 [] [.sl .o 4 (l0.map e151), .sl .o 4 (l1.map e151)] [] (.lit (.bool r)) := by
 refine acalls (fn := Try.f84) (nt := 27) Try.func84 rfl rfl (Nat.le_of_ble_eq_true rfl) fun E hE => ?_
 rw [laws_eqInsS.f] at H
 refine aw_grp1 ?_
 refine wk_start ?_
 refine kv g0 (asg) ?_
 refine wk_end ?_
 refine ac_next ?_
 refine aw_grp1 ?_
 refine aw_grp1 ?_
 refine wk_start ?_
 refine kv g0 (mv) ?_
 refine kv g0 (lnS lenE) ?_
 refine kv g0 (mv) ?_
 refine kv g0 (lnS lenE) ?_
 refine kv g0 (neq) ?_
 refine wk_end ?_
 refine ac_next ?_
 by_cases c1 : (l0.length : Int) = (l1.length : Int)
 ·rw [if_pos c1] at H
  refine aw_ifF ?_ (eM c1)
  refine aw_skip ?_
  refine ac_next ?_
  refine aw_grp1 ?_
  refine aw_grp1 ?_
  refine wk_start ?_
  refine kv g0 (asg) ?_
  refine wk_end ?_
  refine ac_next ?_
  refine aw_block ?_
  refine aw_loop1 (fun (k_ : Nat) (p8 : Int) => k_ ≤ k ∧ laws_eqInsS.l0 k_ l0 l1 p8 = some r) (fun (p8 : Int) => ⟨[(0, .sl .o 4 (l0.map e151)), (1, .sl .o 4 (l1.map e151)), (5, .lit (.int .i64 p8))], []⟩) k 0 ⟨Nat.le_refl _, H⟩ (fun K_ h_ => acw hE [] 9999 h_) (fun _ => by intro h_; have h_ := h_.2; rw [laws_eqInsS.l0.eq_1] at h_; cases h_) ?_
  intro k9 p8 hq_ K16 hK17
  have hk9 := hq_.1
  have H := hq_.2
  clear hq_
  rw [laws_eqInsS.l0.eq_2] at H
  refine aw_grp1 ?_
  refine aw_grp1 ?_
  refine wk_start ?_
  refine kv g0 (mv) ?_
  refine kv g0 (mv) ?_
  refine kv g0 (lnS lenE) ?_
  refine kv g0 (lss) ?_
  refine wk_end ?_
  refine ac_next ?_
  by_cases c10 : p8 < (l0.length : Int)
  ·rw [if_pos c10] at H
   refine aw_ifT ?_ (decide_eq_true c10)
   refine aw_skip ?_
   refine ac_next ?_
   refine aw_grp1 ?_
   refine aw_block ?_
   refine aw_grp1 ?_
   refine wk_start ?_
   refine kv g0 (mv) ?_
   refine kv g0 (mv) ?_
   obtain ⟨c11, H⟩ := of_if H
   refine kv g0 (ixS 151 (e151 (rd_T151 l0 p8)) c11 (getE (z := z151) c11 c10)) ?_
   refine kv g0 (ldRA 4 [.lit (.int .i64 ((rd_T151 l0 p8).f0)), .lit (.int .i64 ((rd_T151 l0 p8).f1)), .lit (.int .i64 ((rd_T151 l0 p8).f2)), .lit (.int .i64 ((rd_T151 l0 p8).f3))]) ?_
   refine kv g0 (mv) ?_
   refine kv g0 (mv) ?_
   obtain ⟨c12, H⟩ := of_if H
   refine kv g0 (ixS 151 (e151 (rd_T151 l1 p8)) c11 (getE (z := z151) c11 c12)) ?_
   refine kv g0 (ldRA 4 [.lit (.int .i64 ((rd_T151 l1 p8).f0)), .lit (.int .i64 ((rd_T151 l1 p8).f1)), .lit (.int .i64 ((rd_T151 l1 p8).f2)), .lit (.int .i64 ((rd_T151 l1 p8).f3))]) ?_
   obtain ⟨t13, A14, H⟩ := of_bind H
   refine kcS0 25 (.lit (.bool t13)) [] g0 (cal (laws_eqIns.ok A14) [] 9999 .n (hf := Try.func96)) rfl rfl ?_
   refine kv g0 (not_) ?_
   refine wk_end_draw hM (by kernel_rfl) ?_
   refine ac_next ?_
   by_cases c15 : t13 = true
   ·rw [if_pos c15] at H
    refine aw_ifF ?_ (nF c15)
    refine aw_skip ?_
    refine ac_blkN ?_
    refine ac_next ?_
    refine wk_start ?_
    refine kv g0 (mv) ?_
    refine kv g0 (add6) ?_
    refine kv g0 (asg) ?_
    refine wk_end ?_
    refine ac_k ?_
    exact acw hE [] 9999 (hK17 k9 (wrap64 (p8 + 1)) (Nat.le_refl _) ⟨by omega, H⟩)
   rw [if_neg c15] at H
   refine aw_ifT ?_ (nT (bF c15))
   refine aw_grp1 ?_
   refine wk_start ?_
   refine kv g0 (asg) ?_
   refine wk_end ?_
   refine ac_next ?_
   refine aw_ret ?_
   refine ac_blkR ?_
   refine ac_thenR ?_
   refine ac_thenR ?_
   refine ac_blkR ?_
   refine ac_thenR ?_
   obtain rfl := Option.some.inj H
   exact acr hE [.tmp 4] (.tmp .nil) (.one _) [] 9999
  rw [if_neg c10] at H
  refine aw_ifF ?_ (decide_eq_false c10)
  refine aw_exit ?_
  refine ac_then ?_
  refine ac_then ?_
  refine ac_hit rfl ?_
  refine ac_next ?_
  refine aw_grp1 ?_
  refine wk_start ?_
  refine kv g0 (asg) ?_
  refine wk_end ?_
  refine ac_next ?_
  refine aw_ret ?_
  obtain rfl := Option.some.inj H
  exact acr hE [.tmp 4] (.tmp .nil) (.one _) [] 9999
 rw [if_neg c1] at H
 refine aw_ifT ?_ (eN c1)
 refine aw_grp1 ?_
 refine wk_start ?_
 refine kv g0 (asg) ?_
 refine wk_end ?_
 refine ac_next ?_
 refine aw_ret ?_
 refine ac_thenR ?_
 obtain rfl := Option.some.inj H
 exact acr hE [.tmp 4] (.tmp .nil) (.one _) [] 9999
/-! laws_eqInsSS -/
def laws_eqInsSS.l0 : Nat → (List (List S151)) → (List (List S151)) → Int → Option (Bool)
 | 0, _, _, _ => none
 | k9 + 1, l0, l1, p8 => if p8 < (l0.length : Int) then if 0 ≤ p8 then (if p8 < (l1.length : Int) then ((laws_eqInsS.f k9 (rdOf ([] : List S151) l0 p8) (rdOf ([] : List S151) l1 p8)).bind fun t13 => if t13 = true then laws_eqInsSS.l0 k9 l0 l1 (wrap64 (p8 + 1)) else some false) else none) else none else some true
def laws_eqInsSS.f (k : Nat) (l0 : List (List S151)) (l1 : List (List S151)) : Option (Bool) := if (l0.length : Int) = (l1.length : Int) then laws_eqInsSS.l0 k l0 l1 0 else some false
theorem laws_eqInsSS.ok {k : Nat} {l0 : List (List S151)} {l1 : List (List S151)} {r : Bool} (H : laws_eqInsSS.f k l0 l1 = some r) : ACalls Try.prog 56 [] [.sl .o 1 (l0.map (eL 4 (e151))), .sl .o 1 (l1.map (eL 4 (e151)))] [] (.lit (.bool r)) := by
 refine acalls (fn := Try.f56) (nt := 27) Try.func56 rfl rfl (Nat.le_of_ble_eq_true rfl) fun E hE => ?_
 rw [laws_eqInsSS.f] at H
 refine aw_grp1 ?_
 refine wk_start ?_
 refine kv g0 (asg) ?_
 refine wk_end ?_
 refine ac_next ?_
 refine aw_grp1 ?_
 refine aw_grp1 ?_
 refine wk_start ?_
 refine kv g0 (mv) ?_
 refine kv g0 (lnS lenE) ?_
 refine kv g0 (mv) ?_
 refine kv g0 (lnS lenE) ?_
 refine kv g0 (neq) ?_
 refine wk_end ?_
 refine ac_next ?_
 by_cases c1 : (l0.length : Int) = (l1.length : Int)
 ·rw [if_pos c1] at H
  refine aw_ifF ?_ (eM c1)
  refine aw_skip ?_
  refine ac_next ?_
  refine aw_grp1 ?_
  refine aw_grp1 ?_
  refine wk_start ?_
  refine kv g0 (asg) ?_
  refine wk_end ?_
  refine ac_next ?_
  refine aw_block ?_
  refine aw_loop1 (fun (k_ : Nat) (p8 : Int) => k_ ≤ k ∧ laws_eqInsSS.l0 k_ l0 l1 p8 = some r) (fun (p8 : Int) => ⟨[(0, .sl .o 1 (l0.map (eL 4 (e151)))), (1, .sl .o 1 (l1.map (eL 4 (e151)))), (5, .lit (.int .i64 p8))], []⟩) k 0 ⟨Nat.le_refl _, H⟩ (fun K_ h_ => acw hE [] 9999 h_) (fun _ => by intro h_; have h_ := h_.2; rw [laws_eqInsSS.l0.eq_1] at h_; cases h_) ?_
  intro k9 p8 hq_ K16 hK17
  have hk9 := hq_.1
  have H := hq_.2
  clear hq_
  rw [laws_eqInsSS.l0.eq_2] at H
  refine aw_grp1 ?_
  refine aw_grp1 ?_
  refine wk_start ?_
  refine kv g0 (mv) ?_
  refine kv g0 (mv) ?_
  refine kv g0 (lnS lenE) ?_
  refine kv g0 (lss) ?_
  refine wk_end ?_
  refine ac_next ?_
  by_cases c10 : p8 < (l0.length : Int)
  ·rw [if_pos c10] at H
   refine aw_ifT ?_ (decide_eq_true c10)
   refine aw_skip ?_
   refine ac_next ?_
   refine aw_grp1 ?_
   refine aw_block ?_
   refine aw_grp1 ?_
   refine wk_start ?_
   refine kv g0 (mv) ?_
   refine kv g0 (mv) ?_
   obtain ⟨c11, H⟩ := of_if H
   refine kv g0 (ixS 127 (eL 4 (e151) (rdOf ([] : List S151) l0 p8)) c11 (getE (z := ([] : List S151)) c11 c10)) ?_
   refine kv g0 (ldR (.sl .o 4 ((rdOf ([] : List S151) l0 p8).map e151))) ?_
   refine kv g0 (mv) ?_
   refine kv g0 (mv) ?_
   obtain ⟨c12, H⟩ := of_if H
   refine kv g0 (ixS 127 (eL 4 (e151) (rdOf ([] : List S151) l1 p8)) c11 (getE (z := ([] : List S151)) c11 c12)) ?_
   refine kv g0 (ldR (.sl .o 4 ((rdOf ([] : List S151) l1 p8).map e151))) ?_
   obtain ⟨t13, A14, H⟩ := of_bind H
   refine kcS0 25 (.lit (.bool t13)) [] g0 (cal (laws_eqInsS.ok A14) [] 9999 .n (hf := Try.func84)) rfl rfl ?_
   refine kv g0 (not_) ?_
   refine wk_end_draw hM (by kernel_rfl) ?_
   refine ac_next ?_
   by_cases c15 : t13 = true
   ·rw [if_pos c15] at H
    refine aw_ifF ?_ (nF c15)
    refine aw_skip ?_
    refine ac_blkN ?_
    refine ac_next ?_
    refine wk_start ?_
    refine kv g0 (mv) ?_
    refine kv g0 (add6) ?_
    refine kv g0 (asg) ?_
    refine wk_end ?_
    refine ac_k ?_
    exact acw hE [] 9999 (hK17 k9 (wrap64 (p8 + 1)) (Nat.le_refl _) ⟨by omega, H⟩)
   rw [if_neg c15] at H
   refine aw_ifT ?_ (nT (bF c15))
   refine aw_grp1 ?_
   refine wk_start ?_
   refine kv g0 (asg) ?_
   refine wk_end ?_
   refine ac_next ?_
   refine aw_ret ?_
   refine ac_blkR ?_
   refine ac_thenR ?_
   refine ac_thenR ?_
   refine ac_blkR ?_
   refine ac_thenR ?_
   obtain rfl := Option.some.inj H
   exact acr hE [.tmp 4] (.tmp .nil) (.one _) [] 9999
  rw [if_neg c10] at H
  refine aw_ifF ?_ (decide_eq_false c10)
  refine aw_exit ?_
  refine ac_then ?_
  refine ac_then ?_
  refine ac_hit rfl ?_
  refine ac_next ?_
  refine aw_grp1 ?_
  refine wk_start ?_
  refine kv g0 (asg) ?_
  refine wk_end ?_
  refine ac_next ?_
  refine aw_ret ?_
  obtain rfl := Option.some.inj H
  exact acr hE [.tmp 4] (.tmp .nil) (.one _) [] 9999
 rw [if_neg c1] at H
 refine aw_ifT ?_ (eN c1)
 refine aw_grp1 ?_
 refine wk_start ?_
 refine kv g0 (asg) ?_
 refine wk_end ?_
 refine ac_next ?_
 refine aw_ret ?_
 refine ac_thenR ?_
 obtain rfl := Option.some.inj H
 exact acr hE [.tmp 4] (.tmp .nil) (.one _) [] 9999
/-! laws_eqInsSSS -/
def laws_eqInsSSS.l0 : Nat → (List (List (List S151))) → (List (List (List S151))) → Int → Option (Bool)
 | 0, _, _, _ => none
 | k9 + 1, l0, l1, p8 => if p8 < (l0.length : Int) then if 0 ≤ p8 then (if p8 < (l1.length : Int) then ((laws_eqInsSS.f k9 (rdOf ([] : List (List S151)) l0 p8) (rdOf ([] : List (List S151)) l1 p8)).bind fun t13 => if t13 = true then laws_eqInsSSS.l0 k9 l0 l1 (wrap64 (p8 + 1)) else some false) else none) else none else some true
def laws_eqInsSSS.f (k : Nat) (l0 : List (List (List S151))) (l1 : List (List (List S151))) : Option (Bool) := if (l0.length : Int) = (l1.length : Int) then laws_eqInsSSS.l0 k l0 l1 0 else some false
theorem laws_eqInsSSS.ok {k : Nat} {l0 : List (List (List S151))} {l1 : List (List (List S151))} {r : Bool} (H : laws_eqInsSSS.f k l0 l1 = some r) : ACalls Try.prog 23 [] [.sl .o 1 (l0.map (eL 1 (eL 4 (e151)))), .sl .o 1 (l1.map (eL 1 (eL 4 (e151))))] [] (.lit (.bool r)) := by
 refine acalls (fn := Try.f23) (nt := 27) Try.func23 rfl rfl (Nat.le_of_ble_eq_true rfl) fun E hE => ?_
 rw [laws_eqInsSSS.f] at H
 refine aw_grp1 ?_
 refine wk_start ?_
 refine kv g0 (asg) ?_
 refine wk_end ?_
 refine ac_next ?_
 refine aw_grp1 ?_
 refine aw_grp1 ?_
 refine wk_start ?_
 refine kv g0 (mv) ?_
 refine kv g0 (lnS lenE) ?_
 refine kv g0 (mv) ?_
 refine kv g0 (lnS lenE) ?_
 refine kv g0 (neq) ?_
 refine wk_end ?_
 refine ac_next ?_
 by_cases c1 : (l0.length : Int) = (l1.length : Int)
 ·rw [if_pos c1] at H
  refine aw_ifF ?_ (eM c1)
  refine aw_skip ?_
  refine ac_next ?_
  refine aw_grp1 ?_
  refine aw_grp1 ?_
  refine wk_start ?_
  refine kv g0 (asg) ?_
  refine wk_end ?_
  refine ac_next ?_
  refine aw_block ?_
  refine aw_loop1 (fun (k_ : Nat) (p8 : Int) => k_ ≤ k ∧ laws_eqInsSSS.l0 k_ l0 l1 p8 = some r) (fun (p8 : Int) => ⟨[(0, .sl .o 1 (l0.map (eL 1 (eL 4 (e151))))), (1, .sl .o 1 (l1.map (eL 1 (eL 4 (e151))))), (5, .lit (.int .i64 p8))], []⟩) k 0 ⟨Nat.le_refl _, H⟩ (fun K_ h_ => acw hE [] 9999 h_) (fun _ => by intro h_; have h_ := h_.2; rw [laws_eqInsSSS.l0.eq_1] at h_; cases h_) ?_
  intro k9 p8 hq_ K16 hK17
  have hk9 := hq_.1
  have H := hq_.2
  clear hq_
  rw [laws_eqInsSSS.l0.eq_2] at H
  refine aw_grp1 ?_
  refine aw_grp1 ?_
  refine wk_start ?_
  refine kv g0 (mv) ?_
  refine kv g0 (mv) ?_
  refine kv g0 (lnS lenE) ?_
  refine kv g0 (lss) ?_
  refine wk_end ?_
  refine ac_next ?_
  by_cases c10 : p8 < (l0.length : Int)
  ·rw [if_pos c10] at H
   refine aw_ifT ?_ (decide_eq_true c10)
   refine aw_skip ?_
   refine ac_next ?_
   refine aw_grp1 ?_
   refine aw_block ?_
   refine aw_grp1 ?_
   refine wk_start ?_
   refine kv g0 (mv) ?_
   refine kv g0 (mv) ?_
   obtain ⟨c11, H⟩ := of_if H
   refine kv g0 (ixS 56 (eL 1 (eL 4 (e151)) (rdOf ([] : List (List S151)) l0 p8)) c11 (getE (z := ([] : List (List S151))) c11 c10)) ?_
   refine kv g0 (ldR (.sl .o 1 ((rdOf ([] : List (List S151)) l0 p8).map (eL 4 (e151))))) ?_
   refine kv g0 (mv) ?_
   refine kv g0 (mv) ?_
   obtain ⟨c12, H⟩ := of_if H
   refine kv g0 (ixS 56 (eL 1 (eL 4 (e151)) (rdOf ([] : List (List S151)) l1 p8)) c11 (getE (z := ([] : List (List S151))) c11 c12)) ?_
   refine kv g0 (ldR (.sl .o 1 ((rdOf ([] : List (List S151)) l1 p8).map (eL 4 (e151))))) ?_
   obtain ⟨t13, A14, H⟩ := of_bind H
   refine kcS0 25 (.lit (.bool t13)) [] g0 (cal (laws_eqInsSS.ok A14) [] 9999 .n (hf := Try.func56)) rfl rfl ?_
   refine kv g0 (not_) ?_
   refine wk_end_draw hM (by kernel_rfl) ?_
   refine ac_next ?_
   by_cases c15 : t13 = true
   ·rw [if_pos c15] at H
    refine aw_ifF ?_ (nF c15)
    refine aw_skip ?_
    refine ac_blkN ?_
    refine ac_next ?_
    refine wk_start ?_
    refine kv g0 (mv) ?_
    refine kv g0 (add6) ?_
    refine kv g0 (asg) ?_
    refine wk_end ?_
    refine ac_k ?_
    exact acw hE [] 9999 (hK17 k9 (wrap64 (p8 + 1)) (Nat.le_refl _) ⟨by omega, H⟩)
   rw [if_neg c15] at H
   refine aw_ifT ?_ (nT (bF c15))
   refine aw_grp1 ?_
   refine wk_start ?_
   refine kv g0 (asg) ?_
   refine wk_end ?_
   refine ac_next ?_
   refine aw_ret ?_
   refine ac_blkR ?_
   refine ac_thenR ?_
   refine ac_thenR ?_
   refine ac_blkR ?_
   refine ac_thenR ?_
   obtain rfl := Option.some.inj H
   exact acr hE [.tmp 4] (.tmp .nil) (.one _) [] 9999
  rw [if_neg c10] at H
  refine aw_ifF ?_ (decide_eq_false c10)
  refine aw_exit ?_
  refine ac_then ?_
  refine ac_then ?_
  refine ac_hit rfl ?_
  refine ac_next ?_
  refine aw_grp1 ?_
  refine wk_start ?_
  refine kv g0 (asg) ?_
  refine wk_end ?_
  refine ac_next ?_
  refine aw_ret ?_
  obtain rfl := Option.some.inj H
  exact acr hE [.tmp 4] (.tmp .nil) (.one _) [] 9999
 rw [if_neg c1] at H
 refine aw_ifT ?_ (eN c1)
 refine aw_grp1 ?_
 refine wk_start ?_
 refine kv g0 (asg) ?_
 refine wk_end ?_
 refine ac_next ?_
 refine aw_ret ?_
 refine ac_thenR ?_
 obtain rfl := Option.some.inj H
 exact acr hE [.tmp 4] (.tmp .nil) (.one _) [] 9999
/-! laws_eqItem -/
def laws_eqItem.f (a0_0 : Int) (a0_1 : Int) (a0_2 : Int) (a0_3 : Int) (a1_0 : Int) (a1_1 : Int) (a1_2 : Int) (a1_3 : Int) : Option (Bool) := if a0_0 = a1_0 then if a0_1 = a1_1 then if a0_2 = a1_2 then if a0_3 = a1_3 then some true else some false else some false else some false else some false
theorem laws_eqItem.ok {a0_0 : Int} {a0_1 : Int} {a0_2 : Int} {a0_3 : Int} {a1_0 : Int} {a1_1 : Int} {a1_2 : Int} {a1_3 : Int} {r : Bool} (H : laws_eqItem.f a0_0 a0_1 a0_2 a0_3 a1_0 a1_1 a1_2 a1_3 = some r) : ACalls Try.prog 97 [] [.agg [.lit (.int .i64 a0_0), .lit (.int .i64 a0_1), .lit (.int .i64 a0_2), .lit (.int .i64 a0_3)], .agg [.lit (.int .i64 a1_0), .lit (.int .i64 a1_1), .lit (.int .i64 a1_2), .lit (.int .i64 a1_3)]] [] (.lit (.bool r)) := by
 refine acalls (fn := Try.f97) (nt := 25) Try.func97 rfl rfl (Nat.le_of_ble_eq_true rfl) fun E hE => ?_
 rw [laws_eqItem.f] at H
 refine aw_grp1 ?_
 refine wk_start ?_
 refine kb g0 (bxA 0) ?_
 refine kb g0 (bxA 1) ?_
 refine kv g0 (asg) ?_
 refine wk_end ?_
 refine ac_next ?_
 refine aw_grp1 ?_
 refine aw_grp1 ?_
 refine wk_start ?_
 refine kv g0 (faB 0 0) ?_
 refine kv g0 (ldB) ?_
 refine kv g0 (faB 0 0) ?_
 refine kv g0 (ldB) ?_
 refine kv g0 (neq) ?_
 refine wk_end ?_
 refine ac_next ?_
 by_cases c1 : a0_0 = a1_0
 ·rw [if_pos c1] at H
  refine aw_ifF ?_ (eM c1)
  refine aw_skip ?_
  refine ac_next ?_
  refine aw_grp1 ?_
  refine aw_grp1 ?_
  refine wk_start ?_
  refine kv g0 (faB 1 1) ?_
  refine kv g0 (ldB) ?_
  refine kv g0 (faB 1 1) ?_
  refine kv g0 (ldB) ?_
  refine kv g0 (neq) ?_
  refine wk_end ?_
  refine ac_next ?_
  by_cases c2 : a0_1 = a1_1
  ·rw [if_pos c2] at H
   refine aw_ifF ?_ (eM c2)
   refine aw_skip ?_
   refine ac_next ?_
   refine aw_grp1 ?_
   refine aw_grp1 ?_
   refine wk_start ?_
   refine kv g0 (faB 2 2) ?_
   refine kv g0 (ldB) ?_
   refine kv g0 (faB 2 2) ?_
   refine kv g0 (ldB) ?_
   refine kv g0 (neq) ?_
   refine wk_end ?_
   refine ac_next ?_
   by_cases c3 : a0_2 = a1_2
   ·rw [if_pos c3] at H
    refine aw_ifF ?_ (eM c3)
    refine aw_skip ?_
    refine ac_next ?_
    refine aw_grp1 ?_
    refine aw_grp1 ?_
    refine wk_start ?_
    refine kv g0 (faB 3 3) ?_
    refine kv g0 (ldB) ?_
    refine kv g0 (faB 3 3) ?_
    refine kv g0 (ldB) ?_
    refine kv g0 (neq) ?_
    refine wk_end ?_
    refine ac_next ?_
    by_cases c4 : a0_3 = a1_3
    ·rw [if_pos c4] at H
     refine aw_ifF ?_ (eM c4)
     refine aw_skip ?_
     refine ac_next ?_
     refine aw_grp1 ?_
     refine wk_start ?_
     refine kv g0 (asg) ?_
     refine wk_end ?_
     refine ac_next ?_
     refine aw_ret ?_
     obtain rfl := Option.some.inj H
     exact acr hE [.tmp 4] (.tmp .nil) (.one _) [] 9999
    rw [if_neg c4] at H
    refine aw_ifT ?_ (eN c4)
    refine aw_grp1 ?_
    refine wk_start ?_
    refine kv g0 (asg) ?_
    refine wk_end ?_
    refine ac_next ?_
    refine aw_ret ?_
    refine ac_thenR ?_
    obtain rfl := Option.some.inj H
    exact acr hE [.tmp 4] (.tmp .nil) (.one _) [] 9999
   rw [if_neg c3] at H
   refine aw_ifT ?_ (eN c3)
   refine aw_grp1 ?_
   refine wk_start ?_
   refine kv g0 (asg) ?_
   refine wk_end ?_
   refine ac_next ?_
   refine aw_ret ?_
   refine ac_thenR ?_
   obtain rfl := Option.some.inj H
   exact acr hE [.tmp 4] (.tmp .nil) (.one _) [] 9999
  rw [if_neg c2] at H
  refine aw_ifT ?_ (eN c2)
  refine aw_grp1 ?_
  refine wk_start ?_
  refine kv g0 (asg) ?_
  refine wk_end ?_
  refine ac_next ?_
  refine aw_ret ?_
  refine ac_thenR ?_
  obtain rfl := Option.some.inj H
  exact acr hE [.tmp 4] (.tmp .nil) (.one _) [] 9999
 rw [if_neg c1] at H
 refine aw_ifT ?_ (eN c1)
 refine aw_grp1 ?_
 refine wk_start ?_
 refine kv g0 (asg) ?_
 refine wk_end ?_
 refine ac_next ?_
 refine aw_ret ?_
 refine ac_thenR ?_
 obtain rfl := Option.some.inj H
 exact acr hE [.tmp 4] (.tmp .nil) (.one _) [] 9999
/-! laws_eqItemS -/
def laws_eqItemS.l0 : Nat → (List S131) → (List S131) → Int → Option (Bool)
 | 0, _, _, _ => none
 | k9 + 1, l0, l1, p8 => if p8 < (l0.length : Int) then if 0 ≤ p8 then (if p8 < (l1.length : Int) then ((laws_eqItem.f ((rd_T131 l0 p8).f0) ((rd_T131 l0 p8).f1) ((rd_T131 l0 p8).f2) ((rd_T131 l0 p8).f3) ((rd_T131 l1 p8).f0) ((rd_T131 l1 p8).f1) ((rd_T131 l1 p8).f2) ((rd_T131 l1 p8).f3)).bind fun t13 => if t13 = true then laws_eqItemS.l0 k9 l0 l1 (wrap64 (p8 + 1)) else some false) else none) else none else some true
def laws_eqItemS.f (k : Nat) (l0 : List S131) (l1 : List S131) : Option (Bool) := if (l0.length : Int) = (l1.length : Int) then laws_eqItemS.l0 k l0 l1 0 else some false
theorem laws_eqItemS.ok {k : Nat} {l0 : List S131} {l1 : List S131} {r : Bool} (H : laws_eqItemS.f k l0 l1 = some r) : ACalls Try.prog 85 [] [.sl .o 4 (l0.map e131), .sl .o 4 (l1.map e131)] [] (.lit (.bool r)) := by
 refine acalls (fn := Try.f85) (nt := 27) Try.func85 rfl rfl (Nat.le_of_ble_eq_true rfl) fun E hE => ?_
 rw [laws_eqItemS.f] at H
 refine aw_grp1 ?_
 refine wk_start ?_
 refine kv g0 (asg) ?_
 refine wk_end ?_
 refine ac_next ?_
 refine aw_grp1 ?_
 refine aw_grp1 ?_
 refine wk_start ?_
 refine kv g0 (mv) ?_
 refine kv g0 (lnS lenE) ?_
 refine kv g0 (mv) ?_
 refine kv g0 (lnS lenE) ?_
 refine kv g0 (neq) ?_
 refine wk_end ?_
 refine ac_next ?_
 by_cases c1 : (l0.length : Int) = (l1.length : Int)
 ·rw [if_pos c1] at H
  refine aw_ifF ?_ (eM c1)
  refine aw_skip ?_
  refine ac_next ?_
  refine aw_grp1 ?_
  refine aw_grp1 ?_
  refine wk_start ?_
  refine kv g0 (asg) ?_
  refine wk_end ?_
  refine ac_next ?_
  refine aw_block ?_
  refine aw_loop1 (fun (k_ : Nat) (p8 : Int) => k_ ≤ k ∧ laws_eqItemS.l0 k_ l0 l1 p8 = some r) (fun (p8 : Int) => ⟨[(0, .sl .o 4 (l0.map e131)), (1, .sl .o 4 (l1.map e131)), (5, .lit (.int .i64 p8))], []⟩) k 0 ⟨Nat.le_refl _, H⟩ (fun K_ h_ => acw hE [] 9999 h_) (fun _ => by intro h_; have h_ := h_.2; rw [laws_eqItemS.l0.eq_1] at h_; cases h_) ?_
  intro k9 p8 hq_ K16 hK17
  have hk9 := hq_.1
  have H := hq_.2
  clear hq_
  rw [laws_eqItemS.l0.eq_2] at H
  refine aw_grp1 ?_
  refine aw_grp1 ?_
  refine wk_start ?_
  refine kv g0 (mv) ?_
  refine kv g0 (mv) ?_
  refine kv g0 (lnS lenE) ?_
  refine kv g0 (lss) ?_
  refine wk_end ?_
  refine ac_next ?_
  by_cases c10 : p8 < (l0.length : Int)
  ·rw [if_pos c10] at H
   refine aw_ifT ?_ (decide_eq_true c10)
   refine aw_skip ?_
   refine ac_next ?_
   refine aw_grp1 ?_
   refine aw_block ?_
   refine aw_grp1 ?_
   refine wk_start ?_
   refine kv g0 (mv) ?_
   refine kv g0 (mv) ?_
   obtain ⟨c11, H⟩ := of_if H
   refine kv g0 (ixS 131 (e131 (rd_T131 l0 p8)) c11 (getE (z := z131) c11 c10)) ?_
   refine kv g0 (ldRA 4 [.lit (.int .i64 ((rd_T131 l0 p8).f0)), .lit (.int .i64 ((rd_T131 l0 p8).f1)), .lit (.int .i64 ((rd_T131 l0 p8).f2)), .lit (.int .i64 ((rd_T131 l0 p8).f3))]) ?_
   refine kv g0 (mv) ?_
   refine kv g0 (mv) ?_
   obtain ⟨c12, H⟩ := of_if H
   refine kv g0 (ixS 131 (e131 (rd_T131 l1 p8)) c11 (getE (z := z131) c11 c12)) ?_
   refine kv g0 (ldRA 4 [.lit (.int .i64 ((rd_T131 l1 p8).f0)), .lit (.int .i64 ((rd_T131 l1 p8).f1)), .lit (.int .i64 ((rd_T131 l1 p8).f2)), .lit (.int .i64 ((rd_T131 l1 p8).f3))]) ?_
   obtain ⟨t13, A14, H⟩ := of_bind H
   refine kcS0 25 (.lit (.bool t13)) [] g0 (cal (laws_eqItem.ok A14) [] 9999 .n (hf := Try.func97)) rfl rfl ?_
   refine kv g0 (not_) ?_
   refine wk_end_draw hM (by kernel_rfl) ?_
   refine ac_next ?_
   by_cases c15 : t13 = true
   ·rw [if_pos c15] at H
    refine aw_ifF ?_ (nF c15)
    refine aw_skip ?_
    refine ac_blkN ?_
    refine ac_next ?_
    refine wk_start ?_
    refine kv g0 (mv) ?_
    refine kv g0 (add6) ?_
    refine kv g0 (asg) ?_
    refine wk_end ?_
    refine ac_k ?_
    exact acw hE [] 9999 (hK17 k9 (wrap64 (p8 + 1)) (Nat.le_refl _) ⟨by omega, H⟩)
   rw [if_neg c15] at H
   refine aw_ifT ?_ (nT (bF c15))
   refine aw_grp1 ?_
   refine wk_start ?_
   refine kv g0 (asg) ?_
   refine wk_end ?_
   refine ac_next ?_
   refine aw_ret ?_
   refine ac_blkR ?_
   refine ac_thenR ?_
   refine ac_thenR ?_
   refine ac_blkR ?_
   refine ac_thenR ?_
   obtain rfl := Option.some.inj H
   exact acr hE [.tmp 4] (.tmp .nil) (.one _) [] 9999
  rw [if_neg c10] at H
  refine aw_ifF ?_ (decide_eq_false c10)
  refine aw_exit ?_
  refine ac_then ?_
  refine ac_then ?_
  refine ac_hit rfl ?_
  refine ac_next ?_
  refine aw_grp1 ?_
  refine wk_start ?_
  refine kv g0 (asg) ?_
  refine wk_end ?_
  refine ac_next ?_
  refine aw_ret ?_
  obtain rfl := Option.some.inj H
  exact acr hE [.tmp 4] (.tmp .nil) (.one _) [] 9999
 rw [if_neg c1] at H
 refine aw_ifT ?_ (eN c1)
 refine aw_grp1 ?_
 refine wk_start ?_
 refine kv g0 (asg) ?_
 refine wk_end ?_
 refine ac_next ?_
 refine aw_ret ?_
 refine ac_thenR ?_
 obtain rfl := Option.some.inj H
 exact acr hE [.tmp 4] (.tmp .nil) (.one _) [] 9999
/-! laws_eqRing -/
def laws_eqRing.f (k : Nat) (l0_0 : List S131) (a0_1 : Int) (a0_2 : Int) (a0_3 : Int) (l1_0 : List S131) (a1_1 : Int) (a1_2 : Int) (a1_3 : Int) : Option (Bool) := (laws_eqItemS.f k l0_0 l1_0).bind fun t1 => if t1 = true then if a0_1 = a1_1 then if a0_2 = a1_2 then if a0_3 = a1_3 then some true else some false else some false else some false else some false
theorem laws_eqRing.ok {k : Nat} {l0_0 : List S131} {a0_1 : Int} {a0_2 : Int} {a0_3 : Int} {l1_0 : List S131} {a1_1 : Int} {a1_2 : Int} {a1_3 : Int} {r : Bool} (H : laws_eqRing.f k l0_0 a0_1 a0_2 a0_3 l1_0 a1_1 a1_2 a1_3 = some r) : ACalls Try.prog 57 [] [.agg [.sl .o 4 (l0_0.map e131), .lit (.int .i64 a0_1), .lit (.int .i64 a0_2), .lit (.int .i64 a0_3)], .agg [.sl .o 4 (l1_0.map e131), .lit (.int .i64 a1_1), .lit (.int .i64 a1_2), .lit (.int .i64 a1_3)]] [] (.lit (.bool r)) := by
 refine acalls (fn := Try.f57) (nt := 26) Try.func57 rfl rfl (Nat.le_of_ble_eq_true rfl) fun E hE => ?_
 rw [laws_eqRing.f] at H
 refine aw_grp1 ?_
 refine wk_start ?_
 refine kb g0 (bxA 0) ?_
 refine kb g0 (bxA 1) ?_
 refine kv g0 (asg) ?_
 refine wk_end ?_
 refine ac_next ?_
 refine aw_grp1 ?_
 refine aw_grp1 ?_
 refine wk_start ?_
 refine kv g0 (faB 0 0) ?_
 refine kv g0 (ldB) ?_
 refine kv g0 (faB 0 0) ?_
 refine kv g0 (ldB) ?_
 obtain ⟨t1, A2, H⟩ := of_bind H
 refine kcS0 9 (.lit (.bool t1)) [] g0 (cal (laws_eqItemS.ok A2) [] 9999 .n (hf := Try.func85)) rfl rfl ?_
 refine kv g0 (not_) ?_
 refine wk_end ?_
 refine ac_next ?_
 by_cases c3 : t1 = true
 ·rw [if_pos c3] at H
  refine aw_ifF ?_ (nF c3)
  refine aw_skip ?_
  refine ac_next ?_
  refine aw_grp1 ?_
  refine aw_grp1 ?_
  refine wk_start ?_
  refine kv g0 (faB 1 1) ?_
  refine kv g0 (ldB) ?_
  refine kv g0 (faB 1 1) ?_
  refine kv g0 (ldB) ?_
  refine kv g0 (neq) ?_
  refine wk_end ?_
  refine ac_next ?_
  by_cases c4 : a0_1 = a1_1
  ·rw [if_pos c4] at H
   refine aw_ifF ?_ (eM c4)
   refine aw_skip ?_
   refine ac_next ?_
   refine aw_grp1 ?_
   refine aw_grp1 ?_
   refine wk_start ?_
   refine kv g0 (faB 2 2) ?_
   refine kv g0 (ldB) ?_
   refine kv g0 (faB 2 2) ?_
   refine kv g0 (ldB) ?_
   refine kv g0 (neq) ?_
   refine wk_end ?_
   refine ac_next ?_
   by_cases c5 : a0_2 = a1_2
   ·rw [if_pos c5] at H
    refine aw_ifF ?_ (eM c5)
    refine aw_skip ?_
    refine ac_next ?_
    refine aw_grp1 ?_
    refine aw_grp1 ?_
    refine wk_start ?_
    refine kv g0 (faB 3 3) ?_
    refine kv g0 (ldB) ?_
    refine kv g0 (faB 3 3) ?_
    refine kv g0 (ldB) ?_
    refine kv g0 (neq) ?_
    refine wk_end ?_
    refine ac_next ?_
    by_cases c6 : a0_3 = a1_3
    ·rw [if_pos c6] at H
     refine aw_ifF ?_ (eM c6)
     refine aw_skip ?_
     refine ac_next ?_
     refine aw_grp1 ?_
     refine wk_start ?_
     refine kv g0 (asg) ?_
     refine wk_end ?_
     refine ac_next ?_
     refine aw_ret ?_
     obtain rfl := Option.some.inj H
     exact acr hE [.tmp 4] (.tmp .nil) (.one _) [] 9999
    rw [if_neg c6] at H
    refine aw_ifT ?_ (eN c6)
    refine aw_grp1 ?_
    refine wk_start ?_
    refine kv g0 (asg) ?_
    refine wk_end ?_
    refine ac_next ?_
    refine aw_ret ?_
    refine ac_thenR ?_
    obtain rfl := Option.some.inj H
    exact acr hE [.tmp 4] (.tmp .nil) (.one _) [] 9999
   rw [if_neg c5] at H
   refine aw_ifT ?_ (eN c5)
   refine aw_grp1 ?_
   refine wk_start ?_
   refine kv g0 (asg) ?_
   refine wk_end ?_
   refine ac_next ?_
   refine aw_ret ?_
   refine ac_thenR ?_
   obtain rfl := Option.some.inj H
   exact acr hE [.tmp 4] (.tmp .nil) (.one _) [] 9999
  rw [if_neg c4] at H
  refine aw_ifT ?_ (eN c4)
  refine aw_grp1 ?_
  refine wk_start ?_
  refine kv g0 (asg) ?_
  refine wk_end ?_
  refine ac_next ?_
  refine aw_ret ?_
  refine ac_thenR ?_
  obtain rfl := Option.some.inj H
  exact acr hE [.tmp 4] (.tmp .nil) (.one _) [] 9999
 rw [if_neg c3] at H
 refine aw_ifT ?_ (nT (bF c3))
 refine aw_grp1 ?_
 refine wk_start ?_
 refine kv g0 (asg) ?_
 refine wk_end ?_
 refine ac_next ?_
 refine aw_ret ?_
 refine ac_thenR ?_
 obtain rfl := Option.some.inj H
 exact acr hE [.tmp 4] (.tmp .nil) (.one _) [] 9999
/-! laws_eqRingS -/
def laws_eqRingS.l0 : Nat → (List S59) → (List S59) → Int → Option (Bool)
 | 0, _, _, _ => none
 | k9 + 1, l0, l1, p8 => if p8 < (l0.length : Int) then if 0 ≤ p8 then (if p8 < (l1.length : Int) then ((laws_eqRing.f k9 ((rd_T59 l0 p8).f0) ((rd_T59 l0 p8).f1) ((rd_T59 l0 p8).f2) ((rd_T59 l0 p8).f3) ((rd_T59 l1 p8).f0) ((rd_T59 l1 p8).f1) ((rd_T59 l1 p8).f2) ((rd_T59 l1 p8).f3)).bind fun t13 => if t13 = true then laws_eqRingS.l0 k9 l0 l1 (wrap64 (p8 + 1)) else some false) else none) else none else some true
def laws_eqRingS.f (k : Nat) (l0 : List S59) (l1 : List S59) : Option (Bool) := if (l0.length : Int) = (l1.length : Int) then laws_eqRingS.l0 k l0 l1 0 else some false
theorem laws_eqRingS.ok {k : Nat} {l0 : List S59} {l1 : List S59} {r : Bool} (H : laws_eqRingS.f k l0 l1 = some r) : ACalls Try.prog 24 [] [.sl .o 4 (l0.map e59), .sl .o 4 (l1.map e59)] [] (.lit (.bool r)) := by
 refine acalls (fn := Try.f24) (nt := 27) Try.func24 rfl rfl (Nat.le_of_ble_eq_true rfl) fun E hE => ?_
 rw [laws_eqRingS.f] at H
 refine aw_grp1 ?_
 refine wk_start ?_
 refine kv g0 (asg) ?_
 refine wk_end ?_
 refine ac_next ?_
 refine aw_grp1 ?_
 refine aw_grp1 ?_
 refine wk_start ?_
 refine kv g0 (mv) ?_
 refine kv g0 (lnS lenE) ?_
 refine kv g0 (mv) ?_
 refine kv g0 (lnS lenE) ?_
 refine kv g0 (neq) ?_
 refine wk_end ?_
 refine ac_next ?_
 by_cases c1 : (l0.length : Int) = (l1.length : Int)
 ·rw [if_pos c1] at H
  refine aw_ifF ?_ (eM c1)
  refine aw_skip ?_
  refine ac_next ?_
  refine aw_grp1 ?_
  refine aw_grp1 ?_
  refine wk_start ?_
  refine kv g0 (asg) ?_
  refine wk_end ?_
  refine ac_next ?_
  refine aw_block ?_
  refine aw_loop1 (fun (k_ : Nat) (p8 : Int) => k_ ≤ k ∧ laws_eqRingS.l0 k_ l0 l1 p8 = some r) (fun (p8 : Int) => ⟨[(0, .sl .o 4 (l0.map e59)), (1, .sl .o 4 (l1.map e59)), (5, .lit (.int .i64 p8))], []⟩) k 0 ⟨Nat.le_refl _, H⟩ (fun K_ h_ => acw hE [] 9999 h_) (fun _ => by intro h_; have h_ := h_.2; rw [laws_eqRingS.l0.eq_1] at h_; cases h_) ?_
  intro k9 p8 hq_ K16 hK17
  have hk9 := hq_.1
  have H := hq_.2
  clear hq_
  rw [laws_eqRingS.l0.eq_2] at H
  refine aw_grp1 ?_
  refine aw_grp1 ?_
  refine wk_start ?_
  refine kv g0 (mv) ?_
  refine kv g0 (mv) ?_
  refine kv g0 (lnS lenE) ?_
  refine kv g0 (lss) ?_
  refine wk_end ?_
  refine ac_next ?_
  by_cases c10 : p8 < (l0.length : Int)
  ·rw [if_pos c10] at H
   refine aw_ifT ?_ (decide_eq_true c10)
   refine aw_skip ?_
   refine ac_next ?_
   refine aw_grp1 ?_
   refine aw_block ?_
   refine aw_grp1 ?_
   refine wk_start ?_
   refine kv g0 (mv) ?_
   refine kv g0 (mv) ?_
   obtain ⟨c11, H⟩ := of_if H
   refine kv g0 (ixS 59 (e59 (rd_T59 l0 p8)) c11 (getE (z := z59) c11 c10)) ?_
   refine kv g0 (ldRA 4 [.sl .o 4 (((rd_T59 l0 p8).f0).map e131), .lit (.int .i64 ((rd_T59 l0 p8).f1)), .lit (.int .i64 ((rd_T59 l0 p8).f2)), .lit (.int .i64 ((rd_T59 l0 p8).f3))]) ?_
   refine kv g0 (mv) ?_
   refine kv g0 (mv) ?_
   obtain ⟨c12, H⟩ := of_if H
   refine kv g0 (ixS 59 (e59 (rd_T59 l1 p8)) c11 (getE (z := z59) c11 c12)) ?_
   refine kv g0 (ldRA 4 [.sl .o 4 (((rd_T59 l1 p8).f0).map e131), .lit (.int .i64 ((rd_T59 l1 p8).f1)), .lit (.int .i64 ((rd_T59 l1 p8).f2)), .lit (.int .i64 ((rd_T59 l1 p8).f3))]) ?_
   obtain ⟨t13, A14, H⟩ := of_bind H
   refine kcS0 25 (.lit (.bool t13)) [] g0 (cal (laws_eqRing.ok A14) [] 9999 .n (hf := Try.func57)) rfl rfl ?_
   refine kv g0 (not_) ?_
   refine wk_end_draw hM (by kernel_rfl) ?_
   refine ac_next ?_
   by_cases c15 : t13 = true
   ·rw [if_pos c15] at H
    refine aw_ifF ?_ (nF c15)
    refine aw_skip ?_
    refine ac_blkN ?_
    refine ac_next ?_
    refine wk_start ?_
    refine kv g0 (mv) ?_
    refine kv g0 (add6) ?_
    refine kv g0 (asg) ?_
    refine wk_end ?_
    refine ac_k ?_
    exact acw hE [] 9999 (hK17 k9 (wrap64 (p8 + 1)) (Nat.le_refl _) ⟨by omega, H⟩)
   rw [if_neg c15] at H
   refine aw_ifT ?_ (nT (bF c15))
   refine aw_grp1 ?_
   refine wk_start ?_
   refine kv g0 (asg) ?_
   refine wk_end ?_
   refine ac_next ?_
   refine aw_ret ?_
   refine ac_blkR ?_
   refine ac_thenR ?_
   refine ac_thenR ?_
   refine ac_blkR ?_
   refine ac_thenR ?_
   obtain rfl := Option.some.inj H
   exact acr hE [.tmp 4] (.tmp .nil) (.one _) [] 9999
  rw [if_neg c10] at H
  refine aw_ifF ?_ (decide_eq_false c10)
  refine aw_exit ?_
  refine ac_then ?_
  refine ac_then ?_
  refine ac_hit rfl ?_
  refine ac_next ?_
  refine aw_grp1 ?_
  refine wk_start ?_
  refine kv g0 (asg) ?_
  refine wk_end ?_
  refine ac_next ?_
  refine aw_ret ?_
  obtain rfl := Option.some.inj H
  exact acr hE [.tmp 4] (.tmp .nil) (.one _) [] 9999
 rw [if_neg c1] at H
 refine aw_ifT ?_ (eN c1)
 refine aw_grp1 ?_
 refine wk_start ?_
 refine kv g0 (asg) ?_
 refine wk_end ?_
 refine ac_next ?_
 refine aw_ret ?_
 refine ac_thenR ?_
 obtain rfl := Option.some.inj H
 exact acr hE [.tmp 4] (.tmp .nil) (.one _) [] 9999
/-! laws_eqSender -/
def laws_eqSender.f (k : Nat) (a0_0 : Int) (a0_1 : Int) (l0_2 : List S131) (a0_3 : Int) (a0_4 : Int) (a1_0 : Int) (a1_1 : Int) (l1_2 : List S131) (a1_3 : Int) (a1_4 : Int) : Option (Bool) := if a0_0 = a1_0 then if a0_1 = a1_1 then (laws_eqItemS.f k l0_2 l1_2).bind fun t3 => if t3 = true then if a0_3 = a1_3 then if a0_4 = a1_4 then some true else some false else some false else some false else some false else some false
theorem laws_eqSender.ok {k : Nat} {a0_0 : Int} {a0_1 : Int} {l0_2 : List S131} {a0_3 : Int} {a0_4 : Int} {a1_0 : Int} {a1_1 : Int} {l1_2 : List S131} {a1_3 : Int} {a1_4 : Int} {r : Bool} (H : laws_eqSender.f k a0_0 a0_1 l0_2 a0_3 a0_4 a1_0 a1_1 l1_2 a1_3 a1_4 = some r) : ACalls Try.prog 58 [] [.agg [.lit (.int .i64 a0_0), .lit (.int .i64 a0_1), .sl .o 4 (l0_2.map e131), .lit (.int .i64 a0_3), .lit (.int .i64 a0_4)], .agg [.lit (.int .i64 a1_0), .lit (.int .i64 a1_1), .sl .o 4 (l1_2.map e131), .lit (.int .i64 a1_3), .lit (.int .i64 a1_4)]] [] (.lit (.bool r)) := by
 refine acalls (fn := Try.f58) (nt := 31) Try.func58 rfl rfl (Nat.le_of_ble_eq_true rfl) fun E hE => ?_
 rw [laws_eqSender.f] at H
 refine aw_grp1 ?_
 refine wk_start ?_
 refine kb g0 (bxA 0) ?_
 refine kb g0 (bxA 1) ?_
 refine kv g0 (asg) ?_
 refine wk_end ?_
 refine ac_next ?_
 refine aw_grp1 ?_
 refine aw_grp1 ?_
 refine wk_start ?_
 refine kv g0 (faB 0 0) ?_
 refine kv g0 (ldB) ?_
 refine kv g0 (faB 0 0) ?_
 refine kv g0 (ldB) ?_
 refine kv g0 (neq) ?_
 refine wk_end ?_
 refine ac_next ?_
 by_cases c1 : a0_0 = a1_0
 ·rw [if_pos c1] at H
  refine aw_ifF ?_ (eM c1)
  refine aw_skip ?_
  refine ac_next ?_
  refine aw_grp1 ?_
  refine aw_grp1 ?_
  refine wk_start ?_
  refine kv g0 (faB 1 1) ?_
  refine kv g0 (ldB) ?_
  refine kv g0 (faB 1 1) ?_
  refine kv g0 (ldB) ?_
  refine kv g0 (neq) ?_
  refine wk_end ?_
  refine ac_next ?_
  by_cases c2 : a0_1 = a1_1
  ·rw [if_pos c2] at H
   refine aw_ifF ?_ (eM c2)
   refine aw_skip ?_
   refine ac_next ?_
   refine aw_grp1 ?_
   refine aw_grp1 ?_
   refine wk_start ?_
   refine kv g0 (faB 2 2) ?_
   refine kv g0 (ldB) ?_
   refine kv g0 (faB 2 2) ?_
   refine kv g0 (ldB) ?_
   obtain ⟨t3, A4, H⟩ := of_bind H
   refine kcS0 19 (.lit (.bool t3)) [] g0 (cal (laws_eqItemS.ok A4) [] 9999 .n (hf := Try.func85)) rfl rfl ?_
   refine kv g0 (not_) ?_
   refine wk_end ?_
   refine ac_next ?_
   by_cases c5 : t3 = true
   ·rw [if_pos c5] at H
    refine aw_ifF ?_ (nF c5)
    refine aw_skip ?_
    refine ac_next ?_
    refine aw_grp1 ?_
    refine aw_grp1 ?_
    refine wk_start ?_
    refine kv g0 (faB 3 3) ?_
    refine kv g0 (ldB) ?_
    refine kv g0 (faB 3 3) ?_
    refine kv g0 (ldB) ?_
    refine kv g0 (neq) ?_
    refine wk_end ?_
    refine ac_next ?_
    by_cases c6 : a0_3 = a1_3
    ·rw [if_pos c6] at H
     refine aw_ifF ?_ (eM c6)
     refine aw_skip ?_
     refine ac_next ?_
     refine aw_grp1 ?_
     refine aw_grp1 ?_
     refine wk_start ?_
     refine kv g0 (faB 4 4) ?_
     refine kv g0 (ldB) ?_
     refine kv g0 (faB 4 4) ?_
     refine kv g0 (ldB) ?_
     refine kv g0 (neq) ?_
     refine wk_end ?_
     refine ac_next ?_
     by_cases c7 : a0_4 = a1_4
     ·rw [if_pos c7] at H
      refine aw_ifF ?_ (eM c7)
      refine aw_skip ?_
      refine ac_next ?_
      refine aw_grp1 ?_
      refine wk_start ?_
      refine kv g0 (asg) ?_
      refine wk_end ?_
      refine ac_next ?_
      refine aw_ret ?_
      obtain rfl := Option.some.inj H
      exact acr hE [.tmp 4] (.tmp .nil) (.one _) [] 9999
     rw [if_neg c7] at H
     refine aw_ifT ?_ (eN c7)
     refine aw_grp1 ?_
     refine wk_start ?_
     refine kv g0 (asg) ?_
     refine wk_end ?_
     refine ac_next ?_
     refine aw_ret ?_
     refine ac_thenR ?_
     obtain rfl := Option.some.inj H
     exact acr hE [.tmp 4] (.tmp .nil) (.one _) [] 9999
    rw [if_neg c6] at H
    refine aw_ifT ?_ (eN c6)
    refine aw_grp1 ?_
    refine wk_start ?_
    refine kv g0 (asg) ?_
    refine wk_end ?_
    refine ac_next ?_
    refine aw_ret ?_
    refine ac_thenR ?_
    obtain rfl := Option.some.inj H
    exact acr hE [.tmp 4] (.tmp .nil) (.one _) [] 9999
   rw [if_neg c5] at H
   refine aw_ifT ?_ (nT (bF c5))
   refine aw_grp1 ?_
   refine wk_start ?_
   refine kv g0 (asg) ?_
   refine wk_end ?_
   refine ac_next ?_
   refine aw_ret ?_
   refine ac_thenR ?_
   obtain rfl := Option.some.inj H
   exact acr hE [.tmp 4] (.tmp .nil) (.one _) [] 9999
  rw [if_neg c2] at H
  refine aw_ifT ?_ (eN c2)
  refine aw_grp1 ?_
  refine wk_start ?_
  refine kv g0 (asg) ?_
  refine wk_end ?_
  refine ac_next ?_
  refine aw_ret ?_
  refine ac_thenR ?_
  obtain rfl := Option.some.inj H
  exact acr hE [.tmp 4] (.tmp .nil) (.one _) [] 9999
 rw [if_neg c1] at H
 refine aw_ifT ?_ (eN c1)
 refine aw_grp1 ?_
 refine wk_start ?_
 refine kv g0 (asg) ?_
 refine wk_end ?_
 refine ac_next ?_
 refine aw_ret ?_
 refine ac_thenR ?_
 obtain rfl := Option.some.inj H
 exact acr hE [.tmp 4] (.tmp .nil) (.one _) [] 9999
/-! laws_eqSenderS -/
def laws_eqSenderS.l0 : Nat → (List S62) → (List S62) → Int → Option (Bool)
 | 0, _, _, _ => none
 | k9 + 1, l0, l1, p8 => if p8 < (l0.length : Int) then if 0 ≤ p8 then (if p8 < (l1.length : Int) then ((laws_eqSender.f k9 ((rd_T62 l0 p8).f0) ((rd_T62 l0 p8).f1) ((rd_T62 l0 p8).f2) ((rd_T62 l0 p8).f3) ((rd_T62 l0 p8).f4) ((rd_T62 l1 p8).f0) ((rd_T62 l1 p8).f1) ((rd_T62 l1 p8).f2) ((rd_T62 l1 p8).f3) ((rd_T62 l1 p8).f4)).bind fun t13 => if t13 = true then laws_eqSenderS.l0 k9 l0 l1 (wrap64 (p8 + 1)) else some false) else none) else none else some true
def laws_eqSenderS.f (k : Nat) (l0 : List S62) (l1 : List S62) : Option (Bool) := if (l0.length : Int) = (l1.length : Int) then laws_eqSenderS.l0 k l0 l1 0 else some false
theorem laws_eqSenderS.ok {k : Nat} {l0 : List S62} {l1 : List S62} {r : Bool} (H : laws_eqSenderS.f k l0 l1 = some r) : ACalls Try.prog 25 [] [.sl .o 5 (l0.map e62), .sl .o 5 (l1.map e62)] [] (.lit (.bool r)) := by
 refine acalls (fn := Try.f25) (nt := 27) Try.func25 rfl rfl (Nat.le_of_ble_eq_true rfl) fun E hE => ?_
 rw [laws_eqSenderS.f] at H
 refine aw_grp1 ?_
 refine wk_start ?_
 refine kv g0 (asg) ?_
 refine wk_end ?_
 refine ac_next ?_
 refine aw_grp1 ?_
 refine aw_grp1 ?_
 refine wk_start ?_
 refine kv g0 (mv) ?_
 refine kv g0 (lnS lenE) ?_
 refine kv g0 (mv) ?_
 refine kv g0 (lnS lenE) ?_
 refine kv g0 (neq) ?_
 refine wk_end ?_
 refine ac_next ?_
 by_cases c1 : (l0.length : Int) = (l1.length : Int)
 ·rw [if_pos c1] at H
  refine aw_ifF ?_ (eM c1)
  refine aw_skip ?_
  refine ac_next ?_
  refine aw_grp1 ?_
  refine aw_grp1 ?_
  refine wk_start ?_
  refine kv g0 (asg) ?_
  refine wk_end ?_
  refine ac_next ?_
  refine aw_block ?_
  refine aw_loop1 (fun (k_ : Nat) (p8 : Int) => k_ ≤ k ∧ laws_eqSenderS.l0 k_ l0 l1 p8 = some r) (fun (p8 : Int) => ⟨[(0, .sl .o 5 (l0.map e62)), (1, .sl .o 5 (l1.map e62)), (5, .lit (.int .i64 p8))], []⟩) k 0 ⟨Nat.le_refl _, H⟩ (fun K_ h_ => acw hE [] 9999 h_) (fun _ => by intro h_; have h_ := h_.2; rw [laws_eqSenderS.l0.eq_1] at h_; cases h_) ?_
  intro k9 p8 hq_ K16 hK17
  have hk9 := hq_.1
  have H := hq_.2
  clear hq_
  rw [laws_eqSenderS.l0.eq_2] at H
  refine aw_grp1 ?_
  refine aw_grp1 ?_
  refine wk_start ?_
  refine kv g0 (mv) ?_
  refine kv g0 (mv) ?_
  refine kv g0 (lnS lenE) ?_
  refine kv g0 (lss) ?_
  refine wk_end ?_
  refine ac_next ?_
  by_cases c10 : p8 < (l0.length : Int)
  ·rw [if_pos c10] at H
   refine aw_ifT ?_ (decide_eq_true c10)
   refine aw_skip ?_
   refine ac_next ?_
   refine aw_grp1 ?_
   refine aw_block ?_
   refine aw_grp1 ?_
   refine wk_start ?_
   refine kv g0 (mv) ?_
   refine kv g0 (mv) ?_
   obtain ⟨c11, H⟩ := of_if H
   refine kv g0 (ixS 62 (e62 (rd_T62 l0 p8)) c11 (getE (z := z62) c11 c10)) ?_
   refine kv g0 (ldRA 5 [.lit (.int .i64 ((rd_T62 l0 p8).f0)), .lit (.int .i64 ((rd_T62 l0 p8).f1)), .sl .o 4 (((rd_T62 l0 p8).f2).map e131), .lit (.int .i64 ((rd_T62 l0 p8).f3)), .lit (.int .i64 ((rd_T62 l0 p8).f4))]) ?_
   refine kv g0 (mv) ?_
   refine kv g0 (mv) ?_
   obtain ⟨c12, H⟩ := of_if H
   refine kv g0 (ixS 62 (e62 (rd_T62 l1 p8)) c11 (getE (z := z62) c11 c12)) ?_
   refine kv g0 (ldRA 5 [.lit (.int .i64 ((rd_T62 l1 p8).f0)), .lit (.int .i64 ((rd_T62 l1 p8).f1)), .sl .o 4 (((rd_T62 l1 p8).f2).map e131), .lit (.int .i64 ((rd_T62 l1 p8).f3)), .lit (.int .i64 ((rd_T62 l1 p8).f4))]) ?_
   obtain ⟨t13, A14, H⟩ := of_bind H
   refine kcS0 25 (.lit (.bool t13)) [] g0 (cal (laws_eqSender.ok A14) [] 9999 .n (hf := Try.func58)) rfl rfl ?_
   refine kv g0 (not_) ?_
   refine wk_end_draw hM (by kernel_rfl) ?_
   refine ac_next ?_
   by_cases c15 : t13 = true
   ·rw [if_pos c15] at H
    refine aw_ifF ?_ (nF c15)
    refine aw_skip ?_
    refine ac_blkN ?_
    refine ac_next ?_
    refine wk_start ?_
    refine kv g0 (mv) ?_
    refine kv g0 (add6) ?_
    refine kv g0 (asg) ?_
    refine wk_end ?_
    refine ac_k ?_
    exact acw hE [] 9999 (hK17 k9 (wrap64 (p8 + 1)) (Nat.le_refl _) ⟨by omega, H⟩)
   rw [if_neg c15] at H
   refine aw_ifT ?_ (nT (bF c15))
   refine aw_grp1 ?_
   refine wk_start ?_
   refine kv g0 (asg) ?_
   refine wk_end ?_
   refine ac_next ?_
   refine aw_ret ?_
   refine ac_blkR ?_
   refine ac_thenR ?_
   refine ac_thenR ?_
   refine ac_blkR ?_
   refine ac_thenR ?_
   obtain rfl := Option.some.inj H
   exact acr hE [.tmp 4] (.tmp .nil) (.one _) [] 9999
  rw [if_neg c10] at H
  refine aw_ifF ?_ (decide_eq_false c10)
  refine aw_exit ?_
  refine ac_then ?_
  refine ac_then ?_
  refine ac_hit rfl ?_
  refine ac_next ?_
  refine aw_grp1 ?_
  refine wk_start ?_
  refine kv g0 (asg) ?_
  refine wk_end ?_
  refine ac_next ?_
  refine aw_ret ?_
  obtain rfl := Option.some.inj H
  exact acr hE [.tmp 4] (.tmp .nil) (.one _) [] 9999
 rw [if_neg c1] at H
 refine aw_ifT ?_ (eN c1)
 refine aw_grp1 ?_
 refine wk_start ?_
 refine kv g0 (asg) ?_
 refine wk_end ?_
 refine ac_next ?_
 refine aw_ret ?_
 refine ac_thenR ?_
 obtain rfl := Option.some.inj H
 exact acr hE [.tmp 4] (.tmp .nil) (.one _) [] 9999
/-! laws_eqEntry -/
def laws_eqEntry.f (a0_0 : Int) (a0_1 : Int) (a0_2 : Int) (a0_3 : Int) (a0_4 : Int) (a0_5 : Int) (a1_0 : Int) (a1_1 : Int) (a1_2 : Int) (a1_3 : Int) (a1_4 : Int) (a1_5 : Int) : Option (Bool) := if a0_0 = a1_0 then if a0_1 = a1_1 then (laws_eqItem.f a0_2 a0_3 a0_4 a0_5 a1_2 a1_3 a1_4 a1_5).bind fun t3 => if t3 = true then some true else some false else some false else some false
theorem laws_eqEntry.ok {a0_0 : Int} {a0_1 : Int} {a0_2 : Int} {a0_3 : Int} {a0_4 : Int} {a0_5 : Int} {a1_0 : Int} {a1_1 : Int} {a1_2 : Int} {a1_3 : Int} {a1_4 : Int} {a1_5 : Int} {r : Bool} (H : laws_eqEntry.f a0_0 a0_1 a0_2 a0_3 a0_4 a0_5 a1_0 a1_1 a1_2 a1_3 a1_4 a1_5 = some r) : ACalls Try.prog 86 [] [.agg [.lit (.int .i64 a0_0), .lit (.int .i64 a0_1), .lit (.int .i64 a0_2), .lit (.int .i64 a0_3), .lit (.int .i64 a0_4), .lit (.int .i64 a0_5)], .agg [.lit (.int .i64 a1_0), .lit (.int .i64 a1_1), .lit (.int .i64 a1_2), .lit (.int .i64 a1_3), .lit (.int .i64 a1_4), .lit (.int .i64 a1_5)]] [] (.lit (.bool r)) := by
 refine acalls (fn := Try.f86) (nt := 21) Try.func86 rfl rfl (Nat.le_of_ble_eq_true rfl) fun E hE => ?_
 rw [laws_eqEntry.f] at H
 refine aw_grp1 ?_
 refine wk_start ?_
 refine kb g0 (bxA 0) ?_
 refine kb g0 (bxA 1) ?_
 refine kv g0 (asg) ?_
 refine wk_end ?_
 refine ac_next ?_
 refine aw_grp1 ?_
 refine aw_grp1 ?_
 refine wk_start ?_
 refine kv g0 (faB 0 0) ?_
 refine kv g0 (ldB) ?_
 refine kv g0 (faB 0 0) ?_
 refine kv g0 (ldB) ?_
 refine kv g0 (neq) ?_
 refine wk_end ?_
 refine ac_next ?_
 by_cases c1 : a0_0 = a1_0
 ·rw [if_pos c1] at H
  refine aw_ifF ?_ (eM c1)
  refine aw_skip ?_
  refine ac_next ?_
  refine aw_grp1 ?_
  refine aw_grp1 ?_
  refine wk_start ?_
  refine kv g0 (faB 1 1) ?_
  refine kv g0 (ldB) ?_
  refine kv g0 (faB 1 1) ?_
  refine kv g0 (ldB) ?_
  refine kv g0 (neq) ?_
  refine wk_end ?_
  refine ac_next ?_
  by_cases c2 : a0_1 = a1_1
  ·rw [if_pos c2] at H
   refine aw_ifF ?_ (eM c2)
   refine aw_skip ?_
   refine ac_next ?_
   refine aw_grp1 ?_
   refine aw_grp1 ?_
   refine wk_start ?_
   refine kv g0 (faB 2 2) ?_
   refine kv g0 (ldBA 4 [.lit (.int .i64 a0_2), .lit (.int .i64 a0_3), .lit (.int .i64 a0_4), .lit (.int .i64 a0_5)]) ?_
   refine kv g0 (faB 2 2) ?_
   refine kv g0 (ldBA 4 [.lit (.int .i64 a1_2), .lit (.int .i64 a1_3), .lit (.int .i64 a1_4), .lit (.int .i64 a1_5)]) ?_
   obtain ⟨t3, A4, H⟩ := of_bind H
   refine kcS0 19 (.lit (.bool t3)) [] g0 (cal (laws_eqItem.ok A4) [] 9999 .n (hf := Try.func97)) rfl rfl ?_
   refine kv g0 (not_) ?_
   refine wk_end ?_
   refine ac_next ?_
   by_cases c5 : t3 = true
   ·rw [if_pos c5] at H
    refine aw_ifF ?_ (nF c5)
    refine aw_skip ?_
    refine ac_next ?_
    refine aw_grp1 ?_
    refine wk_start ?_
    refine kv g0 (asg) ?_
    refine wk_end ?_
    refine ac_next ?_
    refine aw_ret ?_
    obtain rfl := Option.some.inj H
    exact acr hE [.tmp 4] (.tmp .nil) (.one _) [] 9999
   rw [if_neg c5] at H
   refine aw_ifT ?_ (nT (bF c5))
   refine aw_grp1 ?_
   refine wk_start ?_
   refine kv g0 (asg) ?_
   refine wk_end ?_
   refine ac_next ?_
   refine aw_ret ?_
   refine ac_thenR ?_
   obtain rfl := Option.some.inj H
   exact acr hE [.tmp 4] (.tmp .nil) (.one _) [] 9999
  rw [if_neg c2] at H
  refine aw_ifT ?_ (eN c2)
  refine aw_grp1 ?_
  refine wk_start ?_
  refine kv g0 (asg) ?_
  refine wk_end ?_
  refine ac_next ?_
  refine aw_ret ?_
  refine ac_thenR ?_
  obtain rfl := Option.some.inj H
  exact acr hE [.tmp 4] (.tmp .nil) (.one _) [] 9999
 rw [if_neg c1] at H
 refine aw_ifT ?_ (eN c1)
 refine aw_grp1 ?_
 refine wk_start ?_
 refine kv g0 (asg) ?_
 refine wk_end ?_
 refine ac_next ?_
 refine aw_ret ?_
 refine ac_thenR ?_
 obtain rfl := Option.some.inj H
 exact acr hE [.tmp 4] (.tmp .nil) (.one _) [] 9999
/-! laws_eqEntryS -/
def laws_eqEntryS.l0 : Nat → (List S133) → (List S133) → Int → Option (Bool)
 | 0, _, _, _ => none
 | k9 + 1, l0, l1, p8 => if p8 < (l0.length : Int) then if 0 ≤ p8 then (if p8 < (l1.length : Int) then ((laws_eqEntry.f ((rd_T133 l0 p8).f0) ((rd_T133 l0 p8).f1) ((rd_T133 l0 p8).f2.f0) ((rd_T133 l0 p8).f2.f1) ((rd_T133 l0 p8).f2.f2) ((rd_T133 l0 p8).f2.f3) ((rd_T133 l1 p8).f0) ((rd_T133 l1 p8).f1) ((rd_T133 l1 p8).f2.f0) ((rd_T133 l1 p8).f2.f1) ((rd_T133 l1 p8).f2.f2) ((rd_T133 l1 p8).f2.f3)).bind fun t13 => if t13 = true then laws_eqEntryS.l0 k9 l0 l1 (wrap64 (p8 + 1)) else some false) else none) else none else some true
def laws_eqEntryS.f (k : Nat) (l0 : List S133) (l1 : List S133) : Option (Bool) := if (l0.length : Int) = (l1.length : Int) then laws_eqEntryS.l0 k l0 l1 0 else some false
theorem laws_eqEntryS.ok {k : Nat} {l0 : List S133} {l1 : List S133} {r : Bool} (H : laws_eqEntryS.f k l0 l1 = some r) : ACalls Try.prog 59 [] [.sl .o 6 (l0.map e133), .sl .o 6 (l1.map e133)] [] (.lit (.bool r)) := by
 refine acalls (fn := Try.f59) (nt := 27) Try.func59 rfl rfl (Nat.le_of_ble_eq_true rfl) fun E hE => ?_
 rw [laws_eqEntryS.f] at H
 refine aw_grp1 ?_
 refine wk_start ?_
 refine kv g0 (asg) ?_
 refine wk_end ?_
 refine ac_next ?_
 refine aw_grp1 ?_
 refine aw_grp1 ?_
 refine wk_start ?_
 refine kv g0 (mv) ?_
 refine kv g0 (lnS lenE) ?_
 refine kv g0 (mv) ?_
 refine kv g0 (lnS lenE) ?_
 refine kv g0 (neq) ?_
 refine wk_end ?_
 refine ac_next ?_
 by_cases c1 : (l0.length : Int) = (l1.length : Int)
 ·rw [if_pos c1] at H
  refine aw_ifF ?_ (eM c1)
  refine aw_skip ?_
  refine ac_next ?_
  refine aw_grp1 ?_
  refine aw_grp1 ?_
  refine wk_start ?_
  refine kv g0 (asg) ?_
  refine wk_end ?_
  refine ac_next ?_
  refine aw_block ?_
  refine aw_loop1 (fun (k_ : Nat) (p8 : Int) => k_ ≤ k ∧ laws_eqEntryS.l0 k_ l0 l1 p8 = some r) (fun (p8 : Int) => ⟨[(0, .sl .o 6 (l0.map e133)), (1, .sl .o 6 (l1.map e133)), (5, .lit (.int .i64 p8))], []⟩) k 0 ⟨Nat.le_refl _, H⟩ (fun K_ h_ => acw hE [] 9999 h_) (fun _ => by intro h_; have h_ := h_.2; rw [laws_eqEntryS.l0.eq_1] at h_; cases h_) ?_
  intro k9 p8 hq_ K16 hK17
  have hk9 := hq_.1
  have H := hq_.2
  clear hq_
  rw [laws_eqEntryS.l0.eq_2] at H
  refine aw_grp1 ?_
  refine aw_grp1 ?_
  refine wk_start ?_
  refine kv g0 (mv) ?_
  refine kv g0 (mv) ?_
  refine kv g0 (lnS lenE) ?_
  refine kv g0 (lss) ?_
  refine wk_end ?_
  refine ac_next ?_
  by_cases c10 : p8 < (l0.length : Int)
  ·rw [if_pos c10] at H
   refine aw_ifT ?_ (decide_eq_true c10)
   refine aw_skip ?_
   refine ac_next ?_
   refine aw_grp1 ?_
   refine aw_block ?_
   refine aw_grp1 ?_
   refine wk_start ?_
   refine kv g0 (mv) ?_
   refine kv g0 (mv) ?_
   obtain ⟨c11, H⟩ := of_if H
   refine kv g0 (ixS 133 (e133 (rd_T133 l0 p8)) c11 (getE (z := z133) c11 c10)) ?_
   refine kv g0 (ldRA 6 [.lit (.int .i64 ((rd_T133 l0 p8).f0)), .lit (.int .i64 ((rd_T133 l0 p8).f1)), .lit (.int .i64 ((rd_T133 l0 p8).f2.f0)), .lit (.int .i64 ((rd_T133 l0 p8).f2.f1)), .lit (.int .i64 ((rd_T133 l0 p8).f2.f2)), .lit (.int .i64 ((rd_T133 l0 p8).f2.f3))]) ?_
   refine kv g0 (mv) ?_
   refine kv g0 (mv) ?_
   obtain ⟨c12, H⟩ := of_if H
   refine kv g0 (ixS 133 (e133 (rd_T133 l1 p8)) c11 (getE (z := z133) c11 c12)) ?_
   refine kv g0 (ldRA 6 [.lit (.int .i64 ((rd_T133 l1 p8).f0)), .lit (.int .i64 ((rd_T133 l1 p8).f1)), .lit (.int .i64 ((rd_T133 l1 p8).f2.f0)), .lit (.int .i64 ((rd_T133 l1 p8).f2.f1)), .lit (.int .i64 ((rd_T133 l1 p8).f2.f2)), .lit (.int .i64 ((rd_T133 l1 p8).f2.f3))]) ?_
   obtain ⟨t13, A14, H⟩ := of_bind H
   refine kcS0 25 (.lit (.bool t13)) [] g0 (cal (laws_eqEntry.ok A14) [] 9999 .n (hf := Try.func86)) rfl rfl ?_
   refine kv g0 (not_) ?_
   refine wk_end_draw hM (by kernel_rfl) ?_
   refine ac_next ?_
   by_cases c15 : t13 = true
   ·rw [if_pos c15] at H
    refine aw_ifF ?_ (nF c15)
    refine aw_skip ?_
    refine ac_blkN ?_
    refine ac_next ?_
    refine wk_start ?_
    refine kv g0 (mv) ?_
    refine kv g0 (add6) ?_
    refine kv g0 (asg) ?_
    refine wk_end ?_
    refine ac_k ?_
    exact acw hE [] 9999 (hK17 k9 (wrap64 (p8 + 1)) (Nat.le_refl _) ⟨by omega, H⟩)
   rw [if_neg c15] at H
   refine aw_ifT ?_ (nT (bF c15))
   refine aw_grp1 ?_
   refine wk_start ?_
   refine kv g0 (asg) ?_
   refine wk_end ?_
   refine ac_next ?_
   refine aw_ret ?_
   refine ac_blkR ?_
   refine ac_thenR ?_
   refine ac_thenR ?_
   refine ac_blkR ?_
   refine ac_thenR ?_
   obtain rfl := Option.some.inj H
   exact acr hE [.tmp 4] (.tmp .nil) (.one _) [] 9999
  rw [if_neg c10] at H
  refine aw_ifF ?_ (decide_eq_false c10)
  refine aw_exit ?_
  refine ac_then ?_
  refine ac_then ?_
  refine ac_hit rfl ?_
  refine ac_next ?_
  refine aw_grp1 ?_
  refine wk_start ?_
  refine kv g0 (asg) ?_
  refine wk_end ?_
  refine ac_next ?_
  refine aw_ret ?_
  obtain rfl := Option.some.inj H
  exact acr hE [.tmp 4] (.tmp .nil) (.one _) [] 9999
 rw [if_neg c1] at H
 refine aw_ifT ?_ (eN c1)
 refine aw_grp1 ?_
 refine wk_start ?_
 refine kv g0 (asg) ?_
 refine wk_end ?_
 refine ac_next ?_
 refine aw_ret ?_
 refine ac_thenR ?_
 obtain rfl := Option.some.inj H
 exact acr hE [.tmp 4] (.tmp .nil) (.one _) [] 9999
/-! laws_eqIntS -/
def laws_eqIntS.l0 : Nat → (List Int) → (List Int) → Int → Option (Bool)
 | 0, _, _, _ => none
 | k7 + 1, l0, l1, p6 => if p6 < (l0.length : Int) then if 0 ≤ p6 then (if p6 < (l1.length : Int) then if (rd l0 p6) = (rd l1 p6) then laws_eqIntS.l0 k7 l0 l1 (wrap64 (p6 + 1)) else some false else none) else none else some true
def laws_eqIntS.f (k : Nat) (l0 : List Int) (l1 : List Int) : Option (Bool) := if (l0.length : Int) = (l1.length : Int) then laws_eqIntS.l0 k l0 l1 0 else some false
theorem laws_eqIntS.ok {k : Nat} {l0 : List Int} {l1 : List Int} {r : Bool} (H : laws_eqIntS.f k l0 l1 = some r) : ACalls Try.prog 28 [] [.sl .o 1 (l0.map (eI .i64)), .sl .o 1 (l1.map (eI .i64))] [] (.lit (.bool r)) := by
 refine acalls (fn := Try.f28) (nt := 26) Try.func28 rfl rfl (Nat.le_of_ble_eq_true rfl) fun E hE => ?_
 rw [laws_eqIntS.f] at H
 refine aw_grp1 ?_
 refine wk_start ?_
 refine kv g0 (asg) ?_
 refine wk_end ?_
 refine ac_next ?_
 refine aw_grp1 ?_
 refine aw_grp1 ?_
 refine wk_start ?_
 refine kv g0 (mv) ?_
 refine kv g0 (lnS lenE) ?_
 refine kv g0 (mv) ?_
 refine kv g0 (lnS lenE) ?_
 refine kv g0 (neq) ?_
 refine wk_end ?_
 refine ac_next ?_
 by_cases c1 : (l0.length : Int) = (l1.length : Int)
 ·rw [if_pos c1] at H
  refine aw_ifF ?_ (eM c1)
  refine aw_skip ?_
  refine ac_next ?_
  refine aw_grp1 ?_
  refine aw_grp1 ?_
  refine wk_start ?_
  refine kv g0 (asg) ?_
  refine wk_end ?_
  refine ac_next ?_
  refine aw_block ?_
  refine aw_loop1 (fun (k_ : Nat) (p6 : Int) => k_ ≤ k ∧ laws_eqIntS.l0 k_ l0 l1 p6 = some r) (fun (p6 : Int) => ⟨[(0, .sl .o 1 (l0.map (eI .i64))), (1, .sl .o 1 (l1.map (eI .i64))), (5, .lit (.int .i64 p6))], []⟩) k 0 ⟨Nat.le_refl _, H⟩ (fun K_ h_ => acw hE [] 9999 h_) (fun _ => by intro h_; have h_ := h_.2; rw [laws_eqIntS.l0.eq_1] at h_; cases h_) ?_
  intro k7 p6 hq_ K12 hK13
  have hk7 := hq_.1
  have H := hq_.2
  clear hq_
  rw [laws_eqIntS.l0.eq_2] at H
  refine aw_grp1 ?_
  refine aw_grp1 ?_
  refine wk_start ?_
  refine kv g0 (mv) ?_
  refine kv g0 (mv) ?_
  refine kv g0 (lnS lenE) ?_
  refine kv g0 (lss) ?_
  refine wk_end ?_
  refine ac_next ?_
  by_cases c8 : p6 < (l0.length : Int)
  ·rw [if_pos c8] at H
   refine aw_ifT ?_ (decide_eq_true c8)
   refine aw_skip ?_
   refine ac_next ?_
   refine aw_grp1 ?_
   refine aw_block ?_
   refine aw_grp1 ?_
   refine wk_start ?_
   refine kv g0 (mv) ?_
   refine kv g0 (mv) ?_
   obtain ⟨c9, H⟩ := of_if H
   refine kv g0 (ixS 3 (eI .i64 (rd l0 p6)) c9 (getE (z := (0 : Int)) c9 c8)) ?_
   refine kv g0 (ldR (.lit (.int .i64 (rd l0 p6)))) ?_
   refine kv g0 (mv) ?_
   refine kv g0 (mv) ?_
   obtain ⟨c10, H⟩ := of_if H
   refine kv g0 (ixS 3 (eI .i64 (rd l1 p6)) c9 (getE (z := (0 : Int)) c9 c10)) ?_
   refine kv g0 (ldR (.lit (.int .i64 (rd l1 p6)))) ?_
   refine kv g0 (neq) ?_
   refine wk_end_draw hM (by kernel_rfl) ?_
   refine ac_next ?_
   by_cases c11 : (rd l0 p6) = (rd l1 p6)
   ·rw [if_pos c11] at H
    refine aw_ifF ?_ (eM c11)
    refine aw_skip ?_
    refine ac_blkN ?_
    refine ac_next ?_
    refine wk_start ?_
    refine kv g0 (mv) ?_
    refine kv g0 (add6) ?_
    refine kv g0 (asg) ?_
    refine wk_end ?_
    refine ac_k ?_
    exact acw hE [] 9999 (hK13 k7 (wrap64 (p6 + 1)) (Nat.le_refl _) ⟨by omega, H⟩)
   rw [if_neg c11] at H
   refine aw_ifT ?_ (eN c11)
   refine aw_grp1 ?_
   refine wk_start ?_
   refine kv g0 (asg) ?_
   refine wk_end ?_
   refine ac_next ?_
   refine aw_ret ?_
   refine ac_blkR ?_
   refine ac_thenR ?_
   refine ac_thenR ?_
   refine ac_blkR ?_
   refine ac_thenR ?_
   obtain rfl := Option.some.inj H
   exact acr hE [.tmp 4] (.tmp .nil) (.one _) [] 9999
  rw [if_neg c8] at H
  refine aw_ifF ?_ (decide_eq_false c8)
  refine aw_exit ?_
  refine ac_then ?_
  refine ac_then ?_
  refine ac_hit rfl ?_
  refine ac_next ?_
  refine aw_grp1 ?_
  refine wk_start ?_
  refine kv g0 (asg) ?_
  refine wk_end ?_
  refine ac_next ?_
  refine aw_ret ?_
  obtain rfl := Option.some.inj H
  exact acr hE [.tmp 4] (.tmp .nil) (.one _) [] 9999
 rw [if_neg c1] at H
 refine aw_ifT ?_ (eN c1)
 refine aw_grp1 ?_
 refine wk_start ?_
 refine kv g0 (asg) ?_
 refine wk_end ?_
 refine ac_next ?_
 refine aw_ret ?_
 refine ac_thenR ?_
 obtain rfl := Option.some.inj H
 exact acr hE [.tmp 4] (.tmp .nil) (.one _) [] 9999
/-! laws_eqEarly -/
def laws_eqEarly.f (a0_0 : Int) (a0_1 : Int) (a0_2 : Int) (a0_3 : Int) (a0_4 : Int) (a0_5 : Int) (a1_0 : Int) (a1_1 : Int) (a1_2 : Int) (a1_3 : Int) (a1_4 : Int) (a1_5 : Int) : Option (Bool) := if a0_0 = a1_0 then if a0_1 = a1_1 then (laws_eqItem.f a0_2 a0_3 a0_4 a0_5 a1_2 a1_3 a1_4 a1_5).bind fun t3 => if t3 = true then some true else some false else some false else some false
theorem laws_eqEarly.ok {a0_0 : Int} {a0_1 : Int} {a0_2 : Int} {a0_3 : Int} {a0_4 : Int} {a0_5 : Int} {a1_0 : Int} {a1_1 : Int} {a1_2 : Int} {a1_3 : Int} {a1_4 : Int} {a1_5 : Int} {r : Bool} (H : laws_eqEarly.f a0_0 a0_1 a0_2 a0_3 a0_4 a0_5 a1_0 a1_1 a1_2 a1_3 a1_4 a1_5 = some r) : ACalls Try.prog 87 [] [.agg [.lit (.int .i64 a0_0), .lit (.int .i64 a0_1), .lit (.int .i64 a0_2), .lit (.int .i64 a0_3), .lit (.int .i64 a0_4), .lit (.int .i64 a0_5)], .agg [.lit (.int .i64 a1_0), .lit (.int .i64 a1_1), .lit (.int .i64 a1_2), .lit (.int .i64 a1_3), .lit (.int .i64 a1_4), .lit (.int .i64 a1_5)]] [] (.lit (.bool r)) := by
 refine acalls (fn := Try.f87) (nt := 21) Try.func87 rfl rfl (Nat.le_of_ble_eq_true rfl) fun E hE => ?_
 rw [laws_eqEarly.f] at H
 refine aw_grp1 ?_
 refine wk_start ?_
 refine kb g0 (bxA 0) ?_
 refine kb g0 (bxA 1) ?_
 refine kv g0 (asg) ?_
 refine wk_end ?_
 refine ac_next ?_
 refine aw_grp1 ?_
 refine aw_grp1 ?_
 refine wk_start ?_
 refine kv g0 (faB 0 0) ?_
 refine kv g0 (ldB) ?_
 refine kv g0 (faB 0 0) ?_
 refine kv g0 (ldB) ?_
 refine kv g0 (neq) ?_
 refine wk_end ?_
 refine ac_next ?_
 by_cases c1 : a0_0 = a1_0
 ·rw [if_pos c1] at H
  refine aw_ifF ?_ (eM c1)
  refine aw_skip ?_
  refine ac_next ?_
  refine aw_grp1 ?_
  refine aw_grp1 ?_
  refine wk_start ?_
  refine kv g0 (faB 1 1) ?_
  refine kv g0 (ldB) ?_
  refine kv g0 (faB 1 1) ?_
  refine kv g0 (ldB) ?_
  refine kv g0 (neq) ?_
  refine wk_end ?_
  refine ac_next ?_
  by_cases c2 : a0_1 = a1_1
  ·rw [if_pos c2] at H
   refine aw_ifF ?_ (eM c2)
   refine aw_skip ?_
   refine ac_next ?_
   refine aw_grp1 ?_
   refine aw_grp1 ?_
   refine wk_start ?_
   refine kv g0 (faB 2 2) ?_
   refine kv g0 (ldBA 4 [.lit (.int .i64 a0_2), .lit (.int .i64 a0_3), .lit (.int .i64 a0_4), .lit (.int .i64 a0_5)]) ?_
   refine kv g0 (faB 2 2) ?_
   refine kv g0 (ldBA 4 [.lit (.int .i64 a1_2), .lit (.int .i64 a1_3), .lit (.int .i64 a1_4), .lit (.int .i64 a1_5)]) ?_
   obtain ⟨t3, A4, H⟩ := of_bind H
   refine kcS0 19 (.lit (.bool t3)) [] g0 (cal (laws_eqItem.ok A4) [] 9999 .n (hf := Try.func97)) rfl rfl ?_
   refine kv g0 (not_) ?_
   refine wk_end ?_
   refine ac_next ?_
   by_cases c5 : t3 = true
   ·rw [if_pos c5] at H
    refine aw_ifF ?_ (nF c5)
    refine aw_skip ?_
    refine ac_next ?_
    refine aw_grp1 ?_
    refine wk_start ?_
    refine kv g0 (asg) ?_
    refine wk_end ?_
    refine ac_next ?_
    refine aw_ret ?_
    obtain rfl := Option.some.inj H
    exact acr hE [.tmp 4] (.tmp .nil) (.one _) [] 9999
   rw [if_neg c5] at H
   refine aw_ifT ?_ (nT (bF c5))
   refine aw_grp1 ?_
   refine wk_start ?_
   refine kv g0 (asg) ?_
   refine wk_end ?_
   refine ac_next ?_
   refine aw_ret ?_
   refine ac_thenR ?_
   obtain rfl := Option.some.inj H
   exact acr hE [.tmp 4] (.tmp .nil) (.one _) [] 9999
  rw [if_neg c2] at H
  refine aw_ifT ?_ (eN c2)
  refine aw_grp1 ?_
  refine wk_start ?_
  refine kv g0 (asg) ?_
  refine wk_end ?_
  refine ac_next ?_
  refine aw_ret ?_
  refine ac_thenR ?_
  obtain rfl := Option.some.inj H
  exact acr hE [.tmp 4] (.tmp .nil) (.one _) [] 9999
 rw [if_neg c1] at H
 refine aw_ifT ?_ (eN c1)
 refine aw_grp1 ?_
 refine wk_start ?_
 refine kv g0 (asg) ?_
 refine wk_end ?_
 refine ac_next ?_
 refine aw_ret ?_
 refine ac_thenR ?_
 obtain rfl := Option.some.inj H
 exact acr hE [.tmp 4] (.tmp .nil) (.one _) [] 9999
/-! laws_eqEarlyS -/
def laws_eqEarlyS.l0 : Nat → (List S135) → (List S135) → Int → Option (Bool)
 | 0, _, _, _ => none
 | k9 + 1, l0, l1, p8 => if p8 < (l0.length : Int) then if 0 ≤ p8 then (if p8 < (l1.length : Int) then ((laws_eqEarly.f ((rd_T135 l0 p8).f0) ((rd_T135 l0 p8).f1) ((rd_T135 l0 p8).f2.f0) ((rd_T135 l0 p8).f2.f1) ((rd_T135 l0 p8).f2.f2) ((rd_T135 l0 p8).f2.f3) ((rd_T135 l1 p8).f0) ((rd_T135 l1 p8).f1) ((rd_T135 l1 p8).f2.f0) ((rd_T135 l1 p8).f2.f1) ((rd_T135 l1 p8).f2.f2) ((rd_T135 l1 p8).f2.f3)).bind fun t13 => if t13 = true then laws_eqEarlyS.l0 k9 l0 l1 (wrap64 (p8 + 1)) else some false) else none) else none else some true
def laws_eqEarlyS.f (k : Nat) (l0 : List S135) (l1 : List S135) : Option (Bool) := if (l0.length : Int) = (l1.length : Int) then laws_eqEarlyS.l0 k l0 l1 0 else some false
theorem laws_eqEarlyS.ok {k : Nat} {l0 : List S135} {l1 : List S135} {r : Bool} (H : laws_eqEarlyS.f k l0 l1 = some r) : ACalls Try.prog 60 [] [.sl .o 6 (l0.map e135), .sl .o 6 (l1.map e135)] [] (.lit (.bool r)) := by
 refine acalls (fn := Try.f60) (nt := 27) Try.func60 rfl rfl (Nat.le_of_ble_eq_true rfl) fun E hE => ?_
 rw [laws_eqEarlyS.f] at H
 refine aw_grp1 ?_
 refine wk_start ?_
 refine kv g0 (asg) ?_
 refine wk_end ?_
 refine ac_next ?_
 refine aw_grp1 ?_
 refine aw_grp1 ?_
 refine wk_start ?_
 refine kv g0 (mv) ?_
 refine kv g0 (lnS lenE) ?_
 refine kv g0 (mv) ?_
 refine kv g0 (lnS lenE) ?_
 refine kv g0 (neq) ?_
 refine wk_end ?_
 refine ac_next ?_
 by_cases c1 : (l0.length : Int) = (l1.length : Int)
 ·rw [if_pos c1] at H
  refine aw_ifF ?_ (eM c1)
  refine aw_skip ?_
  refine ac_next ?_
  refine aw_grp1 ?_
  refine aw_grp1 ?_
  refine wk_start ?_
  refine kv g0 (asg) ?_
  refine wk_end ?_
  refine ac_next ?_
  refine aw_block ?_
  refine aw_loop1 (fun (k_ : Nat) (p8 : Int) => k_ ≤ k ∧ laws_eqEarlyS.l0 k_ l0 l1 p8 = some r) (fun (p8 : Int) => ⟨[(0, .sl .o 6 (l0.map e135)), (1, .sl .o 6 (l1.map e135)), (5, .lit (.int .i64 p8))], []⟩) k 0 ⟨Nat.le_refl _, H⟩ (fun K_ h_ => acw hE [] 9999 h_) (fun _ => by intro h_; have h_ := h_.2; rw [laws_eqEarlyS.l0.eq_1] at h_; cases h_) ?_
  intro k9 p8 hq_ K16 hK17
  have hk9 := hq_.1
  have H := hq_.2
  clear hq_
  rw [laws_eqEarlyS.l0.eq_2] at H
  refine aw_grp1 ?_
  refine aw_grp1 ?_
  refine wk_start ?_
  refine kv g0 (mv) ?_
  refine kv g0 (mv) ?_
  refine kv g0 (lnS lenE) ?_
  refine kv g0 (lss) ?_
  refine wk_end ?_
  refine ac_next ?_
  by_cases c10 : p8 < (l0.length : Int)
  ·rw [if_pos c10] at H
   refine aw_ifT ?_ (decide_eq_true c10)
   refine aw_skip ?_
   refine ac_next ?_
   refine aw_grp1 ?_
   refine aw_block ?_
   refine aw_grp1 ?_
   refine wk_start ?_
   refine kv g0 (mv) ?_
   refine kv g0 (mv) ?_
   obtain ⟨c11, H⟩ := of_if H
   refine kv g0 (ixS 135 (e135 (rd_T135 l0 p8)) c11 (getE (z := z135) c11 c10)) ?_
   refine kv g0 (ldRA 6 [.lit (.int .i64 ((rd_T135 l0 p8).f0)), .lit (.int .i64 ((rd_T135 l0 p8).f1)), .lit (.int .i64 ((rd_T135 l0 p8).f2.f0)), .lit (.int .i64 ((rd_T135 l0 p8).f2.f1)), .lit (.int .i64 ((rd_T135 l0 p8).f2.f2)), .lit (.int .i64 ((rd_T135 l0 p8).f2.f3))]) ?_
   refine kv g0 (mv) ?_
   refine kv g0 (mv) ?_
   obtain ⟨c12, H⟩ := of_if H
   refine kv g0 (ixS 135 (e135 (rd_T135 l1 p8)) c11 (getE (z := z135) c11 c12)) ?_
   refine kv g0 (ldRA 6 [.lit (.int .i64 ((rd_T135 l1 p8).f0)), .lit (.int .i64 ((rd_T135 l1 p8).f1)), .lit (.int .i64 ((rd_T135 l1 p8).f2.f0)), .lit (.int .i64 ((rd_T135 l1 p8).f2.f1)), .lit (.int .i64 ((rd_T135 l1 p8).f2.f2)), .lit (.int .i64 ((rd_T135 l1 p8).f2.f3))]) ?_
   obtain ⟨t13, A14, H⟩ := of_bind H
   refine kcS0 25 (.lit (.bool t13)) [] g0 (cal (laws_eqEarly.ok A14) [] 9999 .n (hf := Try.func87)) rfl rfl ?_
   refine kv g0 (not_) ?_
   refine wk_end_draw hM (by kernel_rfl) ?_
   refine ac_next ?_
   by_cases c15 : t13 = true
   ·rw [if_pos c15] at H
    refine aw_ifF ?_ (nF c15)
    refine aw_skip ?_
    refine ac_blkN ?_
    refine ac_next ?_
    refine wk_start ?_
    refine kv g0 (mv) ?_
    refine kv g0 (add6) ?_
    refine kv g0 (asg) ?_
    refine wk_end ?_
    refine ac_k ?_
    exact acw hE [] 9999 (hK17 k9 (wrap64 (p8 + 1)) (Nat.le_refl _) ⟨by omega, H⟩)
   rw [if_neg c15] at H
   refine aw_ifT ?_ (nT (bF c15))
   refine aw_grp1 ?_
   refine wk_start ?_
   refine kv g0 (asg) ?_
   refine wk_end ?_
   refine ac_next ?_
   refine aw_ret ?_
   refine ac_blkR ?_
   refine ac_thenR ?_
   refine ac_thenR ?_
   refine ac_blkR ?_
   refine ac_thenR ?_
   obtain rfl := Option.some.inj H
   exact acr hE [.tmp 4] (.tmp .nil) (.one _) [] 9999
  rw [if_neg c10] at H
  refine aw_ifF ?_ (decide_eq_false c10)
  refine aw_exit ?_
  refine ac_then ?_
  refine ac_then ?_
  refine ac_hit rfl ?_
  refine ac_next ?_
  refine aw_grp1 ?_
  refine wk_start ?_
  refine kv g0 (asg) ?_
  refine wk_end ?_
  refine ac_next ?_
  refine aw_ret ?_
  obtain rfl := Option.some.inj H
  exact acr hE [.tmp 4] (.tmp .nil) (.one _) [] 9999
 rw [if_neg c1] at H
 refine aw_ifT ?_ (eN c1)
 refine aw_grp1 ?_
 refine wk_start ?_
 refine kv g0 (asg) ?_
 refine wk_end ?_
 refine ac_next ?_
 refine aw_ret ?_
 refine ac_thenR ?_
 obtain rfl := Option.some.inj H
 exact acr hE [.tmp 4] (.tmp .nil) (.one _) [] 9999
/-! laws_eqKeeper -/
def laws_eqKeeper.f (k : Nat) (l0_0 : List S133) (l0_1 : List Int) (l0_2 : List S135) (a0_3 : Int) (l0_4 : List Int) (l1_0 : List S133) (l1_1 : List Int) (l1_2 : List S135) (a1_3 : Int) (l1_4 : List Int) : Option (Bool) := (laws_eqEntryS.f k l0_0 l1_0).bind fun t1 => if t1 = true then (laws_eqIntS.f k l0_1 l1_1).bind fun t4 => if t4 = true then (laws_eqEarlyS.f k l0_2 l1_2).bind fun t7 => if t7 = true then if a0_3 = a1_3 then (laws_eqIntS.f k l0_4 l1_4).bind fun t11 => if t11 = true then some true else some false else some false else some false else some false else some false
theorem laws_eqKeeper.ok {k : Nat} {l0_0 : List S133} {l0_1 : List Int} {l0_2 : List S135} {a0_3 : Int} {l0_4 : List Int} {l1_0 : List S133} {l1_1 : List Int} {l1_2 : List S135} {a1_3 : Int} {l1_4 : List Int} {r : Bool} (H : laws_eqKeeper.f k l0_0 l0_1 l0_2 a0_3 l0_4 l1_0 l1_1 l1_2 a1_3 l1_4 = some r) : ACalls Try.prog 26 [] [.agg [.sl .o 6 (l0_0.map e133), .sl .o 1 (l0_1.map (eI .i64)), .sl .o 6 (l0_2.map e135), .lit (.int .i64 a0_3), .sl .o 1 (l0_4.map (eI .i64))], .agg [.sl .o 6 (l1_0.map e133), .sl .o 1 (l1_1.map (eI .i64)), .sl .o 6 (l1_2.map e135), .lit (.int .i64 a1_3), .sl .o 1 (l1_4.map (eI .i64))]] [] (.lit (.bool r)) := by
 refine acalls (fn := Try.f26) (nt := 34) Try.func26 rfl rfl (Nat.le_of_ble_eq_true rfl) fun E hE => ?_
 rw [laws_eqKeeper.f] at H
 refine aw_grp1 ?_
 refine wk_start ?_
 refine kb g0 (bxA 0) ?_
 refine kb g0 (bxA 1) ?_
 refine kv g0 (asg) ?_
 refine wk_end ?_
 refine ac_next ?_
 refine aw_grp1 ?_
 refine aw_grp1 ?_
 refine wk_start ?_
 refine kv g0 (faB 0 0) ?_
 refine kv g0 (ldB) ?_
 refine kv g0 (faB 0 0) ?_
 refine kv g0 (ldB) ?_
 obtain ⟨t1, A2, H⟩ := of_bind H
 refine kcS0 9 (.lit (.bool t1)) [] g0 (cal (laws_eqEntryS.ok A2) [] 9999 .n (hf := Try.func59)) rfl rfl ?_
 refine kv g0 (not_) ?_
 refine wk_end ?_
 refine ac_next ?_
 by_cases c3 : t1 = true
 ·rw [if_pos c3] at H
  refine aw_ifF ?_ (nF c3)
  refine aw_skip ?_
  refine ac_next ?_
  refine aw_grp1 ?_
  refine aw_grp1 ?_
  refine wk_start ?_
  refine kv g0 (faB 1 1) ?_
  refine kv g0 (ldB) ?_
  refine kv g0 (faB 1 1) ?_
  refine kv g0 (ldB) ?_
  obtain ⟨t4, A5, H⟩ := of_bind H
  refine kcS0 15 (.lit (.bool t4)) [] g0 (cal (laws_eqIntS.ok A5) [] 9999 .n (hf := Try.func28)) rfl rfl ?_
  refine kv g0 (not_) ?_
  refine wk_end ?_
  refine ac_next ?_
  by_cases c6 : t4 = true
  ·rw [if_pos c6] at H
   refine aw_ifF ?_ (nF c6)
   refine aw_skip ?_
   refine ac_next ?_
   refine aw_grp1 ?_
   refine aw_grp1 ?_
   refine wk_start ?_
   refine kv g0 (faB 2 2) ?_
   refine kv g0 (ldB) ?_
   refine kv g0 (faB 2 2) ?_
   refine kv g0 (ldB) ?_
   obtain ⟨t7, A8, H⟩ := of_bind H
   refine kcS0 21 (.lit (.bool t7)) [] g0 (cal (laws_eqEarlyS.ok A8) [] 9999 .n (hf := Try.func60)) rfl rfl ?_
   refine kv g0 (not_) ?_
   refine wk_end ?_
   refine ac_next ?_
   by_cases c9 : t7 = true
   ·rw [if_pos c9] at H
    refine aw_ifF ?_ (nF c9)
    refine aw_skip ?_
    refine ac_next ?_
    refine aw_grp1 ?_
    refine aw_grp1 ?_
    refine wk_start ?_
    refine kv g0 (faB 3 3) ?_
    refine kv g0 (ldB) ?_
    refine kv g0 (faB 3 3) ?_
    refine kv g0 (ldB) ?_
    refine kv g0 (neq) ?_
    refine wk_end ?_
    refine ac_next ?_
    by_cases c10 : a0_3 = a1_3
    ·rw [if_pos c10] at H
     refine aw_ifF ?_ (eM c10)
     refine aw_skip ?_
     refine ac_next ?_
     refine aw_grp1 ?_
     refine aw_grp1 ?_
     refine wk_start ?_
     refine kv g0 (faB 4 4) ?_
     refine kv g0 (ldB) ?_
     refine kv g0 (faB 4 4) ?_
     refine kv g0 (ldB) ?_
     obtain ⟨t11, A12, H⟩ := of_bind H
     refine kcS0 32 (.lit (.bool t11)) [] g0 (cal (laws_eqIntS.ok A12) [] 9999 .n (hf := Try.func28)) rfl rfl ?_
     refine kv g0 (not_) ?_
     refine wk_end ?_
     refine ac_next ?_
     by_cases c13 : t11 = true
     ·rw [if_pos c13] at H
      refine aw_ifF ?_ (nF c13)
      refine aw_skip ?_
      refine ac_next ?_
      refine aw_grp1 ?_
      refine wk_start ?_
      refine kv g0 (asg) ?_
      refine wk_end ?_
      refine ac_next ?_
      refine aw_ret ?_
      obtain rfl := Option.some.inj H
      exact acr hE [.tmp 4] (.tmp .nil) (.one _) [] 9999
     rw [if_neg c13] at H
     refine aw_ifT ?_ (nT (bF c13))
     refine aw_grp1 ?_
     refine wk_start ?_
     refine kv g0 (asg) ?_
     refine wk_end ?_
     refine ac_next ?_
     refine aw_ret ?_
     refine ac_thenR ?_
     obtain rfl := Option.some.inj H
     exact acr hE [.tmp 4] (.tmp .nil) (.one _) [] 9999
    rw [if_neg c10] at H
    refine aw_ifT ?_ (eN c10)
    refine aw_grp1 ?_
    refine wk_start ?_
    refine kv g0 (asg) ?_
    refine wk_end ?_
    refine ac_next ?_
    refine aw_ret ?_
    refine ac_thenR ?_
    obtain rfl := Option.some.inj H
    exact acr hE [.tmp 4] (.tmp .nil) (.one _) [] 9999
   rw [if_neg c9] at H
   refine aw_ifT ?_ (nT (bF c9))
   refine aw_grp1 ?_
   refine wk_start ?_
   refine kv g0 (asg) ?_
   refine wk_end ?_
   refine ac_next ?_
   refine aw_ret ?_
   refine ac_thenR ?_
   obtain rfl := Option.some.inj H
   exact acr hE [.tmp 4] (.tmp .nil) (.one _) [] 9999
  rw [if_neg c6] at H
  refine aw_ifT ?_ (nT (bF c6))
  refine aw_grp1 ?_
  refine wk_start ?_
  refine kv g0 (asg) ?_
  refine wk_end ?_
  refine ac_next ?_
  refine aw_ret ?_
  refine ac_thenR ?_
  obtain rfl := Option.some.inj H
  exact acr hE [.tmp 4] (.tmp .nil) (.one _) [] 9999
 rw [if_neg c3] at H
 refine aw_ifT ?_ (nT (bF c3))
 refine aw_grp1 ?_
 refine wk_start ?_
 refine kv g0 (asg) ?_
 refine wk_end ?_
 refine ac_next ?_
 refine aw_ret ?_
 refine ac_thenR ?_
 obtain rfl := Option.some.inj H
 exact acr hE [.tmp 4] (.tmp .nil) (.one _) [] 9999
/-! laws_eqLetter -/
def laws_eqLetter.f (a0_0 : Bool) (a0_1 : ByteArray) (a0_2 : Bool) (a1_0 : Bool) (a1_1 : ByteArray) (a1_2 : Bool) : Option (Bool) := if a0_0 = a1_0 then if (a0_1.toList == a1_1.toList) = true then if a0_2 = a1_2 then some true else some false else some false else some false
theorem laws_eqLetter.ok {a0_0 : Bool} {a0_1 : ByteArray} {a0_2 : Bool} {a1_0 : Bool} {a1_1 : ByteArray} {a1_2 : Bool} {r : Bool} (H : laws_eqLetter.f a0_0 a0_1 a0_2 a1_0 a1_1 a1_2 = some r) : ACalls Try.prog 61 [] [.agg [.lit (.bool a0_0), .lit (.string a0_1), .lit (.bool a0_2)], .agg [.lit (.bool a1_0), .lit (.string a1_1), .lit (.bool a1_2)]] [] (.lit (.bool r)) := by
 refine acalls (fn := Try.f61) (nt := 20) Try.func61 rfl rfl (Nat.le_of_ble_eq_true rfl) fun E hE => ?_
 rw [laws_eqLetter.f] at H
 refine aw_grp1 ?_
 refine wk_start ?_
 refine kb g0 (bxA 0) ?_
 refine kb g0 (bxA 1) ?_
 refine kv g0 (asg) ?_
 refine wk_end ?_
 refine ac_next ?_
 refine aw_grp1 ?_
 refine aw_grp1 ?_
 refine wk_start ?_
 refine kv g0 (faB 0 0) ?_
 refine kv g0 (ldB) ?_
 refine kv g0 (faB 0 0) ?_
 refine kv g0 (ldB) ?_
 refine kv g0 (bne) ?_
 refine wk_end ?_
 refine ac_next ?_
 by_cases c1 : a0_0 = a1_0
 ·rw [if_pos c1] at H
  refine aw_ifF ?_ (nF (eTb c1))
  refine aw_skip ?_
  refine ac_next ?_
  refine aw_grp1 ?_
  refine aw_grp1 ?_
  refine wk_start ?_
  refine kv g0 (faB 1 1) ?_
  refine kv g0 (ldB) ?_
  refine kv g0 (faB 1 1) ?_
  refine kv g0 (ldB) ?_
  refine kv g0 (sne) ?_
  refine wk_end ?_
  refine ac_next ?_
  by_cases c2 : (a0_1.toList == a1_1.toList) = true
  ·rw [if_pos c2] at H
   refine aw_ifF ?_ (nF c2)
   refine aw_skip ?_
   refine ac_next ?_
   refine aw_grp1 ?_
   refine aw_grp1 ?_
   refine wk_start ?_
   refine kv g0 (faB 2 2) ?_
   refine kv g0 (ldB) ?_
   refine kv g0 (faB 2 2) ?_
   refine kv g0 (ldB) ?_
   refine kv g0 (bne) ?_
   refine wk_end ?_
   refine ac_next ?_
   by_cases c3 : a0_2 = a1_2
   ·rw [if_pos c3] at H
    refine aw_ifF ?_ (nF (eTb c3))
    refine aw_skip ?_
    refine ac_next ?_
    refine aw_grp1 ?_
    refine wk_start ?_
    refine kv g0 (asg) ?_
    refine wk_end ?_
    refine ac_next ?_
    refine aw_ret ?_
    obtain rfl := Option.some.inj H
    exact acr hE [.tmp 4] (.tmp .nil) (.one _) [] 9999
   rw [if_neg c3] at H
   refine aw_ifT ?_ (nT (eFb c3))
   refine aw_grp1 ?_
   refine wk_start ?_
   refine kv g0 (asg) ?_
   refine wk_end ?_
   refine ac_next ?_
   refine aw_ret ?_
   refine ac_thenR ?_
   obtain rfl := Option.some.inj H
   exact acr hE [.tmp 4] (.tmp .nil) (.one _) [] 9999
  rw [if_neg c2] at H
  refine aw_ifT ?_ (nT (bF c2))
  refine aw_grp1 ?_
  refine wk_start ?_
  refine kv g0 (asg) ?_
  refine wk_end ?_
  refine ac_next ?_
  refine aw_ret ?_
  refine ac_thenR ?_
  obtain rfl := Option.some.inj H
  exact acr hE [.tmp 4] (.tmp .nil) (.one _) [] 9999
 rw [if_neg c1] at H
 refine aw_ifT ?_ (nT (eFb c1))
 refine aw_grp1 ?_
 refine wk_start ?_
 refine kv g0 (asg) ?_
 refine wk_end ?_
 refine ac_next ?_
 refine aw_ret ?_
 refine ac_thenR ?_
 obtain rfl := Option.some.inj H
 exact acr hE [.tmp 4] (.tmp .nil) (.one _) [] 9999
/-! laws_eqLetterS -/
def laws_eqLetterS.l0 : Nat → (List S99) → (List S99) → Int → Option (Bool)
 | 0, _, _, _ => none
 | k9 + 1, l0, l1, p8 => if p8 < (l0.length : Int) then if 0 ≤ p8 then (if p8 < (l1.length : Int) then ((laws_eqLetter.f ((rd_T99 l0 p8).f0) ((rd_T99 l0 p8).f1) ((rd_T99 l0 p8).f2) ((rd_T99 l1 p8).f0) ((rd_T99 l1 p8).f1) ((rd_T99 l1 p8).f2)).bind fun t13 => if t13 = true then laws_eqLetterS.l0 k9 l0 l1 (wrap64 (p8 + 1)) else some false) else none) else none else some true
def laws_eqLetterS.f (k : Nat) (l0 : List S99) (l1 : List S99) : Option (Bool) := if (l0.length : Int) = (l1.length : Int) then laws_eqLetterS.l0 k l0 l1 0 else some false
theorem laws_eqLetterS.ok {k : Nat} {l0 : List S99} {l1 : List S99} {r : Bool} (H : laws_eqLetterS.f k l0 l1 = some r) : ACalls Try.prog 27 [] [.sl .o 3 (l0.map e99), .sl .o 3 (l1.map e99)] [] (.lit (.bool r)) := by
 refine acalls (fn := Try.f27) (nt := 27) Try.func27 rfl rfl (Nat.le_of_ble_eq_true rfl) fun E hE => ?_
 rw [laws_eqLetterS.f] at H
 refine aw_grp1 ?_
 refine wk_start ?_
 refine kv g0 (asg) ?_
 refine wk_end ?_
 refine ac_next ?_
 refine aw_grp1 ?_
 refine aw_grp1 ?_
 refine wk_start ?_
 refine kv g0 (mv) ?_
 refine kv g0 (lnS lenE) ?_
 refine kv g0 (mv) ?_
 refine kv g0 (lnS lenE) ?_
 refine kv g0 (neq) ?_
 refine wk_end ?_
 refine ac_next ?_
 by_cases c1 : (l0.length : Int) = (l1.length : Int)
 ·rw [if_pos c1] at H
  refine aw_ifF ?_ (eM c1)
  refine aw_skip ?_
  refine ac_next ?_
  refine aw_grp1 ?_
  refine aw_grp1 ?_
  refine wk_start ?_
  refine kv g0 (asg) ?_
  refine wk_end ?_
  refine ac_next ?_
  refine aw_block ?_
  refine aw_loop1 (fun (k_ : Nat) (p8 : Int) => k_ ≤ k ∧ laws_eqLetterS.l0 k_ l0 l1 p8 = some r) (fun (p8 : Int) => ⟨[(0, .sl .o 3 (l0.map e99)), (1, .sl .o 3 (l1.map e99)), (5, .lit (.int .i64 p8))], []⟩) k 0 ⟨Nat.le_refl _, H⟩ (fun K_ h_ => acw hE [] 9999 h_) (fun _ => by intro h_; have h_ := h_.2; rw [laws_eqLetterS.l0.eq_1] at h_; cases h_) ?_
  intro k9 p8 hq_ K16 hK17
  have hk9 := hq_.1
  have H := hq_.2
  clear hq_
  rw [laws_eqLetterS.l0.eq_2] at H
  refine aw_grp1 ?_
  refine aw_grp1 ?_
  refine wk_start ?_
  refine kv g0 (mv) ?_
  refine kv g0 (mv) ?_
  refine kv g0 (lnS lenE) ?_
  refine kv g0 (lss) ?_
  refine wk_end ?_
  refine ac_next ?_
  by_cases c10 : p8 < (l0.length : Int)
  ·rw [if_pos c10] at H
   refine aw_ifT ?_ (decide_eq_true c10)
   refine aw_skip ?_
   refine ac_next ?_
   refine aw_grp1 ?_
   refine aw_block ?_
   refine aw_grp1 ?_
   refine wk_start ?_
   refine kv g0 (mv) ?_
   refine kv g0 (mv) ?_
   obtain ⟨c11, H⟩ := of_if H
   refine kv g0 (ixS 99 (e99 (rd_T99 l0 p8)) c11 (getE (z := z99) c11 c10)) ?_
   refine kv g0 (ldRA 3 [.lit (.bool ((rd_T99 l0 p8).f0)), .lit (.string ((rd_T99 l0 p8).f1)), .lit (.bool ((rd_T99 l0 p8).f2))]) ?_
   refine kv g0 (mv) ?_
   refine kv g0 (mv) ?_
   obtain ⟨c12, H⟩ := of_if H
   refine kv g0 (ixS 99 (e99 (rd_T99 l1 p8)) c11 (getE (z := z99) c11 c12)) ?_
   refine kv g0 (ldRA 3 [.lit (.bool ((rd_T99 l1 p8).f0)), .lit (.string ((rd_T99 l1 p8).f1)), .lit (.bool ((rd_T99 l1 p8).f2))]) ?_
   obtain ⟨t13, A14, H⟩ := of_bind H
   refine kcS0 25 (.lit (.bool t13)) [] g0 (cal (laws_eqLetter.ok A14) [] 9999 .n (hf := Try.func61)) rfl rfl ?_
   refine kv g0 (not_) ?_
   refine wk_end_draw hM (by kernel_rfl) ?_
   refine ac_next ?_
   by_cases c15 : t13 = true
   ·rw [if_pos c15] at H
    refine aw_ifF ?_ (nF c15)
    refine aw_skip ?_
    refine ac_blkN ?_
    refine ac_next ?_
    refine wk_start ?_
    refine kv g0 (mv) ?_
    refine kv g0 (add6) ?_
    refine kv g0 (asg) ?_
    refine wk_end ?_
    refine ac_k ?_
    exact acw hE [] 9999 (hK17 k9 (wrap64 (p8 + 1)) (Nat.le_refl _) ⟨by omega, H⟩)
   rw [if_neg c15] at H
   refine aw_ifT ?_ (nT (bF c15))
   refine aw_grp1 ?_
   refine wk_start ?_
   refine kv g0 (asg) ?_
   refine wk_end ?_
   refine ac_next ?_
   refine aw_ret ?_
   refine ac_blkR ?_
   refine ac_thenR ?_
   refine ac_thenR ?_
   refine ac_blkR ?_
   refine ac_thenR ?_
   obtain rfl := Option.some.inj H
   exact acr hE [.tmp 4] (.tmp .nil) (.one _) [] 9999
  rw [if_neg c10] at H
  refine aw_ifF ?_ (decide_eq_false c10)
  refine aw_exit ?_
  refine ac_then ?_
  refine ac_then ?_
  refine ac_hit rfl ?_
  refine ac_next ?_
  refine aw_grp1 ?_
  refine wk_start ?_
  refine kv g0 (asg) ?_
  refine wk_end ?_
  refine ac_next ?_
  refine aw_ret ?_
  obtain rfl := Option.some.inj H
  exact acr hE [.tmp 4] (.tmp .nil) (.one _) [] 9999
 rw [if_neg c1] at H
 refine aw_ifT ?_ (eN c1)
 refine aw_grp1 ?_
 refine wk_start ?_
 refine kv g0 (asg) ?_
 refine wk_end ?_
 refine ac_next ?_
 refine aw_ret ?_
 refine ac_thenR ?_
 obtain rfl := Option.some.inj H
 exact acr hE [.tmp 4] (.tmp .nil) (.one _) [] 9999
/-! laws_eqWorld -/
def laws_eqWorld.f (k : Nat) (l0_0 : List (List (List S151))) (l0_1 : List S59) (l0_2 : List S62) (l0_3 : List S133) (l0_4 : List Int) (l0_5 : List S135) (a0_6 : Int) (l0_7 : List Int) (l0_8 : List S99) (a0_9 : Int) (l0_10 : List Int) (l0_11 : List S83) (l1_0 : List (List (List S151))) (l1_1 : List S59) (l1_2 : List S62) (l1_3 : List S133) (l1_4 : List Int) (l1_5 : List S135) (a1_6 : Int) (l1_7 : List Int) (l1_8 : List S99) (a1_9 : Int) (l1_10 : List Int) (l1_11 : List S83) : Option (Bool) := (laws_eqInsSSS.f k l0_0 l1_0).bind fun t1 => if t1 = true then (laws_eqRingS.f k l0_1 l1_1).bind fun t4 => if t4 = true then (laws_eqSenderS.f k l0_2 l1_2).bind fun t7 => if t7 = true then (laws_eqKeeper.f k l0_3 l0_4 l0_5 a0_6 l0_7 l1_3 l1_4 l1_5 a1_6 l1_7).bind fun t10 => if t10 = true then (laws_eqLetterS.f k l0_8 l1_8).bind fun t13 => if t13 = true then if a0_9 = a1_9 then (laws_eqIntS.f k l0_10 l1_10).bind fun t17 => if t17 = true then (laws_eqSeenS.f k l0_11 l1_11).bind fun t20 => if t20 = true then some true else some false else some false else some false else some false else some false else some false else some false else some false
theorem laws_eqWorld.ok {k : Nat} {l0_0 : List (List (List S151))} {l0_1 : List S59} {l0_2 : List S62} {l0_3 : List S133} {l0_4 : List Int} {l0_5 : List S135} {a0_6 : Int} {l0_7 : List Int} {l0_8 : List S99} {a0_9 : Int} {l0_10 : List Int} {l0_11 : List S83} {l1_0 : List (List (List S151))} {l1_1 : List S59} {l1_2 : List S62} {l1_3 : List S133} {l1_4 : List Int} {l1_5 : List S135} {a1_6 : Int} {l1_7 : List Int} {l1_8 : List S99} {a1_9 : Int} {l1_10 : List Int} {l1_11 : List S83} {r : Bool} (H : laws_eqWorld.f k l0_0 l0_1 l0_2 l0_3 l0_4 l0_5 a0_6 l0_7 l0_8 a0_9 l0_10 l0_11 l1_0 l1_1 l1_2 l1_3 l1_4 l1_5 a1_6 l1_7 l1_8 a1_9 l1_10 l1_11 = some r) : ACalls Try.prog 7 [] [.agg [.sl .o 1 (l0_0.map (eL 1 (eL 4 (e151)))), .sl .o 4 (l0_1.map e59), .sl .o 5 (l0_2.map e62), .sl .o 6 (l0_3.map e133), .sl .o 1 (l0_4.map (eI .i64)), .sl .o 6 (l0_5.map e135), .lit (.int .i64 a0_6), .sl .o 1 (l0_7.map (eI .i64)), .sl .o 3 (l0_8.map e99), .lit (.int .i64 a0_9), .sl .o 1 (l0_10.map (eI .i64)), .sl .o 4 (l0_11.map e83)], .agg [.sl .o 1 (l1_0.map (eL 1 (eL 4 (e151)))), .sl .o 4 (l1_1.map e59), .sl .o 5 (l1_2.map e62), .sl .o 6 (l1_3.map e133), .sl .o 1 (l1_4.map (eI .i64)), .sl .o 6 (l1_5.map e135), .lit (.int .i64 a1_6), .sl .o 1 (l1_7.map (eI .i64)), .sl .o 3 (l1_8.map e99), .lit (.int .i64 a1_9), .sl .o 1 (l1_10.map (eI .i64)), .sl .o 4 (l1_11.map e83)]] [] (.lit (.bool r)) := by
 refine acalls (fn := Try.f7) (nt := 52) Try.func7 rfl rfl (Nat.le_of_ble_eq_true rfl) fun E hE => ?_
 rw [laws_eqWorld.f] at H
 refine aw_grp1 ?_
 refine wk_start ?_
 refine kb g0 (bxA 0) ?_
 refine kb g0 (bxA 1) ?_
 refine kv g0 (asg) ?_
 refine wk_end ?_
 refine ac_next ?_
 refine aw_grp1 ?_
 refine aw_grp1 ?_
 refine wk_start ?_
 refine kv g0 (faB 0 0) ?_
 refine kv g0 (ldB) ?_
 refine kv g0 (faB 0 0) ?_
 refine kv g0 (ldB) ?_
 obtain ⟨t1, A2, H⟩ := of_bind H
 refine kcS0 9 (.lit (.bool t1)) [] g0 (cal (laws_eqInsSSS.ok A2) [] 9999 .n (hf := Try.func23)) rfl rfl ?_
 refine kv g0 (not_) ?_
 refine wk_end ?_
 refine ac_next ?_
 by_cases c3 : t1 = true
 ·rw [if_pos c3] at H
  refine aw_ifF ?_ (nF c3)
  refine aw_skip ?_
  refine ac_next ?_
  refine aw_grp1 ?_
  refine aw_grp1 ?_
  refine wk_start ?_
  refine kv g0 (faB 1 1) ?_
  refine kv g0 (ldB) ?_
  refine kv g0 (faB 1 1) ?_
  refine kv g0 (ldB) ?_
  obtain ⟨t4, A5, H⟩ := of_bind H
  refine kcS0 15 (.lit (.bool t4)) [] g0 (cal (laws_eqRingS.ok A5) [] 9999 .n (hf := Try.func24)) rfl rfl ?_
  refine kv g0 (not_) ?_
  refine wk_end ?_
  refine ac_next ?_
  by_cases c6 : t4 = true
  ·rw [if_pos c6] at H
   refine aw_ifF ?_ (nF c6)
   refine aw_skip ?_
   refine ac_next ?_
   refine aw_grp1 ?_
   refine aw_grp1 ?_
   refine wk_start ?_
   refine kv g0 (faB 2 2) ?_
   refine kv g0 (ldB) ?_
   refine kv g0 (faB 2 2) ?_
   refine kv g0 (ldB) ?_
   obtain ⟨t7, A8, H⟩ := of_bind H
   refine kcS0 21 (.lit (.bool t7)) [] g0 (cal (laws_eqSenderS.ok A8) [] 9999 .n (hf := Try.func25)) rfl rfl ?_
   refine kv g0 (not_) ?_
   refine wk_end ?_
   refine ac_next ?_
   by_cases c9 : t7 = true
   ·rw [if_pos c9] at H
    refine aw_ifF ?_ (nF c9)
    refine aw_skip ?_
    refine ac_next ?_
    refine aw_grp1 ?_
    refine aw_grp1 ?_
    refine wk_start ?_
    refine kv g0 (faB 3 3) ?_
    refine kv g0 (ldBA 5 [.sl .o 6 (l0_3.map e133), .sl .o 1 (l0_4.map (eI .i64)), .sl .o 6 (l0_5.map e135), .lit (.int .i64 a0_6), .sl .o 1 (l0_7.map (eI .i64))]) ?_
    refine kv g0 (faB 3 3) ?_
    refine kv g0 (ldBA 5 [.sl .o 6 (l1_3.map e133), .sl .o 1 (l1_4.map (eI .i64)), .sl .o 6 (l1_5.map e135), .lit (.int .i64 a1_6), .sl .o 1 (l1_7.map (eI .i64))]) ?_
    obtain ⟨t10, A11, H⟩ := of_bind H
    refine kcS0 27 (.lit (.bool t10)) [] g0 (cal (laws_eqKeeper.ok A11) [] 9999 .n (hf := Try.func26)) rfl rfl ?_
    refine kv g0 (not_) ?_
    refine wk_end ?_
    refine ac_next ?_
    by_cases c12 : t10 = true
    ·rw [if_pos c12] at H
     refine aw_ifF ?_ (nF c12)
     refine aw_skip ?_
     refine ac_next ?_
     refine aw_grp1 ?_
     refine aw_grp1 ?_
     refine wk_start ?_
     refine kv g0 (faB 8 8) ?_
     refine kv g0 (ldB) ?_
     refine kv g0 (faB 8 8) ?_
     refine kv g0 (ldB) ?_
     obtain ⟨t13, A14, H⟩ := of_bind H
     refine kcS0 33 (.lit (.bool t13)) [] g0 (cal (laws_eqLetterS.ok A14) [] 9999 .n (hf := Try.func27)) rfl rfl ?_
     refine kv g0 (not_) ?_
     refine wk_end ?_
     refine ac_next ?_
     by_cases c15 : t13 = true
     ·rw [if_pos c15] at H
      refine aw_ifF ?_ (nF c15)
      refine aw_skip ?_
      refine ac_next ?_
      refine aw_grp1 ?_
      refine aw_grp1 ?_
      refine wk_start ?_
      refine kv g0 (faB 9 9) ?_
      refine kv g0 (ldB) ?_
      refine kv g0 (faB 9 9) ?_
      refine kv g0 (ldB) ?_
      refine kv g0 (neq) ?_
      refine wk_end ?_
      refine ac_next ?_
      by_cases c16 : a0_9 = a1_9
      ·rw [if_pos c16] at H
       refine aw_ifF ?_ (eM c16)
       refine aw_skip ?_
       refine ac_next ?_
       refine aw_grp1 ?_
       refine aw_grp1 ?_
       refine wk_start ?_
       refine kv g0 (faB 10 10) ?_
       refine kv g0 (ldB) ?_
       refine kv g0 (faB 10 10) ?_
       refine kv g0 (ldB) ?_
       obtain ⟨t17, A18, H⟩ := of_bind H
       refine kcS0 44 (.lit (.bool t17)) [] g0 (cal (laws_eqIntS.ok A18) [] 9999 .n (hf := Try.func28)) rfl rfl ?_
       refine kv g0 (not_) ?_
       refine wk_end ?_
       refine ac_next ?_
       by_cases c19 : t17 = true
       ·rw [if_pos c19] at H
        refine aw_ifF ?_ (nF c19)
        refine aw_skip ?_
        refine ac_next ?_
        refine aw_grp1 ?_
        refine aw_grp1 ?_
        refine wk_start ?_
        refine kv g0 (faB 11 11) ?_
        refine kv g0 (ldB) ?_
        refine kv g0 (faB 11 11) ?_
        refine kv g0 (ldB) ?_
        obtain ⟨t20, A21, H⟩ := of_bind H
        refine kcS0 50 (.lit (.bool t20)) [] g0 (cal (laws_eqSeenS.ok A21) [] 9999 .n (hf := Try.func14)) rfl rfl ?_
        refine kv g0 (not_) ?_
        refine wk_end ?_
        refine ac_next ?_
        by_cases c22 : t20 = true
        ·rw [if_pos c22] at H
         refine aw_ifF ?_ (nF c22)
         refine aw_skip ?_
         refine ac_next ?_
         refine aw_grp1 ?_
         refine wk_start ?_
         refine kv g0 (asg) ?_
         refine wk_end ?_
         refine ac_next ?_
         refine aw_ret ?_
         obtain rfl := Option.some.inj H
         exact acr hE [.tmp 4] (.tmp .nil) (.one _) [] 9999
        rw [if_neg c22] at H
        refine aw_ifT ?_ (nT (bF c22))
        refine aw_grp1 ?_
        refine wk_start ?_
        refine kv g0 (asg) ?_
        refine wk_end ?_
        refine ac_next ?_
        refine aw_ret ?_
        refine ac_thenR ?_
        obtain rfl := Option.some.inj H
        exact acr hE [.tmp 4] (.tmp .nil) (.one _) [] 9999
       rw [if_neg c19] at H
       refine aw_ifT ?_ (nT (bF c19))
       refine aw_grp1 ?_
       refine wk_start ?_
       refine kv g0 (asg) ?_
       refine wk_end ?_
       refine ac_next ?_
       refine aw_ret ?_
       refine ac_thenR ?_
       obtain rfl := Option.some.inj H
       exact acr hE [.tmp 4] (.tmp .nil) (.one _) [] 9999
      rw [if_neg c16] at H
      refine aw_ifT ?_ (eN c16)
      refine aw_grp1 ?_
      refine wk_start ?_
      refine kv g0 (asg) ?_
      refine wk_end ?_
      refine ac_next ?_
      refine aw_ret ?_
      refine ac_thenR ?_
      obtain rfl := Option.some.inj H
      exact acr hE [.tmp 4] (.tmp .nil) (.one _) [] 9999
     rw [if_neg c15] at H
     refine aw_ifT ?_ (nT (bF c15))
     refine aw_grp1 ?_
     refine wk_start ?_
     refine kv g0 (asg) ?_
     refine wk_end ?_
     refine ac_next ?_
     refine aw_ret ?_
     refine ac_thenR ?_
     obtain rfl := Option.some.inj H
     exact acr hE [.tmp 4] (.tmp .nil) (.one _) [] 9999
    rw [if_neg c12] at H
    refine aw_ifT ?_ (nT (bF c12))
    refine aw_grp1 ?_
    refine wk_start ?_
    refine kv g0 (asg) ?_
    refine wk_end ?_
    refine ac_next ?_
    refine aw_ret ?_
    refine ac_thenR ?_
    obtain rfl := Option.some.inj H
    exact acr hE [.tmp 4] (.tmp .nil) (.one _) [] 9999
   rw [if_neg c9] at H
   refine aw_ifT ?_ (nT (bF c9))
   refine aw_grp1 ?_
   refine wk_start ?_
   refine kv g0 (asg) ?_
   refine wk_end ?_
   refine ac_next ?_
   refine aw_ret ?_
   refine ac_thenR ?_
   obtain rfl := Option.some.inj H
   exact acr hE [.tmp 4] (.tmp .nil) (.one _) [] 9999
  rw [if_neg c6] at H
  refine aw_ifT ?_ (nT (bF c6))
  refine aw_grp1 ?_
  refine wk_start ?_
  refine kv g0 (asg) ?_
  refine wk_end ?_
  refine ac_next ?_
  refine aw_ret ?_
  refine ac_thenR ?_
  obtain rfl := Option.some.inj H
  exact acr hE [.tmp 4] (.tmp .nil) (.one _) [] 9999
 rw [if_neg c3] at H
 refine aw_ifT ?_ (nT (bF c3))
 refine aw_grp1 ?_
 refine wk_start ?_
 refine kv g0 (asg) ?_
 refine wk_end ?_
 refine ac_next ?_
 refine aw_ret ?_
 refine ac_thenR ?_
 obtain rfl := Option.some.inj H
 exact acr hE [.tmp 4] (.tmp .nil) (.one _) [] 9999
/-! laws_markInsS -/
def laws_markInsS.l0 : Nat → (List S151) → Int → Int → Option (Int × (List S151))
 | 0, _, _, _ => none
 | k6 + 1, q3, p4, p5 => if p5 < (q3.length : Int) then if 0 ≤ p5 then laws_markInsS.l0 k6 (q3.set p5.toNat (⟨p4, wrap64 (p4 + 1), wrap64 ((wrap64 (p4 + 1)) + 1), wrap64 ((wrap64 ((wrap64 (p4 + 1)) + 1)) + 1)⟩ : S151)) (wrap64 ((wrap64 ((wrap64 ((wrap64 (p4 + 1)) + 1)) + 1)) + 1)) (wrap64 (p5 + 1)) else none else some (p4, q3)
def laws_markInsS.f (k : Nat) (l0 : List S151) (a1 : Int) : Option (Int × (List S151)) := laws_markInsS.l0 k l0 a1 0
theorem laws_markInsS.ok {k : Nat} {l0 : List S151} {a1 : Int} {r : Int × (List S151)} (H : laws_markInsS.f k l0 a1 = some r) : ACalls Try.prog 88 [(0, .row 151 4 (l0.map e151))] [.row 0, .lit (.int .i64 a1)] [(0, .row 151 4 (r.2.map e151))] (.lit (.int .i64 r.1)) := by
 refine acalls (fn := Try.f88) (nt := 41) Try.func88 rfl rfl (Nat.le_of_ble_eq_true rfl) fun E hE => ?_
 rw [laws_markInsS.f] at H
 refine aw_grp1 ?_
 refine wk_start ?_
 refine kv g0 (asg) ?_
 refine wk_end ?_
 refine ac_next ?_
 refine aw_grp1 ?_
 refine aw_grp1 ?_
 refine wk_start ?_
 refine kv g0 (asg) ?_
 refine wk_end ?_
 refine ac_next ?_
 refine aw_block ?_
 refine aw_loop3 (fun (k_ : Nat) (q3 : List S151) (p4 : Int) (p5 : Int) => k_ ≤ k ∧ laws_markInsS.l0 k_ q3 p4 p5 = some r) (fun (q3 : List S151) (p4 : Int) (p5 : Int) => ⟨[(0, .row 0), (1, .lit (.int .i64 p4)), (5, .lit (.int .i64 p5))], [(0, .row 151 4 (q3.map e151))]⟩) k l0 a1 0 ⟨Nat.le_refl _, H⟩ (fun K_ h_ => acw hE [(0, 0)] 9999 h_) (fun _ _ _ => by intro h_; have h_ := h_.2; rw [laws_markInsS.l0.eq_1] at h_; cases h_) ?_
 intro k6 q3 p4 p5 hq_ K9 hK10
 have hk6 := hq_.1
 have H := hq_.2
 clear hq_
 rw [laws_markInsS.l0.eq_2] at H
 refine aw_grp1 ?_
 refine aw_grp1 ?_
 refine wk_start ?_
 refine kv g0 (mv) ?_
 refine kv g0 (mv) ?_
 refine kv g0 (lnR lenE) ?_
 refine kv g0 (lss) ?_
 refine wk_end ?_
 refine ac_next ?_
 by_cases c7 : p5 < (q3.length : Int)
 ·rw [if_pos c7] at H
  refine aw_ifT ?_ (decide_eq_true c7)
  refine aw_skip ?_
  refine ac_next ?_
  refine aw_grp1 ?_
  refine aw_block ?_
  refine aw_grp1 ?_
  refine wk_start ?_
  refine kv g0 (mv) ?_
  refine kv g0 (mv) ?_
  refine kv g0 (mv) ?_
  obtain ⟨c8, H⟩ := of_if H
  refine kv g0 (ixR 151 c8 (ltE c7)) ?_
  refine kv g0 (faE 0 0) ?_
  refine ks g0 (stE 1 (e151 (⟨p4, (rd_T151 q3 p5).f1, (rd_T151 q3 p5).f2, (rd_T151 q3 p5).f3⟩ : S151)) ((q3.set p5.toNat (⟨p4, (rd_T151 q3 p5).f1, (rd_T151 q3 p5).f2, (rd_T151 q3 p5).f3⟩ : S151)).map e151) (getE (z := z151) c8 c7) setE) ?_
  refine wk_end ?_
  refine ac_next ?_
  refine aw_grp1 ?_
  refine wk_start ?_
  refine kv g0 (mv) ?_
  refine kv g0 (add6) ?_
  refine kv g0 (asg) ?_
  refine wk_end ?_
  refine ac_next ?_
  refine aw_grp1 ?_
  refine wk_start ?_
  refine kv g0 (mv) ?_
  refine kv g0 (mv) ?_
  refine kv g0 (mv) ?_
  refine kv g0 (ixR 151 c8 (ltE (ls c7))) ?_
  refine kv g0 (faE 1 1) ?_
  refine ks g0 (stE 1 (e151 (⟨p4, wrap64 (p4 + 1), (rd_T151 q3 p5).f2, (rd_T151 q3 p5).f3⟩ : S151)) ((q3.set p5.toNat (⟨p4, wrap64 (p4 + 1), (rd_T151 q3 p5).f2, (rd_T151 q3 p5).f3⟩ : S151)).map e151) (setG c8 (ls c7)) setE2) ?_
  refine wk_end ?_
  refine ac_next ?_
  refine aw_grp1 ?_
  refine wk_start ?_
  refine kv g0 (mv) ?_
  refine kv g0 (add6) ?_
  refine kv g0 (asg) ?_
  refine wk_end ?_
  refine ac_next ?_
  refine aw_grp1 ?_
  refine wk_start ?_
  refine kv g0 (mv) ?_
  refine kv g0 (mv) ?_
  refine kv g0 (mv) ?_
  refine kv g0 (ixR 151 c8 (ltE (ls c7))) ?_
  refine kv g0 (faE 2 2) ?_
  refine ks g0 (stE 1 (e151 (⟨p4, wrap64 (p4 + 1), wrap64 ((wrap64 (p4 + 1)) + 1), (rd_T151 q3 p5).f3⟩ : S151)) ((q3.set p5.toNat (⟨p4, wrap64 (p4 + 1), wrap64 ((wrap64 (p4 + 1)) + 1), (rd_T151 q3 p5).f3⟩ : S151)).map e151) (setG c8 (ls c7)) setE2) ?_
  refine wk_end ?_
  refine ac_next ?_
  refine aw_grp1 ?_
  refine wk_start ?_
  refine kv g0 (mv) ?_
  refine kv g0 (add6) ?_
  refine kv g0 (asg) ?_
  refine wk_end ?_
  refine ac_next ?_
  refine aw_grp1 ?_
  refine wk_start ?_
  refine kv g0 (mv) ?_
  refine kv g0 (mv) ?_
  refine kv g0 (mv) ?_
  refine kv g0 (ixR 151 c8 (ltE (ls c7))) ?_
  refine kv g0 (faE 3 3) ?_
  refine ks g0 (stE 1 (e151 (⟨p4, wrap64 (p4 + 1), wrap64 ((wrap64 (p4 + 1)) + 1), wrap64 ((wrap64 ((wrap64 (p4 + 1)) + 1)) + 1)⟩ : S151)) ((q3.set p5.toNat (⟨p4, wrap64 (p4 + 1), wrap64 ((wrap64 (p4 + 1)) + 1), wrap64 ((wrap64 ((wrap64 (p4 + 1)) + 1)) + 1)⟩ : S151)).map e151) (setG c8 (ls c7)) setE2) ?_
  refine wk_end ?_
  refine ac_next ?_
  refine wk_start ?_
  refine kv g0 (mv) ?_
  refine kv g0 (add6) ?_
  refine kv g0 (asg) ?_
  refine wk_end ?_
  refine ac_blkN ?_
  refine ac_next ?_
  refine wk_start ?_
  refine kv g0 (mv) ?_
  refine kv g0 (add6) ?_
  refine kv g0 (asg) ?_
  refine wk_end ?_
  refine ac_k ?_
  exact acw hE [(0, 0)] 9999 (hK10 k6 (q3.set p5.toNat (⟨p4, wrap64 (p4 + 1), wrap64 ((wrap64 (p4 + 1)) + 1), wrap64 ((wrap64 ((wrap64 (p4 + 1)) + 1)) + 1)⟩ : S151)) (wrap64 ((wrap64 ((wrap64 ((wrap64 (p4 + 1)) + 1)) + 1)) + 1)) (wrap64 (p5 + 1)) (Nat.le_refl _) ⟨by omega, H⟩)
 rw [if_neg c7] at H
 refine aw_ifF ?_ (decide_eq_false c7)
 refine aw_exit ?_
 refine ac_then ?_
 refine ac_then ?_
 refine ac_hit rfl ?_
 refine ac_next ?_
 refine aw_grp1 ?_
 refine wk_start ?_
 refine kv g0 (mv) ?_
 refine kv g0 (asg) ?_
 refine wk_end ?_
 refine ac_next ?_
 refine aw_ret ?_
 obtain rfl := Option.some.inj H
 exact acr hE [.tmp 4] (.tmp .nil) (.one _) [(0, 0)] 9999
/-! laws_markInsSS -/
def laws_markInsSS.l0 : Nat → (List (List S151)) → Int → Int → Option (Int × (List (List S151)))
 | 0, _, _, _ => none
 | k8 + 1, q5, p6, p7 => if p7 < (q5.length : Int) then if 0 ≤ p7 then ((laws_markInsS.f k8 (rdOf ([] : List S151) q5 p7) p6).bind fun t11 => laws_markInsSS.l0 k8 (q5.set p7.toNat t11.2) t11.1 (wrap64 (p7 + 1))) else none else some (p6, q5)
def laws_markInsSS.f (k : Nat) (l0 : List (List S151)) (a1 : Int) : Option (Int × (List (List S151))) := laws_markInsSS.l0 k l0 a1 0
theorem laws_markInsSS.ok {k : Nat} {l0 : List (List S151)} {a1 : Int} {r : Int × (List (List S151))} (H : laws_markInsSS.f k l0 a1 = some r) : ACalls Try.prog 62 [(0, .drow false [.own 151 []] 127 1 (l0.map (eL 4 (e151))))] [.row 0, .lit (.int .i64 a1)] [(0, .drow false [.own 151 []] 127 1 (r.2.map (eL 4 (e151))))] (.lit (.int .i64 r.1)) := by
 refine acalls (fn := Try.f62) (nt := 19) Try.func62 rfl rfl (Nat.le_of_ble_eq_true rfl) fun E hE => ?_
 rw [laws_markInsSS.f] at H
 refine aw_grp1 ?_
 refine wk_start ?_
 refine kv g0 (asg) ?_
 refine wk_end ?_
 refine ac_next ?_
 refine aw_grp1 ?_
 refine aw_grp1 ?_
 refine wk_start ?_
 refine kv g0 (asg) ?_
 refine wk_end ?_
 refine ac_next ?_
 refine aw_block ?_
 refine aw_loop3 (fun (k_ : Nat) (q5 : List (List S151)) (p6 : Int) (p7 : Int) => k_ ≤ k ∧ laws_markInsSS.l0 k_ q5 p6 p7 = some r) (fun (q5 : List (List S151)) (p6 : Int) (p7 : Int) => ⟨[(0, .row 0), (1, .lit (.int .i64 p6)), (5, .lit (.int .i64 p7))], [(0, .drow false [.own 151 []] 127 1 (q5.map (eL 4 (e151))))]⟩) k l0 a1 0 ⟨Nat.le_refl _, H⟩ (fun K_ h_ => acw hE [(0, 0)] 9999 h_) (fun _ _ _ => by intro h_; have h_ := h_.2; rw [laws_markInsSS.l0.eq_1] at h_; cases h_) ?_
 intro k8 q5 p6 p7 hq_ K13 hK14
 have hk8 := hq_.1
 have H := hq_.2
 clear hq_
 rw [laws_markInsSS.l0.eq_2] at H
 refine aw_grp1 ?_
 refine aw_grp1 ?_
 refine wk_start ?_
 refine kv g0 (mv) ?_
 refine kv g0 (mv) ?_
 refine kv g0 (lnD lenE) ?_
 refine kv g0 (lss) ?_
 refine wk_end ?_
 refine ac_next ?_
 by_cases c9 : p7 < (q5.length : Int)
 ·rw [if_pos c9] at H
  refine aw_ifT ?_ (decide_eq_true c9)
  refine aw_skip ?_
  refine ac_next ?_
  refine aw_grp1 ?_
  refine aw_block ?_
  refine wk_start ?_
  refine kv g0 (mv) ?_
  refine kv g0 (mv) ?_
  obtain ⟨c10, H⟩ := of_if H
  refine kv g0 (ixD 127 c10 (ltE c9)) ?_
  refine kcS2 15 (.row 1) [(0, .drow true [.own 151 []] 127 1 ((q5.map (eL 4 (e151))).set p7.toNat (.row 1))), (1, .row 151 4 ((rdOf ([] : List S151) q5 p7).map e151))] g0 (okv_gh (tk 0 1 0 (.row 1) (getE (f := eL 4 (e151)) (z := ([] : List S151)) c10 c9) (rfl) rfl) (ldD (.row 1) (setXG (f := eL 4 (e151)) (X := .row 1) c10 c9) rfl)).owp rfl rfl ?_
  refine kv g0 (mv) ?_
  obtain ⟨t11, A12, H⟩ := of_bind H
  refine kcS1 17 (.lit (.int .i64 t11.1)) [(1, .row 151 4 (t11.2.map e151))] g0 (cal (laws_markInsS.ok A12) [1] 9999 .n (hf := Try.func88)) rfl rfl ?_
  refine kv g0 (asg) ?_
  refine wk_end ?_
  refine ac_blkN ?_
  refine ac_next ?_
  refine wk_start ?_
  refine kv g0 (mv) ?_
  refine kv g0 (add6) ?_
  refine kv g0 (asg) ?_
  refine wk_end ?_
  refine ac_g2 (pk 0 1 0 (.sl .n 4 (t11.2.map e151)) (setXG (f := eL 4 (e151)) (X := .row 1) c10 c9) (setXX) rfl) ?_
  refine ac_g1 (sealD 0 (setSeal (f := eL 4 (e151)) p7.toNat t11.2) clL) ?_
  refine ac_k ?_
  exact acw hE [(0, 0)] 9999 (hK14 k8 (q5.set p7.toNat t11.2) t11.1 (wrap64 (p7 + 1)) (Nat.le_refl _) ⟨by omega, H⟩)
 rw [if_neg c9] at H
 refine aw_ifF ?_ (decide_eq_false c9)
 refine aw_exit ?_
 refine ac_then ?_
 refine ac_then ?_
 refine ac_hit rfl ?_
 refine ac_next ?_
 refine aw_grp1 ?_
 refine wk_start ?_
 refine kv g0 (mv) ?_
 refine kv g0 (asg) ?_
 refine wk_end ?_
 refine ac_next ?_
 refine aw_ret ?_
 obtain rfl := Option.some.inj H
 exact acr hE [.tmp 4] (.tmp .nil) (.one _) [(0, 0)] 9999
/-! laws_markInsSSS -/
def laws_markInsSSS.l0 : Nat → (List (List (List S151))) → Int → Int → Option (Int × (List (List (List S151))))
 | 0, _, _, _ => none
 | k8 + 1, q5, p6, p7 => if p7 < (q5.length : Int) then if 0 ≤ p7 then ((laws_markInsSS.f k8 (rdOf ([] : List (List S151)) q5 p7) p6).bind fun t11 => laws_markInsSSS.l0 k8 (q5.set p7.toNat t11.2) t11.1 (wrap64 (p7 + 1))) else none else some (p6, q5)
def laws_markInsSSS.f (k : Nat) (l0 : List (List (List S151))) (a1 : Int) : Option (Int × (List (List (List S151)))) := laws_markInsSSS.l0 k l0 a1 0
theorem laws_markInsSSS.ok {k : Nat} {l0 : List (List (List S151))} {a1 : Int} {r : Int × (List (List (List S151)))} (H : laws_markInsSSS.f k l0 a1 = some r) : ACalls Try.prog 29 [(0, .drow false [.own 127 [.own 151 []]] 56 1 (l0.map (eL 1 (eL 4 (e151)))))] [.row 0, .lit (.int .i64 a1)] [(0, .drow false [.own 127 [.own 151 []]] 56 1 (r.2.map (eL 1 (eL 4 (e151)))))] (.lit (.int .i64 r.1)) := by
 refine acalls (fn := Try.f29) (nt := 19) Try.func29 rfl rfl (Nat.le_of_ble_eq_true rfl) fun E hE => ?_
 rw [laws_markInsSSS.f] at H
 refine aw_grp1 ?_
 refine wk_start ?_
 refine kv g0 (asg) ?_
 refine wk_end ?_
 refine ac_next ?_
 refine aw_grp1 ?_
 refine aw_grp1 ?_
 refine wk_start ?_
 refine kv g0 (asg) ?_
 refine wk_end ?_
 refine ac_next ?_
 refine aw_block ?_
 refine aw_loop3 (fun (k_ : Nat) (q5 : List (List (List S151))) (p6 : Int) (p7 : Int) => k_ ≤ k ∧ laws_markInsSSS.l0 k_ q5 p6 p7 = some r) (fun (q5 : List (List (List S151))) (p6 : Int) (p7 : Int) => ⟨[(0, .row 0), (1, .lit (.int .i64 p6)), (5, .lit (.int .i64 p7))], [(0, .drow false [.own 127 [.own 151 []]] 56 1 (q5.map (eL 1 (eL 4 (e151)))))]⟩) k l0 a1 0 ⟨Nat.le_refl _, H⟩ (fun K_ h_ => acw hE [(0, 0)] 9999 h_) (fun _ _ _ => by intro h_; have h_ := h_.2; rw [laws_markInsSSS.l0.eq_1] at h_; cases h_) ?_
 intro k8 q5 p6 p7 hq_ K13 hK14
 have hk8 := hq_.1
 have H := hq_.2
 clear hq_
 rw [laws_markInsSSS.l0.eq_2] at H
 refine aw_grp1 ?_
 refine aw_grp1 ?_
 refine wk_start ?_
 refine kv g0 (mv) ?_
 refine kv g0 (mv) ?_
 refine kv g0 (lnD lenE) ?_
 refine kv g0 (lss) ?_
 refine wk_end ?_
 refine ac_next ?_
 by_cases c9 : p7 < (q5.length : Int)
 ·rw [if_pos c9] at H
  refine aw_ifT ?_ (decide_eq_true c9)
  refine aw_skip ?_
  refine ac_next ?_
  refine aw_grp1 ?_
  refine aw_block ?_
  refine wk_start ?_
  refine kv g0 (mv) ?_
  refine kv g0 (mv) ?_
  obtain ⟨c10, H⟩ := of_if H
  refine kv g0 (ixD 56 c10 (ltE c9)) ?_
  refine kcS2 15 (.row 1) [(0, .drow true [.own 127 [.own 151 []]] 56 1 ((q5.map (eL 1 (eL 4 (e151)))).set p7.toNat (.row 1))), (1, .drow false [.own 151 []] 127 1 ((rdOf ([] : List (List S151)) q5 p7).map (eL 4 (e151))))] g0 (okv_gh (tk 0 1 0 (.row 1) (getE (f := eL 1 (eL 4 (e151))) (z := ([] : List (List S151))) c10 c9) (rfl) rfl) (ldD (.row 1) (setXG (f := eL 1 (eL 4 (e151))) (X := .row 1) c10 c9) rfl)).owp rfl rfl ?_
  refine kv g0 (mv) ?_
  obtain ⟨t11, A12, H⟩ := of_bind H
  refine kcS1 17 (.lit (.int .i64 t11.1)) [(1, .drow false [.own 151 []] 127 1 (t11.2.map (eL 4 (e151))))] g0 (cal (laws_markInsSS.ok A12) [1] 9999 .n (hf := Try.func62)) rfl rfl ?_
  refine kv g0 (asg) ?_
  refine wk_end ?_
  refine ac_blkN ?_
  refine ac_next ?_
  refine wk_start ?_
  refine kv g0 (mv) ?_
  refine kv g0 (add6) ?_
  refine kv g0 (asg) ?_
  refine wk_end ?_
  refine ac_g2 (pk 0 1 0 (.sl .n 1 (t11.2.map (eL 4 (e151)))) (setXG (f := eL 1 (eL 4 (e151))) (X := .row 1) c10 c9) (setXX) rfl) ?_
  refine ac_g1 (sealD 0 (setSeal (f := eL 1 (eL 4 (e151))) p7.toNat t11.2) clL) ?_
  refine ac_k ?_
  exact acw hE [(0, 0)] 9999 (hK14 k8 (q5.set p7.toNat t11.2) t11.1 (wrap64 (p7 + 1)) (Nat.le_refl _) ⟨by omega, H⟩)
 rw [if_neg c9] at H
 refine aw_ifF ?_ (decide_eq_false c9)
 refine aw_exit ?_
 refine ac_then ?_
 refine ac_then ?_
 refine ac_hit rfl ?_
 refine ac_next ?_
 refine aw_grp1 ?_
 refine wk_start ?_
 refine kv g0 (mv) ?_
 refine kv g0 (asg) ?_
 refine wk_end ?_
 refine ac_next ?_
 refine aw_ret ?_
 obtain rfl := Option.some.inj H
 exact acr hE [.tmp 4] (.tmp .nil) (.one _) [(0, 0)] 9999
/-! laws_markItemS -/
def laws_markItemS.l0 : Nat → (List S131) → Int → Int → Option (Int × (List S131))
 | 0, _, _, _ => none
 | k6 + 1, q3, p4, p5 => if p5 < (q3.length : Int) then if 0 ≤ p5 then laws_markItemS.l0 k6 (q3.set p5.toNat (⟨p4, wrap64 (p4 + 1), wrap64 ((wrap64 (p4 + 1)) + 1), wrap64 ((wrap64 ((wrap64 (p4 + 1)) + 1)) + 1)⟩ : S131)) (wrap64 ((wrap64 ((wrap64 ((wrap64 (p4 + 1)) + 1)) + 1)) + 1)) (wrap64 (p5 + 1)) else none else some (p4, q3)
def laws_markItemS.f (k : Nat) (l0 : List S131) (a1 : Int) : Option (Int × (List S131)) := laws_markItemS.l0 k l0 a1 0
theorem laws_markItemS.ok {k : Nat} {l0 : List S131} {a1 : Int} {r : Int × (List S131)} (H : laws_markItemS.f k l0 a1 = some r) : ACalls Try.prog 63 [(0, .row 131 4 (l0.map e131))] [.row 0, .lit (.int .i64 a1)] [(0, .row 131 4 (r.2.map e131))] (.lit (.int .i64 r.1)) := by
 refine acalls (fn := Try.f63) (nt := 41) Try.func63 rfl rfl (Nat.le_of_ble_eq_true rfl) fun E hE => ?_
 rw [laws_markItemS.f] at H
 refine aw_grp1 ?_
 refine wk_start ?_
 refine kv g0 (asg) ?_
 refine wk_end ?_
 refine ac_next ?_
 refine aw_grp1 ?_
 refine aw_grp1 ?_
 refine wk_start ?_
 refine kv g0 (asg) ?_
 refine wk_end ?_
 refine ac_next ?_
 refine aw_block ?_
 refine aw_loop3 (fun (k_ : Nat) (q3 : List S131) (p4 : Int) (p5 : Int) => k_ ≤ k ∧ laws_markItemS.l0 k_ q3 p4 p5 = some r) (fun (q3 : List S131) (p4 : Int) (p5 : Int) => ⟨[(0, .row 0), (1, .lit (.int .i64 p4)), (5, .lit (.int .i64 p5))], [(0, .row 131 4 (q3.map e131))]⟩) k l0 a1 0 ⟨Nat.le_refl _, H⟩ (fun K_ h_ => acw hE [(0, 0)] 9999 h_) (fun _ _ _ => by intro h_; have h_ := h_.2; rw [laws_markItemS.l0.eq_1] at h_; cases h_) ?_
 intro k6 q3 p4 p5 hq_ K9 hK10
 have hk6 := hq_.1
 have H := hq_.2
 clear hq_
 rw [laws_markItemS.l0.eq_2] at H
 refine aw_grp1 ?_
 refine aw_grp1 ?_
 refine wk_start ?_
 refine kv g0 (mv) ?_
 refine kv g0 (mv) ?_
 refine kv g0 (lnR lenE) ?_
 refine kv g0 (lss) ?_
 refine wk_end ?_
 refine ac_next ?_
 by_cases c7 : p5 < (q3.length : Int)
 ·rw [if_pos c7] at H
  refine aw_ifT ?_ (decide_eq_true c7)
  refine aw_skip ?_
  refine ac_next ?_
  refine aw_grp1 ?_
  refine aw_block ?_
  refine aw_grp1 ?_
  refine wk_start ?_
  refine kv g0 (mv) ?_
  refine kv g0 (mv) ?_
  refine kv g0 (mv) ?_
  obtain ⟨c8, H⟩ := of_if H
  refine kv g0 (ixR 131 c8 (ltE c7)) ?_
  refine kv g0 (faE 0 0) ?_
  refine ks g0 (stE 1 (e131 (⟨p4, (rd_T131 q3 p5).f1, (rd_T131 q3 p5).f2, (rd_T131 q3 p5).f3⟩ : S131)) ((q3.set p5.toNat (⟨p4, (rd_T131 q3 p5).f1, (rd_T131 q3 p5).f2, (rd_T131 q3 p5).f3⟩ : S131)).map e131) (getE (z := z131) c8 c7) setE) ?_
  refine wk_end ?_
  refine ac_next ?_
  refine aw_grp1 ?_
  refine wk_start ?_
  refine kv g0 (mv) ?_
  refine kv g0 (add6) ?_
  refine kv g0 (asg) ?_
  refine wk_end ?_
  refine ac_next ?_
  refine aw_grp1 ?_
  refine wk_start ?_
  refine kv g0 (mv) ?_
  refine kv g0 (mv) ?_
  refine kv g0 (mv) ?_
  refine kv g0 (ixR 131 c8 (ltE (ls c7))) ?_
  refine kv g0 (faE 1 1) ?_
  refine ks g0 (stE 1 (e131 (⟨p4, wrap64 (p4 + 1), (rd_T131 q3 p5).f2, (rd_T131 q3 p5).f3⟩ : S131)) ((q3.set p5.toNat (⟨p4, wrap64 (p4 + 1), (rd_T131 q3 p5).f2, (rd_T131 q3 p5).f3⟩ : S131)).map e131) (setG c8 (ls c7)) setE2) ?_
  refine wk_end ?_
  refine ac_next ?_
  refine aw_grp1 ?_
  refine wk_start ?_
  refine kv g0 (mv) ?_
  refine kv g0 (add6) ?_
  refine kv g0 (asg) ?_
  refine wk_end ?_
  refine ac_next ?_
  refine aw_grp1 ?_
  refine wk_start ?_
  refine kv g0 (mv) ?_
  refine kv g0 (mv) ?_
  refine kv g0 (mv) ?_
  refine kv g0 (ixR 131 c8 (ltE (ls c7))) ?_
  refine kv g0 (faE 2 2) ?_
  refine ks g0 (stE 1 (e131 (⟨p4, wrap64 (p4 + 1), wrap64 ((wrap64 (p4 + 1)) + 1), (rd_T131 q3 p5).f3⟩ : S131)) ((q3.set p5.toNat (⟨p4, wrap64 (p4 + 1), wrap64 ((wrap64 (p4 + 1)) + 1), (rd_T131 q3 p5).f3⟩ : S131)).map e131) (setG c8 (ls c7)) setE2) ?_
  refine wk_end ?_
  refine ac_next ?_
  refine aw_grp1 ?_
  refine wk_start ?_
  refine kv g0 (mv) ?_
  refine kv g0 (add6) ?_
  refine kv g0 (asg) ?_
  refine wk_end ?_
  refine ac_next ?_
  refine aw_grp1 ?_
  refine wk_start ?_
  refine kv g0 (mv) ?_
  refine kv g0 (mv) ?_
  refine kv g0 (mv) ?_
  refine kv g0 (ixR 131 c8 (ltE (ls c7))) ?_
  refine kv g0 (faE 3 3) ?_
  refine ks g0 (stE 1 (e131 (⟨p4, wrap64 (p4 + 1), wrap64 ((wrap64 (p4 + 1)) + 1), wrap64 ((wrap64 ((wrap64 (p4 + 1)) + 1)) + 1)⟩ : S131)) ((q3.set p5.toNat (⟨p4, wrap64 (p4 + 1), wrap64 ((wrap64 (p4 + 1)) + 1), wrap64 ((wrap64 ((wrap64 (p4 + 1)) + 1)) + 1)⟩ : S131)).map e131) (setG c8 (ls c7)) setE2) ?_
  refine wk_end ?_
  refine ac_next ?_
  refine wk_start ?_
  refine kv g0 (mv) ?_
  refine kv g0 (add6) ?_
  refine kv g0 (asg) ?_
  refine wk_end ?_
  refine ac_blkN ?_
  refine ac_next ?_
  refine wk_start ?_
  refine kv g0 (mv) ?_
  refine kv g0 (add6) ?_
  refine kv g0 (asg) ?_
  refine wk_end ?_
  refine ac_k ?_
  exact acw hE [(0, 0)] 9999 (hK10 k6 (q3.set p5.toNat (⟨p4, wrap64 (p4 + 1), wrap64 ((wrap64 (p4 + 1)) + 1), wrap64 ((wrap64 ((wrap64 (p4 + 1)) + 1)) + 1)⟩ : S131)) (wrap64 ((wrap64 ((wrap64 ((wrap64 (p4 + 1)) + 1)) + 1)) + 1)) (wrap64 (p5 + 1)) (Nat.le_refl _) ⟨by omega, H⟩)
 rw [if_neg c7] at H
 refine aw_ifF ?_ (decide_eq_false c7)
 refine aw_exit ?_
 refine ac_then ?_
 refine ac_then ?_
 refine ac_hit rfl ?_
 refine ac_next ?_
 refine aw_grp1 ?_
 refine wk_start ?_
 refine kv g0 (mv) ?_
 refine kv g0 (asg) ?_
 refine wk_end ?_
 refine ac_next ?_
 refine aw_ret ?_
 obtain rfl := Option.some.inj H
 exact acr hE [.tmp 4] (.tmp .nil) (.one _) [(0, 0)] 9999
/-! laws_markRingS -/
def laws_markRingS.l0 : Nat → (List S59) → Int → Int → Option (Int × (List S59))
 | 0, _, _, _ => none
 | k8 + 1, q5, p6, p7 => if p7 < (q5.length : Int) then if 0 ≤ p7 then ((laws_markItemS.f k8 ((rd_T59 q5 p7).f0) p6).bind fun t11 => laws_markRingS.l0 k8 (q5.set p7.toNat (⟨t11.2, t11.1, wrap64 (t11.1 + 1), wrap64 ((wrap64 (t11.1 + 1)) + 1)⟩ : S59)) (wrap64 ((wrap64 ((wrap64 (t11.1 + 1)) + 1)) + 1)) (wrap64 (p7 + 1))) else none else some (p6, q5)
def laws_markRingS.f (k : Nat) (l0 : List S59) (a1 : Int) : Option (Int × (List S59)) := laws_markRingS.l0 k l0 a1 0
theorem laws_markRingS.ok {k : Nat} {l0 : List S59} {a1 : Int} {r : Int × (List S59)} (H : laws_markRingS.f k l0 a1 = some r) : ACalls Try.prog 30 [(0, .drow false ds59 59 4 (l0.map e59))] [.row 0, .lit (.int .i64 a1)] [(0, .drow false ds59 59 4 (r.2.map e59))] (.lit (.int .i64 r.1)) := by
 refine acalls (fn := Try.f30) (nt := 41) Try.func30 rfl rfl (Nat.le_of_ble_eq_true rfl) fun E hE => ?_
 rw [laws_markRingS.f] at H
 refine aw_grp1 ?_
 refine wk_start ?_
 refine kv g0 (asg) ?_
 refine wk_end ?_
 refine ac_next ?_
 refine aw_grp1 ?_
 refine aw_grp1 ?_
 refine wk_start ?_
 refine kv g0 (asg) ?_
 refine wk_end ?_
 refine ac_next ?_
 refine aw_block ?_
 refine aw_loop3 (fun (k_ : Nat) (q5 : List S59) (p6 : Int) (p7 : Int) => k_ ≤ k ∧ laws_markRingS.l0 k_ q5 p6 p7 = some r) (fun (q5 : List S59) (p6 : Int) (p7 : Int) => ⟨[(0, .row 0), (1, .lit (.int .i64 p6)), (5, .lit (.int .i64 p7))], [(0, .drow false ds59 59 4 (q5.map e59))]⟩) k l0 a1 0 ⟨Nat.le_refl _, H⟩ (fun K_ h_ => acw hE [(0, 0)] 9999 h_) (fun _ _ _ => by intro h_; have h_ := h_.2; rw [laws_markRingS.l0.eq_1] at h_; cases h_) ?_
 intro k8 q5 p6 p7 hq_ K13 hK14
 have hk8 := hq_.1
 have H := hq_.2
 clear hq_
 rw [laws_markRingS.l0.eq_2] at H
 refine aw_grp1 ?_
 refine aw_grp1 ?_
 refine wk_start ?_
 refine kv g0 (mv) ?_
 refine kv g0 (mv) ?_
 refine kv g0 (lnD lenE) ?_
 refine kv g0 (lss) ?_
 refine wk_end ?_
 refine ac_next ?_
 by_cases c9 : p7 < (q5.length : Int)
 ·rw [if_pos c9] at H
  refine aw_ifT ?_ (decide_eq_true c9)
  refine aw_skip ?_
  refine ac_next ?_
  refine aw_grp1 ?_
  refine aw_block ?_
  refine aw_grp1 ?_
  refine wk_start ?_
  refine kv g0 (mv) ?_
  refine kv g0 (mv) ?_
  obtain ⟨c10, H⟩ := of_if H
  refine kv g0 (ixD 59 c10 (ltE c9)) ?_
  refine kv g0 (faE 0 0) ?_
  refine kcS2 16 (.row 1) [(0, .drow true ds59 59 4 ((q5.map e59).set p7.toNat (.agg [.row 1, .lit (.int .i64 ((rd_T59 q5 p7).f1)), .lit (.int .i64 ((rd_T59 q5 p7).f2)), .lit (.int .i64 ((rd_T59 q5 p7).f3))]))), (1, .row 131 4 (((rd_T59 q5 p7).f0).map e131))] g0 (okv_gh (tk 0 1 0 (.agg [.row 1, .lit (.int .i64 ((rd_T59 q5 p7).f1)), .lit (.int .i64 ((rd_T59 q5 p7).f2)), .lit (.int .i64 ((rd_T59 q5 p7).f3))]) (getE (f := e59) (z := z59) c10 c9) (rfl) rfl) (ldD (.row 1) (setXG (f := e59) (X := .agg [.row 1, .lit (.int .i64 ((rd_T59 q5 p7).f1)), .lit (.int .i64 ((rd_T59 q5 p7).f2)), .lit (.int .i64 ((rd_T59 q5 p7).f3))]) c10 c9) rfl)).owp rfl rfl ?_
  refine kv g0 (mv) ?_
  obtain ⟨t11, A12, H⟩ := of_bind H
  refine kcS1 18 (.lit (.int .i64 t11.1)) [(1, .row 131 4 (t11.2.map e131))] g0 (cal (laws_markItemS.ok A12) [1] 9999 .n (hf := Try.func63)) rfl rfl ?_
  refine kv g0 (asg) ?_
  refine wk_end ?_
  refine ac_next ?_
  refine aw_grp1 ?_
  refine wk_start ?_
  refine kv g0 (mv) ?_
  refine kv g0 (mv) ?_
  refine kv g0 (mv) ?_
  refine kv g0 (ixD 59 c10 (ltS (ltE c9))) ?_
  refine kv g0 (faE 1 1) ?_
  refine ks g0 (stD 4 ds59 1 1 [.lit (.int .i64 t11.1)] (.agg [.row 1, .lit (.int .i64 t11.1), .lit (.int .i64 ((rd_T59 q5 p7).f2)), .lit (.int .i64 ((rd_T59 q5 p7).f3))]) (setXG (f := e59) (X := .agg [.row 1, .lit (.int .i64 ((rd_T59 q5 p7).f1)), .lit (.int .i64 ((rd_T59 q5 p7).f2)), .lit (.int .i64 ((rd_T59 q5 p7).f3))]) c10 c9) (setXX)) ?_
  refine wk_end ?_
  refine ac_next ?_
  refine aw_grp1 ?_
  refine wk_start ?_
  refine kv g0 (mv) ?_
  refine kv g0 (add6) ?_
  refine kv g0 (asg) ?_
  refine wk_end ?_
  refine ac_next ?_
  refine aw_grp1 ?_
  refine wk_start ?_
  refine kv g0 (mv) ?_
  refine kv g0 (mv) ?_
  refine kv g0 (mv) ?_
  refine kv g0 (ixD 59 c10 (ltS (ltE c9))) ?_
  refine kv g0 (faE 2 2) ?_
  refine ks g0 (stD 4 ds59 2 1 [.lit (.int .i64 (wrap64 (t11.1 + 1)))] (.agg [.row 1, .lit (.int .i64 t11.1), .lit (.int .i64 (wrap64 (t11.1 + 1))), .lit (.int .i64 ((rd_T59 q5 p7).f3))]) (setXG (f := e59) (X := .agg [.row 1, .lit (.int .i64 t11.1), .lit (.int .i64 ((rd_T59 q5 p7).f2)), .lit (.int .i64 ((rd_T59 q5 p7).f3))]) c10 c9) (setXX)) ?_
  refine wk_end ?_
  refine ac_next ?_
  refine aw_grp1 ?_
  refine wk_start ?_
  refine kv g0 (mv) ?_
  refine kv g0 (add6) ?_
  refine kv g0 (asg) ?_
  refine wk_end ?_
  refine ac_next ?_
  refine aw_grp1 ?_
  refine wk_start ?_
  refine kv g0 (mv) ?_
  refine kv g0 (mv) ?_
  refine kv g0 (mv) ?_
  refine kv g0 (ixD 59 c10 (ltS (ltE c9))) ?_
  refine kv g0 (faE 3 3) ?_
  refine ks g0 (stD 4 ds59 3 1 [.lit (.int .i64 (wrap64 ((wrap64 (t11.1 + 1)) + 1)))] (.agg [.row 1, .lit (.int .i64 t11.1), .lit (.int .i64 (wrap64 (t11.1 + 1))), .lit (.int .i64 (wrap64 ((wrap64 (t11.1 + 1)) + 1)))]) (setXG (f := e59) (X := .agg [.row 1, .lit (.int .i64 t11.1), .lit (.int .i64 (wrap64 (t11.1 + 1))), .lit (.int .i64 ((rd_T59 q5 p7).f3))]) c10 c9) (setXX)) ?_
  refine wk_end ?_
  refine ac_next ?_
  refine wk_start ?_
  refine kv g0 (mv) ?_
  refine kv g0 (add6) ?_
  refine kv g0 (asg) ?_
  refine wk_end ?_
  refine ac_blkN ?_
  refine ac_next ?_
  refine wk_start ?_
  refine kv g0 (mv) ?_
  refine kv g0 (add6) ?_
  refine kv g0 (asg) ?_
  refine wk_end ?_
  refine ac_g2 (pk 0 1 0 (.agg [.sl .n 4 (t11.2.map e131), .lit (.int .i64 t11.1), .lit (.int .i64 (wrap64 (t11.1 + 1))), .lit (.int .i64 (wrap64 ((wrap64 (t11.1 + 1)) + 1)))]) (setXG (f := e59) (X := .agg [.row 1, .lit (.int .i64 t11.1), .lit (.int .i64 (wrap64 (t11.1 + 1))), .lit (.int .i64 (wrap64 ((wrap64 (t11.1 + 1)) + 1)))]) c10 c9) (setXX) rfl) ?_
  refine ac_g1 (sealD 0 (setSeal (f := e59) p7.toNat (⟨t11.2, t11.1, wrap64 (t11.1 + 1), wrap64 ((wrap64 (t11.1 + 1)) + 1)⟩ : S59)) cl59) ?_
  refine ac_k ?_
  exact acw hE [(0, 0)] 9999 (hK14 k8 (q5.set p7.toNat (⟨t11.2, t11.1, wrap64 (t11.1 + 1), wrap64 ((wrap64 (t11.1 + 1)) + 1)⟩ : S59)) (wrap64 ((wrap64 ((wrap64 (t11.1 + 1)) + 1)) + 1)) (wrap64 (p7 + 1)) (Nat.le_refl _) ⟨by omega, H⟩)
 rw [if_neg c9] at H
 refine aw_ifF ?_ (decide_eq_false c9)
 refine aw_exit ?_
 refine ac_then ?_
 refine ac_then ?_
 refine ac_hit rfl ?_
 refine ac_next ?_
 refine aw_grp1 ?_
 refine wk_start ?_
 refine kv g0 (mv) ?_
 refine kv g0 (asg) ?_
 refine wk_end ?_
 refine ac_next ?_
 refine aw_ret ?_
 obtain rfl := Option.some.inj H
 exact acr hE [.tmp 4] (.tmp .nil) (.one _) [(0, 0)] 9999
end Go.Proofs.Ytkkglhhkpihmgaa.PFnExactFiledOf
