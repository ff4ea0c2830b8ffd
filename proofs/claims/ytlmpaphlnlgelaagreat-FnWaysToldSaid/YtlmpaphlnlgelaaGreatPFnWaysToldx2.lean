import Derived.Test.YtlmpaphlnlgelaaGreatPFnWaysToldx1
set_option linter.unusedVariables false
set_option linter.unusedSimpArgs false
set_option maxRecDepth 100000
namespace Go.Proofs.YtlmpaphlnlgelaaGreat.PFnWaysTold
open Go Go.RowKit Go.Proofs.YtlmpaphlnlgelaaGreatA
/-! spec_l10Put -/
mutual
def spec_l10Put.l0 : Nat → (List Int) → Int → (List Int) → Int → Option ((List Int))
 | 0, _, _, _, _ => none
 | k10 + 1, l0, a1, q8, p9 => if p9 < (l0.length : Int) then if 0 ≤ p9 then if (rd l0 p9) < a1 then (if q8.length + ([(rd l0 p9)] : List Int).length < 17592186044416 then spec_l10Put.l0 k10 l0 a1 (q8 ++ ([(rd l0 p9)] : List Int)) (wrap64 (p9 + 1)) else none) else spec_l10Put.l0 k10 l0 a1 q8 (wrap64 (p9 + 1)) else none else if q8.length + ([a1] : List Int).length < 17592186044416 then spec_l10Put.l1 k10 l0 a1 (q8 ++ ([a1] : List Int)) 0 else none
def spec_l10Put.l1 : Nat → (List Int) → Int → (List Int) → Int → Option ((List Int))
 | 0, _, _, _, _ => none
 | k24 + 1, l0, a1, q22, p23 => if p23 < (l0.length : Int) then if 0 ≤ p23 then if (rd l0 p23) > a1 then (if q22.length + ([(rd l0 p23)] : List Int).length < 17592186044416 then spec_l10Put.l1 k24 l0 a1 (q22 ++ ([(rd l0 p23)] : List Int)) (wrap64 (p23 + 1)) else none) else spec_l10Put.l1 k24 l0 a1 q22 (wrap64 (p23 + 1)) else none else some q22
end
def spec_l10Put.f (k : Nat) (l0 : List Int) (a1 : Int) : Option ((List Int)) := (spec_l09In.f k l0 a1).bind fun t1 => if t1 = true then some l0 else spec_l10Put.l0 k l0 a1 ([] : List Int) 0
theorem spec_l10Put.ok {k : Nat} {l0 : List Int} {a1 : Int} {r : (List Int)} (H : spec_l10Put.f k l0 a1 = some r) : ACalls Tryz.prog 96 [(0, .row 3 1 (l0.map (eI .i64)))] [.row 0, .lit (.int .i64 a1)] [(0, .gone), (1, .row 3 1 (r.map (eI .i64)))] (.row 1) := by
 refine acalls (fn := Tryz.f96) (nt := 56) Tryz.func96 rfl rfl (Nat.le_of_ble_eq_true rfl) fun E hE => ?_
 rw [spec_l10Put.f] at H
 refine aw_grp1 ?_
 refine wk_start ?_
 refine kv g0 (asg) ?_
 refine wk_end ?_
 refine ac_next ?_
 refine aw_grp1 ?_
 refine aw_grp1 ?_
 refine wk_start ?_
 refine kv g0 (mv) ?_
 refine kv g0 (mv) ?_
 obtain ⟨t1, A2, H⟩ := of_bind H
 refine kcS0 10 (.lit (.bool t1)) [] g0 (cal (spec_l09In.ok A2) [] 9999 .n (hf := Tryz.func51)) rfl rfl ?_
 refine wk_end ?_
 refine ac_next ?_
 by_cases c3 : t1 = true
 ·rw [if_pos c3] at H
  refine aw_ifT ?_ c3
  refine aw_grp1 ?_
  refine wk_start ?_
  refine kv g0 (mv) ?_
  refine kv g0 (asg) ?_
  refine wk_end ?_
  refine ac_next ?_
  refine aw_ret ?_
  refine ac_thenR ?_
  refine ac_rs 4 l0.length ?_ (List.length_map ..)
  refine ac_pre 4 8 (l0.map (eI .i64)) ?_ takeL
  obtain rfl := Option.some.inj H
  exact acr hE [.tmp 4] (.tmp .nil) (.one _) [(0, 0), (1, 8)] 9999
 rw [if_neg c3] at H
 refine aw_ifF ?_ (bF c3)
 refine aw_skip ?_
 refine ac_next ?_
 refine aw_grp1 ?_
 refine wk_start ?_
 refine kb g0 (bsl 1 3 1 [.int .i64 0] (([] : List Int).map (eI .i64))) ?_
 refine kv g0 (asg) ?_
 refine wk_end ?_
 refine ac_next ?_
 refine aw_grp1 ?_
 refine aw_grp1 ?_
 refine wk_start ?_
 refine kv g0 (asg) ?_
 refine wk_end ?_
 refine ac_next ?_
 refine aw_block ?_
 refine aw_loop2 (fun (k_ : Nat) (q8 : List Int) (p9 : Int) => k_ ≤ k ∧ spec_l10Put.l0 k_ l0 a1 q8 p9 = some r) (fun (q8 : List Int) (p9 : Int) => ⟨[(0, .row 0), (1, .lit (.int .i64 a1)), (5, .row 1), (6, .lit (.int .i64 p9))], [(0, .row 3 1 (l0.map (eI .i64))), (1, .row 3 1 (q8.map (eI .i64)))]⟩) k ([] : List Int) 0 ⟨Nat.le_refl _, H⟩ (fun K_ h_ => acw hE [(0, 0), (1, 1)] 9999 h_) (fun _ _ => by intro h_; have h_ := h_.2; rw [spec_l10Put.l0.eq_1] at h_; cases h_) ?_
 intro k10 q8 p9 hq_ K15 hK16
 have hk10 := hq_.1
 have H := hq_.2
 clear hq_
 rw [spec_l10Put.l0.eq_2] at H
 refine aw_grp1 ?_
 refine aw_grp1 ?_
 refine wk_start ?_
 refine kv g0 (mv) ?_
 refine kv g0 (mv) ?_
 refine kv g0 (lnR lenE) ?_
 refine kv g0 (lss) ?_
 refine wk_end ?_
 refine ac_next ?_
 by_cases c11 : p9 < (l0.length : Int)
 ·rw [if_pos c11] at H
  refine aw_ifT ?_ (decide_eq_true c11)
  refine aw_skip ?_
  refine ac_next ?_
  refine aw_grp1 ?_
  refine aw_block ?_
  refine aw_grp1 ?_
  refine wk_start ?_
  refine kv g0 (mv) ?_
  refine kv g0 (mv) ?_
  obtain ⟨c12, H⟩ := of_if H
  refine kv g0 (ixR 3 c12 (ltE c11)) ?_
  refine kv g0 (ldE (eI .i64 (rd l0 p9)) (.lit (.int .i64 (rd l0 p9))) (getE (z := (0 : Int)) c12 c11)) ?_
  refine kv g0 (mv) ?_
  refine kv g0 (lss) ?_
  refine wk_end ?_
  refine ac_next ?_
  by_cases c13 : (rd l0 p9) < a1
  ·rw [if_pos c13] at H
   refine aw_ifT ?_ (decide_eq_true c13)
   refine wk_start ?_
   refine kv g0 (mv) ?_
   refine kv g0 (mv) ?_
   refine kv g0 (mv) ?_
   refine kv g0 (ixR 3 c12 (ltE c11)) ?_
   refine kv g0 (ldE (eI .i64 (rd l0 p9)) (.lit (.int .i64 (rd l0 p9))) (getE (z := (0 : Int)) c12 c11)) ?_
   refine kb g0 (bsl 2 3 1 [.int .i64 0] (([(rd l0 p9)] : List Int).map (eI .i64))) ?_
   obtain ⟨c14, H⟩ := of_if H
   refine kc g0 (apR 3 3 1 8 [.int .i64 0] ((q8 ++ ([(rd l0 p9)] : List Int)).map (eI .i64)) (.row rfl) (apb c14 rfl) appE) ?_
   refine kv g0 (asg) ?_
   refine wk_end ?_
   refine ac_blkN ?_
   refine ac_next ?_
   refine wk_start ?_
   refine kv g0 (mv) ?_
   refine kv g0 (add6) ?_
   refine kv g0 (asg) ?_
   refine wk_end ?_
   refine ac_k ?_
   exact acw hE [(0, 0), (1, 3)] 9999 (hK16 k10 (q8 ++ ([(rd l0 p9)] : List Int)) (wrap64 (p9 + 1)) (Nat.le_refl _) ⟨by omega, H⟩)
  rw [if_neg c13] at H
  refine aw_ifF ?_ (decide_eq_false c13)
  refine aw_skip ?_
  refine ac_blkN ?_
  refine ac_next ?_
  refine wk_start ?_
  refine kv g0 (mv) ?_
  refine kv g0 (add6) ?_
  refine kv g0 (asg) ?_
  refine wk_end ?_
  refine ac_k ?_
  exact acw hE [(0, 0), (1, 1)] 9999 (hK16 k10 q8 (wrap64 (p9 + 1)) (Nat.le_refl _) ⟨by omega, H⟩)
 rw [if_neg c11] at H
 refine aw_ifF ?_ (decide_eq_false c11)
 refine aw_exit ?_
 refine ac_then ?_
 refine ac_then ?_
 refine ac_hit rfl ?_
 refine ac_next ?_
 refine aw_grp1 ?_
 refine wk_start ?_
 refine kv g0 (mv) ?_
 refine kv g0 (mv) ?_
 refine kb g0 (bsl 4 3 1 [.int .i64 0] (([a1] : List Int).map (eI .i64))) ?_
 obtain ⟨c17, H⟩ := of_if H
 refine kc g0 (apR 5 3 1 8 [.int .i64 0] ((q8 ++ ([a1] : List Int)).map (eI .i64)) (.row rfl) (apb c17 rfl) appE) ?_
 refine kv g0 (asg) ?_
 refine wk_end ?_
 refine ac_next ?_
 refine aw_grp1 ?_
 refine aw_grp1 ?_
 refine wk_start ?_
 refine kv g0 (asg) ?_
 refine wk_end ?_
 refine ac_next ?_
 refine aw_block ?_
 refine aw_loop2 (fun (k_ : Nat) (q22 : List Int) (p23 : Int) => k_ ≤ k10 ∧ spec_l10Put.l1 k_ l0 a1 q22 p23 = some r) (fun (q22 : List Int) (p23 : Int) => ⟨[(0, .row 0), (1, .lit (.int .i64 a1)), (5, .row 5), (7, .lit (.int .i64 p23))], [(0, .row 3 1 (l0.map (eI .i64))), (5, .row 3 1 (q22.map (eI .i64)))]⟩) k10 (q8 ++ ([a1] : List Int)) 0 ⟨Nat.le_refl _, H⟩ (fun K_ h_ => acw hE [(0, 0), (5, 5)] 9999 h_) (fun _ _ => by intro h_; have h_ := h_.2; rw [spec_l10Put.l1.eq_1] at h_; cases h_) ?_
 intro k24 q22 p23 hq_ K29 hK30
 have hk24 := hq_.1
 have H := hq_.2
 clear hq_
 rw [spec_l10Put.l1.eq_2] at H
 refine aw_grp1 ?_
 refine aw_grp1 ?_
 refine wk_start ?_
 refine kv g0 (mv) ?_
 refine kv g0 (mv) ?_
 refine kv g0 (lnR lenE) ?_
 refine kv g0 (lss) ?_
 refine wk_end ?_
 refine ac_next ?_
 by_cases c25 : p23 < (l0.length : Int)
 ·rw [if_pos c25] at H
  refine aw_ifT ?_ (decide_eq_true c25)
  refine aw_skip ?_
  refine ac_next ?_
  refine aw_grp1 ?_
  refine aw_block ?_
  refine aw_grp1 ?_
  refine wk_start ?_
  refine kv g0 (mv) ?_
  refine kv g0 (mv) ?_
  obtain ⟨c26, H⟩ := of_if H
  refine kv g0 (ixR 3 c26 (ltE c25)) ?_
  refine kv g0 (ldE (eI .i64 (rd l0 p23)) (.lit (.int .i64 (rd l0 p23))) (getE (z := (0 : Int)) c26 c25)) ?_
  refine kv g0 (mv) ?_
  refine kv g0 (gtr) ?_
  refine wk_end ?_
  refine ac_next ?_
  by_cases c27 : (rd l0 p23) > a1
  ·rw [if_pos c27] at H
   refine aw_ifT ?_ (decide_eq_true c27)
   refine wk_start ?_
   refine kv g0 (mv) ?_
   refine kv g0 (mv) ?_
   refine kv g0 (mv) ?_
   refine kv g0 (ixR 3 c26 (ltE c25)) ?_
   refine kv g0 (ldE (eI .i64 (rd l0 p23)) (.lit (.int .i64 (rd l0 p23))) (getE (z := (0 : Int)) c26 c25)) ?_
   refine kb g0 (bsl 6 3 1 [.int .i64 0] (([(rd l0 p23)] : List Int).map (eI .i64))) ?_
   obtain ⟨c28, H⟩ := of_if H
   refine kc g0 (apR 7 3 1 8 [.int .i64 0] ((q22 ++ ([(rd l0 p23)] : List Int)).map (eI .i64)) (.row rfl) (apb c28 rfl) appE) ?_
   refine kv g0 (asg) ?_
   refine wk_end ?_
   refine ac_blkN ?_
   refine ac_next ?_
   refine wk_start ?_
   refine kv g0 (mv) ?_
   refine kv g0 (add6) ?_
   refine kv g0 (asg) ?_
   refine wk_end ?_
   refine ac_k ?_
   exact acw hE [(0, 0), (5, 7)] 9999 (hK30 k24 (q22 ++ ([(rd l0 p23)] : List Int)) (wrap64 (p23 + 1)) (Nat.le_refl _) ⟨by omega, H⟩)
  rw [if_neg c27] at H
  refine aw_ifF ?_ (decide_eq_false c27)
  refine aw_skip ?_
  refine ac_blkN ?_
  refine ac_next ?_
  refine wk_start ?_
  refine kv g0 (mv) ?_
  refine kv g0 (add6) ?_
  refine kv g0 (asg) ?_
  refine wk_end ?_
  refine ac_k ?_
  exact acw hE [(0, 0), (5, 5)] 9999 (hK30 k24 q22 (wrap64 (p23 + 1)) (Nat.le_refl _) ⟨by omega, H⟩)
 rw [if_neg c25] at H
 refine aw_ifF ?_ (decide_eq_false c25)
 refine aw_exit ?_
 refine ac_then ?_
 refine ac_then ?_
 refine ac_hit rfl ?_
 refine ac_next ?_
 refine aw_grp1 ?_
 refine wk_start ?_
 refine kv g0 (mv) ?_
 refine kv g0 (asg) ?_
 refine wk_end ?_
 refine ac_next ?_
 refine aw_ret ?_
 refine ac_g1 (gh_drop 0) ?_
 obtain rfl := Option.some.inj H
 exact acr hE [.tmp 4] (.tmp .nil) (.one _) [(0, 0), (1, 5)] 9999
/-! spec_NumsOf -/
mutual
def spec_NumsOf.l0 : Nat → Int → Int → Int → (List S77) → Int → (List Int) → Int → Option ((List Int))
 | 0, _, _, _, _, _, _, _ => none
 | k27 + 1, a0_0, a0_1, a0_2, l0_3, p17, q25, p26 => if 0 ≤ p17 then if p26 < (((rd_T77 l0_3 p17).f0).length : Int) then if 0 ≤ p26 then ((spec_l10Put.f k27 q25 (rd ((rd_T77 l0_3 p17).f0) p26)).bind fun t31 => spec_NumsOf.l0 k27 a0_0 a0_1 a0_2 l0_3 p17 t31 (wrap64 (p26 + 1))) else none else spec_NumsOf.l1 k27 a0_0 a0_1 a0_2 l0_3 q25 (wrap64 (p17 + 1)) else none
def spec_NumsOf.l1 : Nat → Int → Int → Int → (List S77) → (List Int) → Int → Option ((List Int))
 | 0, _, _, _, _, _, _ => none
 | k18 + 1, a0_0, a0_1, a0_2, l0_3, q16, p17 => if p17 < (l0_3.length : Int) then spec_NumsOf.l0 k18 a0_0 a0_1 a0_2 l0_3 p17 q16 0 else some q16
end
def spec_NumsOf.f (k : Nat) (a0_0 : Int) (a0_1 : Int) (a0_2 : Int) (l0_3 : List S77) : Option ((List Int)) := spec_NumsOf.l1 k a0_0 a0_1 a0_2 l0_3 ([] : List Int) 0
theorem spec_NumsOf.ok {k : Nat} {a0_0 : Int} {a0_1 : Int} {a0_2 : Int} {l0_3 : List S77} {r : (List Int)} (H : spec_NumsOf.f k a0_0 a0_1 a0_2 l0_3 = some r) : ACalls Tryz.prog 83 [] [.agg [.lit (.int .i64 a0_0), .lit (.int .i64 a0_1), .lit (.int .i64 a0_2), .sl .o 4 (l0_3.map e77)]] [(0, .row 3 1 (r.map (eI .i64)))] (.row 0) := by
 refine acalls (fn := Tryz.f83) (nt := 37) Tryz.func83 rfl rfl (Nat.le_of_ble_eq_true rfl) fun E hE => ?_
 rw [spec_NumsOf.f] at H
 refine aw_grp1 ?_
 refine wk_start ?_
 refine kb g0 (bxA 0) ?_
 refine kv g0 (asg) ?_
 refine wk_end ?_
 refine ac_next ?_
 refine aw_grp1 ?_
 refine wk_start ?_
 refine kb g0 (bsl 1 3 1 [.int .i64 0] (([] : List Int).map (eI .i64))) ?_
 refine kv g0 (asg) ?_
 refine wk_end ?_
 refine ac_next ?_
 refine aw_grp1 ?_
 refine aw_grp1 ?_
 refine wk_start ?_
 refine kv g0 (asg) ?_
 refine wk_end ?_
 refine ac_next ?_
 refine aw_block ?_
 refine aw_loop2 (fun (k_ : Nat) (q16 : List Int) (p17 : Int) => k_ ≤ k ∧ spec_NumsOf.l1 k_ a0_0 a0_1 a0_2 l0_3 q16 p17 = some r) (fun (q16 : List Int) (p17 : Int) => ⟨[(1, .box 0 0), (3, .row 1), (4, .lit (.int .i64 p17))], [(0, .box 65 [.lit (.int .i64 a0_0), .lit (.int .i64 a0_1), .lit (.int .i64 a0_2), .sl .o 4 (l0_3.map e77)]), (1, .row 3 1 (q16.map (eI .i64)))]⟩) k ([] : List Int) 0 ⟨Nat.le_refl _, H⟩ (fun K_ h_ => acw hE [(0, 0), (1, 1)] 9999 h_) (fun _ _ => by intro h_; have h_ := h_.2; rw [spec_NumsOf.l1.eq_1] at h_; cases h_) ?_
 intro k18 q16 p17 hq_ K35 hK36
 have hk18 := hq_.1
 have H := hq_.2
 clear hq_
 rw [spec_NumsOf.l1.eq_2] at H
 refine aw_grp1 ?_
 refine aw_grp1 ?_
 refine wk_start ?_
 refine kv g0 (mv) ?_
 refine kv g0 (faB 3 3) ?_
 refine kv g0 (ldB) ?_
 refine kv g0 (lnS lenE) ?_
 refine kv g0 (lss) ?_
 refine wk_end ?_
 refine ac_next ?_
 by_cases c19 : p17 < (l0_3.length : Int)
 ·rw [if_pos c19] at H
  refine aw_ifT ?_ (decide_eq_true c19)
  refine aw_skip ?_
  refine ac_next ?_
  refine aw_grp1 ?_
  refine aw_block ?_
  refine aw_grp1 ?_
  refine wk_start ?_
  refine kv g0 (asg) ?_
  refine wk_end ?_
  refine ac_next ?_
  refine aw_block ?_
  refine aw_loop2 (fun (k_ : Nat) (q25 : List Int) (p26 : Int) => k_ ≤ k18 ∧ spec_NumsOf.l0 k_ a0_0 a0_1 a0_2 l0_3 p17 q25 p26 = some r) (fun (q25 : List Int) (p26 : Int) => ⟨[(1, .box 0 0), (3, .row 1), (4, .lit (.int .i64 p17)), (5, .lit (.int .i64 p26))], [(0, .box 65 [.lit (.int .i64 a0_0), .lit (.int .i64 a0_1), .lit (.int .i64 a0_2), .sl .o 4 (l0_3.map e77)]), (1, .row 3 1 (q25.map (eI .i64)))]⟩) k18 q16 0 ⟨Nat.le_refl _, H⟩ (fun K_ h_ => acw hE [(0, 0), (1, 1)] 9999 h_) (fun _ _ => by intro h_; have h_ := h_.2; rw [spec_NumsOf.l0.eq_1] at h_; cases h_) ?_
  intro k27 q25 p26 hq_ K33 hK34
  have hk27 := hq_.1
  have H := hq_.2
  clear hq_
  rw [spec_NumsOf.l0.eq_2] at H
  refine aw_grp1 ?_
  refine aw_grp1 ?_
  refine wk_start ?_
  refine kv g0 (mv) ?_
  refine kv g0 (faB 3 3) ?_
  refine kv g0 (ldB) ?_
  refine kv g0 (mv) ?_
  obtain ⟨c28, H⟩ := of_if H
  refine kv g0 (ixS 77 (e77 (rd_T77 l0_3 p17)) c28 (getE (z := z77) c28 c19)) ?_
  refine kv g0 (faR 0 0) ?_
  refine kv g0 (ldR (.sl .o 1 (((rd_T77 l0_3 p17).f0).map (eI .i64)))) ?_
  refine kv g0 (lnS lenE) ?_
  refine kv g0 (lss) ?_
  refine wk_end ?_
  refine ac_next ?_
  by_cases c29 : p26 < (((rd_T77 l0_3 p17).f0).length : Int)
  ·rw [if_pos c29] at H
   refine aw_ifT ?_ (decide_eq_true c29)
   refine aw_skip ?_
   refine ac_next ?_
   refine aw_grp1 ?_
   refine aw_block ?_
   refine wk_start ?_
   refine kv g0 (mv) ?_
   refine kv g0 (faB 3 3) ?_
   refine kv g0 (ldB) ?_
   refine kv g0 (mv) ?_
   refine kv g0 (ixS 77 (e77 (rd_T77 l0_3 p17)) c28 (getE (z := z77) c28 c19)) ?_
   refine kv g0 (faR 0 0) ?_
   refine kv g0 (ldR (.sl .o 1 (((rd_T77 l0_3 p17).f0).map (eI .i64)))) ?_
   refine kv g0 (mv) ?_
   obtain ⟨c30, H⟩ := of_if H
   refine kv g0 (ixS 3 (eI .i64 (rd ((rd_T77 l0_3 p17).f0) p26)) c30 (getE (z := (0 : Int)) c30 c29)) ?_
   refine kv g0 (ldR (.lit (.int .i64 (rd ((rd_T77 l0_3 p17).f0) p26)))) ?_
   obtain ⟨t31, A32, H⟩ := of_bind H
   refine kcS2 35 (.row 2) [(1, .gone), (2, .row 3 1 (t31.map (eI .i64)))] g0 (cal (spec_l10Put.ok A32) [1, 2] 9999 .n (hf := Tryz.func96)) rfl rfl ?_
   refine kv g0 (asg) ?_
   refine wk_end ?_
   refine ac_blkN ?_
   refine ac_next ?_
   refine wk_start ?_
   refine kv g0 (mv) ?_
   refine kv g0 (add6) ?_
   refine kv g0 (asg) ?_
   refine wk_end ?_
   refine ac_k ?_
   exact acw hE [(0, 0), (1, 2)] 9999 (hK34 k27 t31 (wrap64 (p26 + 1)) (Nat.le_refl _) ⟨by omega, H⟩)
  rw [if_neg c29] at H
  refine aw_ifF ?_ (decide_eq_false c29)
  refine aw_exit ?_
  refine ac_then ?_
  refine ac_then ?_
  refine ac_hit rfl ?_
  refine ac_blkN ?_
  refine ac_next ?_
  refine wk_start ?_
  refine kv g0 (mv) ?_
  refine kv g0 (add6) ?_
  refine kv g0 (asg) ?_
  refine wk_end ?_
  refine ac_k ?_
  exact acw hE [(0, 0), (1, 1)] 9999 (hK36 k27 q25 (wrap64 (p17 + 1)) (by omega) ⟨by omega, H⟩)
 rw [if_neg c19] at H
 refine aw_ifF ?_ (decide_eq_false c19)
 refine aw_exit ?_
 refine ac_then ?_
 refine ac_then ?_
 refine ac_hit rfl ?_
 refine ac_next ?_
 refine aw_grp1 ?_
 refine wk_start ?_
 refine kv g0 (mv) ?_
 refine kv g0 (asg) ?_
 refine wk_end ?_
 refine ac_next ?_
 refine aw_ret ?_
 obtain rfl := Option.some.inj H
 exact acr hE [.tmp 2] (.tmp .nil) (.one _) [(0, 1)] 9999
/-! spec_l01Figure -/
def spec_l01Figure.f (a0 : Int) : Option (Int) := if a0 < 10 then some (IntKind.u8.wrap (wrap64 (48 + a0))) else some (IntKind.u8.wrap (wrap64 ((wrap64 (97 + a0)) - 10)))
theorem spec_l01Figure.ok {a0 : Int} {r : Int} (H : spec_l01Figure.f a0 = some r) : ACalls Tryz.prog 107 [] [.lit (.int .i64 a0)] [] (.lit (.int .u8 r)) := by
 refine acalls (fn := Tryz.f107) (nt := 12) Tryz.func107 rfl rfl (Nat.le_of_ble_eq_true rfl) fun E hE => ?_
 rw [spec_l01Figure.f] at H
 refine aw_grp1 ?_
 refine wk_start ?_
 refine kv g0 (asg) ?_
 refine wk_end ?_
 refine ac_next ?_
 refine aw_grp1 ?_
 refine aw_grp1 ?_
 refine wk_start ?_
 refine kv g0 (mv) ?_
 refine kv g0 (lss) ?_
 refine wk_end ?_
 refine ac_next ?_
 by_cases c1 : a0 < 10
 ·rw [if_pos c1] at H
  refine aw_ifT ?_ (decide_eq_true c1)
  refine aw_grp1 ?_
  refine wk_start ?_
  refine kv g0 (mv) ?_
  refine kv g0 (add6) ?_
  refine kv g0 (cnv .u8) ?_
  refine kv g0 (asg) ?_
  refine wk_end ?_
  refine ac_next ?_
  refine aw_ret ?_
  refine ac_thenR ?_
  obtain rfl := Option.some.inj H
  exact acr hE [.tmp 2] (.tmp .nil) (.one _) [] 9999
 rw [if_neg c1] at H
 refine aw_ifF ?_ (decide_eq_false c1)
 refine aw_skip ?_
 refine ac_next ?_
 refine aw_grp1 ?_
 refine wk_start ?_
 refine kv g0 (mv) ?_
 refine kv g0 (add6) ?_
 refine kv g0 (sub6) ?_
 refine kv g0 (cnv .u8) ?_
 refine kv g0 (asg) ?_
 refine wk_end ?_
 refine ac_next ?_
 refine aw_ret ?_
 obtain rfl := Option.some.inj H
 exact acr hE [.tmp 2] (.tmp .nil) (.one _) [] 9999
/-! spec_Decimal -/
mutual
def spec_Decimal.j0 : Nat → Int → Int → ByteArray → Int → Option (ByteArray)
 | 0, _, _, _, _ => none
 | k16 + 1, a0, p10, p11, p15 => (spec_l01Figure.f p15).bind fun t17 => (if (strOfNums ([t17] : List Int)).size + p11.size ≤ 9223372036854775807 then spec_Decimal.l0 k16 a0 (wrap64 (p10.tdiv 10)) ((strOfNums ([t17] : List Int)) ++ p11) else none)
def spec_Decimal.l0 : Nat → Int → Int → ByteArray → Option (ByteArray)
 | 0, _, _, _ => none
 | k12 + 1, a0, p10, p11 => if p10 = 0 then if a0 < 0 then (if (⟨#[45]⟩ : ByteArray).size + p11.size ≤ 9223372036854775807 then some ((⟨#[45]⟩ : ByteArray) ++ p11) else none) else some p11 else if (p10.tmod 10) < 0 then spec_Decimal.j0 k12 a0 p10 p11 (wrap64 (0 - (p10.tmod 10))) else spec_Decimal.j0 k12 a0 p10 p11 (p10.tmod 10)
end
def spec_Decimal.f (k : Nat) (a0 : Int) : Option (ByteArray) := if a0 = 0 then some (⟨#[48]⟩ : ByteArray) else spec_Decimal.l0 k a0 a0 ByteArray.empty
theorem spec_Decimal.ok {k : Nat} {a0 : Int} {r : ByteArray} (H : spec_Decimal.f k a0 = some r) : ACalls Tryz.prog 105 [] [.lit (.int .i64 a0)] [] (.lit (.string r)) := by
 refine acalls (fn := Tryz.f105) (nt := 30) Tryz.func105 rfl rfl (Nat.le_of_ble_eq_true rfl) fun E hE => ?_
 rw [spec_Decimal.f] at H
 refine aw_grp1 ?_
 refine wk_start ?_
 refine kv g0 (asg) ?_
 refine wk_end ?_
 refine ac_next ?_
 refine aw_grp1 ?_
 refine aw_grp1 ?_
 refine wk_start ?_
 refine kv g0 (mv) ?_
 refine kv g0 (eql) ?_
 refine wk_end ?_
 refine ac_next ?_
 by_cases c1 : a0 = 0
 ·rw [if_pos c1] at H
  refine aw_ifT ?_ (eT c1)
  refine aw_grp1 ?_
  refine wk_start ?_
  refine kv g0 (asg) ?_
  refine wk_end ?_
  refine ac_next ?_
  refine aw_ret ?_
  refine ac_thenR ?_
  obtain rfl := Option.some.inj H
  exact acr hE [.tmp 2] (.tmp .nil) (.one _) [] 9999
 rw [if_neg c1] at H
 refine aw_ifF ?_ (eF c1)
 refine aw_skip ?_
 refine ac_next ?_
 refine aw_grp1 ?_
 refine wk_start ?_
 refine kv g0 (mv) ?_
 refine kv g0 (lss) ?_
 refine kv g0 (asg) ?_
 refine wk_end ?_
 refine ac_next ?_
 refine aw_grp1 ?_
 refine wk_start ?_
 refine kv g0 (asg) ?_
 refine wk_end ?_
 refine ac_next ?_
 refine aw_grp1 ?_
 refine aw_block ?_
 refine aw_loop2 (fun (k_ : Nat) (p10 : Int) (p11 : ByteArray) => k_ ≤ k ∧ spec_Decimal.l0 k_ a0 p10 p11 = some r) (fun (p10 : Int) (p11 : ByteArray) => ⟨[(0, .lit (.int .i64 p10)), (3, .lit (.bool (decide (a0 < 0)))), (4, .lit (.string p11))], []⟩) k a0 ByteArray.empty ⟨Nat.le_refl _, H⟩ (fun K_ h_ => acw hE [] 9999 h_) (fun _ _ => by intro h_; have h_ := h_.2; rw [spec_Decimal.l0.eq_1] at h_; cases h_) ?_
 intro k12 p10 p11 hq_ K21 hK22
 have hk12 := hq_.1
 have H := hq_.2
 clear hq_
 rw [spec_Decimal.l0.eq_2] at H
 refine aw_grp1 ?_
 refine aw_grp1 ?_
 refine wk_start ?_
 refine kv g0 (mv) ?_
 refine kv g0 (neq) ?_
 refine wk_end ?_
 refine ac_next ?_
 by_cases c13 : p10 = 0
 ·rw [if_pos c13] at H
  refine aw_ifF ?_ (eM c13)
  refine aw_exit ?_
  refine ac_then ?_
  refine ac_then ?_
  refine ac_hit rfl ?_
  refine ac_next ?_
  refine aw_grp1 ?_
  refine aw_grp1 ?_
  refine wk_start ?_
  refine kv g0 (mv) ?_
  refine wk_end ?_
  refine ac_next ?_
  by_cases c23 : a0 < 0
  ·rw [if_pos c23] at H
   refine aw_ifT ?_ (decide_eq_true c23)
   refine aw_grp1 ?_
   refine wk_start ?_
   refine kv g0 (mv) ?_
   obtain ⟨c24, H⟩ := of_if H
   refine kv g0 (cat c24) ?_
   refine kv g0 (asg) ?_
   refine wk_end ?_
   refine ac_next ?_
   refine aw_ret ?_
   refine ac_thenR ?_
   obtain rfl := Option.some.inj H
   exact acr hE [.tmp 2] (.tmp .nil) (.one _) [] 9999
  rw [if_neg c23] at H
  refine aw_ifF ?_ (decide_eq_false c23)
  refine aw_skip ?_
  refine ac_next ?_
  refine aw_grp1 ?_
  refine wk_start ?_
  refine kv g0 (mv) ?_
  refine kv g0 (asg) ?_
  refine wk_end ?_
  refine ac_next ?_
  refine aw_ret ?_
  obtain rfl := Option.some.inj H
  exact acr hE [.tmp 2] (.tmp .nil) (.one _) [] 9999
 rw [if_neg c13] at H
 refine aw_ifT ?_ (eN c13)
 refine aw_skip ?_
 refine ac_next ?_
 refine aw_block ?_
 refine aw_grp1 ?_
 refine wk_start ?_
 refine kv g0 (mv) ?_
 refine kv g0 (rem (by decide : (10 : Int) ≠ 0)) ?_
 refine kv g0 (asg) ?_
 refine wk_end ?_
 refine ac_next ?_
 refine aw_cut1 (J := fun K_ => ∀ (k_ : Nat) (p15 : Int), k_ ≤ k12 → spec_Decimal.j0 k_ a0 p10 p11 p15 = some r → ACont E 30 ⟨[(0, .lit (.int .i64 p10)), (3, .lit (.bool (decide (a0 < 0)))), (4, .lit (.string p11)), (5, .lit (.int .i64 p15))], []⟩ K_) ?_ ?_
 ·intro K_ hJ20
  refine aw_grp1 ?_
  refine wk_start ?_
  refine kv g0 (mv) ?_
  refine kv g0 (lss) ?_
  refine wk_end ?_
  refine ac_next ?_
  by_cases c14 : (p10.tmod 10) < 0
  ·rw [if_pos c14] at H
   refine aw_ifT ?_ (decide_eq_true c14)
   refine wk_start ?_
   refine kv g0 (mv) ?_
   refine kv g0 (neg6) ?_
   refine kv g0 (asg) ?_
   refine wk_end ?_
   refine ac_k ?_
   exact acw hE [] 9999 (hJ20 k12 (wrap64 (0 - (p10.tmod 10))) (Nat.le_refl _) H)
  rw [if_neg c14] at H
  refine aw_ifF ?_ (decide_eq_false c14)
  refine aw_skip ?_
  refine ac_k ?_
  exact acw hE [] 9999 (hJ20 k12 (p10.tmod 10) (Nat.le_refl _) H)
 intro k_ p15 hk_ H
 rcases k_ with _ | k16
 ·rw [spec_Decimal.j0.eq_1] at H; cases H
 have hk16 : k16 ≤ k12 := by omega
 clear hk_
 rw [spec_Decimal.j0.eq_2] at H
 refine aw_grp1 ?_
 refine wk_start ?_
 refine kv g0 (mv) ?_
 obtain ⟨t17, A18, H⟩ := of_bind H
 refine kcS0 19 (.lit (.int .u8 t17)) [] g0 (cal (spec_l01Figure.ok A18) [] 9999 .n (hf := Tryz.func107)) rfl rfl ?_
 refine kb g0 (bsl 0 5 1 [.int .u8 0] (([t17] : List Int).map (eI .u8))) ?_
 refine kv g0 (cvB (.row rfl)) ?_
 refine kv g0 (mv) ?_
 obtain ⟨c19, H⟩ := of_if H
 refine kv g0 (cat c19) ?_
 refine kv g0 (asg) ?_
 refine wk_end ?_
 refine ac_next ?_
 refine wk_start ?_
 refine kv g0 (mv) ?_
 refine kv g0 (quo6 (by decide : (10 : Int) ≠ 0)) ?_
 refine kv g0 (asg) ?_
 refine wk_end ?_
 refine ac_blkN ?_
 refine ac_k ?_
 exact acw hE [] 9999 (hK22 k16 (wrap64 (p10.tdiv 10)) ((strOfNums ([t17] : List Int)) ++ p11) (by omega) ⟨by omega, H⟩)
/-! spec_l12Half -/
def spec_l12Half.f (a0_0 : Int) (a0_1 : Int) (a0_2 : Int) (a0_3 : Int) (a0_4 : Int) (a0_5 : Int) (a1 : Bool) : Option ((List S94)) := if a1 = true then ((spec_l11Word.f 1 (wrap64 (3 + (wrap64 (2 * a0_0))))).bind fun t2 => ((spec_l11Word.f 2 a0_1).bind fun t4 => some ([(⟨t2.1, (⟨t2.2.1, t2.2.2.1, t2.2.2.2.1, t2.2.2.2.2.1⟩ : S41), t2.2.2.2.2.2.1, t2.2.2.2.2.2.2⟩ : S94), (⟨t4.1, (⟨t4.2.1, t4.2.2.1, t4.2.2.2.1, t4.2.2.2.2.1⟩ : S41), t4.2.2.2.2.2.1, t4.2.2.2.2.2.2⟩ : S94)] : List S94))) else (spec_l11Word.f 1 (wrap64 (2 + (wrap64 (2 * a0_0))))).bind fun t6 => ((spec_l11Word.f 2 a0_2).bind fun t8 => some ([(⟨t6.1, (⟨t6.2.1, t6.2.2.1, t6.2.2.2.1, t6.2.2.2.2.1⟩ : S41), t6.2.2.2.2.2.1, t6.2.2.2.2.2.2⟩ : S94), (⟨t8.1, (⟨t8.2.1, t8.2.2.1, t8.2.2.2.1, t8.2.2.2.2.1⟩ : S41), t8.2.2.2.2.2.1, t8.2.2.2.2.2.2⟩ : S94)] : List S94))
theorem spec_l12Half.ok {a0_0 : Int} {a0_1 : Int} {a0_2 : Int} {a0_3 : Int} {a0_4 : Int} {a0_5 : Int} {a1 : Bool} {r : (List S94)} (H : spec_l12Half.f a0_0 a0_1 a0_2 a0_3 a0_4 a0_5 a1 = some r) : ACalls Tryz.prog 110 [] [.agg [.lit (.int .i64 a0_0), .lit (.int .i64 a0_1), .lit (.int .i64 a0_2), .lit (.int .i64 a0_3), .lit (.int .i64 a0_4), .lit (.int .i64 a0_5)], .lit (.bool a1)] [(0, .row 94 7 (r.map e94))] (.row 0) := by
 refine acalls (fn := Tryz.f110) (nt := 26) Tryz.func110 rfl rfl (Nat.le_of_ble_eq_true rfl) fun E hE => ?_
 rw [spec_l12Half.f] at H
 refine aw_grp1 ?_
 refine wk_start ?_
 refine kb g0 (bxA 0) ?_
 refine kv g0 (asg) ?_
 refine wk_end ?_
 refine ac_next ?_
 refine aw_grp1 ?_
 refine aw_grp1 ?_
 refine wk_start ?_
 refine kv g0 (mv) ?_
 refine wk_end ?_
 refine ac_next ?_
 by_cases c1 : a1 = true
 ·rw [if_pos c1] at H
  refine aw_ifT ?_ c1
  refine aw_grp1 ?_
  refine wk_start ?_
  refine kv g0 (faB 0 0) ?_
  refine kv g0 (ldB) ?_
  refine kv g0 (mul6) ?_
  refine kv g0 (add6) ?_
  obtain ⟨t2, A3, H⟩ := of_bind H
  refine kcS0 10 (.agg [.lit (.string t2.1), .lit (.int .i64 t2.2.1), .lit (.int .i64 t2.2.2.1), .lit (.int .i64 t2.2.2.2.1), .lit (.int .i64 t2.2.2.2.2.1), .lit (.string t2.2.2.2.2.2.1), .lit (.string t2.2.2.2.2.2.2)]) [] g0 (cal (spec_l11Word.ok A3) [] 9999 .n (hf := Tryz.func80)) rfl rfl ?_
  refine kv g0 (faB 1 1) ?_
  refine kv g0 (faB 0 1) ?_
  refine kv g0 (ldB) ?_
  obtain ⟨t4, A5, H⟩ := of_bind H
  refine kcS0 14 (.agg [.lit (.string t4.1), .lit (.int .i64 t4.2.1), .lit (.int .i64 t4.2.2.1), .lit (.int .i64 t4.2.2.2.1), .lit (.int .i64 t4.2.2.2.2.1), .lit (.string t4.2.2.2.2.2.1), .lit (.string t4.2.2.2.2.2.2)]) [] g0 (cal (spec_l11Word.ok A5) [] 9999 .n (hf := Tryz.func80)) rfl rfl ?_
  refine kb g0 (bsl 1 94 7 [.string .empty, .int .i64 0, .int .i64 0, .int .i64 0, .int .i64 0, .string .empty, .string .empty] (([(⟨t2.1, (⟨t2.2.1, t2.2.2.1, t2.2.2.2.1, t2.2.2.2.2.1⟩ : S41), t2.2.2.2.2.2.1, t2.2.2.2.2.2.2⟩ : S94), (⟨t4.1, (⟨t4.2.1, t4.2.2.1, t4.2.2.2.1, t4.2.2.2.2.1⟩ : S41), t4.2.2.2.2.2.1, t4.2.2.2.2.2.2⟩ : S94)] : List S94).map e94)) ?_
  refine kv g0 (asg) ?_
  refine wk_end_draw hM (by kernel_rfl) ?_
  refine ac_next ?_
  refine aw_ret ?_
  refine ac_thenR ?_
  obtain rfl := Option.some.inj H
  exact acr hE [.tmp 4] (.tmp .nil) (.one _) [(0, 1)] 9999
 rw [if_neg c1] at H
 refine aw_ifF ?_ (bF c1)
 refine aw_skip ?_
 refine ac_next ?_
 refine aw_grp1 ?_
 refine wk_start ?_
 refine kv g0 (faB 0 0) ?_
 refine kv g0 (ldB) ?_
 refine kv g0 (mul6) ?_
 refine kv g0 (add6) ?_
 obtain ⟨t6, A7, H⟩ := of_bind H
 refine kcS0 20 (.agg [.lit (.string t6.1), .lit (.int .i64 t6.2.1), .lit (.int .i64 t6.2.2.1), .lit (.int .i64 t6.2.2.2.1), .lit (.int .i64 t6.2.2.2.2.1), .lit (.string t6.2.2.2.2.2.1), .lit (.string t6.2.2.2.2.2.2)]) [] g0 (cal (spec_l11Word.ok A7) [] 9999 .n (hf := Tryz.func80)) rfl rfl ?_
 refine kv g0 (faB 1 1) ?_
 refine kv g0 (faB 1 2) ?_
 refine kv g0 (ldB) ?_
 obtain ⟨t8, A9, H⟩ := of_bind H
 refine kcS0 24 (.agg [.lit (.string t8.1), .lit (.int .i64 t8.2.1), .lit (.int .i64 t8.2.2.1), .lit (.int .i64 t8.2.2.2.1), .lit (.int .i64 t8.2.2.2.2.1), .lit (.string t8.2.2.2.2.2.1), .lit (.string t8.2.2.2.2.2.2)]) [] g0 (cal (spec_l11Word.ok A9) [] 9999 .n (hf := Tryz.func80)) rfl rfl ?_
 refine kb g0 (bsl 2 94 7 [.string .empty, .int .i64 0, .int .i64 0, .int .i64 0, .int .i64 0, .string .empty, .string .empty] (([(⟨t6.1, (⟨t6.2.1, t6.2.2.1, t6.2.2.2.1, t6.2.2.2.2.1⟩ : S41), t6.2.2.2.2.2.1, t6.2.2.2.2.2.2⟩ : S94), (⟨t8.1, (⟨t8.2.1, t8.2.2.1, t8.2.2.2.1, t8.2.2.2.2.1⟩ : S41), t8.2.2.2.2.2.1, t8.2.2.2.2.2.2⟩ : S94)] : List S94).map e94)) ?_
 refine kv g0 (asg) ?_
 refine wk_end_draw hM (by kernel_rfl) ?_
 refine ac_next ?_
 refine aw_ret ?_
 obtain rfl := Option.some.inj H
 exact acr hE [.tmp 4] (.tmp .nil) (.one _) [(0, 2)] 9999
/-! spec_l12Same -/
def spec_l12Same.f (a0_0 : Int) (a0_1 : Int) (a0_2 : Int) (a0_3 : Int) (a0_4 : Int) (a0_5 : Int) (a1 : ByteArray) (a2 : ByteArray) (a3 : ByteArray) : Option ((List S94)) := (spec_l12Half.f a0_0 a0_1 a0_2 a0_3 a0_4 a0_5 true).bind fun t1 => (if a1.size + (⟨#[97]⟩ : ByteArray).size ≤ 9223372036854775807 then ((spec_l11Asks.f 3 a0_4 (a1 ++ (⟨#[97]⟩ : ByteArray)) a3).bind fun t4 => (if t1.length + ([(⟨t4.1, (⟨t4.2.1, t4.2.2.1, t4.2.2.2.1, t4.2.2.2.2.1⟩ : S41), t4.2.2.2.2.2.1, t4.2.2.2.2.2.2⟩ : S94), (⟨a1 ++ (⟨#[97]⟩ : ByteArray), (⟨0, 0, 0, 0⟩ : S41), ByteArray.empty, ByteArray.empty⟩ : S94)] : List S94).length < 1759218604441 then (spec_l12Half.f a0_0 a0_1 a0_2 a0_3 a0_4 a0_5 false).bind fun t7 => (if (t1 ++ ([(⟨t4.1, (⟨t4.2.1, t4.2.2.1, t4.2.2.2.1, t4.2.2.2.2.1⟩ : S41), t4.2.2.2.2.2.1, t4.2.2.2.2.2.2⟩ : S94), (⟨a1 ++ (⟨#[97]⟩ : ByteArray), (⟨0, 0, 0, 0⟩ : S41), ByteArray.empty, ByteArray.empty⟩ : S94)] : List S94)).length + t7.length < 1759218604441 then (spec_l11Asks.f 3 a0_5 a2 a3).bind fun t10 => (if ((t1 ++ ([(⟨t4.1, (⟨t4.2.1, t4.2.2.1, t4.2.2.2.1, t4.2.2.2.2.1⟩ : S41), t4.2.2.2.2.2.1, t4.2.2.2.2.2.2⟩ : S94), (⟨a1 ++ (⟨#[97]⟩ : ByteArray), (⟨0, 0, 0, 0⟩ : S41), ByteArray.empty, ByteArray.empty⟩ : S94)] : List S94)) ++ t7).length + ([(⟨t10.1, (⟨t10.2.1, t10.2.2.1, t10.2.2.2.1, t10.2.2.2.2.1⟩ : S41), t10.2.2.2.2.2.1, t10.2.2.2.2.2.2⟩ : S94)] : List S94).length < 1759218604441 then some (((t1 ++ ([(⟨t4.1, (⟨t4.2.1, t4.2.2.1, t4.2.2.2.1, t4.2.2.2.2.1⟩ : S41), t4.2.2.2.2.2.1, t4.2.2.2.2.2.2⟩ : S94), (⟨a1 ++ (⟨#[97]⟩ : ByteArray), (⟨0, 0, 0, 0⟩ : S41), ByteArray.empty, ByteArray.empty⟩ : S94)] : List S94)) ++ t7) ++ ([(⟨t10.1, (⟨t10.2.1, t10.2.2.1, t10.2.2.2.1, t10.2.2.2.2.1⟩ : S41), t10.2.2.2.2.2.1, t10.2.2.2.2.2.2⟩ : S94)] : List S94)) else none) else none) else none)) else none)
theorem spec_l12Same.ok {a0_0 : Int} {a0_1 : Int} {a0_2 : Int} {a0_3 : Int} {a0_4 : Int} {a0_5 : Int} {a1 : ByteArray} {a2 : ByteArray} {a3 : ByteArray} {r : (List S94)} (H : spec_l12Same.f a0_0 a0_1 a0_2 a0_3 a0_4 a0_5 a1 a2 a3 = some r) : ACalls Tryz.prog 108 [] [.agg [.lit (.int .i64 a0_0), .lit (.int .i64 a0_1), .lit (.int .i64 a0_2), .lit (.int .i64 a0_3), .lit (.int .i64 a0_4), .lit (.int .i64 a0_5)], .lit (.string a1), .lit (.string a2), .lit (.string a3)] [(0, .row 94 7 (r.map e94))] (.row 0) := by
 refine acalls (fn := Tryz.f108) (nt := 37) Tryz.func108 rfl rfl (Nat.le_of_ble_eq_true rfl) fun E hE => ?_
 rw [spec_l12Same.f] at H
 refine aw_grp1 ?_
 refine wk_start ?_
 refine kb g0 (bxA 0) ?_
 refine kv g0 (asg) ?_
 refine wk_end ?_
 refine ac_next ?_
 refine aw_grp1 ?_
 refine wk_start ?_
 refine kv g0 (ldBA 6 [.lit (.int .i64 a0_0), .lit (.int .i64 a0_1), .lit (.int .i64 a0_2), .lit (.int .i64 a0_3), .lit (.int .i64 a0_4), .lit (.int .i64 a0_5)]) ?_
 obtain ⟨t1, A2, H⟩ := of_bind H
 refine kcS1 11 (.row 1) [(1, .row 94 7 (t1.map e94))] g0 (cal (spec_l12Half.ok A2) [1] 9999 .n (hf := Tryz.func110)) rfl rfl ?_
 refine kv g0 (faB 4 4) ?_
 refine kv g0 (faB 0 4) ?_
 refine kv g0 (ldB) ?_
 refine kv g0 (mv) ?_
 obtain ⟨c3, H⟩ := of_if H
 refine kv g0 (cat c3) ?_
 refine kv g0 (mv) ?_
 obtain ⟨t4, A5, H⟩ := of_bind H
 refine kcS0 18 (.agg [.lit (.string t4.1), .lit (.int .i64 t4.2.1), .lit (.int .i64 t4.2.2.1), .lit (.int .i64 t4.2.2.2.1), .lit (.int .i64 t4.2.2.2.2.1), .lit (.string t4.2.2.2.2.2.1), .lit (.string t4.2.2.2.2.2.2)]) [] g0 (cal (spec_l11Asks.ok A5) [] 9999 .n (hf := Tryz.func81)) rfl rfl ?_
 refine kv g0 (mv) ?_
 refine kv g0 (cat c3) ?_
 refine kv g0 (bld [(0, 1), (1, 4), (5, 1), (6, 1)] [.string .empty, .int .i64 0, .int .i64 0, .int .i64 0, .int .i64 0, .string .empty, .string .empty] [.lit (.string (a1 ++ (⟨#[97]⟩ : ByteArray))), .lit (.int .i64 0), .lit (.int .i64 0), .lit (.int .i64 0), .lit (.int .i64 0), .lit (.string ByteArray.empty), .lit (.string ByteArray.empty)]) ?_
 refine kb g0 (bsl 2 94 7 [.string .empty, .int .i64 0, .int .i64 0, .int .i64 0, .int .i64 0, .string .empty, .string .empty] (([(⟨t4.1, (⟨t4.2.1, t4.2.2.1, t4.2.2.2.1, t4.2.2.2.2.1⟩ : S41), t4.2.2.2.2.2.1, t4.2.2.2.2.2.2⟩ : S94), (⟨a1 ++ (⟨#[97]⟩ : ByteArray), (⟨0, 0, 0, 0⟩ : S41), ByteArray.empty, ByteArray.empty⟩ : S94)] : List S94).map e94)) ?_
 obtain ⟨c6, H⟩ := of_if H
 refine kc g0 (apR 3 94 7 80 [.string .empty, .int .i64 0, .int .i64 0, .int .i64 0, .int .i64 0, .string .empty, .string .empty] ((t1 ++ ([(⟨t4.1, (⟨t4.2.1, t4.2.2.1, t4.2.2.2.1, t4.2.2.2.2.1⟩ : S41), t4.2.2.2.2.2.1, t4.2.2.2.2.2.2⟩ : S94), (⟨a1 ++ (⟨#[97]⟩ : ByteArray), (⟨0, 0, 0, 0⟩ : S41), ByteArray.empty, ByteArray.empty⟩ : S94)] : List S94)).map e94) (.row rfl) (apb c6 rfl) appE) ?_
 refine kv g0 (asg) ?_
 refine wk_end_draw hM (by kernel_rfl) ?_
 refine ac_next ?_
 refine aw_grp1 ?_
 refine wk_start ?_
 refine kv g0 (mv) ?_
 refine kv g0 (ldBA 6 [.lit (.int .i64 a0_0), .lit (.int .i64 a0_1), .lit (.int .i64 a0_2), .lit (.int .i64 a0_3), .lit (.int .i64 a0_4), .lit (.int .i64 a0_5)]) ?_
 obtain ⟨t7, A8, H⟩ := of_bind H
 refine kcS1 26 (.row 4) [(4, .row 94 7 (t7.map e94))] g0 (cal (spec_l12Half.ok A8) [4] 9999 .n (hf := Tryz.func110)) rfl rfl ?_
 obtain ⟨c9, H⟩ := of_if H
 refine kc g0 (apR 5 94 7 80 [.string .empty, .int .i64 0, .int .i64 0, .int .i64 0, .int .i64 0, .string .empty, .string .empty] (((t1 ++ ([(⟨t4.1, (⟨t4.2.1, t4.2.2.1, t4.2.2.2.1, t4.2.2.2.2.1⟩ : S41), t4.2.2.2.2.2.1, t4.2.2.2.2.2.2⟩ : S94), (⟨a1 ++ (⟨#[97]⟩ : ByteArray), (⟨0, 0, 0, 0⟩ : S41), ByteArray.empty, ByteArray.empty⟩ : S94)] : List S94)) ++ t7).map e94) (.row rfl) (apb c9 rfl) appE) ?_
 refine kv g0 (asg) ?_
 refine wk_end ?_
 refine ac_next ?_
 refine aw_grp1 ?_
 refine wk_start ?_
 refine kv g0 (mv) ?_
 refine kv g0 (faB 4 4) ?_
 refine kv g0 (faB 1 5) ?_
 refine kv g0 (ldB) ?_
 refine kv g0 (mv) ?_
 refine kv g0 (mv) ?_
 obtain ⟨t10, A11, H⟩ := of_bind H
 refine kcS0 34 (.agg [.lit (.string t10.1), .lit (.int .i64 t10.2.1), .lit (.int .i64 t10.2.2.1), .lit (.int .i64 t10.2.2.2.1), .lit (.int .i64 t10.2.2.2.2.1), .lit (.string t10.2.2.2.2.2.1), .lit (.string t10.2.2.2.2.2.2)]) [] g0 (cal (spec_l11Asks.ok A11) [] 9999 .n (hf := Tryz.func81)) rfl rfl ?_
 refine kb g0 (bsl 6 94 7 [.string .empty, .int .i64 0, .int .i64 0, .int .i64 0, .int .i64 0, .string .empty, .string .empty] (([(⟨t10.1, (⟨t10.2.1, t10.2.2.1, t10.2.2.2.1, t10.2.2.2.2.1⟩ : S41), t10.2.2.2.2.2.1, t10.2.2.2.2.2.2⟩ : S94)] : List S94).map e94)) ?_
 obtain ⟨c12, H⟩ := of_if H
 refine kc g0 (apR 7 94 7 80 [.string .empty, .int .i64 0, .int .i64 0, .int .i64 0, .int .i64 0, .string .empty, .string .empty] ((((t1 ++ ([(⟨t4.1, (⟨t4.2.1, t4.2.2.1, t4.2.2.2.1, t4.2.2.2.2.1⟩ : S41), t4.2.2.2.2.2.1, t4.2.2.2.2.2.2⟩ : S94), (⟨a1 ++ (⟨#[97]⟩ : ByteArray), (⟨0, 0, 0, 0⟩ : S41), ByteArray.empty, ByteArray.empty⟩ : S94)] : List S94)) ++ t7) ++ ([(⟨t10.1, (⟨t10.2.1, t10.2.2.1, t10.2.2.2.1, t10.2.2.2.2.1⟩ : S41), t10.2.2.2.2.2.1, t10.2.2.2.2.2.2⟩ : S94)] : List S94)).map e94) (.row rfl) (apb c12 rfl) appE) ?_
 refine kv g0 (asg) ?_
 refine wk_end ?_
 refine ac_next ?_
 refine aw_ret ?_
 obtain rfl := Option.some.inj H
 exact acr hE [.tmp 8] (.tmp .nil) (.one _) [(0, 7)] 9999
/-! spec_l12Above -/
def spec_l12Above.f (a0_0 : Int) (a0_1 : Int) (a0_2 : Int) (a0_3 : Int) (a0_4 : Int) (a0_5 : Int) (a1 : Int) (a2 : ByteArray) (a3 : ByteArray) (a4 : ByteArray) : Option ((List S94)) := (spec_l12Half.f a0_0 a0_1 a0_2 a0_3 a0_4 a0_5 true).bind fun t1 => (if a2.size + (⟨#[97]⟩ : ByteArray).size ≤ 9223372036854775807 then ((spec_l11Asks.f 4 a0_4 a3 (a2 ++ (⟨#[97]⟩ : ByteArray))).bind fun t4 => (if t1.length + ([(⟨t4.1, (⟨t4.2.1, t4.2.2.1, t4.2.2.2.1, t4.2.2.2.2.1⟩ : S41), t4.2.2.2.2.2.1, t4.2.2.2.2.2.2⟩ : S94), (⟨a2 ++ (⟨#[97]⟩ : ByteArray), (⟨0, 0, 0, 0⟩ : S41), ByteArray.empty, ByteArray.empty⟩ : S94)] : List S94).length < 1759218604441 then if a2.size + (⟨#[98]⟩ : ByteArray).size ≤ 9223372036854775807 then ((spec_l11Asks.f 3 a0_4 (a2 ++ (⟨#[98]⟩ : ByteArray)) a4).bind fun t8 => (if (t1 ++ ([(⟨t4.1, (⟨t4.2.1, t4.2.2.1, t4.2.2.2.1, t4.2.2.2.2.1⟩ : S41), t4.2.2.2.2.2.1, t4.2.2.2.2.2.2⟩ : S94), (⟨a2 ++ (⟨#[97]⟩ : ByteArray), (⟨0, 0, 0, 0⟩ : S41), ByteArray.empty, ByteArray.empty⟩ : S94)] : List S94)).length + ([(⟨t8.1, (⟨t8.2.1, t8.2.2.1, t8.2.2.2.1, t8.2.2.2.2.1⟩ : S41), t8.2.2.2.2.2.1, t8.2.2.2.2.2.2⟩ : S94), (⟨a2 ++ (⟨#[98]⟩ : ByteArray), (⟨0, 0, 0, 0⟩ : S41), ByteArray.empty, ByteArray.empty⟩ : S94)] : List S94).length < 1759218604441 then (spec_l12Half.f a0_0 a0_1 a0_2 a0_3 a0_4 a0_5 false).bind fun t11 => (if ((t1 ++ ([(⟨t4.1, (⟨t4.2.1, t4.2.2.1, t4.2.2.2.1, t4.2.2.2.2.1⟩ : S41), t4.2.2.2.2.2.1, t4.2.2.2.2.2.2⟩ : S94), (⟨a2 ++ (⟨#[97]⟩ : ByteArray), (⟨0, 0, 0, 0⟩ : S41), ByteArray.empty, ByteArray.empty⟩ : S94)] : List S94)) ++ ([(⟨t8.1, (⟨t8.2.1, t8.2.2.1, t8.2.2.2.1, t8.2.2.2.2.1⟩ : S41), t8.2.2.2.2.2.1, t8.2.2.2.2.2.2⟩ : S94), (⟨a2 ++ (⟨#[98]⟩ : ByteArray), (⟨0, 0, 0, 0⟩ : S41), ByteArray.empty, ByteArray.empty⟩ : S94)] : List S94)).length + t11.length < 1759218604441 then (spec_l11Asks.f a1 a0_5 a3 a4).bind fun t14 => (if (((t1 ++ ([(⟨t4.1, (⟨t4.2.1, t4.2.2.1, t4.2.2.2.1, t4.2.2.2.2.1⟩ : S41), t4.2.2.2.2.2.1, t4.2.2.2.2.2.2⟩ : S94), (⟨a2 ++ (⟨#[97]⟩ : ByteArray), (⟨0, 0, 0, 0⟩ : S41), ByteArray.empty, ByteArray.empty⟩ : S94)] : List S94)) ++ ([(⟨t8.1, (⟨t8.2.1, t8.2.2.1, t8.2.2.2.1, t8.2.2.2.2.1⟩ : S41), t8.2.2.2.2.2.1, t8.2.2.2.2.2.2⟩ : S94), (⟨a2 ++ (⟨#[98]⟩ : ByteArray), (⟨0, 0, 0, 0⟩ : S41), ByteArray.empty, ByteArray.empty⟩ : S94)] : List S94)) ++ t11).length + ([(⟨t14.1, (⟨t14.2.1, t14.2.2.1, t14.2.2.2.1, t14.2.2.2.2.1⟩ : S41), t14.2.2.2.2.2.1, t14.2.2.2.2.2.2⟩ : S94)] : List S94).length < 1759218604441 then some ((((t1 ++ ([(⟨t4.1, (⟨t4.2.1, t4.2.2.1, t4.2.2.2.1, t4.2.2.2.2.1⟩ : S41), t4.2.2.2.2.2.1, t4.2.2.2.2.2.2⟩ : S94), (⟨a2 ++ (⟨#[97]⟩ : ByteArray), (⟨0, 0, 0, 0⟩ : S41), ByteArray.empty, ByteArray.empty⟩ : S94)] : List S94)) ++ ([(⟨t8.1, (⟨t8.2.1, t8.2.2.1, t8.2.2.2.1, t8.2.2.2.2.1⟩ : S41), t8.2.2.2.2.2.1, t8.2.2.2.2.2.2⟩ : S94), (⟨a2 ++ (⟨#[98]⟩ : ByteArray), (⟨0, 0, 0, 0⟩ : S41), ByteArray.empty, ByteArray.empty⟩ : S94)] : List S94)) ++ t11) ++ ([(⟨t14.1, (⟨t14.2.1, t14.2.2.1, t14.2.2.2.1, t14.2.2.2.2.1⟩ : S41), t14.2.2.2.2.2.1, t14.2.2.2.2.2.2⟩ : S94)] : List S94)) else none) else none) else none)) else none else none)) else none)
theorem spec_l12Above.ok {a0_0 : Int} {a0_1 : Int} {a0_2 : Int} {a0_3 : Int} {a0_4 : Int} {a0_5 : Int} {a1 : Int} {a2 : ByteArray} {a3 : ByteArray} {a4 : ByteArray} {r : (List S94)} (H : spec_l12Above.f a0_0 a0_1 a0_2 a0_3 a0_4 a0_5 a1 a2 a3 a4 = some r) : ACalls Tryz.prog 109 [] [.agg [.lit (.int .i64 a0_0), .lit (.int .i64 a0_1), .lit (.int .i64 a0_2), .lit (.int .i64 a0_3), .lit (.int .i64 a0_4), .lit (.int .i64 a0_5)], .lit (.int .i64 a1), .lit (.string a2), .lit (.string a3), .lit (.string a4)] [(0, .row 94 7 (r.map e94))] (.row 0) := by
 refine acalls (fn := Tryz.f109) (nt := 53) Tryz.func109 rfl rfl (Nat.le_of_ble_eq_true rfl) fun E hE => ?_
 rw [spec_l12Above.f] at H
 refine aw_grp1 ?_
 refine wk_start ?_
 refine kb g0 (bxA 0) ?_
 refine kv g0 (asg) ?_
 refine wk_end ?_
 refine ac_next ?_
 refine aw_grp1 ?_
 refine wk_start ?_
 refine kv g0 (ldBA 6 [.lit (.int .i64 a0_0), .lit (.int .i64 a0_1), .lit (.int .i64 a0_2), .lit (.int .i64 a0_3), .lit (.int .i64 a0_4), .lit (.int .i64 a0_5)]) ?_
 obtain ⟨t1, A2, H⟩ := of_bind H
 refine kcS1 13 (.row 1) [(1, .row 94 7 (t1.map e94))] g0 (cal (spec_l12Half.ok A2) [1] 9999 .n (hf := Tryz.func110)) rfl rfl ?_
 refine kv g0 (faB 4 4) ?_
 refine kv g0 (faB 0 4) ?_
 refine kv g0 (ldB) ?_
 refine kv g0 (mv) ?_
 refine kv g0 (mv) ?_
 obtain ⟨c3, H⟩ := of_if H
 refine kv g0 (cat c3) ?_
 obtain ⟨t4, A5, H⟩ := of_bind H
 refine kcS0 20 (.agg [.lit (.string t4.1), .lit (.int .i64 t4.2.1), .lit (.int .i64 t4.2.2.1), .lit (.int .i64 t4.2.2.2.1), .lit (.int .i64 t4.2.2.2.2.1), .lit (.string t4.2.2.2.2.2.1), .lit (.string t4.2.2.2.2.2.2)]) [] g0 (cal (spec_l11Asks.ok A5) [] 9999 .n (hf := Tryz.func81)) rfl rfl ?_
 refine kv g0 (mv) ?_
 refine kv g0 (cat c3) ?_
 refine kv g0 (bld [(0, 1), (1, 4), (5, 1), (6, 1)] [.string .empty, .int .i64 0, .int .i64 0, .int .i64 0, .int .i64 0, .string .empty, .string .empty] [.lit (.string (a2 ++ (⟨#[97]⟩ : ByteArray))), .lit (.int .i64 0), .lit (.int .i64 0), .lit (.int .i64 0), .lit (.int .i64 0), .lit (.string ByteArray.empty), .lit (.string ByteArray.empty)]) ?_
 refine kb g0 (bsl 2 94 7 [.string .empty, .int .i64 0, .int .i64 0, .int .i64 0, .int .i64 0, .string .empty, .string .empty] (([(⟨t4.1, (⟨t4.2.1, t4.2.2.1, t4.2.2.2.1, t4.2.2.2.2.1⟩ : S41), t4.2.2.2.2.2.1, t4.2.2.2.2.2.2⟩ : S94), (⟨a2 ++ (⟨#[97]⟩ : ByteArray), (⟨0, 0, 0, 0⟩ : S41), ByteArray.empty, ByteArray.empty⟩ : S94)] : List S94).map e94)) ?_
 obtain ⟨c6, H⟩ := of_if H
 refine kc g0 (apR 3 94 7 80 [.string .empty, .int .i64 0, .int .i64 0, .int .i64 0, .int .i64 0, .string .empty, .string .empty] ((t1 ++ ([(⟨t4.1, (⟨t4.2.1, t4.2.2.1, t4.2.2.2.1, t4.2.2.2.2.1⟩ : S41), t4.2.2.2.2.2.1, t4.2.2.2.2.2.2⟩ : S94), (⟨a2 ++ (⟨#[97]⟩ : ByteArray), (⟨0, 0, 0, 0⟩ : S41), ByteArray.empty, ByteArray.empty⟩ : S94)] : List S94)).map e94) (.row rfl) (apb c6 rfl) appE) ?_
 refine kv g0 (asg) ?_
 refine wk_end_draw hM (by kernel_rfl) ?_
 refine ac_next ?_
 refine aw_grp1 ?_
 refine wk_start ?_
 refine kv g0 (mv) ?_
 refine kv g0 (faB 4 4) ?_
 refine kv g0 (faB 0 4) ?_
 refine kv g0 (ldB) ?_
 refine kv g0 (mv) ?_
 obtain ⟨c7, H⟩ := of_if H
 refine kv g0 (cat c7) ?_
 refine kv g0 (mv) ?_
 obtain ⟨t8, A9, H⟩ := of_bind H
 refine kcS0 33 (.agg [.lit (.string t8.1), .lit (.int .i64 t8.2.1), .lit (.int .i64 t8.2.2.1), .lit (.int .i64 t8.2.2.2.1), .lit (.int .i64 t8.2.2.2.2.1), .lit (.string t8.2.2.2.2.2.1), .lit (.string t8.2.2.2.2.2.2)]) [] g0 (cal (spec_l11Asks.ok A9) [] 9999 .n (hf := Tryz.func81)) rfl rfl ?_
 refine kv g0 (mv) ?_
 refine kv g0 (cat c7) ?_
 refine kv g0 (bld [(0, 1), (1, 4), (5, 1), (6, 1)] [.string .empty, .int .i64 0, .int .i64 0, .int .i64 0, .int .i64 0, .string .empty, .string .empty] [.lit (.string (a2 ++ (⟨#[98]⟩ : ByteArray))), .lit (.int .i64 0), .lit (.int .i64 0), .lit (.int .i64 0), .lit (.int .i64 0), .lit (.string ByteArray.empty), .lit (.string ByteArray.empty)]) ?_
 refine kb g0 (bsl 4 94 7 [.string .empty, .int .i64 0, .int .i64 0, .int .i64 0, .int .i64 0, .string .empty, .string .empty] (([(⟨t8.1, (⟨t8.2.1, t8.2.2.1, t8.2.2.2.1, t8.2.2.2.2.1⟩ : S41), t8.2.2.2.2.2.1, t8.2.2.2.2.2.2⟩ : S94), (⟨a2 ++ (⟨#[98]⟩ : ByteArray), (⟨0, 0, 0, 0⟩ : S41), ByteArray.empty, ByteArray.empty⟩ : S94)] : List S94).map e94)) ?_
 obtain ⟨c10, H⟩ := of_if H
 refine kc g0 (apR 5 94 7 80 [.string .empty, .int .i64 0, .int .i64 0, .int .i64 0, .int .i64 0, .string .empty, .string .empty] (((t1 ++ ([(⟨t4.1, (⟨t4.2.1, t4.2.2.1, t4.2.2.2.1, t4.2.2.2.2.1⟩ : S41), t4.2.2.2.2.2.1, t4.2.2.2.2.2.2⟩ : S94), (⟨a2 ++ (⟨#[97]⟩ : ByteArray), (⟨0, 0, 0, 0⟩ : S41), ByteArray.empty, ByteArray.empty⟩ : S94)] : List S94)) ++ ([(⟨t8.1, (⟨t8.2.1, t8.2.2.1, t8.2.2.2.1, t8.2.2.2.2.1⟩ : S41), t8.2.2.2.2.2.1, t8.2.2.2.2.2.2⟩ : S94), (⟨a2 ++ (⟨#[98]⟩ : ByteArray), (⟨0, 0, 0, 0⟩ : S41), ByteArray.empty, ByteArray.empty⟩ : S94)] : List S94)).map e94) (.row rfl) (apb c10 rfl) appE) ?_
 refine kv g0 (asg) ?_
 refine wk_end ?_
 refine ac_next ?_
 refine aw_grp1 ?_
 refine wk_start ?_
 refine kv g0 (mv) ?_
 refine kv g0 (ldBA 6 [.lit (.int .i64 a0_0), .lit (.int .i64 a0_1), .lit (.int .i64 a0_2), .lit (.int .i64 a0_3), .lit (.int .i64 a0_4), .lit (.int .i64 a0_5)]) ?_
 obtain ⟨t11, A12, H⟩ := of_bind H
 refine kcS1 41 (.row 6) [(6, .row 94 7 (t11.map e94))] g0 (cal (spec_l12Half.ok A12) [6] 9999 .n (hf := Tryz.func110)) rfl rfl ?_
 obtain ⟨c13, H⟩ := of_if H
 refine kc g0 (apR 7 94 7 80 [.string .empty, .int .i64 0, .int .i64 0, .int .i64 0, .int .i64 0, .string .empty, .string .empty] ((((t1 ++ ([(⟨t4.1, (⟨t4.2.1, t4.2.2.1, t4.2.2.2.1, t4.2.2.2.2.1⟩ : S41), t4.2.2.2.2.2.1, t4.2.2.2.2.2.2⟩ : S94), (⟨a2 ++ (⟨#[97]⟩ : ByteArray), (⟨0, 0, 0, 0⟩ : S41), ByteArray.empty, ByteArray.empty⟩ : S94)] : List S94)) ++ ([(⟨t8.1, (⟨t8.2.1, t8.2.2.1, t8.2.2.2.1, t8.2.2.2.2.1⟩ : S41), t8.2.2.2.2.2.1, t8.2.2.2.2.2.2⟩ : S94), (⟨a2 ++ (⟨#[98]⟩ : ByteArray), (⟨0, 0, 0, 0⟩ : S41), ByteArray.empty, ByteArray.empty⟩ : S94)] : List S94)) ++ t11).map e94) (.row rfl) (apb c13 rfl) appE) ?_
 refine kv g0 (asg) ?_
 refine wk_end ?_
 refine ac_next ?_
 refine aw_grp1 ?_
 refine wk_start ?_
 refine kv g0 (mv) ?_
 refine kv g0 (mv) ?_
 refine kv g0 (faB 4 4) ?_
 refine kv g0 (faB 1 5) ?_
 refine kv g0 (ldB) ?_
 refine kv g0 (mv) ?_
 refine kv g0 (mv) ?_
 obtain ⟨t14, A15, H⟩ := of_bind H
 refine kcS0 50 (.agg [.lit (.string t14.1), .lit (.int .i64 t14.2.1), .lit (.int .i64 t14.2.2.1), .lit (.int .i64 t14.2.2.2.1), .lit (.int .i64 t14.2.2.2.2.1), .lit (.string t14.2.2.2.2.2.1), .lit (.string t14.2.2.2.2.2.2)]) [] g0 (cal (spec_l11Asks.ok A15) [] 9999 .n (hf := Tryz.func81)) rfl rfl ?_
 refine kb g0 (bsl 8 94 7 [.string .empty, .int .i64 0, .int .i64 0, .int .i64 0, .int .i64 0, .string .empty, .string .empty] (([(⟨t14.1, (⟨t14.2.1, t14.2.2.1, t14.2.2.2.1, t14.2.2.2.2.1⟩ : S41), t14.2.2.2.2.2.1, t14.2.2.2.2.2.2⟩ : S94)] : List S94).map e94)) ?_
 obtain ⟨c16, H⟩ := of_if H
 refine kc g0 (apR 9 94 7 80 [.string .empty, .int .i64 0, .int .i64 0, .int .i64 0, .int .i64 0, .string .empty, .string .empty] (((((t1 ++ ([(⟨t4.1, (⟨t4.2.1, t4.2.2.1, t4.2.2.2.1, t4.2.2.2.2.1⟩ : S41), t4.2.2.2.2.2.1, t4.2.2.2.2.2.2⟩ : S94), (⟨a2 ++ (⟨#[97]⟩ : ByteArray), (⟨0, 0, 0, 0⟩ : S41), ByteArray.empty, ByteArray.empty⟩ : S94)] : List S94)) ++ ([(⟨t8.1, (⟨t8.2.1, t8.2.2.1, t8.2.2.2.1, t8.2.2.2.2.1⟩ : S41), t8.2.2.2.2.2.1, t8.2.2.2.2.2.2⟩ : S94), (⟨a2 ++ (⟨#[98]⟩ : ByteArray), (⟨0, 0, 0, 0⟩ : S41), ByteArray.empty, ByteArray.empty⟩ : S94)] : List S94)) ++ t11) ++ ([(⟨t14.1, (⟨t14.2.1, t14.2.2.1, t14.2.2.2.1, t14.2.2.2.2.1⟩ : S41), t14.2.2.2.2.2.1, t14.2.2.2.2.2.2⟩ : S94)] : List S94)).map e94) (.row rfl) (apb c16 rfl) appE) ?_
 refine kv g0 (asg) ?_
 refine wk_end ?_
 refine ac_next ?_
 refine aw_ret ?_
 obtain rfl := Option.some.inj H
 exact acr hE [.tmp 10] (.tmp .nil) (.one _) [(0, 9)] 9999
/-! spec_CondLines -/
def spec_CondLines.f (a0_0 : Int) (a0_1 : Int) (a0_2 : Int) (a0_3 : Int) (a0_4 : Int) (a0_5 : Int) (a1 : ByteArray) (a2 : ByteArray) (a3 : ByteArray) : Option ((List S94)) := (spec_CondOk.f a0_0 a0_1 a0_2 a0_3 a0_4 a0_5).bind fun t1 => if t1 = true then if a0_3 = 1 then ((spec_l12Same.f a0_0 a0_1 a0_2 a0_3 a0_4 a0_5 a1 a2 a3).bind fun t5 => some t5) else if a0_3 = 2 then ((spec_l12Same.f a0_0 a0_1 a0_2 a0_3 a0_4 a0_5 a1 a3 a2).bind fun t8 => some t8) else if a0_3 = 5 then ((spec_l12Above.f a0_0 a0_1 a0_2 a0_3 a0_4 a0_5 4 a1 a2 a3).bind fun t11 => some t11) else if a0_3 = 6 then ((spec_l12Above.f a0_0 a0_1 a0_2 a0_3 a0_4 a0_5 5 a1 a2 a3).bind fun t14 => some t14) else if a0_3 = 4 then ((spec_l12Above.f a0_0 a0_1 a0_2 a0_3 a0_4 a0_5 4 a1 a3 a2).bind fun t17 => some t17) else (spec_l12Above.f a0_0 a0_1 a0_2 a0_3 a0_4 a0_5 5 a1 a3 a2).bind fun t19 => some t19 else some ([] : List S94)
theorem spec_CondLines.ok {a0_0 : Int} {a0_1 : Int} {a0_2 : Int} {a0_3 : Int} {a0_4 : Int} {a0_5 : Int} {a1 : ByteArray} {a2 : ByteArray} {a3 : ByteArray} {r : (List S94)} (H : spec_CondLines.f a0_0 a0_1 a0_2 a0_3 a0_4 a0_5 a1 a2 a3 = some r) : ACalls Tryz.prog 106 [] [.agg [.lit (.int .i64 a0_0), .lit (.int .i64 a0_1), .lit (.int .i64 a0_2), .lit (.int .i64 a0_3), .lit (.int .i64 a0_4), .lit (.int .i64 a0_5)], .lit (.string a1), .lit (.string a2), .lit (.string a3)] [(0, .row 94 7 (r.map e94))] (.row 0) := by
 refine acalls (fn := Tryz.f106) (nt := 55) Tryz.func106 rfl rfl (Nat.le_of_ble_eq_true rfl) fun E hE => ?_
 rw [spec_CondLines.f] at H
 refine aw_grp1 ?_
 refine wk_start ?_
 refine kb g0 (bxA 0) ?_
 refine kv g0 (asg) ?_
 refine wk_end ?_
 refine ac_next ?_
 refine aw_grp1 ?_
 refine aw_grp1 ?_
 refine wk_start ?_
 refine kv g0 (ldBA 6 [.lit (.int .i64 a0_0), .lit (.int .i64 a0_1), .lit (.int .i64 a0_2), .lit (.int .i64 a0_3), .lit (.int .i64 a0_4), .lit (.int .i64 a0_5)]) ?_
 obtain ⟨t1, A2, H⟩ := of_bind H
 refine kcS0 10 (.lit (.bool t1)) [] g0 (cal (spec_CondOk.ok A2) [] 9999 .n (hf := Tryz.func94)) rfl rfl ?_
 refine kv g0 (not_) ?_
 refine wk_end ?_
 refine ac_next ?_
 by_cases c3 : t1 = true
 ·rw [if_pos c3] at H
  refine aw_ifF ?_ (nF c3)
  refine aw_skip ?_
  refine ac_next ?_
  refine aw_grp1 ?_
  refine aw_grp1 ?_
  refine wk_start ?_
  refine kv g0 (faB 3 3) ?_
  refine kv g0 (ldB) ?_
  refine wk_end ?_
  refine ac_next ?_
  refine aw_block ?_
  refine aw_grp1 ?_
  refine wk_start ?_
  refine kv g0 (eql) ?_
  refine kv g0 (asg) ?_
  refine wk_end ?_
  refine ac_next ?_
  by_cases c4 : a0_3 = 1
  ·rw [if_pos c4] at H
   refine aw_ifT ?_ (eT c4)
   refine aw_grp1 ?_
   refine wk_start ?_
   refine kv g0 (ldBA 6 [.lit (.int .i64 a0_0), .lit (.int .i64 a0_1), .lit (.int .i64 a0_2), .lit (.int .i64 a0_3), .lit (.int .i64 a0_4), .lit (.int .i64 a0_5)]) ?_
   refine kv g0 (mv) ?_
   refine kv g0 (mv) ?_
   refine kv g0 (mv) ?_
   obtain ⟨t5, A6, H⟩ := of_bind H
   refine kcS1 21 (.row 2) [(2, .row 94 7 (t5.map e94))] g0 (cal (spec_l12Same.ok A6) [2] 9999 .n (hf := Tryz.func108)) rfl rfl ?_
   refine kv g0 (asg) ?_
   refine wk_end ?_
   refine ac_next ?_
   refine aw_ret ?_
   refine ac_blkR ?_
   refine ac_thenR ?_
   obtain rfl := Option.some.inj H
   exact acr hE [.tmp 8] (.tmp .nil) (.one _) [(0, 2)] 9999
  rw [if_neg c4] at H
  refine aw_ifF ?_ (eF c4)
  refine aw_grp1 ?_
  refine wk_start ?_
  refine kv g0 (eql) ?_
  refine kv g0 (asg) ?_
  refine wk_end ?_
  refine ac_next ?_
  by_cases c7 : a0_3 = 2
  ·rw [if_pos c7] at H
   refine aw_ifT ?_ (eT c7)
   refine aw_grp1 ?_
   refine wk_start ?_
   refine kv g0 (ldBA 6 [.lit (.int .i64 a0_0), .lit (.int .i64 a0_1), .lit (.int .i64 a0_2), .lit (.int .i64 a0_3), .lit (.int .i64 a0_4), .lit (.int .i64 a0_5)]) ?_
   refine kv g0 (mv) ?_
   refine kv g0 (mv) ?_
   refine kv g0 (mv) ?_
   obtain ⟨t8, A9, H⟩ := of_bind H
   refine kcS1 28 (.row 3) [(3, .row 94 7 (t8.map e94))] g0 (cal (spec_l12Same.ok A9) [3] 9999 .n (hf := Tryz.func108)) rfl rfl ?_
   refine kv g0 (asg) ?_
   refine wk_end ?_
   refine ac_next ?_
   refine aw_ret ?_
   refine ac_blkR ?_
   refine ac_thenR ?_
   obtain rfl := Option.some.inj H
   exact acr hE [.tmp 8] (.tmp .nil) (.one _) [(0, 3)] 9999
  rw [if_neg c7] at H
  refine aw_ifF ?_ (eF c7)
  refine aw_grp1 ?_
  refine wk_start ?_
  refine kv g0 (eql) ?_
  refine kv g0 (asg) ?_
  refine wk_end ?_
  refine ac_next ?_
  by_cases c10 : a0_3 = 5
  ·rw [if_pos c10] at H
   refine aw_ifT ?_ (eT c10)
   refine aw_grp1 ?_
   refine wk_start ?_
   refine kv g0 (ldBA 6 [.lit (.int .i64 a0_0), .lit (.int .i64 a0_1), .lit (.int .i64 a0_2), .lit (.int .i64 a0_3), .lit (.int .i64 a0_4), .lit (.int .i64 a0_5)]) ?_
   refine kv g0 (mv) ?_
   refine kv g0 (mv) ?_
   refine kv g0 (mv) ?_
   obtain ⟨t11, A12, H⟩ := of_bind H
   refine kcS1 35 (.row 4) [(4, .row 94 7 (t11.map e94))] g0 (cal (spec_l12Above.ok A12) [4] 9999 .n (hf := Tryz.func109)) rfl rfl ?_
   refine kv g0 (asg) ?_
   refine wk_end ?_
   refine ac_next ?_
   refine aw_ret ?_
   refine ac_blkR ?_
   refine ac_thenR ?_
   obtain rfl := Option.some.inj H
   exact acr hE [.tmp 8] (.tmp .nil) (.one _) [(0, 4)] 9999
  rw [if_neg c10] at H
  refine aw_ifF ?_ (eF c10)
  refine aw_grp1 ?_
  refine wk_start ?_
  refine kv g0 (eql) ?_
  refine kv g0 (asg) ?_
  refine wk_end ?_
  refine ac_next ?_
  by_cases c13 : a0_3 = 6
  ·rw [if_pos c13] at H
   refine aw_ifT ?_ (eT c13)
   refine aw_grp1 ?_
   refine wk_start ?_
   refine kv g0 (ldBA 6 [.lit (.int .i64 a0_0), .lit (.int .i64 a0_1), .lit (.int .i64 a0_2), .lit (.int .i64 a0_3), .lit (.int .i64 a0_4), .lit (.int .i64 a0_5)]) ?_
   refine kv g0 (mv) ?_
   refine kv g0 (mv) ?_
   refine kv g0 (mv) ?_
   obtain ⟨t14, A15, H⟩ := of_bind H
   refine kcS1 42 (.row 5) [(5, .row 94 7 (t14.map e94))] g0 (cal (spec_l12Above.ok A15) [5] 9999 .n (hf := Tryz.func109)) rfl rfl ?_
   refine kv g0 (asg) ?_
   refine wk_end ?_
   refine ac_next ?_
   refine aw_ret ?_
   refine ac_blkR ?_
   refine ac_thenR ?_
   obtain rfl := Option.some.inj H
   exact acr hE [.tmp 8] (.tmp .nil) (.one _) [(0, 5)] 9999
  rw [if_neg c13] at H
  refine aw_ifF ?_ (eF c13)
  refine aw_grp1 ?_
  refine wk_start ?_
  refine kv g0 (eql) ?_
  refine kv g0 (asg) ?_
  refine wk_end ?_
  refine ac_next ?_
  by_cases c16 : a0_3 = 4
  ·rw [if_pos c16] at H
   refine aw_ifT ?_ (eT c16)
   refine aw_grp1 ?_
   refine wk_start ?_
   refine kv g0 (ldBA 6 [.lit (.int .i64 a0_0), .lit (.int .i64 a0_1), .lit (.int .i64 a0_2), .lit (.int .i64 a0_3), .lit (.int .i64 a0_4), .lit (.int .i64 a0_5)]) ?_
   refine kv g0 (mv) ?_
   refine kv g0 (mv) ?_
   refine kv g0 (mv) ?_
   obtain ⟨t17, A18, H⟩ := of_bind H
   refine kcS1 49 (.row 6) [(6, .row 94 7 (t17.map e94))] g0 (cal (spec_l12Above.ok A18) [6] 9999 .n (hf := Tryz.func109)) rfl rfl ?_
   refine kv g0 (asg) ?_
   refine wk_end ?_
   refine ac_next ?_
   refine aw_ret ?_
   refine ac_blkR ?_
   refine ac_thenR ?_
   obtain rfl := Option.some.inj H
   exact acr hE [.tmp 8] (.tmp .nil) (.one _) [(0, 6)] 9999
  rw [if_neg c16] at H
  refine aw_ifF ?_ (eF c16)
  refine aw_skip ?_
  refine ac_blkN ?_
  refine ac_next ?_
  refine aw_grp1 ?_
  refine wk_start ?_
  refine kv g0 (ldBA 6 [.lit (.int .i64 a0_0), .lit (.int .i64 a0_1), .lit (.int .i64 a0_2), .lit (.int .i64 a0_3), .lit (.int .i64 a0_4), .lit (.int .i64 a0_5)]) ?_
  refine kv g0 (mv) ?_
  refine kv g0 (mv) ?_
  refine kv g0 (mv) ?_
  obtain ⟨t19, A20, H⟩ := of_bind H
  refine kcS1 54 (.row 7) [(7, .row 94 7 (t19.map e94))] g0 (cal (spec_l12Above.ok A20) [7] 9999 .n (hf := Tryz.func109)) rfl rfl ?_
  refine kv g0 (asg) ?_
  refine wk_end ?_
  refine ac_next ?_
  refine aw_ret ?_
  obtain rfl := Option.some.inj H
  exact acr hE [.tmp 8] (.tmp .nil) (.one _) [(0, 7)] 9999
 rw [if_neg c3] at H
 refine aw_ifT ?_ (nT (bF c3))
 refine aw_grp1 ?_
 refine wk_start ?_
 refine kb g0 (bsl 1 94 7 [.string .empty, .int .i64 0, .int .i64 0, .int .i64 0, .int .i64 0, .string .empty, .string .empty] (([] : List S94).map e94)) ?_
 refine kv g0 (asg) ?_
 refine wk_end ?_
 refine ac_next ?_
 refine aw_ret ?_
 refine ac_thenR ?_
 obtain rfl := Option.some.inj H
 exact acr hE [.tmp 8] (.tmp .nil) (.one _) [(0, 1)] 9999
/-! spec_RuleLines -/
def spec_RuleLines.l0 : Nat → (List Int) → (List S105) → Int → Int → ByteArray → ByteArray → (List S94) → Int → Option ((List S94))
 | 0, _, _, _, _, _, _, _, _ => none
 | k16 + 1, l0_0, l0_1, a0_2, a0_3, a1, a2, q14, p15 => if p15 < (l0_1.length : Int) then if a1.size + (⟨#[110]⟩ : ByteArray).size ≤ 9223372036854775807 then ((spec_Decimal.f k16 p15).bind fun t19 => (if (a1 ++ (⟨#[110]⟩ : ByteArray)).size + t19.size ≤ 9223372036854775807 then if 0 ≤ p15 then ((spec_Decimal.f k16 p15).bind fun t23 => (if a1.size + t23.size ≤ 9223372036854775807 then ((spec_CondLines.f ((rd_T105 l0_1 p15).f0) ((rd_T105 l0_1 p15).f1.f0) ((rd_T105 l0_1 p15).f1.f1) ((rd_T105 l0_1 p15).f2) ((rd_T105 l0_1 p15).f3.f0) ((rd_T105 l0_1 p15).f3.f1) (a1 ++ t23) ((a1 ++ (⟨#[110]⟩ : ByteArray)) ++ t19) a2).bind fun t26 => (if q14.length + t26.length < 1759218604441 then if (q14 ++ t26).length + ([(⟨(a1 ++ (⟨#[110]⟩ : ByteArray)) ++ t19, (⟨0, 0, 0, 0⟩ : S41), ByteArray.empty, ByteArray.empty⟩ : S94)] : List S94).length < 1759218604441 then spec_RuleLines.l0 k16 l0_0 l0_1 a0_2 a0_3 a1 a2 ((q14 ++ t26) ++ ([(⟨(a1 ++ (⟨#[110]⟩ : ByteArray)) ++ t19, (⟨0, 0, 0, 0⟩ : S41), ByteArray.empty, ByteArray.empty⟩ : S94)] : List S94)) (wrap64 (p15 + 1)) else none else none)) else none)) else none else none)) else none else (spec_ResultOf.f a0_2 a0_3).bind fun t32 => ((spec_l11Word.f 8 t32).bind fun t34 => (if q14.length + ([(⟨t34.1, (⟨t34.2.1, t34.2.2.1, t34.2.2.2.1, t34.2.2.2.2.1⟩ : S41), t34.2.2.2.2.2.1, t34.2.2.2.2.2.2⟩ : S94)] : List S94).length < 1759218604441 then some (q14 ++ ([(⟨t34.1, (⟨t34.2.1, t34.2.2.1, t34.2.2.2.1, t34.2.2.2.2.1⟩ : S41), t34.2.2.2.2.2.1, t34.2.2.2.2.2.2⟩ : S94)] : List S94)) else none))
def spec_RuleLines.f (k : Nat) (l0_0 : List Int) (l0_1 : List S105) (a0_2 : Int) (a0_3 : Int) (a1 : ByteArray) (a2 : ByteArray) : Option ((List S94)) := spec_RuleLines.l0 k l0_0 l0_1 a0_2 a0_3 a1 a2 ([] : List S94) 0
theorem spec_RuleLines.ok {k : Nat} {l0_0 : List Int} {l0_1 : List S105} {a0_2 : Int} {a0_3 : Int} {a1 : ByteArray} {a2 : ByteArray} {r : (List S94)} (H : spec_RuleLines.f k l0_0 l0_1 a0_2 a0_3 a1 a2 = some r) : ACalls Tryz.prog 103 [] [.agg [.sl .o 1 (l0_0.map (eI .i64)), .sl .o 6 (l0_1.map e105), .lit (.int .i64 a0_2), .lit (.int .i64 a0_3)], .lit (.string a1), .lit (.string a2)] [(0, .row 94 7 (r.map e94))] (.row 0) := by
 refine acalls (fn := Tryz.f103) (nt := 51) Tryz.func103 rfl rfl (Nat.le_of_ble_eq_true rfl) fun E hE => ?_
 rw [spec_RuleLines.f] at H
 refine aw_grp1 ?_
 refine wk_start ?_
 refine kb g0 (bxA 0) ?_
 refine kv g0 (asg) ?_
 refine wk_end ?_
 refine ac_next ?_
 refine aw_grp1 ?_
 refine wk_start ?_
 refine kb g0 (bsl 1 94 7 [.string .empty, .int .i64 0, .int .i64 0, .int .i64 0, .int .i64 0, .string .empty, .string .empty] (([] : List S94).map e94)) ?_
 refine kv g0 (asg) ?_
 refine wk_end ?_
 refine ac_next ?_
 refine aw_grp1 ?_
 refine aw_grp1 ?_
 refine wk_start ?_
 refine kv g0 (asg) ?_
 refine wk_end ?_
 refine ac_next ?_
 refine aw_block ?_
 refine aw_loop2 (fun (k_ : Nat) (q14 : List S94) (p15 : Int) => k_ ≤ k ∧ spec_RuleLines.l0 k_ l0_0 l0_1 a0_2 a0_3 a1 a2 q14 p15 = some r) (fun (q14 : List S94) (p15 : Int) => ⟨[(1, .lit (.string a1)), (2, .lit (.string a2)), (3, .box 0 0), (7, .row 1), (8, .lit (.int .i64 p15))], [(0, .box 77 [.sl .o 1 (l0_0.map (eI .i64)), .sl .o 6 (l0_1.map e105), .lit (.int .i64 a0_2), .lit (.int .i64 a0_3)]), (1, .row 94 7 (q14.map e94))]⟩) k ([] : List S94) 0 ⟨Nat.le_refl _, H⟩ (fun K_ h_ => acw hE [(0, 0), (1, 1)] 9999 h_) (fun _ _ => by intro h_; have h_ := h_.2; rw [spec_RuleLines.l0.eq_1] at h_; cases h_) ?_
 intro k16 q14 p15 hq_ K30 hK31
 have hk16 := hq_.1
 have H := hq_.2
 clear hq_
 rw [spec_RuleLines.l0.eq_2] at H
 refine aw_grp1 ?_
 refine aw_grp1 ?_
 refine wk_start ?_
 refine kv g0 (mv) ?_
 refine kv g0 (faB 1 1) ?_
 refine kv g0 (ldB) ?_
 refine kv g0 (lnS lenE) ?_
 refine kv g0 (lss) ?_
 refine wk_end ?_
 refine ac_next ?_
 by_cases c17 : p15 < (l0_1.length : Int)
 ·rw [if_pos c17] at H
  refine aw_ifT ?_ (decide_eq_true c17)
  refine aw_skip ?_
  refine ac_next ?_
  refine aw_grp1 ?_
  refine aw_block ?_
  refine aw_grp1 ?_
  refine wk_start ?_
  refine kv g0 (mv) ?_
  obtain ⟨c18, H⟩ := of_if H
  refine kv g0 (cat c18) ?_
  refine kv g0 (mv) ?_
  obtain ⟨t19, A20, H⟩ := of_bind H
  refine kcS0 21 (.lit (.string t19)) [] g0 (cal (spec_Decimal.ok A20) [] 9999 .n (hf := Tryz.func105)) rfl rfl ?_
  obtain ⟨c21, H⟩ := of_if H
  refine kv g0 (cat c21) ?_
  refine kv g0 (asg) ?_
  refine wk_end ?_
  refine ac_next ?_
  refine aw_grp1 ?_
  refine wk_start ?_
  refine kv g0 (mv) ?_
  refine kv g0 (faB 1 1) ?_
  refine kv g0 (ldB) ?_
  refine kv g0 (mv) ?_
  obtain ⟨c22, H⟩ := of_if H
  refine kv g0 (ixS 105 (e105 (rd_T105 l0_1 p15)) c22 (getE (z := z105) c22 c17)) ?_
  refine kv g0 (ldRA 6 [.lit (.int .i64 ((rd_T105 l0_1 p15).f0)), .lit (.int .i64 ((rd_T105 l0_1 p15).f1.f0)), .lit (.int .i64 ((rd_T105 l0_1 p15).f1.f1)), .lit (.int .i64 ((rd_T105 l0_1 p15).f2)), .lit (.int .i64 ((rd_T105 l0_1 p15).f3.f0)), .lit (.int .i64 ((rd_T105 l0_1 p15).f3.f1))]) ?_
  refine kv g0 (mv) ?_
  refine kv g0 (mv) ?_
  obtain ⟨t23, A24, H⟩ := of_bind H
  refine kcS0 31 (.lit (.string t23)) [] g0 (cal (spec_Decimal.ok A24) [] 9999 .n (hf := Tryz.func105)) rfl rfl ?_
  obtain ⟨c25, H⟩ := of_if H
  refine kv g0 (cat c25) ?_
  refine kv g0 (mv) ?_
  refine kv g0 (mv) ?_
  obtain ⟨t26, A27, H⟩ := of_bind H
  refine kcS1 35 (.row 2) [(2, .row 94 7 (t26.map e94))] g0 (cal (spec_CondLines.ok A27) [2] 9999 .n (hf := Tryz.func106)) rfl rfl ?_
  obtain ⟨c28, H⟩ := of_if H
  refine kc g0 (apR 3 94 7 80 [.string .empty, .int .i64 0, .int .i64 0, .int .i64 0, .int .i64 0, .string .empty, .string .empty] ((q14 ++ t26).map e94) (.row rfl) (apb c28 rfl) appE) ?_
  refine kv g0 (asg) ?_
  refine wk_end_draw hM (by kernel_rfl) ?_
  refine ac_next ?_
  refine wk_start ?_
  refine kv g0 (mv) ?_
  refine kv g0 (mv) ?_
  refine kv g0 (bld [(0, 1), (1, 4), (5, 1), (6, 1)] [.string .empty, .int .i64 0, .int .i64 0, .int .i64 0, .int .i64 0, .string .empty, .string .empty] [.lit (.string ((a1 ++ (⟨#[110]⟩ : ByteArray)) ++ t19)), .lit (.int .i64 0), .lit (.int .i64 0), .lit (.int .i64 0), .lit (.int .i64 0), .lit (.string ByteArray.empty), .lit (.string ByteArray.empty)]) ?_
  refine kb g0 (bsl 4 94 7 [.string .empty, .int .i64 0, .int .i64 0, .int .i64 0, .int .i64 0, .string .empty, .string .empty] (([(⟨(a1 ++ (⟨#[110]⟩ : ByteArray)) ++ t19, (⟨0, 0, 0, 0⟩ : S41), ByteArray.empty, ByteArray.empty⟩ : S94)] : List S94).map e94)) ?_
  obtain ⟨c29, H⟩ := of_if H
  refine kc g0 (apR 5 94 7 80 [.string .empty, .int .i64 0, .int .i64 0, .int .i64 0, .int .i64 0, .string .empty, .string .empty] (((q14 ++ t26) ++ ([(⟨(a1 ++ (⟨#[110]⟩ : ByteArray)) ++ t19, (⟨0, 0, 0, 0⟩ : S41), ByteArray.empty, ByteArray.empty⟩ : S94)] : List S94)).map e94) (.row rfl) (apb c29 rfl) appE) ?_
  refine kv g0 (asg) ?_
  refine wk_end ?_
  refine ac_blkN ?_
  refine ac_next ?_
  refine wk_start ?_
  refine kv g0 (mv) ?_
  refine kv g0 (add6) ?_
  refine kv g0 (asg) ?_
  refine wk_end ?_
  refine ac_k ?_
  exact acw hE [(0, 0), (1, 5)] 9999 (hK31 k16 ((q14 ++ t26) ++ ([(⟨(a1 ++ (⟨#[110]⟩ : ByteArray)) ++ t19, (⟨0, 0, 0, 0⟩ : S41), ByteArray.empty, ByteArray.empty⟩ : S94)] : List S94)) (wrap64 (p15 + 1)) (Nat.le_refl _) ⟨by omega, H⟩)
 rw [if_neg c17] at H
 refine aw_ifF ?_ (decide_eq_false c17)
 refine aw_exit ?_
 refine ac_then ?_
 refine ac_then ?_
 refine ac_hit rfl ?_
 refine ac_next ?_
 refine aw_grp1 ?_
 refine wk_start ?_
 refine kv g0 (mv) ?_
 refine kv g0 (faB 2 2) ?_
 refine kv g0 (ldB) ?_
 refine kv g0 (faB 3 3) ?_
 refine kv g0 (ldB) ?_
 obtain ⟨t32, A33, H⟩ := of_bind H
 refine kcS0 47 (.lit (.int .i64 t32)) [] g0 (cal (spec_ResultOf.ok A33) [] 9999 .n (hf := Tryz.func54)) rfl rfl ?_
 obtain ⟨t34, A35, H⟩ := of_bind H
 refine kcS0 48 (.agg [.lit (.string t34.1), .lit (.int .i64 t34.2.1), .lit (.int .i64 t34.2.2.1), .lit (.int .i64 t34.2.2.2.1), .lit (.int .i64 t34.2.2.2.2.1), .lit (.string t34.2.2.2.2.2.1), .lit (.string t34.2.2.2.2.2.2)]) [] g0 (cal (spec_l11Word.ok A35) [] 9999 .n (hf := Tryz.func80)) rfl rfl ?_
 refine kb g0 (bsl 6 94 7 [.string .empty, .int .i64 0, .int .i64 0, .int .i64 0, .int .i64 0, .string .empty, .string .empty] (([(⟨t34.1, (⟨t34.2.1, t34.2.2.1, t34.2.2.2.1, t34.2.2.2.2.1⟩ : S41), t34.2.2.2.2.2.1, t34.2.2.2.2.2.2⟩ : S94)] : List S94).map e94)) ?_
 obtain ⟨c36, H⟩ := of_if H
 refine kc g0 (apR 7 94 7 80 [.string .empty, .int .i64 0, .int .i64 0, .int .i64 0, .int .i64 0, .string .empty, .string .empty] ((q14 ++ ([(⟨t34.1, (⟨t34.2.1, t34.2.2.1, t34.2.2.2.1, t34.2.2.2.2.1⟩ : S41), t34.2.2.2.2.2.1, t34.2.2.2.2.2.2⟩ : S94)] : List S94)).map e94) (.row rfl) (apb c36 rfl) appE) ?_
 refine kv g0 (asg) ?_
 refine wk_end ?_
 refine ac_next ?_
 refine aw_ret ?_
 obtain rfl := Option.some.inj H
 exact acr hE [.tmp 6] (.tmp .nil) (.one _) [(0, 7)] 9999
/-! spec_ChainLines -/
mutual
def spec_ChainLines.j0 : Nat → Int → Int → Int → (List S77) → Int → Bool → ByteArray → (List S94) → Int → Option ((List S94))
 | 0, _, _, _, _, _, _, _, _, _ => none
 | k27 + 1, a0_0, a0_1, a0_2, l0_3, a1, a2, a3, q16, p17 => if a3.size + (strOfNums ([IntKind.u8.wrap (wrap64 (97 + p17))] : List Int)).size ≤ 9223372036854775807 then if (a3 ++ (strOfNums ([IntKind.u8.wrap (wrap64 (97 + p17))] : List Int))).size + (⟨#[122]⟩ : ByteArray).size ≤ 9223372036854775807 then ((spec_RuleLines.f k27 ((rd_T77 l0_3 p17).f0) ((rd_T77 l0_3 p17).f1) ((rd_T77 l0_3 p17).f2) ((rd_T77 l0_3 p17).f3) (a3 ++ (strOfNums ([IntKind.u8.wrap (wrap64 (97 + p17))] : List Int))) ((a3 ++ (strOfNums ([IntKind.u8.wrap (wrap64 (97 + p17))] : List Int))) ++ (⟨#[122]⟩ : ByteArray))).bind fun t30 => (if q16.length + t30.length < 1759218604441 then if (q16 ++ t30).length + ([(⟨(a3 ++ (strOfNums ([IntKind.u8.wrap (wrap64 (97 + p17))] : List Int))) ++ (⟨#[122]⟩ : ByteArray), (⟨0, 0, 0, 0⟩ : S41), ByteArray.empty, ByteArray.empty⟩ : S94)] : List S94).length < 1759218604441 then spec_ChainLines.l0 k27 a0_0 a0_1 a0_2 l0_3 a1 a2 a3 ((q16 ++ t30) ++ ([(⟨(a3 ++ (strOfNums ([IntKind.u8.wrap (wrap64 (97 + p17))] : List Int))) ++ (⟨#[122]⟩ : ByteArray), (⟨0, 0, 0, 0⟩ : S41), ByteArray.empty, ByteArray.empty⟩ : S94)] : List S94)) (wrap64 (p17 + 1)) else none else none)) else none else none
def spec_ChainLines.l0 : Nat → Int → Int → Int → (List S77) → Int → Bool → ByteArray → (List S94) → Int → Option ((List S94))
 | 0, _, _, _, _, _, _, _, _, _ => none
 | k18 + 1, a0_0, a0_1, a0_2, l0_3, a1, a2, a3, q16, p17 => if p17 < (l0_3.length : Int) then if p17 < 26 then if 0 ≤ p17 then if (((rd_T77 l0_3 p17).f0).length : Int) > 0 then (if a2 = true then spec_ChainLines.l0 k18 a0_0 a0_1 a0_2 l0_3 a1 a2 a3 q16 (wrap64 (p17 + 1)) else ((spec_l09In.f k18 ((rd_T77 l0_3 p17).f0) a1).bind fun t24 => if t24 = true then spec_ChainLines.j0 k18 a0_0 a0_1 a0_2 l0_3 a1 a2 a3 q16 p17 else spec_ChainLines.l0 k18 a0_0 a0_1 a0_2 l0_3 a1 a2 a3 q16 (wrap64 (p17 + 1)))) else spec_ChainLines.j0 k18 a0_0 a0_1 a0_2 l0_3 a1 a2 a3 q16 p17 else none else spec_ChainLines.j1 k18 a0_0 a0_1 a0_2 l0_3 q16 else spec_ChainLines.j1 k18 a0_0 a0_1 a0_2 l0_3 q16
def spec_ChainLines.j1 : Nat → Int → Int → Int → (List S77) → (List S94) → Option ((List S94))
 | 0, _, _, _, _, _ => none
 | k38 + 1, a0_0, a0_1, a0_2, l0_3, q37 => (spec_ResultOf.f a0_1 a0_2).bind fun t39 => ((spec_l11Word.f 8 t39).bind fun t41 => (if q37.length + ([(⟨t41.1, (⟨t41.2.1, t41.2.2.1, t41.2.2.2.1, t41.2.2.2.2.1⟩ : S41), t41.2.2.2.2.2.1, t41.2.2.2.2.2.2⟩ : S94)] : List S94).length < 1759218604441 then some (q37 ++ ([(⟨t41.1, (⟨t41.2.1, t41.2.2.1, t41.2.2.2.1, t41.2.2.2.2.1⟩ : S41), t41.2.2.2.2.2.1, t41.2.2.2.2.2.2⟩ : S94)] : List S94)) else none))
end
def spec_ChainLines.f (k : Nat) (a0_0 : Int) (a0_1 : Int) (a0_2 : Int) (l0_3 : List S77) (a1 : Int) (a2 : Bool) (a3 : ByteArray) : Option ((List S94)) := spec_ChainLines.l0 k a0_0 a0_1 a0_2 l0_3 a1 a2 a3 ([] : List S94) 0
theorem spec_ChainLines.ok {k : Nat} {a0_0 : Int} {a0_1 : Int} {a0_2 : Int} {l0_3 : List S77} {a1 : Int} {a2 : Bool} {a3 : ByteArray} {r : (List S94)} (H : spec_ChainLines.f k a0_0 a0_1 a0_2 l0_3 a1 a2 a3 = some r) : ACalls Tryz.prog 95 [] [.agg [.lit (.int .i64 a0_0), .lit (.int .i64 a0_1), .lit (.int .i64 a0_2), .sl .o 4 (l0_3.map e77)], .lit (.int .i64 a1), .lit (.bool a2), .lit (.string a3)] [(0, .row 94 7 (r.map e94))] (.row 0) := by
 refine acalls (fn := Tryz.f95) (nt := 73) Tryz.func95 rfl rfl (Nat.le_of_ble_eq_true rfl) fun E hE => ?_
 rw [spec_ChainLines.f] at H
 refine aw_grp1 ?_
 refine wk_start ?_
 refine kb g0 (bxA 0) ?_
 refine kv g0 (asg) ?_
 refine wk_end ?_
 refine ac_next ?_
 refine aw_grp1 ?_
 refine wk_start ?_
 refine kb g0 (bsl 1 94 7 [.string .empty, .int .i64 0, .int .i64 0, .int .i64 0, .int .i64 0, .string .empty, .string .empty] (([] : List S94).map e94)) ?_
 refine kv g0 (asg) ?_
 refine wk_end ?_
 refine ac_next ?_
 refine aw_cut1 (J := fun K_ => ∀ (k_ : Nat) (q37 : List S94), k_ ≤ k → spec_ChainLines.j1 k_ a0_0 a0_1 a0_2 l0_3 q37 = some r → ACont E 73 ⟨[(4, .box 0 0), (9, .row 1)], [(0, .box 65 [.lit (.int .i64 a0_0), .lit (.int .i64 a0_1), .lit (.int .i64 a0_2), .sl .o 4 (l0_3.map e77)]), (1, .row 94 7 (q37.map e94))]⟩ K_) ?_ ?_
 ·intro K_ hJ44
  refine aw_grp1 ?_
  refine wk_start ?_
  refine kv g0 (asg) ?_
  refine wk_end ?_
  refine ac_next ?_
  refine aw_block ?_
  refine aw_loop2 (fun (k_ : Nat) (q16 : List S94) (p17 : Int) => k_ ≤ k ∧ spec_ChainLines.l0 k_ a0_0 a0_1 a0_2 l0_3 a1 a2 a3 q16 p17 = some r) (fun (q16 : List S94) (p17 : Int) => ⟨[(1, .lit (.int .i64 a1)), (2, .lit (.bool a2)), (3, .lit (.string a3)), (4, .box 0 0), (9, .row 1), (10, .lit (.int .i64 p17))], [(0, .box 65 [.lit (.int .i64 a0_0), .lit (.int .i64 a0_1), .lit (.int .i64 a0_2), .sl .o 4 (l0_3.map e77)]), (1, .row 94 7 (q16.map e94))]⟩) k ([] : List S94) 0 ⟨Nat.le_refl _, H⟩ (fun K_ h_ => acw hE [(0, 0), (1, 1)] 9999 h_) (fun _ _ => by intro h_; have h_ := h_.2; rw [spec_ChainLines.l0.eq_1] at h_; cases h_) ?_
  intro k18 q16 p17 hq_ K35 hK36
  have hk18 := hq_.1
  have H := hq_.2
  clear hq_
  rw [spec_ChainLines.l0.eq_2] at H
  refine aw_grp1 ?_
  refine aw_grp1 ?_
  refine wk_start ?_
  refine kv g0 (mv) ?_
  refine kv g0 (faB 3 3) ?_
  refine kv g0 (ldB) ?_
  refine kv g0 (lnS lenE) ?_
  refine kv g0 (lss) ?_
  refine kv g0 (mv) ?_
  by_cases c19 : p17 < (l0_3.length : Int)
  ·rw [if_pos c19] at H
   refine kv (g1 (decide_eq_true c19)) (mv) ?_
   refine kv (g1 (decide_eq_true c19)) (lss) ?_
   refine kv g0 (pkT (decide_eq_true c19)) ?_
   refine wk_end ?_
   refine ac_next ?_
   by_cases c20 : p17 < 26
   ·rw [if_pos c20] at H
    refine aw_ifT ?_ (decide_eq_true c20)
    refine aw_skip ?_
    refine ac_next ?_
    refine aw_grp1 ?_
    refine aw_block ?_
    refine aw_grp1 ?_
    refine wk_start ?_
    refine kv g0 (faB 3 3) ?_
    refine kv g0 (ldB) ?_
    refine kv g0 (mv) ?_
    obtain ⟨c21, H⟩ := of_if H
    refine kv g0 (ixS 77 (e77 (rd_T77 l0_3 p17)) c21 (getE (z := z77) c21 c19)) ?_
    refine kv g0 (ldRA 4 [.sl .o 1 (((rd_T77 l0_3 p17).f0).map (eI .i64)), .sl .o 6 (((rd_T77 l0_3 p17).f1).map e105), .lit (.int .i64 ((rd_T77 l0_3 p17).f2)), .lit (.int .i64 ((rd_T77 l0_3 p17).f3))]) ?_
    refine kb g0 (alc 2 [.slice none 0 0, .slice none 0 0, .int .i64 0, .int .i64 0] [.lit (.slice none 0 0), .lit (.slice none 0 0), .lit (.int .i64 0), .lit (.int .i64 0)]) ?_
    refine ks g0 (stB 4 [.sl .o 1 (((rd_T77 l0_3 p17).f0).map (eI .i64)), .sl .o 6 (((rd_T77 l0_3 p17).f1).map e105), .lit (.int .i64 ((rd_T77 l0_3 p17).f2)), .lit (.int .i64 ((rd_T77 l0_3 p17).f3))]) ?_
    refine wk_end ?_
    refine ac_next ?_
    refine aw_cut1 (J := fun K_ => ∀ (k_ : Nat), k_ ≤ k18 → spec_ChainLines.j0 k_ a0_0 a0_1 a0_2 l0_3 a1 a2 a3 q16 p17  = some r → ACont E 73 ⟨[(1, .lit (.int .i64 a1)), (2, .lit (.bool a2)), (3, .lit (.string a3)), (4, .box 0 0), (9, .row 1), (10, .lit (.int .i64 p17)), (11, .box 2 0)], [(0, .box 65 [.lit (.int .i64 a0_0), .lit (.int .i64 a0_1), .lit (.int .i64 a0_2), .sl .o 4 (l0_3.map e77)]), (1, .row 94 7 (q16.map e94)), (2, .box 77 [.sl .o 1 (((rd_T77 l0_3 p17).f0).map (eI .i64)), .sl .o 6 (((rd_T77 l0_3 p17).f1).map e105), .lit (.int .i64 ((rd_T77 l0_3 p17).f2)), .lit (.int .i64 ((rd_T77 l0_3 p17).f3))])]⟩ K_) ?_ ?_
    ·intro K_ hJ34
     refine aw_grp1 ?_
     refine wk_start ?_
     refine kv g0 (faB 0 0) ?_
     refine kv g0 (ldB) ?_
     refine kv g0 (lnS lenE) ?_
     refine kv g0 (gtr) ?_
     refine kv g0 (mv) ?_
     by_cases c22 : (((rd_T77 l0_3 p17).f0).length : Int) > 0
     ·rw [if_pos c22] at H
      refine kv (g1 (decide_eq_true c22)) (mv) ?_
      refine kv (g1 (decide_eq_true c22)) (mv) ?_
      by_cases c23 : a2 = true
      ·rw [if_pos c23] at H
       refine kx (hF c23) ?_
       refine kx (hF c23) ?_
       refine kx (hF c23) ?_
       refine kx (hF c23) ?_
       refine kx (hF c23) ?_
       refine kv (g1 (decide_eq_true c22)) (pkT c23) ?_
       refine kv g0 (pkT (decide_eq_true c22)) ?_
       refine wk_end ?_
       refine ac_next ?_
       refine aw_ifT ?_ rfl
       refine aw_exit ?_
       refine ac_then ?_
       refine ac_hit rfl ?_
       refine ac_next ?_
       refine wk_start ?_
       refine kv g0 (mv) ?_
       refine kv g0 (add6) ?_
       refine kv g0 (asg) ?_
       refine wk_end ?_
       refine ac_k ?_
       exact acw hE [(0, 0), (1, 1)] 9999 (hK36 k18 q16 (wrap64 (p17 + 1)) (Nat.le_refl _) ⟨by omega, H⟩)
      rw [if_neg c23] at H
      refine kv (g1 (bF c23)) (faB 0 0) ?_
      refine kv (g1 (bF c23)) (ldB) ?_
      refine kv (g1 (bF c23)) (mv) ?_
      obtain ⟨t24, A25, H⟩ := of_bind H
      refine kcS0 40 (.lit (.bool t24)) [] (g1 (bF c23)) (cal (spec_l09In.ok A25) [] 9999 .n (hf := Tryz.func51)) rfl rfl ?_
      refine kv (g1 (bF c23)) (not_) ?_
      refine kv (g1 (decide_eq_true c22)) (pkF (bF c23)) ?_
      refine kv g0 (pkT (decide_eq_true c22)) ?_
      refine wk_end ?_
      refine ac_next ?_
      by_cases c26 : t24 = true
      ·rw [if_pos c26] at H
       refine aw_ifF ?_ (nF c26)
       refine aw_skip ?_
       refine ac_k ?_
       exact acw hE [(0, 0), (1, 1), (2, 2)] 9999 (hJ34 k18 (Nat.le_refl _) H)
      rw [if_neg c26] at H
      refine aw_ifT ?_ (nT (bF c26))
      refine aw_exit ?_
      refine ac_then ?_
      refine ac_hit rfl ?_
      refine ac_next ?_
      refine wk_start ?_
      refine kv g0 (mv) ?_
      refine kv g0 (add6) ?_
      refine kv g0 (asg) ?_
      refine wk_end ?_
      refine ac_k ?_
      exact acw hE [(0, 0), (1, 1)] 9999 (hK36 k18 q16 (wrap64 (p17 + 1)) (Nat.le_refl _) ⟨by omega, H⟩)
     rw [if_neg c22] at H
     refine kx (hT (decide_eq_false c22)) ?_
     refine ku (neT (hT (decide_eq_false c22))) ?_
     refine ku neU ?_
     refine ku neU ?_
     refine ku neU ?_
     refine ku neU ?_
     refine ku neU ?_
     refine kx (hT (decide_eq_false c22)) ?_
     refine kv g0 (pkF (decide_eq_false c22)) ?_
     refine wk_end ?_
     refine ac_next ?_
     refine aw_ifF ?_ rfl
     refine aw_skip ?_
     refine ac_k ?_
     exact acw hE [(0, 0), (1, 1), (2, 2)] 9999 (hJ34 k18 (Nat.le_refl _) H)
    intro k_  hk_ H
    rcases k_ with _ | k27
    ·rw [spec_ChainLines.j0.eq_1] at H; cases H
    have hk27 : k27 ≤ k18 := by omega
    clear hk_
    rw [spec_ChainLines.j0.eq_2] at H
    refine aw_grp1 ?_
    refine wk_start ?_
    refine kv g0 (mv) ?_
    refine kv g0 (mv) ?_
    refine kv g0 (add6) ?_
    refine kv g0 (cnv .u8) ?_
    refine kb g0 (bsl 3 5 1 [.int .u8 0] (([IntKind.u8.wrap (wrap64 (97 + p17))] : List Int).map (eI .u8))) ?_
    refine kv g0 (cvB (.row rfl)) ?_
    obtain ⟨c28, H⟩ := of_if H
    refine kv g0 (cat c28) ?_
    refine kv g0 (asg) ?_
    refine wk_end ?_
    refine ac_next ?_
    refine aw_grp1 ?_
    refine wk_start ?_
    refine kv g0 (mv) ?_
    refine kv g0 (ldBA 4 [.sl .o 1 (((rd_T77 l0_3 p17).f0).map (eI .i64)), .sl .o 6 (((rd_T77 l0_3 p17).f1).map e105), .lit (.int .i64 ((rd_T77 l0_3 p17).f2)), .lit (.int .i64 ((rd_T77 l0_3 p17).f3))]) ?_
    refine kv g0 (mv) ?_
    refine kv g0 (mv) ?_
    obtain ⟨c29, H⟩ := of_if H
    refine kv g0 (cat c29) ?_
    obtain ⟨t30, A31, H⟩ := of_bind H
    refine kcS1 56 (.row 4) [(4, .row 94 7 (t30.map e94))] g0 (cal (spec_RuleLines.ok A31) [4] 9999 .n (hf := Tryz.func103)) rfl rfl ?_
    obtain ⟨c32, H⟩ := of_if H
    refine kc g0 (apR 5 94 7 80 [.string .empty, .int .i64 0, .int .i64 0, .int .i64 0, .int .i64 0, .string .empty, .string .empty] ((q16 ++ t30).map e94) (.row rfl) (apb c32 rfl) appE) ?_
    refine kv g0 (asg) ?_
    refine wk_end ?_
    refine ac_next ?_
    refine wk_start ?_
    refine kv g0 (mv) ?_
    refine kv g0 (mv) ?_
    refine kv g0 (cat c29) ?_
    refine kv g0 (bld [(0, 1), (1, 4), (5, 1), (6, 1)] [.string .empty, .int .i64 0, .int .i64 0, .int .i64 0, .int .i64 0, .string .empty, .string .empty] [.lit (.string ((a3 ++ (strOfNums ([IntKind.u8.wrap (wrap64 (97 + p17))] : List Int))) ++ (⟨#[122]⟩ : ByteArray))), .lit (.int .i64 0), .lit (.int .i64 0), .lit (.int .i64 0), .lit (.int .i64 0), .lit (.string ByteArray.empty), .lit (.string ByteArray.empty)]) ?_
    refine kb g0 (bsl 6 94 7 [.string .empty, .int .i64 0, .int .i64 0, .int .i64 0, .int .i64 0, .string .empty, .string .empty] (([(⟨(a3 ++ (strOfNums ([IntKind.u8.wrap (wrap64 (97 + p17))] : List Int))) ++ (⟨#[122]⟩ : ByteArray), (⟨0, 0, 0, 0⟩ : S41), ByteArray.empty, ByteArray.empty⟩ : S94)] : List S94).map e94)) ?_
    obtain ⟨c33, H⟩ := of_if H
    refine kc g0 (apR 7 94 7 80 [.string .empty, .int .i64 0, .int .i64 0, .int .i64 0, .int .i64 0, .string .empty, .string .empty] (((q16 ++ t30) ++ ([(⟨(a3 ++ (strOfNums ([IntKind.u8.wrap (wrap64 (97 + p17))] : List Int))) ++ (⟨#[122]⟩ : ByteArray), (⟨0, 0, 0, 0⟩ : S41), ByteArray.empty, ByteArray.empty⟩ : S94)] : List S94)).map e94) (.row rfl) (apb c33 rfl) appE) ?_
    refine kv g0 (asg) ?_
    refine wk_end ?_
    refine ac_blkN ?_
    refine ac_next ?_
    refine wk_start ?_
    refine kv g0 (mv) ?_
    refine kv g0 (add6) ?_
    refine kv g0 (asg) ?_
    refine wk_end ?_
    refine ac_k ?_
    exact acw hE [(0, 0), (1, 7)] 9999 (hK36 k27 ((q16 ++ t30) ++ ([(⟨(a3 ++ (strOfNums ([IntKind.u8.wrap (wrap64 (97 + p17))] : List Int))) ++ (⟨#[122]⟩ : ByteArray), (⟨0, 0, 0, 0⟩ : S41), ByteArray.empty, ByteArray.empty⟩ : S94)] : List S94)) (wrap64 (p17 + 1)) (by omega) ⟨by omega, H⟩)
   rw [if_neg c20] at H
   refine aw_ifF ?_ (decide_eq_false c20)
   refine aw_exit ?_
   refine ac_then ?_
   refine ac_then ?_
   refine ac_hit rfl ?_
   refine ac_k ?_
   exact acw hE [(0, 0), (1, 1)] 9999 (hJ44 k18 q16 (by omega) H)
  rw [if_neg c19] at H
  refine kx (hT (decide_eq_false c19)) ?_
  refine kx (hT (decide_eq_false c19)) ?_
  refine kv g0 (pkF (decide_eq_false c19)) ?_
  refine wk_end ?_
  refine ac_next ?_
  refine aw_ifF ?_ rfl
  refine aw_exit ?_
  refine ac_then ?_
  refine ac_then ?_
  refine ac_hit rfl ?_
  refine ac_k ?_
  exact acw hE [(0, 0), (1, 1)] 9999 (hJ44 k18 q16 (by omega) H)
 intro k_ q37 hk_ H
 rcases k_ with _ | k38
 ·rw [spec_ChainLines.j1.eq_1] at H; cases H
 have hk38 : k38 ≤ k := by omega
 clear hk_
 rw [spec_ChainLines.j1.eq_2] at H
 refine aw_grp1 ?_
 refine wk_start ?_
 refine kv g0 (mv) ?_
 refine kv g0 (faB 1 1) ?_
 refine kv g0 (ldB) ?_
 refine kv g0 (faB 2 2) ?_
 refine kv g0 (ldB) ?_
 obtain ⟨t39, A40, H⟩ := of_bind H
 refine kcS0 69 (.lit (.int .i64 t39)) [] g0 (cal (spec_ResultOf.ok A40) [] 9999 .n (hf := Tryz.func54)) rfl rfl ?_
 obtain ⟨t41, A42, H⟩ := of_bind H
 refine kcS0 70 (.agg [.lit (.string t41.1), .lit (.int .i64 t41.2.1), .lit (.int .i64 t41.2.2.1), .lit (.int .i64 t41.2.2.2.1), .lit (.int .i64 t41.2.2.2.2.1), .lit (.string t41.2.2.2.2.2.1), .lit (.string t41.2.2.2.2.2.2)]) [] g0 (cal (spec_l11Word.ok A42) [] 9999 .n (hf := Tryz.func80)) rfl rfl ?_
 refine kb g0 (bsl 8 94 7 [.string .empty, .int .i64 0, .int .i64 0, .int .i64 0, .int .i64 0, .string .empty, .string .empty] (([(⟨t41.1, (⟨t41.2.1, t41.2.2.1, t41.2.2.2.1, t41.2.2.2.2.1⟩ : S41), t41.2.2.2.2.2.1, t41.2.2.2.2.2.2⟩ : S94)] : List S94).map e94)) ?_
 obtain ⟨c43, H⟩ := of_if H
 refine kc g0 (apR 9 94 7 80 [.string .empty, .int .i64 0, .int .i64 0, .int .i64 0, .int .i64 0, .string .empty, .string .empty] ((q37 ++ ([(⟨t41.1, (⟨t41.2.1, t41.2.2.1, t41.2.2.2.1, t41.2.2.2.2.1⟩ : S41), t41.2.2.2.2.2.1, t41.2.2.2.2.2.2⟩ : S94)] : List S94)).map e94) (.row rfl) (apb c43 rfl) appE) ?_
 refine kv g0 (asg) ?_
 refine wk_end ?_
 refine ac_next ?_
 refine aw_ret ?_
 obtain rfl := Option.some.inj H
 exact acr hE [.tmp 8] (.tmp .nil) (.one _) [(0, 9)] 9999
/-! spec_TreeLines -/
def spec_TreeLines.f : Nat → Int → Int → Int → (List S77) → (List Int) → ByteArray → Option ((List S94))
 | 0, _, _, _, _, _, _ => none
 | k + 1, a0_0, a0_1, a0_2, l0_3, l1, a2 => if (l1.length : Int) = 0 then ((spec_ChainLines.f k a0_0 a0_1 a0_2 l0_3 0 true a2).bind fun t2 => some t2) else if (l1.length : Int) = 1 then (if 0 < (l1.length : Int) then (if a2.size + (⟨#[121]⟩ : ByteArray).size ≤ 9223372036854775807 then (if a2.size + (⟨#[120]⟩ : ByteArray).size ≤ 9223372036854775807 then ((spec_l11Asks.f 3 (rd l1 0) (a2 ++ (⟨#[121]⟩ : ByteArray)) (a2 ++ (⟨#[120]⟩ : ByteArray))).bind fun t8 => (spec_ChainLines.f k a0_0 a0_1 a0_2 l0_3 (rd l1 0) false (a2 ++ (⟨#[121]⟩ : ByteArray))).bind fun t10 => (if ([(⟨t8.1, (⟨t8.2.1, t8.2.2.1, t8.2.2.2.1, t8.2.2.2.2.1⟩ : S41), t8.2.2.2.2.2.1, t8.2.2.2.2.2.2⟩ : S94), (⟨a2 ++ (⟨#[121]⟩ : ByteArray), (⟨0, 0, 0, 0⟩ : S41), ByteArray.empty, ByteArray.empty⟩ : S94)] : List S94).length + t10.length < 1759218604441 then if (([(⟨t8.1, (⟨t8.2.1, t8.2.2.1, t8.2.2.2.1, t8.2.2.2.2.1⟩ : S41), t8.2.2.2.2.2.1, t8.2.2.2.2.2.2⟩ : S94), (⟨a2 ++ (⟨#[121]⟩ : ByteArray), (⟨0, 0, 0, 0⟩ : S41), ByteArray.empty, ByteArray.empty⟩ : S94)] : List S94) ++ t10).length + ([(⟨a2 ++ (⟨#[120]⟩ : ByteArray), (⟨0, 0, 0, 0⟩ : S41), ByteArray.empty, ByteArray.empty⟩ : S94)] : List S94).length < 1759218604441 then (spec_ChainLines.f k a0_0 a0_1 a0_2 l0_3 0 true (a2 ++ (⟨#[120]⟩ : ByteArray))).bind fun t14 => (if ((([(⟨t8.1, (⟨t8.2.1, t8.2.2.1, t8.2.2.2.1, t8.2.2.2.2.1⟩ : S41), t8.2.2.2.2.2.1, t8.2.2.2.2.2.2⟩ : S94), (⟨a2 ++ (⟨#[121]⟩ : ByteArray), (⟨0, 0, 0, 0⟩ : S41), ByteArray.empty, ByteArray.empty⟩ : S94)] : List S94) ++ t10) ++ ([(⟨a2 ++ (⟨#[120]⟩ : ByteArray), (⟨0, 0, 0, 0⟩ : S41), ByteArray.empty, ByteArray.empty⟩ : S94)] : List S94)).length + t14.length < 1759218604441 then some (((([(⟨t8.1, (⟨t8.2.1, t8.2.2.1, t8.2.2.2.1, t8.2.2.2.2.1⟩ : S41), t8.2.2.2.2.2.1, t8.2.2.2.2.2.2⟩ : S94), (⟨a2 ++ (⟨#[121]⟩ : ByteArray), (⟨0, 0, 0, 0⟩ : S41), ByteArray.empty, ByteArray.empty⟩ : S94)] : List S94) ++ t10) ++ ([(⟨a2 ++ (⟨#[120]⟩ : ByteArray), (⟨0, 0, 0, 0⟩ : S41), ByteArray.empty, ByteArray.empty⟩ : S94)] : List S94)) ++ t14) else none) else none else none)) else none) else none) else none) else if 0 ≤ (wrap64 ((l1.length : Int).tdiv 2)) then (if (wrap64 ((l1.length : Int).tdiv 2)) < (l1.length : Int) then (if a2.size + (⟨#[104]⟩ : ByteArray).size ≤ 9223372036854775807 then (if a2.size + (⟨#[108]⟩ : ByteArray).size ≤ 9223372036854775807 then ((spec_l11Asks.f 5 (rd l1 (wrap64 ((l1.length : Int).tdiv 2))) (a2 ++ (⟨#[104]⟩ : ByteArray)) (a2 ++ (⟨#[108]⟩ : ByteArray))).bind fun t21 => if (wrap64 ((l1.length : Int).tdiv 2)) ≤ (l1.length : Int) then ((spec_TreeLines.f k a0_0 a0_1 a0_2 l0_3 (l1.take (wrap64 ((l1.length : Int).tdiv 2)).toNat) (a2 ++ (⟨#[108]⟩ : ByteArray))).bind fun t24 => (if ([(⟨t21.1, (⟨t21.2.1, t21.2.2.1, t21.2.2.2.1, t21.2.2.2.2.1⟩ : S41), t21.2.2.2.2.2.1, t21.2.2.2.2.2.2⟩ : S94), (⟨a2 ++ (⟨#[108]⟩ : ByteArray), (⟨0, 0, 0, 0⟩ : S41), ByteArray.empty, ByteArray.empty⟩ : S94)] : List S94).length + t24.length < 1759218604441 then if (([(⟨t21.1, (⟨t21.2.1, t21.2.2.1, t21.2.2.2.1, t21.2.2.2.2.1⟩ : S41), t21.2.2.2.2.2.1, t21.2.2.2.2.2.2⟩ : S94), (⟨a2 ++ (⟨#[108]⟩ : ByteArray), (⟨0, 0, 0, 0⟩ : S41), ByteArray.empty, ByteArray.empty⟩ : S94)] : List S94) ++ t24).length + ([(⟨a2 ++ (⟨#[104]⟩ : ByteArray), (⟨0, 0, 0, 0⟩ : S41), ByteArray.empty, ByteArray.empty⟩ : S94)] : List S94).length < 1759218604441 then (spec_TreeLines.f k a0_0 a0_1 a0_2 l0_3 (l1.drop (wrap64 ((l1.length : Int).tdiv 2)).toNat) (a2 ++ (⟨#[104]⟩ : ByteArray))).bind fun t28 => (if ((([(⟨t21.1, (⟨t21.2.1, t21.2.2.1, t21.2.2.2.1, t21.2.2.2.2.1⟩ : S41), t21.2.2.2.2.2.1, t21.2.2.2.2.2.2⟩ : S94), (⟨a2 ++ (⟨#[108]⟩ : ByteArray), (⟨0, 0, 0, 0⟩ : S41), ByteArray.empty, ByteArray.empty⟩ : S94)] : List S94) ++ t24) ++ ([(⟨a2 ++ (⟨#[104]⟩ : ByteArray), (⟨0, 0, 0, 0⟩ : S41), ByteArray.empty, ByteArray.empty⟩ : S94)] : List S94)).length + t28.length < 1759218604441 then some (((([(⟨t21.1, (⟨t21.2.1, t21.2.2.1, t21.2.2.2.1, t21.2.2.2.2.1⟩ : S41), t21.2.2.2.2.2.1, t21.2.2.2.2.2.2⟩ : S94), (⟨a2 ++ (⟨#[108]⟩ : ByteArray), (⟨0, 0, 0, 0⟩ : S41), ByteArray.empty, ByteArray.empty⟩ : S94)] : List S94) ++ t24) ++ ([(⟨a2 ++ (⟨#[104]⟩ : ByteArray), (⟨0, 0, 0, 0⟩ : S41), ByteArray.empty, ByteArray.empty⟩ : S94)] : List S94)) ++ t28) else none) else none else none)) else none) else none) else none) else none) else none
theorem spec_TreeLines.ok {k : Nat} {a0_0 : Int} {a0_1 : Int} {a0_2 : Int} {l0_3 : List S77} {l1 : List Int} {a2 : ByteArray} {r : (List S94)} (H : spec_TreeLines.f k a0_0 a0_1 a0_2 l0_3 l1 a2 = some r) : ACalls Tryz.prog 82 [] [.agg [.lit (.int .i64 a0_0), .lit (.int .i64 a0_1), .lit (.int .i64 a0_2), .sl .o 4 (l0_3.map e77)], .sl .o 1 (l1.map (eI .i64)), .lit (.string a2)] [(0, .row 94 7 (r.map e94))] (.row 0) := by
 induction k generalizing a0_0 a0_1 a0_2 l0_3 l1 a2 r with
 | zero => rw [spec_TreeLines.f] at H; cases H
 | succ k ih =>
 refine acalls (fn := Tryz.f82) (nt := 92) Tryz.func82 rfl rfl (Nat.le_of_ble_eq_true rfl) fun E hE => ?_
 rw [spec_TreeLines.f] at H
 refine aw_grp1 ?_
 refine wk_start ?_
 refine kb g0 (bxA 0) ?_
 refine kv g0 (asg) ?_
 refine wk_end ?_
 refine ac_next ?_
 refine aw_grp1 ?_
 refine wk_start ?_
 refine kv g0 (mv) ?_
 refine kv g0 (lnS lenE) ?_
 refine kv g0 (asg) ?_
 refine wk_end ?_
 refine ac_next ?_
 refine aw_grp1 ?_
 refine aw_grp1 ?_
 refine wk_start ?_
 refine kv g0 (mv) ?_
 refine kv g0 (eql) ?_
 refine wk_end ?_
 refine ac_next ?_
 by_cases c1 : (l1.length : Int) = 0
 ·rw [if_pos c1] at H
  refine aw_ifT ?_ (eT c1)
  refine aw_grp1 ?_
  refine wk_start ?_
  refine kv g0 (ldBA 4 [.lit (.int .i64 a0_0), .lit (.int .i64 a0_1), .lit (.int .i64 a0_2), .sl .o 4 (l0_3.map e77)]) ?_
  refine kv g0 (mv) ?_
  obtain ⟨t2, A3, H⟩ := of_bind H
  refine kcS1 17 (.row 1) [(1, .row 94 7 (t2.map e94))] g0 (cal (spec_ChainLines.ok A3) [1] 9999 .n (hf := Tryz.func95)) rfl rfl ?_
  refine kv g0 (asg) ?_
  refine wk_end ?_
  refine ac_next ?_
  refine aw_ret ?_
  refine ac_thenR ?_
  obtain rfl := Option.some.inj H
  exact acr hE [.tmp 6] (.tmp .nil) (.one _) [(0, 1)] 9999
 rw [if_neg c1] at H
 refine aw_ifF ?_ (eF c1)
 refine aw_skip ?_
 refine ac_next ?_
 refine aw_grp1 ?_
 refine aw_grp1 ?_
 refine wk_start ?_
 refine kv g0 (mv) ?_
 refine kv g0 (eql) ?_
 refine wk_end ?_
 refine ac_next ?_
 by_cases c4 : (l1.length : Int) = 1
 ·rw [if_pos c4] at H
  refine aw_ifT ?_ (eT c4)
  refine aw_grp1 ?_
  refine wk_start ?_
  refine kv g0 (mv) ?_
  obtain ⟨c5, H⟩ := of_if H
  refine kv g0 (ixS 3 (eI .i64 (rd l1 0)) (by decide : (0 : Int) ≤ 0) (getE (z := (0 : Int)) (by decide : (0 : Int) ≤ 0) c5)) ?_
  refine kv g0 (ldR (.lit (.int .i64 (rd l1 0)))) ?_
  refine kv g0 (mv) ?_
  obtain ⟨c6, H⟩ := of_if H
  refine kv g0 (cat c6) ?_
  refine kv g0 (mv) ?_
  obtain ⟨c7, H⟩ := of_if H
  refine kv g0 (cat c7) ?_
  obtain ⟨t8, A9, H⟩ := of_bind H
  refine kcS0 27 (.agg [.lit (.string t8.1), .lit (.int .i64 t8.2.1), .lit (.int .i64 t8.2.2.1), .lit (.int .i64 t8.2.2.2.1), .lit (.int .i64 t8.2.2.2.2.1), .lit (.string t8.2.2.2.2.2.1), .lit (.string t8.2.2.2.2.2.2)]) [] g0 (cal (spec_l11Asks.ok A9) [] 9999 .n (hf := Tryz.func81)) rfl rfl ?_
  refine kv g0 (mv) ?_
  refine kv g0 (cat c6) ?_
  refine kv g0 (bld [(0, 1), (1, 4), (5, 1), (6, 1)] [.string .empty, .int .i64 0, .int .i64 0, .int .i64 0, .int .i64 0, .string .empty, .string .empty] [.lit (.string (a2 ++ (⟨#[121]⟩ : ByteArray))), .lit (.int .i64 0), .lit (.int .i64 0), .lit (.int .i64 0), .lit (.int .i64 0), .lit (.string ByteArray.empty), .lit (.string ByteArray.empty)]) ?_
  refine kb g0 (bsl 2 94 7 [.string .empty, .int .i64 0, .int .i64 0, .int .i64 0, .int .i64 0, .string .empty, .string .empty] (([(⟨t8.1, (⟨t8.2.1, t8.2.2.1, t8.2.2.2.1, t8.2.2.2.2.1⟩ : S41), t8.2.2.2.2.2.1, t8.2.2.2.2.2.2⟩ : S94), (⟨a2 ++ (⟨#[121]⟩ : ByteArray), (⟨0, 0, 0, 0⟩ : S41), ByteArray.empty, ByteArray.empty⟩ : S94)] : List S94).map e94)) ?_
  refine kv g0 (asg) ?_
  refine wk_end ?_
  refine ac_next ?_
  refine aw_grp1 ?_
  refine wk_start ?_
  refine kv g0 (mv) ?_
  refine kv g0 (ldBA 4 [.lit (.int .i64 a0_0), .lit (.int .i64 a0_1), .lit (.int .i64 a0_2), .sl .o 4 (l0_3.map e77)]) ?_
  refine kv g0 (mv) ?_
  refine kv g0 (ixS 3 (eI .i64 (rd l1 0)) (by decide : (0 : Int) ≤ 0) (getE (z := (0 : Int)) (by decide : (0 : Int) ≤ 0) c5)) ?_
  refine kv g0 (ldR (.lit (.int .i64 (rd l1 0)))) ?_
  refine kv g0 (mv) ?_
  refine kv g0 (cat c6) ?_
  obtain ⟨t10, A11, H⟩ := of_bind H
  refine kcS1 39 (.row 3) [(3, .row 94 7 (t10.map e94))] g0 (cal (spec_ChainLines.ok A11) [3] 9999 .n (hf := Tryz.func95)) rfl rfl ?_
  obtain ⟨c12, H⟩ := of_if H
  refine kc g0 (apR 4 94 7 80 [.string .empty, .int .i64 0, .int .i64 0, .int .i64 0, .int .i64 0, .string .empty, .string .empty] ((([(⟨t8.1, (⟨t8.2.1, t8.2.2.1, t8.2.2.2.1, t8.2.2.2.2.1⟩ : S41), t8.2.2.2.2.2.1, t8.2.2.2.2.2.2⟩ : S94), (⟨a2 ++ (⟨#[121]⟩ : ByteArray), (⟨0, 0, 0, 0⟩ : S41), ByteArray.empty, ByteArray.empty⟩ : S94)] : List S94) ++ t10).map e94) (.row rfl) (apb c12 rfl) appE) ?_
  refine kv g0 (asg) ?_
  refine wk_end_draw hM (by kernel_rfl) ?_
  refine ac_next ?_
  refine aw_grp1 ?_
  refine wk_start ?_
  refine kv g0 (mv) ?_
  refine kv g0 (mv) ?_
  refine kv g0 (cat c7) ?_
  refine kv g0 (bld [(0, 1), (1, 4), (5, 1), (6, 1)] [.string .empty, .int .i64 0, .int .i64 0, .int .i64 0, .int .i64 0, .string .empty, .string .empty] [.lit (.string (a2 ++ (⟨#[120]⟩ : ByteArray))), .lit (.int .i64 0), .lit (.int .i64 0), .lit (.int .i64 0), .lit (.int .i64 0), .lit (.string ByteArray.empty), .lit (.string ByteArray.empty)]) ?_
  refine kb g0 (bsl 5 94 7 [.string .empty, .int .i64 0, .int .i64 0, .int .i64 0, .int .i64 0, .string .empty, .string .empty] (([(⟨a2 ++ (⟨#[120]⟩ : ByteArray), (⟨0, 0, 0, 0⟩ : S41), ByteArray.empty, ByteArray.empty⟩ : S94)] : List S94).map e94)) ?_
  obtain ⟨c13, H⟩ := of_if H
  refine kc g0 (apR 6 94 7 80 [.string .empty, .int .i64 0, .int .i64 0, .int .i64 0, .int .i64 0, .string .empty, .string .empty] (((([(⟨t8.1, (⟨t8.2.1, t8.2.2.1, t8.2.2.2.1, t8.2.2.2.2.1⟩ : S41), t8.2.2.2.2.2.1, t8.2.2.2.2.2.2⟩ : S94), (⟨a2 ++ (⟨#[121]⟩ : ByteArray), (⟨0, 0, 0, 0⟩ : S41), ByteArray.empty, ByteArray.empty⟩ : S94)] : List S94) ++ t10) ++ ([(⟨a2 ++ (⟨#[120]⟩ : ByteArray), (⟨0, 0, 0, 0⟩ : S41), ByteArray.empty, ByteArray.empty⟩ : S94)] : List S94)).map e94) (.row rfl) (apb c13 rfl) appE) ?_
  refine kv g0 (asg) ?_
  refine wk_end ?_
  refine ac_next ?_
  refine aw_grp1 ?_
  refine wk_start ?_
  refine kv g0 (mv) ?_
  refine kv g0 (ldBA 4 [.lit (.int .i64 a0_0), .lit (.int .i64 a0_1), .lit (.int .i64 a0_2), .sl .o 4 (l0_3.map e77)]) ?_
  refine kv g0 (mv) ?_
  refine kv g0 (cat c7) ?_
  obtain ⟨t14, A15, H⟩ := of_bind H
  refine kcS1 51 (.row 7) [(7, .row 94 7 (t14.map e94))] g0 (cal (spec_ChainLines.ok A15) [7] 9999 .n (hf := Tryz.func95)) rfl rfl ?_
  obtain ⟨c16, H⟩ := of_if H
  refine kc g0 (apR 8 94 7 80 [.string .empty, .int .i64 0, .int .i64 0, .int .i64 0, .int .i64 0, .string .empty, .string .empty] ((((([(⟨t8.1, (⟨t8.2.1, t8.2.2.1, t8.2.2.2.1, t8.2.2.2.2.1⟩ : S41), t8.2.2.2.2.2.1, t8.2.2.2.2.2.2⟩ : S94), (⟨a2 ++ (⟨#[121]⟩ : ByteArray), (⟨0, 0, 0, 0⟩ : S41), ByteArray.empty, ByteArray.empty⟩ : S94)] : List S94) ++ t10) ++ ([(⟨a2 ++ (⟨#[120]⟩ : ByteArray), (⟨0, 0, 0, 0⟩ : S41), ByteArray.empty, ByteArray.empty⟩ : S94)] : List S94)) ++ t14).map e94) (.row rfl) (apb c16 rfl) appE) ?_
  refine kv g0 (asg) ?_
  refine wk_end ?_
  refine ac_next ?_
  refine aw_ret ?_
  refine ac_thenR ?_
  obtain rfl := Option.some.inj H
  exact acr hE [.tmp 6] (.tmp .nil) (.one _) [(0, 8)] 9999
 rw [if_neg c4] at H
 refine aw_ifF ?_ (eF c4)
 refine aw_skip ?_
 refine ac_next ?_
 refine aw_grp1 ?_
 refine wk_start ?_
 refine kv g0 (mv) ?_
 refine kv g0 (quo6 (by decide : (2 : Int) ≠ 0)) ?_
 refine kv g0 (asg) ?_
 refine wk_end ?_
 refine ac_next ?_
 refine aw_grp1 ?_
 refine wk_start ?_
 refine kv g0 (mv) ?_
 refine kv g0 (mv) ?_
 obtain ⟨c17, H⟩ := of_if H
 obtain ⟨c18, H⟩ := of_if H
 refine kv g0 (ixS 3 (eI .i64 (rd l1 (wrap64 ((l1.length : Int).tdiv 2)))) c17 (getE (z := (0 : Int)) c17 c18)) ?_
 refine kv g0 (ldR (.lit (.int .i64 (rd l1 (wrap64 ((l1.length : Int).tdiv 2)))))) ?_
 refine kv g0 (mv) ?_
 obtain ⟨c19, H⟩ := of_if H
 refine kv g0 (cat c19) ?_
 refine kv g0 (mv) ?_
 obtain ⟨c20, H⟩ := of_if H
 refine kv g0 (cat c20) ?_
 obtain ⟨t21, A22, H⟩ := of_bind H
 refine kcS0 63 (.agg [.lit (.string t21.1), .lit (.int .i64 t21.2.1), .lit (.int .i64 t21.2.2.1), .lit (.int .i64 t21.2.2.2.1), .lit (.int .i64 t21.2.2.2.2.1), .lit (.string t21.2.2.2.2.2.1), .lit (.string t21.2.2.2.2.2.2)]) [] g0 (cal (spec_l11Asks.ok A22) [] 9999 .n (hf := Tryz.func81)) rfl rfl ?_
 refine kv g0 (mv) ?_
 refine kv g0 (cat c20) ?_
 refine kv g0 (bld [(0, 1), (1, 4), (5, 1), (6, 1)] [.string .empty, .int .i64 0, .int .i64 0, .int .i64 0, .int .i64 0, .string .empty, .string .empty] [.lit (.string (a2 ++ (⟨#[108]⟩ : ByteArray))), .lit (.int .i64 0), .lit (.int .i64 0), .lit (.int .i64 0), .lit (.int .i64 0), .lit (.string ByteArray.empty), .lit (.string ByteArray.empty)]) ?_
 refine kb g0 (bsl 9 94 7 [.string .empty, .int .i64 0, .int .i64 0, .int .i64 0, .int .i64 0, .string .empty, .string .empty] (([(⟨t21.1, (⟨t21.2.1, t21.2.2.1, t21.2.2.2.1, t21.2.2.2.2.1⟩ : S41), t21.2.2.2.2.2.1, t21.2.2.2.2.2.2⟩ : S94), (⟨a2 ++ (⟨#[108]⟩ : ByteArray), (⟨0, 0, 0, 0⟩ : S41), ByteArray.empty, ByteArray.empty⟩ : S94)] : List S94).map e94)) ?_
 refine kv g0 (asg) ?_
 refine wk_end ?_
 refine ac_next ?_
 refine aw_grp1 ?_
 refine wk_start ?_
 refine kv g0 (mv) ?_
 refine kv g0 (ldBA 4 [.lit (.int .i64 a0_0), .lit (.int .i64 a0_1), .lit (.int .i64 a0_2), .sl .o 4 (l0_3.map e77)]) ?_
 refine kv g0 (mv) ?_
 refine kv g0 (mv) ?_
 obtain ⟨c23, H⟩ := of_if H
 refine kv g0 (slH 3 c17 c23) ?_
 refine kv g0 (mv) ?_
 refine kv g0 (cat c20) ?_
 obtain ⟨t24, A25, H⟩ := of_bind H
 refine kcS1 75 (.row 10) [(10, .row 94 7 (t24.map e94))] g0 (cal (ih (H := A25)) [10] 9999 .n (hf := Tryz.func82)) rfl rfl ?_
 obtain ⟨c26, H⟩ := of_if H
 refine kc g0 (apR 11 94 7 80 [.string .empty, .int .i64 0, .int .i64 0, .int .i64 0, .int .i64 0, .string .empty, .string .empty] ((([(⟨t21.1, (⟨t21.2.1, t21.2.2.1, t21.2.2.2.1, t21.2.2.2.2.1⟩ : S41), t21.2.2.2.2.2.1, t21.2.2.2.2.2.2⟩ : S94), (⟨a2 ++ (⟨#[108]⟩ : ByteArray), (⟨0, 0, 0, 0⟩ : S41), ByteArray.empty, ByteArray.empty⟩ : S94)] : List S94) ++ t24).map e94) (.row rfl) (apb c26 rfl) appE) ?_
 refine kv g0 (asg) ?_
 refine wk_end_draw hM (by kernel_rfl) ?_
 refine ac_next ?_
 refine aw_grp1 ?_
 refine wk_start ?_
 refine kv g0 (mv) ?_
 refine kv g0 (mv) ?_
 refine kv g0 (cat c19) ?_
 refine kv g0 (bld [(0, 1), (1, 4), (5, 1), (6, 1)] [.string .empty, .int .i64 0, .int .i64 0, .int .i64 0, .int .i64 0, .string .empty, .string .empty] [.lit (.string (a2 ++ (⟨#[104]⟩ : ByteArray))), .lit (.int .i64 0), .lit (.int .i64 0), .lit (.int .i64 0), .lit (.int .i64 0), .lit (.string ByteArray.empty), .lit (.string ByteArray.empty)]) ?_
 refine kb g0 (bsl 12 94 7 [.string .empty, .int .i64 0, .int .i64 0, .int .i64 0, .int .i64 0, .string .empty, .string .empty] (([(⟨a2 ++ (⟨#[104]⟩ : ByteArray), (⟨0, 0, 0, 0⟩ : S41), ByteArray.empty, ByteArray.empty⟩ : S94)] : List S94).map e94)) ?_
 obtain ⟨c27, H⟩ := of_if H
 refine kc g0 (apR 13 94 7 80 [.string .empty, .int .i64 0, .int .i64 0, .int .i64 0, .int .i64 0, .string .empty, .string .empty] (((([(⟨t21.1, (⟨t21.2.1, t21.2.2.1, t21.2.2.2.1, t21.2.2.2.2.1⟩ : S41), t21.2.2.2.2.2.1, t21.2.2.2.2.2.2⟩ : S94), (⟨a2 ++ (⟨#[108]⟩ : ByteArray), (⟨0, 0, 0, 0⟩ : S41), ByteArray.empty, ByteArray.empty⟩ : S94)] : List S94) ++ t24) ++ ([(⟨a2 ++ (⟨#[104]⟩ : ByteArray), (⟨0, 0, 0, 0⟩ : S41), ByteArray.empty, ByteArray.empty⟩ : S94)] : List S94)).map e94) (.row rfl) (apb c27 rfl) appE) ?_
 refine kv g0 (asg) ?_
 refine wk_end ?_
 refine ac_next ?_
 refine aw_grp1 ?_
 refine wk_start ?_
 refine kv g0 (mv) ?_
 refine kv g0 (ldBA 4 [.lit (.int .i64 a0_0), .lit (.int .i64 a0_1), .lit (.int .i64 a0_2), .sl .o 4 (l0_3.map e77)]) ?_
 refine kv g0 (mv) ?_
 refine kv g0 (mv) ?_
 refine kv g0 (slL 3 c17 c23) ?_
 refine kv g0 (mv) ?_
 refine kv g0 (cat c19) ?_
 obtain ⟨t28, A29, H⟩ := of_bind H
 refine kcS1 90 (.row 14) [(14, .row 94 7 (t28.map e94))] g0 (cal (ih (H := A29)) [14] 9999 .n (hf := Tryz.func82)) rfl rfl ?_
 obtain ⟨c30, H⟩ := of_if H
 refine kc g0 (apR 15 94 7 80 [.string .empty, .int .i64 0, .int .i64 0, .int .i64 0, .int .i64 0, .string .empty, .string .empty] ((((([(⟨t21.1, (⟨t21.2.1, t21.2.2.1, t21.2.2.2.1, t21.2.2.2.2.1⟩ : S41), t21.2.2.2.2.2.1, t21.2.2.2.2.2.2⟩ : S94), (⟨a2 ++ (⟨#[108]⟩ : ByteArray), (⟨0, 0, 0, 0⟩ : S41), ByteArray.empty, ByteArray.empty⟩ : S94)] : List S94) ++ t24) ++ ([(⟨a2 ++ (⟨#[104]⟩ : ByteArray), (⟨0, 0, 0, 0⟩ : S41), ByteArray.empty, ByteArray.empty⟩ : S94)] : List S94)) ++ t28).map e94) (.row rfl) (apb c30 rfl) appE) ?_
 refine kv g0 (asg) ?_
 refine wk_end_draw hM (by kernel_rfl) ?_
 refine ac_next ?_
 refine aw_ret ?_
 obtain rfl := Option.some.inj H
 exact acr hE [.tmp 6] (.tmp .nil) (.one _) [(0, 15)] 9999
/-! spec_PolicyLines -/
def spec_PolicyLines.f (k : Nat) (a0_0 : Int) (a0_1 : Int) (a0_2 : Int) (l0_3 : List S77) : Option ((List S94)) := (spec_l11Word.f 1 1).bind fun t1 => ((spec_l11Asks.f 3 a0_0 (⟨#[112]⟩ : ByteArray) (⟨#[113]⟩ : ByteArray)).bind fun t3 => ((spec_l11Word.f 8 0).bind fun t5 => ((spec_l11Word.f 1 0).bind fun t7 => (spec_NumsOf.f k a0_0 a0_1 a0_2 l0_3).bind fun t9 => ((spec_TreeLines.f k a0_0 a0_1 a0_2 l0_3 t9 (⟨#[116]⟩ : ByteArray)).bind fun t11 => (if ([(⟨t1.1, (⟨t1.2.1, t1.2.2.1, t1.2.2.2.1, t1.2.2.2.2.1⟩ : S41), t1.2.2.2.2.2.1, t1.2.2.2.2.2.2⟩ : S94), (⟨t3.1, (⟨t3.2.1, t3.2.2.1, t3.2.2.2.1, t3.2.2.2.2.1⟩ : S41), t3.2.2.2.2.2.1, t3.2.2.2.2.2.2⟩ : S94), (⟨(⟨#[113]⟩ : ByteArray), (⟨0, 0, 0, 0⟩ : S41), ByteArray.empty, ByteArray.empty⟩ : S94), (⟨t5.1, (⟨t5.2.1, t5.2.2.1, t5.2.2.2.1, t5.2.2.2.2.1⟩ : S41), t5.2.2.2.2.2.1, t5.2.2.2.2.2.2⟩ : S94), (⟨(⟨#[112]⟩ : ByteArray), (⟨0, 0, 0, 0⟩ : S41), ByteArray.empty, ByteArray.empty⟩ : S94), (⟨t7.1, (⟨t7.2.1, t7.2.2.1, t7.2.2.2.1, t7.2.2.2.2.1⟩ : S41), t7.2.2.2.2.2.1, t7.2.2.2.2.2.2⟩ : S94)] : List S94).length + t11.length < 1759218604441 then some (([(⟨t1.1, (⟨t1.2.1, t1.2.2.1, t1.2.2.2.1, t1.2.2.2.2.1⟩ : S41), t1.2.2.2.2.2.1, t1.2.2.2.2.2.2⟩ : S94), (⟨t3.1, (⟨t3.2.1, t3.2.2.1, t3.2.2.2.1, t3.2.2.2.2.1⟩ : S41), t3.2.2.2.2.2.1, t3.2.2.2.2.2.2⟩ : S94), (⟨(⟨#[113]⟩ : ByteArray), (⟨0, 0, 0, 0⟩ : S41), ByteArray.empty, ByteArray.empty⟩ : S94), (⟨t5.1, (⟨t5.2.1, t5.2.2.1, t5.2.2.2.1, t5.2.2.2.2.1⟩ : S41), t5.2.2.2.2.2.1, t5.2.2.2.2.2.2⟩ : S94), (⟨(⟨#[112]⟩ : ByteArray), (⟨0, 0, 0, 0⟩ : S41), ByteArray.empty, ByteArray.empty⟩ : S94), (⟨t7.1, (⟨t7.2.1, t7.2.2.1, t7.2.2.2.1, t7.2.2.2.2.1⟩ : S41), t7.2.2.2.2.2.1, t7.2.2.2.2.2.2⟩ : S94)] : List S94) ++ t11) else none)))))
theorem spec_PolicyLines.ok {k : Nat} {a0_0 : Int} {a0_1 : Int} {a0_2 : Int} {l0_3 : List S77} {r : (List S94)} (H : spec_PolicyLines.f k a0_0 a0_1 a0_2 l0_3 = some r) : ACalls Tryz.prog 63 [] [.agg [.lit (.int .i64 a0_0), .lit (.int .i64 a0_1), .lit (.int .i64 a0_2), .sl .o 4 (l0_3.map e77)]] [(0, .row 94 7 (r.map e94))] (.row 0) := by
 refine acalls (fn := Tryz.f63) (nt := 19) Tryz.func63 rfl rfl (Nat.le_of_ble_eq_true rfl) fun E hE => ?_
 rw [spec_PolicyLines.f] at H
 refine aw_grp1 ?_
 refine wk_start ?_
 refine kb g0 (bxA 0) ?_
 refine kv g0 (asg) ?_
 refine wk_end ?_
 refine ac_next ?_
 refine aw_grp1 ?_
 refine wk_start ?_
 obtain ⟨t1, A2, H⟩ := of_bind H
 refine kcS0 4 (.agg [.lit (.string t1.1), .lit (.int .i64 t1.2.1), .lit (.int .i64 t1.2.2.1), .lit (.int .i64 t1.2.2.2.1), .lit (.int .i64 t1.2.2.2.2.1), .lit (.string t1.2.2.2.2.2.1), .lit (.string t1.2.2.2.2.2.2)]) [] g0 (cal (spec_l11Word.ok A2) [] 9999 .n (hf := Tryz.func80)) rfl rfl ?_
 refine kv g0 (faB 0 0) ?_
 refine kv g0 (ldB) ?_
 obtain ⟨t3, A4, H⟩ := of_bind H
 refine kcS0 7 (.agg [.lit (.string t3.1), .lit (.int .i64 t3.2.1), .lit (.int .i64 t3.2.2.1), .lit (.int .i64 t3.2.2.2.1), .lit (.int .i64 t3.2.2.2.2.1), .lit (.string t3.2.2.2.2.2.1), .lit (.string t3.2.2.2.2.2.2)]) [] g0 (cal (spec_l11Asks.ok A4) [] 9999 .n (hf := Tryz.func81)) rfl rfl ?_
 refine kv g0 (bld [(0, 1), (1, 4), (5, 1), (6, 1)] [.string .empty, .int .i64 0, .int .i64 0, .int .i64 0, .int .i64 0, .string .empty, .string .empty] [.lit (.string (⟨#[113]⟩ : ByteArray)), .lit (.int .i64 0), .lit (.int .i64 0), .lit (.int .i64 0), .lit (.int .i64 0), .lit (.string ByteArray.empty), .lit (.string ByteArray.empty)]) ?_
 obtain ⟨t5, A6, H⟩ := of_bind H
 refine kcS0 9 (.agg [.lit (.string t5.1), .lit (.int .i64 t5.2.1), .lit (.int .i64 t5.2.2.1), .lit (.int .i64 t5.2.2.2.1), .lit (.int .i64 t5.2.2.2.2.1), .lit (.string t5.2.2.2.2.2.1), .lit (.string t5.2.2.2.2.2.2)]) [] g0 (cal (spec_l11Word.ok A6) [] 9999 .n (hf := Tryz.func80)) rfl rfl ?_
 refine kv g0 (bld [(0, 1), (1, 4), (5, 1), (6, 1)] [.string .empty, .int .i64 0, .int .i64 0, .int .i64 0, .int .i64 0, .string .empty, .string .empty] [.lit (.string (⟨#[112]⟩ : ByteArray)), .lit (.int .i64 0), .lit (.int .i64 0), .lit (.int .i64 0), .lit (.int .i64 0), .lit (.string ByteArray.empty), .lit (.string ByteArray.empty)]) ?_
 obtain ⟨t7, A8, H⟩ := of_bind H
 refine kcS0 11 (.agg [.lit (.string t7.1), .lit (.int .i64 t7.2.1), .lit (.int .i64 t7.2.2.1), .lit (.int .i64 t7.2.2.2.1), .lit (.int .i64 t7.2.2.2.2.1), .lit (.string t7.2.2.2.2.2.1), .lit (.string t7.2.2.2.2.2.2)]) [] g0 (cal (spec_l11Word.ok A8) [] 9999 .n (hf := Tryz.func80)) rfl rfl ?_
 refine kb g0 (bsl 1 94 7 [.string .empty, .int .i64 0, .int .i64 0, .int .i64 0, .int .i64 0, .string .empty, .string .empty] (([(⟨t1.1, (⟨t1.2.1, t1.2.2.1, t1.2.2.2.1, t1.2.2.2.2.1⟩ : S41), t1.2.2.2.2.2.1, t1.2.2.2.2.2.2⟩ : S94), (⟨t3.1, (⟨t3.2.1, t3.2.2.1, t3.2.2.2.1, t3.2.2.2.2.1⟩ : S41), t3.2.2.2.2.2.1, t3.2.2.2.2.2.2⟩ : S94), (⟨(⟨#[113]⟩ : ByteArray), (⟨0, 0, 0, 0⟩ : S41), ByteArray.empty, ByteArray.empty⟩ : S94), (⟨t5.1, (⟨t5.2.1, t5.2.2.1, t5.2.2.2.1, t5.2.2.2.2.1⟩ : S41), t5.2.2.2.2.2.1, t5.2.2.2.2.2.2⟩ : S94), (⟨(⟨#[112]⟩ : ByteArray), (⟨0, 0, 0, 0⟩ : S41), ByteArray.empty, ByteArray.empty⟩ : S94), (⟨t7.1, (⟨t7.2.1, t7.2.2.1, t7.2.2.2.1, t7.2.2.2.2.1⟩ : S41), t7.2.2.2.2.2.1, t7.2.2.2.2.2.2⟩ : S94)] : List S94).map e94) (hl := by kernel_rfl)) ?_
 refine kv g0 (asg) ?_
 refine wk_end_draw hM (by kernel_rfl) ?_
 refine ac_next ?_
 refine aw_grp1 ?_
 refine wk_start ?_
 refine kv g0 (mv) ?_
 refine kv g0 (ldBA 4 [.lit (.int .i64 a0_0), .lit (.int .i64 a0_1), .lit (.int .i64 a0_2), .sl .o 4 (l0_3.map e77)]) ?_
 refine kv g0 (ldBA 4 [.lit (.int .i64 a0_0), .lit (.int .i64 a0_1), .lit (.int .i64 a0_2), .sl .o 4 (l0_3.map e77)]) ?_
 obtain ⟨t9, A10, H⟩ := of_bind H
 refine kcS1 16 (.row 2) [(2, .row 3 1 (t9.map (eI .i64)))] g0 (cal (spec_NumsOf.ok A10) [2] 9999 .n (hf := Tryz.func83)) rfl rfl ?_
 obtain ⟨t11, A12, H⟩ := of_bind H
 refine kcS1 17 (.row 3) [(3, .row 94 7 (t11.map e94))] g0 (cal (spec_TreeLines.ok A12) [3] 9999 .n (hf := Tryz.func82)) rfl rfl ?_
 obtain ⟨c13, H⟩ := of_if H
 refine kc g0 (apR 4 94 7 80 [.string .empty, .int .i64 0, .int .i64 0, .int .i64 0, .int .i64 0, .string .empty, .string .empty] ((([(⟨t1.1, (⟨t1.2.1, t1.2.2.1, t1.2.2.2.1, t1.2.2.2.2.1⟩ : S41), t1.2.2.2.2.2.1, t1.2.2.2.2.2.2⟩ : S94), (⟨t3.1, (⟨t3.2.1, t3.2.2.1, t3.2.2.2.1, t3.2.2.2.2.1⟩ : S41), t3.2.2.2.2.2.1, t3.2.2.2.2.2.2⟩ : S94), (⟨(⟨#[113]⟩ : ByteArray), (⟨0, 0, 0, 0⟩ : S41), ByteArray.empty, ByteArray.empty⟩ : S94), (⟨t5.1, (⟨t5.2.1, t5.2.2.1, t5.2.2.2.1, t5.2.2.2.2.1⟩ : S41), t5.2.2.2.2.2.1, t5.2.2.2.2.2.2⟩ : S94), (⟨(⟨#[112]⟩ : ByteArray), (⟨0, 0, 0, 0⟩ : S41), ByteArray.empty, ByteArray.empty⟩ : S94), (⟨t7.1, (⟨t7.2.1, t7.2.2.1, t7.2.2.2.1, t7.2.2.2.2.1⟩ : S41), t7.2.2.2.2.2.1, t7.2.2.2.2.2.2⟩ : S94)] : List S94) ++ t11).map e94) (.row rfl) (apb c13 rfl) appE) ?_
 refine kv g0 (asg) ?_
 refine wk_end_draw hM (by kernel_rfl) ?_
 refine ac_next ?_
 refine aw_ret ?_
 obtain rfl := Option.some.inj H
 exact acr hE [.tmp 2] (.tmp .nil) (.one _) [(0, 4)] 9999
/-! spec_l11Place -/
def spec_l11Place.f (a0_0 : ByteArray) (a0_1 : Int) (a0_2 : Int) (a0_3 : Int) (a0_4 : Int) (a0_5 : ByteArray) (a0_6 : ByteArray) : Option (Bool) := some (a0_1 == 0 && (a0_2 == 0 && (a0_3 == 0 && (a0_4 == 0))))
theorem spec_l11Place.ok {a0_0 : ByteArray} {a0_1 : Int} {a0_2 : Int} {a0_3 : Int} {a0_4 : Int} {a0_5 : ByteArray} {a0_6 : ByteArray} {r : Bool} (H : spec_l11Place.f a0_0 a0_1 a0_2 a0_3 a0_4 a0_5 a0_6 = some r) : ACalls Tryz.prog 98 [] [.agg [.lit (.string a0_0), .lit (.int .i64 a0_1), .lit (.int .i64 a0_2), .lit (.int .i64 a0_3), .lit (.int .i64 a0_4), .lit (.string a0_5), .lit (.string a0_6)]] [] (.lit (.bool r)) := by
 refine acalls (fn := Tryz.f98) (nt := 7) Tryz.func98 rfl rfl (Nat.le_of_ble_eq_true rfl) fun E hE => ?_
 rw [spec_l11Place.f] at H
 refine aw_grp1 ?_
 refine wk_start ?_
 refine kb g0 (bxA 0) ?_
 refine kv g0 (asg) ?_
 refine wk_end ?_
 refine ac_next ?_
 refine aw_grp1 ?_
 refine wk_start ?_
 refine kv g0 (faB 1 1) ?_
 refine kv g0 (ldBA 4 [.lit (.int .i64 a0_1), .lit (.int .i64 a0_2), .lit (.int .i64 a0_3), .lit (.int .i64 a0_4)]) ?_
 refine kv g0 (bld [(0, 1), (1, 1), (2, 1), (3, 1)] [.int .i64 0, .int .i64 0, .int .i64 0, .int .i64 0] [.lit (.int .i64 0), .lit (.int .i64 0), .lit (.int .i64 0), .lit (.int .i64 0)]) ?_
 refine kv g0 (eqS (fun w => eq41 _ w a0_1 a0_2 a0_3 a0_4 0 0 0 0)) ?_
 refine kv g0 (asg) ?_
 refine wk_end ?_
 refine ac_next ?_
 refine aw_ret ?_
 obtain rfl := Option.some.inj H
 exact acr hE [.tmp 2] (.tmp .nil) (.one _) [] 9999
/-! spec_l11At -/
def spec_l11At.l0 : Nat → (List S94) → ByteArray → Int → Option (Int)
 | 0, _, _, _ => none
 | k8 + 1, l0, a1, p7 => if p7 < (l0.length : Int) then if 0 ≤ p7 then ((spec_l11Place.f ((rd_T94 l0 p7).f0) ((rd_T94 l0 p7).f1.f0) ((rd_T94 l0 p7).f1.f1) ((rd_T94 l0 p7).f1.f2) ((rd_T94 l0 p7).f1.f3) ((rd_T94 l0 p7).f2) ((rd_T94 l0 p7).f3)).bind fun t11 => (if t11 = true then if (((rd_T94 l0 p7).f0).toList == a1.toList) = true then some p7 else spec_l11At.l0 k8 l0 a1 (wrap64 (p7 + 1)) else spec_l11At.l0 k8 l0 a1 (wrap64 (p7 + 1)))) else none else some (-1)
def spec_l11At.f (k : Nat) (l0 : List S94) (a1 : ByteArray) : Option (Int) := spec_l11At.l0 k l0 a1 0
theorem spec_l11At.ok {k : Nat} {l0 : List S94} {a1 : ByteArray} {r : Int} (H : spec_l11At.f k l0 a1 = some r) : ACalls Tryz.prog 99 [] [.sl .o 7 (l0.map e94), .lit (.string a1)] [] (.lit (.int .i64 r)) := by
 refine acalls (fn := Tryz.f99) (nt := 27) Tryz.func99 rfl rfl (Nat.le_of_ble_eq_true rfl) fun E hE => ?_
 rw [spec_l11At.f] at H
 refine aw_grp1 ?_
 refine wk_start ?_
 refine kv g0 (asg) ?_
 refine wk_end ?_
 refine ac_next ?_
 refine aw_grp1 ?_
 refine aw_grp1 ?_
 refine wk_start ?_
 refine kv g0 (asg) ?_
 refine wk_end ?_
 refine ac_next ?_
 refine aw_block ?_
 refine aw_loop1 (fun (k_ : Nat) (p7 : Int) => k_ ≤ k ∧ spec_l11At.l0 k_ l0 a1 p7 = some r) (fun (p7 : Int) => ⟨[(0, .sl .o 7 (l0.map e94)), (1, .lit (.string a1)), (5, .lit (.int .i64 p7))], []⟩) k 0 ⟨Nat.le_refl _, H⟩ (fun K_ h_ => acw hE [] 9999 h_) (fun _ => by intro h_; have h_ := h_.2; rw [spec_l11At.l0.eq_1] at h_; cases h_) ?_
 intro k8 p7 hq_ K15 hK16
 have hk8 := hq_.1
 have H := hq_.2
 clear hq_
 rw [spec_l11At.l0.eq_2] at H
 refine aw_grp1 ?_
 refine aw_grp1 ?_
 refine wk_start ?_
 refine kv g0 (mv) ?_
 refine kv g0 (mv) ?_
 refine kv g0 (lnS lenE) ?_
 refine kv g0 (lss) ?_
 refine wk_end ?_
 refine ac_next ?_
 by_cases c9 : p7 < (l0.length : Int)
 ·rw [if_pos c9] at H
  refine aw_ifT ?_ (decide_eq_true c9)
  refine aw_skip ?_
  refine ac_next ?_
  refine aw_grp1 ?_
  refine aw_block ?_
  refine aw_grp1 ?_
  refine wk_start ?_
  refine kv g0 (mv) ?_
  refine kv g0 (mv) ?_
  obtain ⟨c10, H⟩ := of_if H
  refine kv g0 (ixS 94 (e94 (rd_T94 l0 p7)) c10 (getE (z := z94) c10 c9)) ?_
  refine kv g0 (ldRA 7 [.lit (.string ((rd_T94 l0 p7).f0)), .lit (.int .i64 ((rd_T94 l0 p7).f1.f0)), .lit (.int .i64 ((rd_T94 l0 p7).f1.f1)), .lit (.int .i64 ((rd_T94 l0 p7).f1.f2)), .lit (.int .i64 ((rd_T94 l0 p7).f1.f3)), .lit (.string ((rd_T94 l0 p7).f2)), .lit (.string ((rd_T94 l0 p7).f3))]) ?_
  obtain ⟨t11, A12, H⟩ := of_bind H
  refine kcS0 16 (.lit (.bool t11)) [] g0 (cal (spec_l11Place.ok A12) [] 9999 .n (hf := Tryz.func98)) rfl rfl ?_
  refine kv g0 (mv) ?_
  by_cases c13 : t11 = true
  ·rw [if_pos c13] at H
   refine kv (g1 c13) (mv) ?_
   refine kv (g1 c13) (mv) ?_
   refine kv (g1 c13) (ixS 94 (e94 (rd_T94 l0 p7)) c10 (getE (z := z94) c10 c9)) ?_
   refine kv (g1 c13) (faR 0 0) ?_
   refine kv (g1 c13) (ldR (.lit (.string ((rd_T94 l0 p7).f0)))) ?_
   refine kv (g1 c13) (mv) ?_
   refine kv (g1 c13) (seq) ?_
   refine kv g0 (pkT c13) ?_
   refine wk_end ?_
   refine ac_next ?_
   by_cases c14 : (((rd_T94 l0 p7).f0).toList == a1.toList) = true
   ·rw [if_pos c14] at H
    refine aw_ifT ?_ c14
    refine aw_grp1 ?_
    refine wk_start ?_
    refine kv g0 (mv) ?_
    refine kv g0 (asg) ?_
    refine wk_end ?_
    refine ac_next ?_
    refine aw_ret ?_
    refine ac_blkR ?_
    refine ac_thenR ?_
    refine ac_thenR ?_
    refine ac_blkR ?_
    refine ac_thenR ?_
    obtain rfl := Option.some.inj H
    exact acr hE [.tmp 4] (.tmp .nil) (.one _) [] 9999
   rw [if_neg c14] at H
   refine aw_ifF ?_ (bF c14)
   refine aw_skip ?_
   refine ac_blkN ?_
   refine ac_next ?_
   refine wk_start ?_
   refine kv g0 (mv) ?_
   refine kv g0 (add6) ?_
   refine kv g0 (asg) ?_
   refine wk_end ?_
   refine ac_k ?_
   exact acw hE [] 9999 (hK16 k8 (wrap64 (p7 + 1)) (Nat.le_refl _) ⟨by omega, H⟩)
  rw [if_neg c13] at H
  refine kx (hT (bF c13)) ?_
  refine kx (hT (bF c13)) ?_
  refine kx (hT (bF c13)) ?_
  refine kx (hT (bF c13)) ?_
  refine kx (hT (bF c13)) ?_
  refine kx (hT (bF c13)) ?_
  refine kx (hT (bF c13)) ?_
  refine kv g0 (pkF (bF c13)) ?_
  refine wk_end ?_
  refine ac_next ?_
  refine aw_ifF ?_ rfl
  refine aw_skip ?_
  refine ac_blkN ?_
  refine ac_next ?_
  refine wk_start ?_
  refine kv g0 (mv) ?_
  refine kv g0 (add6) ?_
  refine kv g0 (asg) ?_
  refine wk_end ?_
  refine ac_k ?_
  exact acw hE [] 9999 (hK16 k8 (wrap64 (p7 + 1)) (Nat.le_refl _) ⟨by omega, H⟩)
 rw [if_neg c9] at H
 refine aw_ifF ?_ (decide_eq_false c9)
 refine aw_exit ?_
 refine ac_then ?_
 refine ac_then ?_
 refine ac_hit rfl ?_
 refine ac_next ?_
 refine aw_grp1 ?_
 refine wk_start ?_
 refine kv g0 (asg) ?_
 refine wk_end ?_
 refine ac_next ?_
 refine aw_ret ?_
 obtain rfl := Option.some.inj H
 exact acr hE [.tmp 4] (.tmp .nil) (.one _) [] 9999
/-! spec_InsOk -/
def spec_InsOk.j0 : Nat → Int → Int → Int → Int → Option (Bool)
 | 0, _, _, _, _ => none
 | k18 + 1, a0_0, a0_1, a0_2, a0_3 => if a0_0 = 1 then some (decide (a0_1 < 8)) else if a0_0 = 7 then some (decide (a0_1 < 400)) else some true
def spec_InsOk.f (k : Nat) (a0_0 : Int) (a0_1 : Int) (a0_2 : Int) (a0_3 : Int) : Option (Bool) := (spec_l01In.f a0_0 1 8).bind fun t1 => (if t1 = true then ((spec_HalfOk.f a0_1).bind fun t4 => (if t4 = true then ((spec_l01In.f a0_2 0 15).bind fun t7 => (if t7 = true then ((spec_l01In.f a0_3 0 15).bind fun t10 => if t10 = true then (spec_l06Ask.f a0_0).bind fun t13 => (if t13 = true then spec_InsOk.j0 k a0_0 a0_1 a0_2 a0_3 else (if a0_2 = 0 then if a0_3 = 0 then spec_InsOk.j0 k a0_0 a0_1 a0_2 a0_3 else some false else some false)) else some false) else some false)) else some false)) else some false)
theorem spec_InsOk.ok {k : Nat} {a0_0 : Int} {a0_1 : Int} {a0_2 : Int} {a0_3 : Int} {r : Bool} (H : spec_InsOk.f k a0_0 a0_1 a0_2 a0_3 = some r) : ACalls Tryz.prog 44 [] [.agg [.lit (.int .i64 a0_0), .lit (.int .i64 a0_1), .lit (.int .i64 a0_2), .lit (.int .i64 a0_3)]] [] (.lit (.bool r)) := by
 refine acalls (fn := Tryz.f44) (nt := 51) Tryz.func44 rfl rfl (Nat.le_of_ble_eq_true rfl) fun E hE => ?_
 rw [spec_InsOk.f] at H
 refine aw_grp1 ?_
 refine wk_start ?_
 refine kb g0 (bxA 0) ?_
 refine kv g0 (asg) ?_
 refine wk_end ?_
 refine ac_next ?_
 refine aw_grp1 ?_
 refine aw_grp1 ?_
 refine wk_start ?_
 refine kv g0 (faB 0 0) ?_
 refine kv g0 (ldB) ?_
 obtain ⟨t1, A2, H⟩ := of_bind H
 refine kcS0 5 (.lit (.bool t1)) [] g0 (cal (spec_l01In.ok A2) [] 9999 .n (hf := Tryz.func28)) rfl rfl ?_
 refine kv g0 (not_) ?_
 refine kv g0 (mv) ?_
 by_cases c3 : t1 = true
 ·rw [if_pos c3] at H
  refine kv (g1 (nF c3)) (faB 1 1) ?_
  refine kv (g1 (nF c3)) (ldB) ?_
  obtain ⟨t4, A5, H⟩ := of_bind H
  refine kcS0 10 (.lit (.bool t4)) [] (g1 (nF c3)) (cal (spec_HalfOk.ok A5) [] 9999 .n (hf := Tryz.func58)) rfl rfl ?_
  refine kv (g1 (nF c3)) (not_) ?_
  refine kv g0 (pkF (nF c3)) ?_
  refine kv g0 (mv) ?_
  by_cases c6 : t4 = true
  ·rw [if_pos c6] at H
   refine kv (g1 (nF c6)) (faB 2 2) ?_
   refine kv (g1 (nF c6)) (ldB) ?_
   obtain ⟨t7, A8, H⟩ := of_bind H
   refine kcS0 16 (.lit (.bool t7)) [] (g1 (nF c6)) (cal (spec_l01In.ok A8) [] 9999 .n (hf := Tryz.func28)) rfl rfl ?_
   refine kv (g1 (nF c6)) (not_) ?_
   refine kv g0 (pkF (nF c6)) ?_
   refine kv g0 (mv) ?_
   by_cases c9 : t7 = true
   ·rw [if_pos c9] at H
    refine kv (g1 (nF c9)) (faB 3 3) ?_
    refine kv (g1 (nF c9)) (ldB) ?_
    obtain ⟨t10, A11, H⟩ := of_bind H
    refine kcS0 22 (.lit (.bool t10)) [] (g1 (nF c9)) (cal (spec_l01In.ok A11) [] 9999 .n (hf := Tryz.func28)) rfl rfl ?_
    refine kv (g1 (nF c9)) (not_) ?_
    refine kv g0 (pkF (nF c9)) ?_
    refine wk_end ?_
    refine ac_next ?_
    by_cases c12 : t10 = true
    ·rw [if_pos c12] at H
     refine aw_ifF ?_ (nF c12)
     refine aw_skip ?_
     refine ac_next ?_
     refine aw_cut1 (J := fun K_ => ∀ (k_ : Nat), k_ ≤ k → spec_InsOk.j0 k_ a0_0 a0_1 a0_2 a0_3  = some r → ACont E 51 ⟨[(1, .box 0 0)], [(0, .box 41 [.lit (.int .i64 a0_0), .lit (.int .i64 a0_1), .lit (.int .i64 a0_2), .lit (.int .i64 a0_3)])]⟩ K_) ?_ ?_
     ·intro K_ hJ21
      refine aw_grp1 ?_
      refine wk_start ?_
      refine kv g0 (faB 0 0) ?_
      refine kv g0 (ldB) ?_
      obtain ⟨t13, A14, H⟩ := of_bind H
      refine kcS0 27 (.lit (.bool t13)) [] g0 (cal (spec_l06Ask.ok A14) [] 9999 .n (hf := Tryz.func46)) rfl rfl ?_
      refine kv g0 (not_) ?_
      refine kv g0 (mv) ?_
      by_cases c15 : t13 = true
      ·rw [if_pos c15] at H
       refine kx (hT (nF c15)) ?_
       refine kx (hT (nF c15)) ?_
       refine kx (hT (nF c15)) ?_
       refine ku (neT (hT (nF c15))) ?_
       refine ku neU ?_
       refine ku neU ?_
       refine ku neU ?_
       refine kx (hT (nF c15)) ?_
       refine kv g0 (pkF (nF c15)) ?_
       refine wk_end ?_
       refine ac_next ?_
       refine aw_ifF ?_ rfl
       refine aw_skip ?_
       refine ac_k ?_
       exact acw hE [(0, 0)] 9999 (hJ21 k (Nat.le_refl _) H)
      rw [if_neg c15] at H
      refine kv (g1 (nT (bF c15))) (faB 2 2) ?_
      refine kv (g1 (nT (bF c15))) (ldB) ?_
      refine kv (g1 (nT (bF c15))) (neq) ?_
      refine kv (g1 (nT (bF c15))) (mv) ?_
      by_cases c16 : a0_2 = 0
      ·rw [if_pos c16] at H
       refine kv (g1 (eM c16)) (faB 3 3) ?_
       refine kv (g1 (eM c16)) (ldB) ?_
       refine kv (g1 (eM c16)) (neq) ?_
       refine kv (g1 (nT (bF c15))) (pkF (eM c16)) ?_
       refine kv g0 (pkT (nT (bF c15))) ?_
       refine wk_end ?_
       refine ac_next ?_
       by_cases c17 : a0_3 = 0
       ·rw [if_pos c17] at H
        refine aw_ifF ?_ (eM c17)
        refine aw_skip ?_
        refine ac_k ?_
        exact acw hE [(0, 0)] 9999 (hJ21 k (Nat.le_refl _) H)
       rw [if_neg c17] at H
       refine aw_ifT ?_ (eN c17)
       refine aw_grp1 ?_
       refine wk_start ?_
       refine kv g0 (asg) ?_
       refine wk_end ?_
       refine ac_next ?_
       refine aw_ret ?_
       refine ac_thenR ?_
       obtain rfl := Option.some.inj H
       exact acr hE [.tmp 2] (.tmp .nil) (.one _) [] 9999
      rw [if_neg c16] at H
      refine kx (hF (eN c16)) ?_
      refine kx (hF (eN c16)) ?_
      refine kx (hF (eN c16)) ?_
      refine kv (g1 (nT (bF c15))) (pkT (eN c16)) ?_
      refine kv g0 (pkT (nT (bF c15))) ?_
      refine wk_end ?_
      refine ac_next ?_
      refine aw_ifT ?_ rfl
      refine aw_grp1 ?_
      refine wk_start ?_
      refine kv g0 (asg) ?_
      refine wk_end ?_
      refine ac_next ?_
      refine aw_ret ?_
      refine ac_thenR ?_
      obtain rfl := Option.some.inj H
      exact acr hE [.tmp 2] (.tmp .nil) (.one _) [] 9999
     intro k_  hk_ H
     rcases k_ with _ | k18
     ·rw [spec_InsOk.j0.eq_1] at H; cases H
     have hk18 : k18 ≤ k := by omega
     clear hk_
     rw [spec_InsOk.j0.eq_2] at H
     refine aw_grp1 ?_
     refine aw_grp1 ?_
     refine wk_start ?_
     refine kv g0 (faB 0 0) ?_
     refine kv g0 (ldB) ?_
     refine wk_end ?_
     refine ac_next ?_
     refine aw_block ?_
     refine aw_grp1 ?_
     refine wk_start ?_
     refine kv g0 (eql) ?_
     refine kv g0 (asg) ?_
     refine wk_end ?_
     refine ac_next ?_
     by_cases c19 : a0_0 = 1
     ·rw [if_pos c19] at H
      refine aw_ifT ?_ (eT c19)
      refine aw_grp1 ?_
      refine wk_start ?_
      refine kv g0 (faB 1 1) ?_
      refine kv g0 (ldB) ?_
      refine kv g0 (lss) ?_
      refine kv g0 (asg) ?_
      refine wk_end ?_
      refine ac_next ?_
      refine aw_ret ?_
      refine ac_blkR ?_
      refine ac_thenR ?_
      obtain rfl := Option.some.inj H
      exact acr hE [.tmp 2] (.tmp .nil) (.one _) [] 9999
     rw [if_neg c19] at H
     refine aw_ifF ?_ (eF c19)
     refine aw_grp1 ?_
     refine wk_start ?_
     refine kv g0 (eql) ?_
     refine kv g0 (asg) ?_
     refine wk_end ?_
     refine ac_next ?_
     by_cases c20 : a0_0 = 7
     ·rw [if_pos c20] at H
      refine aw_ifT ?_ (eT c20)
      refine aw_grp1 ?_
      refine wk_start ?_
      refine kv g0 (faB 1 1) ?_
      refine kv g0 (ldB) ?_
      refine kv g0 (lss) ?_
      refine kv g0 (asg) ?_
      refine wk_end ?_
      refine ac_next ?_
      refine aw_ret ?_
      refine ac_blkR ?_
      refine ac_thenR ?_
      obtain rfl := Option.some.inj H
      exact acr hE [.tmp 2] (.tmp .nil) (.one _) [] 9999
     rw [if_neg c20] at H
     refine aw_ifF ?_ (eF c20)
     refine aw_skip ?_
     refine ac_blkN ?_
     refine ac_next ?_
     refine aw_grp1 ?_
     refine wk_start ?_
     refine kv g0 (asg) ?_
     refine wk_end ?_
     refine ac_next ?_
     refine aw_ret ?_
     obtain rfl := Option.some.inj H
     exact acr hE [.tmp 2] (.tmp .nil) (.one _) [] 9999
    rw [if_neg c12] at H
    refine aw_ifT ?_ (nT (bF c12))
    refine aw_grp1 ?_
    refine wk_start ?_
    refine kv g0 (asg) ?_
    refine wk_end ?_
    refine ac_next ?_
    refine aw_ret ?_
    refine ac_thenR ?_
    obtain rfl := Option.some.inj H
    exact acr hE [.tmp 2] (.tmp .nil) (.one _) [] 9999
   rw [if_neg c9] at H
   refine kx (hF (nT (bF c9))) ?_
   refine kx (hF (nT (bF c9))) ?_
   refine kx (hF (nT (bF c9))) ?_
   refine kx (hF (nT (bF c9))) ?_
   refine kv g0 (pkT (nT (bF c9))) ?_
   refine wk_end ?_
   refine ac_next ?_
   refine aw_ifT ?_ rfl
   refine aw_grp1 ?_
   refine wk_start ?_
   refine kv g0 (asg) ?_
   refine wk_end ?_
   refine ac_next ?_
   refine aw_ret ?_
   refine ac_thenR ?_
   obtain rfl := Option.some.inj H
   exact acr hE [.tmp 2] (.tmp .nil) (.one _) [] 9999
  rw [if_neg c6] at H
  refine kx (hF (nT (bF c6))) ?_
  refine kx (hF (nT (bF c6))) ?_
  refine kx (hF (nT (bF c6))) ?_
  refine kx (hF (nT (bF c6))) ?_
  refine kv g0 (pkT (nT (bF c6))) ?_
  refine kv g0 (mv) ?_
  refine kx (hF rfl) ?_
  refine kx (hF rfl) ?_
  refine kx (hF rfl) ?_
  refine kx (hF rfl) ?_
  refine kv g0 (pkT rfl) ?_
  refine wk_end ?_
  refine ac_next ?_
  refine aw_ifT ?_ rfl
  refine aw_grp1 ?_
  refine wk_start ?_
  refine kv g0 (asg) ?_
  refine wk_end ?_
  refine ac_next ?_
  refine aw_ret ?_
  refine ac_thenR ?_
  obtain rfl := Option.some.inj H
  exact acr hE [.tmp 2] (.tmp .nil) (.one _) [] 9999
 rw [if_neg c3] at H
 refine kx (hF (nT (bF c3))) ?_
 refine kx (hF (nT (bF c3))) ?_
 refine kx (hF (nT (bF c3))) ?_
 refine kx (hF (nT (bF c3))) ?_
 refine kv g0 (pkT (nT (bF c3))) ?_
 refine kv g0 (mv) ?_
 refine kx (hF rfl) ?_
 refine kx (hF rfl) ?_
 refine kx (hF rfl) ?_
 refine kx (hF rfl) ?_
 refine kv g0 (pkT rfl) ?_
 refine kv g0 (mv) ?_
 refine kx (hF rfl) ?_
 refine kx (hF rfl) ?_
 refine kx (hF rfl) ?_
 refine kx (hF rfl) ?_
 refine kv g0 (pkT rfl) ?_
 refine wk_end ?_
 refine ac_next ?_
 refine aw_ifT ?_ rfl
 refine aw_grp1 ?_
 refine wk_start ?_
 refine kv g0 (asg) ?_
 refine wk_end ?_
 refine ac_next ?_
 refine aw_ret ?_
 refine ac_thenR ?_
 obtain rfl := Option.some.inj H
 exact acr hE [.tmp 2] (.tmp .nil) (.one _) [] 9999
end Go.Proofs.YtlmpaphlnlgelaaGreat.PFnWaysTold
