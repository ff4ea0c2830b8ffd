import Derived.Test.YtlmpaphlnlgelaaPFnWaysShortx2
set_option linter.unusedVariables false
set_option linter.unusedSimpArgs false
set_option maxRecDepth 100000
namespace Go.Proofs.Ytlmpaphlnlgelaa.PFnWaysShort
open Go Go.RowKit Go.Proofs.YtlmpaphlnlgelaaA
/-! spec_Sizes -/
mutual
def spec_Sizes.l0 : Nat → (List S76) → (List Int) → Int → Option ((List Int))
 | 0, _, _, _ => none
 | k13 + 1, l0, q11, p12 => if p12 < (l0.length : Int) then if 0 ≤ p12 then ((spec_l11Place.f ((rd_T76 l0 p12).f0) ((rd_T76 l0 p12).f1.f0) ((rd_T76 l0 p12).f1.f1) ((rd_T76 l0 p12).f1.f2) ((rd_T76 l0 p12).f1.f3) ((rd_T76 l0 p12).f2) ((rd_T76 l0 p12).f3)).bind fun t16 => if t16 = true then if q11.length + ([0] : List Int).length < 17592186044416 then spec_Sizes.l0 k13 l0 (q11 ++ ([0] : List Int)) (wrap64 (p12 + 1)) else none else if q11.length + ([1] : List Int).length < 17592186044416 then spec_Sizes.l0 k13 l0 (q11 ++ ([1] : List Int)) (wrap64 (p12 + 1)) else none) else none else (spec_l11Ways.f k13 l0).bind fun t23 => spec_Sizes.l2 k13 l0 t23 q11 0
def spec_Sizes.j0 : Nat → (List S76) → ((List Int) × (List Int)) → Int → ((List Int)) → Int → (List Int) → Bool → Option ((List Int))
 | 0, _, _, _, _, _, _, _ => none
 | k124 + 1, l0, t23, p77, t80, p104, q122, p123 => spec_Sizes.l1 k124 l0 t23 p77 t80 q122 p123 (wrap64 (p104 + 1))
def spec_Sizes.l1 : Nat → (List S76) → ((List Int) × (List Int)) → Int → ((List Int)) → (List Int) → Bool → Int → Option ((List Int))
 | 0, _, _, _, _, _, _, _ => none
 | k105 + 1, l0, t23, p77, t80, q102, p103, p104 => if p104 < (l0.length : Int) then if 0 ≤ p104 then ((spec_l06Ask.f ((rd_T76 l0 p104).f1.f0)).bind fun t108 => (if t108 = true then (if p104 < (q102.length : Int) then if (rd q102 p104) = 3 then spec_Sizes.j0 k105 l0 t23 p77 t80 p104 q102 p103 else if p104 < (t23.1.length : Int) then (if 0 ≤ (rd t23.1 p104) then (if (rd t23.1 p104) < (t80.length : Int) then (if p104 < (t80.length : Int) then (if (wrap64 ((wrap64 ((rd t80 (rd t23.1 p104)) - (rd t80 p104))) - 1)) > 15 then spec_Sizes.j0 k105 l0 t23 p77 t80 p104 (q102.set p104.toNat 3) true else (if p104 < (t23.2.length : Int) then (if 0 ≤ (rd t23.2 p104) then (if (rd t23.2 p104) < (t80.length : Int) then if (wrap64 ((wrap64 ((rd t80 (rd t23.2 p104)) - (rd t80 p104))) - 1)) > 15 then spec_Sizes.j0 k105 l0 t23 p77 t80 p104 (q102.set p104.toNat 3) true else spec_Sizes.j0 k105 l0 t23 p77 t80 p104 q102 p103 else none) else none) else none)) else none) else none) else none) else none else none) else spec_Sizes.j0 k105 l0 t23 p77 t80 p104 q102 p103)) else none else if p103 = true then spec_Sizes.l2 k105 l0 t23 q102 (wrap64 (p77 + 1)) else some q102
def spec_Sizes.l2 : Nat → (List S76) → ((List Int) × (List Int)) → (List Int) → Int → Option ((List Int))
 | 0, _, _, _, _ => none
 | k78 + 1, l0, t23, q76, p77 => if p77 ≤ (l0.length : Int) then (spec_l11Begins.f k78 q76).bind fun t80 => spec_Sizes.l1 k78 l0 t23 p77 t80 q76 false 0 else some q76
end
def spec_Sizes.f (k : Nat) (l0 : List S76) : Option ((List Int)) := (spec_LinesOk.f k l0).bind fun t1 => if t1 = true then spec_Sizes.l0 k l0 ([] : List Int) 0 else some ([] : List Int)
theorem spec_Sizes.ok {k : Nat} {l0 : List S76} {r : (List Int)} (H : spec_Sizes.f k l0 = some r) : ACalls Try.prog 43 [] [.sl .o 7 (l0.map e76)] [(0, .row 3 1 (r.map (eI .i64)))] (.row 0) := by
 refine acalls (fn := Try.f43) (nt := 102) Try.func43 rfl rfl (Nat.le_of_ble_eq_true rfl) fun E hE => ?_
 rw [spec_Sizes.f] at H
 refine aw_grp1 ?_
 refine wk_start ?_
 refine kv g0 (asg) ?_
 refine wk_end ?_
 refine ac_next ?_
 refine aw_grp1 ?_
 refine wk_start ?_
 refine kb g0 (bsl 0 3 1 [.int .i64 0] (([] : List Int).map (eI .i64))) ?_
 refine kv g0 (asg) ?_
 refine wk_end ?_
 refine ac_next ?_
 refine aw_grp1 ?_
 refine aw_grp1 ?_
 refine wk_start ?_
 refine kv g0 (mv) ?_
 obtain ⟨t1, A2, H⟩ := of_bind H
 refine kcS0 14 (.lit (.bool t1)) [] g0 (cal (spec_LinesOk.ok A2) [] 9999 .n (hf := Try.func64)) rfl rfl ?_
 refine kv g0 (not_) ?_
 refine wk_end ?_
 refine ac_next ?_
 by_cases c3 : t1 = true
 ·rw [if_pos c3] at H
  refine aw_ifF ?_ (nF c3)
  refine aw_skip ?_
  refine ac_next ?_
  refine aw_grp1 ?_
  refine aw_grp1 ?_
  refine wk_start ?_
  refine kv g0 (asg) ?_
  refine wk_end ?_
  refine ac_next ?_
  refine aw_block ?_
  refine aw_loop2 (fun (k_ : Nat) (q11 : List Int) (p12 : Int) => k_ ≤ k ∧ spec_Sizes.l0 k_ l0 q11 p12 = some r) (fun (q11 : List Int) (p12 : Int) => ⟨[(0, .sl .o 7 (l0.map e76)), (3, .row 0), (4, .lit (.int .i64 p12))], [(0, .row 3 1 (q11.map (eI .i64)))]⟩) k ([] : List Int) 0 ⟨Nat.le_refl _, H⟩ (fun K_ h_ => acw hE [(0, 0)] 9999 h_) (fun _ _ => by intro h_; have h_ := h_.2; rw [spec_Sizes.l0.eq_1] at h_; cases h_) ?_
  intro k13 q11 p12 hq_ K21 hK22
  have hk13 := hq_.1
  have H := hq_.2
  clear hq_
  rw [spec_Sizes.l0.eq_2] at H
  refine aw_grp1 ?_
  refine aw_grp1 ?_
  refine wk_start ?_
  refine kv g0 (mv) ?_
  refine kv g0 (mv) ?_
  refine kv g0 (lnS lenE) ?_
  refine kv g0 (lss) ?_
  refine wk_end ?_
  refine ac_next ?_
  by_cases c14 : p12 < (l0.length : Int)
  ·rw [if_pos c14] at H
   refine aw_ifT ?_ (decide_eq_true c14)
   refine aw_skip ?_
   refine ac_next ?_
   refine aw_grp1 ?_
   refine aw_block ?_
   refine aw_grp1 ?_
   refine wk_start ?_
   refine kv g0 (asg) ?_
   refine wk_end ?_
   refine ac_next ?_
   refine aw_grp1 ?_
   refine aw_grp1 ?_
   refine wk_start ?_
   refine kv g0 (mv) ?_
   refine kv g0 (mv) ?_
   obtain ⟨c15, H⟩ := of_if H
   refine kv g0 (ixS 76 (e76 (rd_T76 l0 p12)) c15 (getE (z := z76) c15 c14)) ?_
   refine kv g0 (ldRA 7 [.lit (.string ((rd_T76 l0 p12).f0)), .lit (.int .i64 ((rd_T76 l0 p12).f1.f0)), .lit (.int .i64 ((rd_T76 l0 p12).f1.f1)), .lit (.int .i64 ((rd_T76 l0 p12).f1.f2)), .lit (.int .i64 ((rd_T76 l0 p12).f1.f3)), .lit (.string ((rd_T76 l0 p12).f2)), .lit (.string ((rd_T76 l0 p12).f3))]) ?_
   obtain ⟨t16, A17, H⟩ := of_bind H
   refine kcS0 27 (.lit (.bool t16)) [] g0 (cal (spec_l11Place.ok A17) [] 9999 .n (hf := Try.func65)) rfl rfl ?_
   refine wk_end ?_
   refine ac_next ?_
   by_cases c18 : t16 = true
   ·rw [if_pos c18] at H
    refine aw_ifT ?_ c18
    refine wk_start ?_
    refine kv g0 (asg) ?_
    refine wk_end ?_
    refine ac_next ?_
    refine wk_start ?_
    refine kv g0 (mv) ?_
    refine kv g0 (mv) ?_
    refine kb g0 (bsl 1 3 1 [.int .i64 0] (([0] : List Int).map (eI .i64))) ?_
    obtain ⟨c19, H⟩ := of_if H
    refine kc g0 (apR 2 3 1 8 [.int .i64 0] ((q11 ++ ([0] : List Int)).map (eI .i64)) (.row rfl) (apb c19 rfl) appE) ?_
    refine kv g0 (asg) ?_
    refine wk_end ?_
    refine ac_blkN ?_
    refine ac_next ?_
    refine wk_start ?_
    refine kv g0 (mv) ?_
    refine kv g0 (add6) ?_
    refine kv g0 (asg) ?_
    refine wk_end ?_
    refine ac_k ?_
    exact acw hE [(0, 2)] 9999 (hK22 k13 (q11 ++ ([0] : List Int)) (wrap64 (p12 + 1)) (Nat.le_refl _) ⟨by omega, H⟩)
   rw [if_neg c18] at H
   refine aw_ifF ?_ (bF c18)
   refine aw_skip ?_
   refine ac_next ?_
   refine wk_start ?_
   refine kv g0 (mv) ?_
   refine kv g0 (mv) ?_
   refine kb g0 (bsl 3 3 1 [.int .i64 0] (([1] : List Int).map (eI .i64))) ?_
   obtain ⟨c20, H⟩ := of_if H
   refine kc g0 (apR 4 3 1 8 [.int .i64 0] ((q11 ++ ([1] : List Int)).map (eI .i64)) (.row rfl) (apb c20 rfl) appE) ?_
   refine kv g0 (asg) ?_
   refine wk_end ?_
   refine ac_blkN ?_
   refine ac_next ?_
   refine wk_start ?_
   refine kv g0 (mv) ?_
   refine kv g0 (add6) ?_
   refine kv g0 (asg) ?_
   refine wk_end ?_
   refine ac_k ?_
   exact acw hE [(0, 4)] 9999 (hK22 k13 (q11 ++ ([1] : List Int)) (wrap64 (p12 + 1)) (Nat.le_refl _) ⟨by omega, H⟩)
  rw [if_neg c14] at H
  refine aw_ifF ?_ (decide_eq_false c14)
  refine aw_exit ?_
  refine ac_then ?_
  refine ac_then ?_
  refine ac_hit rfl ?_
  refine ac_next ?_
  refine aw_grp1 ?_
  refine wk_start ?_
  refine kv g0 (mv) ?_
  obtain ⟨t23, A24, H⟩ := of_bind H
  refine kcS2 34 (.tup [.row 5, .row 6]) [(5, .row 3 1 (t23.1.map (eI .i64))), (6, .row 3 1 (t23.2.map (eI .i64)))] g0 (cal (spec_l11Ways.ok A24) [5, 6] 9999 .n (hf := Try.func44)) rfl rfl ?_
  refine kv g0 (mv) ?_
  refine kv g0 (ext) ?_
  refine kv g0 (ext) ?_
  refine kv g0 (asg) ?_
  refine kv g0 (asg) ?_
  refine wk_end ?_
  refine ac_next ?_
  refine aw_grp1 ?_
  refine aw_grp1 ?_
  refine wk_start ?_
  refine kv g0 (asg) ?_
  refine wk_end ?_
  refine ac_next ?_
  refine aw_block ?_
  refine aw_loop2 (fun (k_ : Nat) (q76 : List Int) (p77 : Int) => k_ ≤ k13 ∧ spec_Sizes.l2 k_ l0 t23 q76 p77 = some r) (fun (q76 : List Int) (p77 : Int) => ⟨[(0, .sl .o 7 (l0.map e76)), (3, .row 0), (6, .row 5), (7, .row 6), (8, .lit (.int .i64 p77))], [(0, .row 3 1 (q76.map (eI .i64))), (5, .row 3 1 (t23.1.map (eI .i64))), (6, .row 3 1 (t23.2.map (eI .i64)))]⟩) k13 q11 0 ⟨Nat.le_refl _, H⟩ (fun K_ h_ => acw hE [(0, 0), (5, 5), (6, 6)] 9999 h_) (fun _ _ => by intro h_; have h_ := h_.2; rw [spec_Sizes.l2.eq_1] at h_; cases h_) ?_
  intro k78 q76 p77 hq_ K129 hK130
  have hk78 := hq_.1
  have H := hq_.2
  clear hq_
  rw [spec_Sizes.l2.eq_2] at H
  refine aw_grp1 ?_
  refine aw_grp1 ?_
  refine wk_start ?_
  refine kv g0 (mv) ?_
  refine kv g0 (mv) ?_
  refine kv g0 (lnS lenE) ?_
  refine kv g0 (leq) ?_
  refine wk_end ?_
  refine ac_next ?_
  by_cases c79 : p77 ≤ (l0.length : Int)
  ·rw [if_pos c79] at H
   refine aw_ifT ?_ (decide_eq_true c79)
   refine aw_skip ?_
   refine ac_next ?_
   refine aw_grp1 ?_
   refine aw_block ?_
   refine aw_grp1 ?_
   refine wk_start ?_
   refine kv g0 (mv) ?_
   obtain ⟨t80, A81, H⟩ := of_bind H
   refine kcS1 44 (.row 7) [(7, .row 3 1 (t80.map (eI .i64)))] g0 (cal (spec_l11Begins.ok A81) [7] 9999 .n (hf := Try.func45)) rfl rfl ?_
   refine kv g0 (asg) ?_
   refine wk_end ?_
   refine ac_next ?_
   refine aw_grp1 ?_
   refine wk_start ?_
   refine kv g0 (asg) ?_
   refine wk_end ?_
   refine ac_next ?_
   refine aw_grp1 ?_
   refine aw_grp1 ?_
   refine wk_start ?_
   refine kv g0 (asg) ?_
   refine wk_end ?_
   refine ac_next ?_
   refine aw_block ?_
   refine aw_loop3 (fun (k_ : Nat) (q102 : List Int) (p103 : Bool) (p104 : Int) => k_ ≤ k78 ∧ spec_Sizes.l1 k_ l0 t23 p77 t80 q102 p103 p104 = some r) (fun (q102 : List Int) (p103 : Bool) (p104 : Int) => ⟨[(0, .sl .o 7 (l0.map e76)), (3, .row 0), (6, .row 5), (7, .row 6), (8, .lit (.int .i64 p77)), (9, .row 7), (10, .lit (.bool p103)), (11, .lit (.int .i64 p104))], [(0, .row 3 1 (q102.map (eI .i64))), (5, .row 3 1 (t23.1.map (eI .i64))), (6, .row 3 1 (t23.2.map (eI .i64))), (7, .row 3 1 (t80.map (eI .i64)))]⟩) k78 q76 false 0 ⟨Nat.le_refl _, H⟩ (fun K_ h_ => acw hE [(0, 0), (5, 5), (6, 6), (7, 7)] 9999 h_) (fun _ _ _ => by intro h_; have h_ := h_.2; rw [spec_Sizes.l1.eq_1] at h_; cases h_) ?_
   intro k105 q102 p103 p104 hq_ K126 hK127
   have hk105 := hq_.1
   have H := hq_.2
   clear hq_
   rw [spec_Sizes.l1.eq_2] at H
   refine aw_grp1 ?_
   refine aw_grp1 ?_
   refine wk_start ?_
   refine kv g0 (mv) ?_
   refine kv g0 (mv) ?_
   refine kv g0 (lnS lenE) ?_
   refine kv g0 (lss) ?_
   refine wk_end ?_
   refine ac_next ?_
   by_cases c106 : p104 < (l0.length : Int)
   ·rw [if_pos c106] at H
    refine aw_ifT ?_ (decide_eq_true c106)
    refine aw_skip ?_
    refine ac_next ?_
    refine aw_cut1 (J := fun K_ => ∀ (k_ : Nat) (q122 : List Int) (p123 : Bool), k_ ≤ k105 → spec_Sizes.j0 k_ l0 t23 p77 t80 p104 q122 p123 = some r → ACont E 102 ⟨[(0, .sl .o 7 (l0.map e76)), (3, .row 0), (6, .row 5), (7, .row 6), (8, .lit (.int .i64 p77)), (9, .row 7), (10, .lit (.bool p123)), (11, .lit (.int .i64 p104))], [(0, .row 3 1 (q122.map (eI .i64))), (5, .row 3 1 (t23.1.map (eI .i64))), (6, .row 3 1 (t23.2.map (eI .i64))), (7, .row 3 1 (t80.map (eI .i64)))]⟩ K_) ?_ ?_
    ·intro K_ hJ125
     refine aw_block ?_
     refine aw_grp1 ?_
     refine aw_grp1 ?_
     refine wk_start ?_
     refine kv g0 (mv) ?_
     refine kv g0 (mv) ?_
     obtain ⟨c107, H⟩ := of_if H
     refine kv g0 (ixS 76 (e76 (rd_T76 l0 p104)) c107 (getE (z := z76) c107 c106)) ?_
     refine kv g0 (faR 1 1) ?_
     refine kv g0 (faR 0 1) ?_
     refine kv g0 (ldR (.lit (.int .i64 ((rd_T76 l0 p104).f1.f0)))) ?_
     obtain ⟨t108, A109, H⟩ := of_bind H
     refine kcS0 57 (.lit (.bool t108)) [] g0 (cal (spec_l06Ask.ok A109) [] 9999 .n (hf := Try.func46)) rfl rfl ?_
     refine kv g0 (not_) ?_
     refine kv g0 (mv) ?_
     by_cases c110 : t108 = true
     ·rw [if_pos c110] at H
      refine kv (g1 (nF c110)) (mv) ?_
      refine kv (g1 (nF c110)) (mv) ?_
      obtain ⟨c111, H⟩ := of_if H
      refine kv (g1 (nF c110)) (ixR 3 c107 (ltE c111)) ?_
      refine kv (g1 (nF c110)) (ldE (eI .i64 (rd q102 p104)) (.lit (.int .i64 (rd q102 p104))) (getE (z := (0 : Int)) c107 c111)) ?_
      refine kv (g1 (nF c110)) (eql) ?_
      refine kv g0 (pkF (nF c110)) ?_
      refine wk_end ?_
      refine ac_next ?_
      by_cases c112 : (rd q102 p104) = 3
      ·rw [if_pos c112] at H
       refine aw_ifT ?_ (eT c112)
       refine aw_exit ?_
       refine ac_then ?_
       refine ac_hit rfl ?_
       refine ac_k ?_
       exact acw hE [(0, 0), (5, 5), (6, 6), (7, 7)] 9999 (hJ125 k105 q102 p103 (Nat.le_refl _) H)
      rw [if_neg c112] at H
      refine aw_ifF ?_ (eF c112)
      refine aw_skip ?_
      refine ac_next ?_
      refine aw_grp1 ?_
      refine wk_start ?_
      refine kv g0 (mv) ?_
      refine kv g0 (mv) ?_
      refine kv g0 (mv) ?_
      obtain ⟨c113, H⟩ := of_if H
      refine kv g0 (ixR 3 c107 (ltE c113)) ?_
      refine kv g0 (ldE (eI .i64 (rd t23.1 p104)) (.lit (.int .i64 (rd t23.1 p104))) (getE (z := (0 : Int)) c107 c113)) ?_
      obtain ⟨c114, H⟩ := of_if H
      obtain ⟨c115, H⟩ := of_if H
      refine kv g0 (ixR 3 c114 (ltE c115)) ?_
      refine kv g0 (ldE (eI .i64 (rd t80 (rd t23.1 p104))) (.lit (.int .i64 (rd t80 (rd t23.1 p104)))) (getE (z := (0 : Int)) c114 c115)) ?_
      refine kv g0 (mv) ?_
      refine kv g0 (mv) ?_
      obtain ⟨c116, H⟩ := of_if H
      refine kv g0 (ixR 3 c107 (ltE c116)) ?_
      refine kv g0 (ldE (eI .i64 (rd t80 p104)) (.lit (.int .i64 (rd t80 p104))) (getE (z := (0 : Int)) c107 c116)) ?_
      refine kv g0 (sub6) ?_
      refine kv g0 (sub6) ?_
      refine kv g0 (gtr) ?_
      refine kv g0 (mv) ?_
      by_cases c117 : (wrap64 ((wrap64 ((rd t80 (rd t23.1 p104)) - (rd t80 p104))) - 1)) > 15
      ·rw [if_pos c117] at H
       refine kx (hF (decide_eq_true c117)) ?_
       refine kx (hF (decide_eq_true c117)) ?_
       refine kx (hF (decide_eq_true c117)) ?_
       refine kx (hF (decide_eq_true c117)) ?_
       refine kx (hF (decide_eq_true c117)) ?_
       refine kx (hF (decide_eq_true c117)) ?_
       refine kx (hF (decide_eq_true c117)) ?_
       refine kx (hF (decide_eq_true c117)) ?_
       refine kx (hF (decide_eq_true c117)) ?_
       refine kx (hF (decide_eq_true c117)) ?_
       refine kx (hF (decide_eq_true c117)) ?_
       refine kx (hF (decide_eq_true c117)) ?_
       refine kx (hF (decide_eq_true c117)) ?_
       refine kx (hF (decide_eq_true c117)) ?_
       refine kv g0 (pkT (decide_eq_true c117)) ?_
       refine wk_end_draw hM (by kernel_rfl) ?_
       refine ac_next ?_
       refine aw_ifT ?_ rfl
       refine aw_grp1 ?_
       refine wk_start ?_
       refine kv g0 (mv) ?_
       refine kv g0 (mv) ?_
       refine kv g0 (ixR 3 c107 (ltE c111)) ?_
       refine ks g0 (stE 1 (eI .i64 3) ((q102.set p104.toNat 3).map (eI .i64)) (getE (z := (0 : Int)) c107 c111) setE) ?_
       refine wk_end ?_
       refine ac_next ?_
       refine wk_start ?_
       refine kv g0 (asg) ?_
       refine wk_end ?_
       refine ac_blkN ?_
       refine ac_k ?_
       exact acw hE [(0, 0), (5, 5), (6, 6), (7, 7)] 9999 (hJ125 k105 (q102.set p104.toNat 3) true (Nat.le_refl _) H)
      rw [if_neg c117] at H
      refine kv (g1 (decide_eq_false c117)) (mv) ?_
      refine kv (g1 (decide_eq_false c117)) (mv) ?_
      refine kv (g1 (decide_eq_false c117)) (mv) ?_
      obtain ⟨c118, H⟩ := of_if H
      refine kv (g1 (decide_eq_false c117)) (ixR 3 c107 (ltE c118)) ?_
      refine kv (g1 (decide_eq_false c117)) (ldE (eI .i64 (rd t23.2 p104)) (.lit (.int .i64 (rd t23.2 p104))) (getE (z := (0 : Int)) c107 c118)) ?_
      obtain ⟨c119, H⟩ := of_if H
      obtain ⟨c120, H⟩ := of_if H
      refine kv (g1 (decide_eq_false c117)) (ixR 3 c119 (ltE c120)) ?_
      refine kv (g1 (decide_eq_false c117)) (ldE (eI .i64 (rd t80 (rd t23.2 p104))) (.lit (.int .i64 (rd t80 (rd t23.2 p104)))) (getE (z := (0 : Int)) c119 c120)) ?_
      refine kv (g1 (decide_eq_false c117)) (mv) ?_
      refine kv (g1 (decide_eq_false c117)) (mv) ?_
      refine kv (g1 (decide_eq_false c117)) (ixR 3 c107 (ltE c116)) ?_
      refine kv (g1 (decide_eq_false c117)) (ldE (eI .i64 (rd t80 p104)) (.lit (.int .i64 (rd t80 p104))) (getE (z := (0 : Int)) c107 c116)) ?_
      refine kv (g1 (decide_eq_false c117)) (sub6) ?_
      refine kv (g1 (decide_eq_false c117)) (sub6) ?_
      refine kv (g1 (decide_eq_false c117)) (gtr) ?_
      refine kv g0 (pkF (decide_eq_false c117)) ?_
      refine wk_end_draw hM (by kernel_rfl) ?_
      refine ac_next ?_
      by_cases c121 : (wrap64 ((wrap64 ((rd t80 (rd t23.2 p104)) - (rd t80 p104))) - 1)) > 15
      ·rw [if_pos c121] at H
       refine aw_ifT ?_ (decide_eq_true c121)
       refine aw_grp1 ?_
       refine wk_start ?_
       refine kv g0 (mv) ?_
       refine kv g0 (mv) ?_
       refine kv g0 (ixR 3 c107 (ltE c111)) ?_
       refine ks g0 (stE 1 (eI .i64 3) ((q102.set p104.toNat 3).map (eI .i64)) (getE (z := (0 : Int)) c107 c111) setE) ?_
       refine wk_end ?_
       refine ac_next ?_
       refine wk_start ?_
       refine kv g0 (asg) ?_
       refine wk_end ?_
       refine ac_blkN ?_
       refine ac_k ?_
       exact acw hE [(0, 0), (5, 5), (6, 6), (7, 7)] 9999 (hJ125 k105 (q102.set p104.toNat 3) true (Nat.le_refl _) H)
      rw [if_neg c121] at H
      refine aw_ifF ?_ (decide_eq_false c121)
      refine aw_skip ?_
      refine ac_blkN ?_
      refine ac_k ?_
      exact acw hE [(0, 0), (5, 5), (6, 6), (7, 7)] 9999 (hJ125 k105 q102 p103 (Nat.le_refl _) H)
     rw [if_neg c110] at H
     refine kx (hF (nT (bF c110))) ?_
     refine kx (hF (nT (bF c110))) ?_
     refine kx (hF (nT (bF c110))) ?_
     refine kx (hF (nT (bF c110))) ?_
     refine kx (hF (nT (bF c110))) ?_
     refine kv g0 (pkT (nT (bF c110))) ?_
     refine wk_end ?_
     refine ac_next ?_
     refine aw_ifT ?_ rfl
     refine aw_exit ?_
     refine ac_then ?_
     refine ac_hit rfl ?_
     refine ac_k ?_
     exact acw hE [(0, 0), (5, 5), (6, 6), (7, 7)] 9999 (hJ125 k105 q102 p103 (Nat.le_refl _) H)
    intro k_ q122 p123 hk_ H
    rcases k_ with _ | k124
    ·rw [spec_Sizes.j0.eq_1] at H; cases H
    have hk124 : k124 ≤ k105 := by omega
    clear hk_
    rw [spec_Sizes.j0.eq_2] at H
    refine wk_start ?_
    refine kv g0 (mv) ?_
    refine kv g0 (add6) ?_
    refine kv g0 (asg) ?_
    refine wk_end ?_
    refine ac_k ?_
    exact acw hE [(0, 0), (5, 5), (6, 6), (7, 7)] 9999 (hK127 k124 q122 p123 (wrap64 (p104 + 1)) (by omega) ⟨by omega, H⟩)
   rw [if_neg c106] at H
   refine aw_ifF ?_ (decide_eq_false c106)
   refine aw_exit ?_
   refine ac_then ?_
   refine ac_then ?_
   refine ac_hit rfl ?_
   refine ac_next ?_
   refine aw_grp1 ?_
   refine wk_start ?_
   refine kv g0 (mv) ?_
   refine kv g0 (not_) ?_
   refine wk_end ?_
   refine ac_next ?_
   by_cases c128 : p103 = true
   ·rw [if_pos c128] at H
    refine aw_ifF ?_ (nF c128)
    refine aw_skip ?_
    refine ac_blkN ?_
    refine ac_next ?_
    refine wk_start ?_
    refine kv g0 (mv) ?_
    refine kv g0 (add6) ?_
    refine kv g0 (asg) ?_
    refine wk_end ?_
    refine ac_k ?_
    exact acw hE [(0, 0), (5, 5), (6, 6)] 9999 (hK130 k105 q102 (wrap64 (p77 + 1)) (by omega) ⟨by omega, H⟩)
   rw [if_neg c128] at H
   refine aw_ifT ?_ (nT (bF c128))
   refine aw_exit ?_
   refine ac_miss rfl ?_
   refine ac_then ?_
   refine ac_then ?_
   refine ac_hit rfl ?_
   refine ac_next ?_
   refine aw_grp1 ?_
   refine wk_start ?_
   refine kv g0 (mv) ?_
   refine kv g0 (asg) ?_
   refine wk_end ?_
   refine ac_next ?_
   refine aw_ret ?_
   obtain rfl := Option.some.inj H
   exact acr hE [.tmp 2] (.tmp .nil) (.one _) [(0, 0)] 9999
  rw [if_neg c79] at H
  refine aw_ifF ?_ (decide_eq_false c79)
  refine aw_exit ?_
  refine ac_then ?_
  refine ac_then ?_
  refine ac_hit rfl ?_
  refine ac_next ?_
  refine aw_grp1 ?_
  refine wk_start ?_
  refine kv g0 (mv) ?_
  refine kv g0 (asg) ?_
  refine wk_end ?_
  refine ac_next ?_
  refine aw_ret ?_
  obtain rfl := Option.some.inj H
  exact acr hE [.tmp 2] (.tmp .nil) (.one _) [(0, 0)] 9999
 rw [if_neg c3] at H
 refine aw_ifT ?_ (nT (bF c3))
 refine aw_grp1 ?_
 refine wk_start ?_
 refine kv g0 (mv) ?_
 refine kv g0 (asg) ?_
 refine wk_end ?_
 refine ac_next ?_
 refine aw_ret ?_
 refine ac_thenR ?_
 obtain rfl := Option.some.inj H
 exact acr hE [.tmp 2] (.tmp .nil) (.one _) [(0, 0)] 9999
/-! spec_Layout -/
mutual
def spec_Layout.j0 : Nat → (List S76) → ((List Int)) → ((List Int) × (List Int)) → ((List Int)) → (List S55) → Int → Int → Int → Int → Option ((List S55) × Bool)
 | 0, _, _, _, _, _, _, _, _, _ => none
 | k76 + 1, l0, t1, t4, t6, q42, p43, p73, p74, p75 => if q42.length + ([(⟨(rd_T76 l0 p43).f1.f0, p73, p74, p75⟩ : S55)] : List S55).length < 4398046511104 then spec_Layout.l0 k76 l0 t1 t4 t6 (q42 ++ ([(⟨(rd_T76 l0 p43).f1.f0, p73, p74, p75⟩ : S55)] : List S55)) (wrap64 (p43 + 1)) else none
def spec_Layout.l0 : Nat → (List S76) → ((List Int)) → ((List Int) × (List Int)) → ((List Int)) → (List S55) → Int → Option ((List S55) × Bool)
 | 0, _, _, _, _, _, _ => none
 | k44 + 1, l0, t1, t4, t6, q42, p43 => if p43 < (l0.length : Int) then if 0 ≤ p43 then if p43 < (t1.length : Int) then if (rd t1 p43) = 0 then spec_Layout.l0 k44 l0 t1 t4 t6 q42 (wrap64 (p43 + 1)) else if (rd t1 p43) = 3 then if p43 < (t4.1.length : Int) then (if 0 ≤ (rd t4.1 p43) then (if (rd t4.1 p43) < (t6.length : Int) then (if p43 < (t6.length : Int) then (if p43 < (t4.2.length : Int) then (if 0 ≤ (rd t4.2 p43) then (if (rd t4.2 p43) < (t6.length : Int) then (if q42.length + ([(⟨(rd_T76 l0 p43).f1.f0, (rd_T76 l0 p43).f1.f1, (rd_T76 l0 p43).f1.f2, 1⟩ : S55), (⟨7, wrap64 ((wrap64 ((rd t6 (rd t4.1 p43)) - (rd t6 p43))) - 2), 0, 0⟩ : S55), (⟨7, wrap64 ((wrap64 ((rd t6 (rd t4.2 p43)) - (rd t6 p43))) - 3), 0, 0⟩ : S55)] : List S55).length < 4398046511104 then spec_Layout.l0 k44 l0 t1 t4 t6 (q42 ++ ([(⟨(rd_T76 l0 p43).f1.f0, (rd_T76 l0 p43).f1.f1, (rd_T76 l0 p43).f1.f2, 1⟩ : S55), (⟨7, wrap64 ((wrap64 ((rd t6 (rd t4.1 p43)) - (rd t6 p43))) - 2), 0, 0⟩ : S55), (⟨7, wrap64 ((wrap64 ((rd t6 (rd t4.2 p43)) - (rd t6 p43))) - 3), 0, 0⟩ : S55)] : List S55)) (wrap64 (p43 + 1)) else none) else none) else none) else none) else none) else none) else none) else none else if ((rd_T76 l0 p43).f1.f0) = 7 then (if p43 < (t4.1.length : Int) then (if 0 ≤ (rd t4.1 p43) then (if (rd t4.1 p43) < (t6.length : Int) then (if p43 < (t6.length : Int) then spec_Layout.j0 k44 l0 t1 t4 t6 q42 p43 (wrap64 ((wrap64 ((rd t6 (rd t4.1 p43)) - (rd t6 p43))) - 1)) ((rd_T76 l0 p43).f1.f2) ((rd_T76 l0 p43).f1.f3) else none) else none) else none) else none) else ((spec_l06Ask.f ((rd_T76 l0 p43).f1.f0)).bind fun t63 => if t63 = true then (if p43 < (t4.1.length : Int) then (if 0 ≤ (rd t4.1 p43) then (if (rd t4.1 p43) < (t6.length : Int) then (if p43 < (t6.length : Int) then if p43 < (t4.2.length : Int) then (if 0 ≤ (rd t4.2 p43) then (if (rd t4.2 p43) < (t6.length : Int) then spec_Layout.j0 k44 l0 t1 t4 t6 q42 p43 ((rd_T76 l0 p43).f1.f1) (wrap64 ((wrap64 ((rd t6 (rd t4.1 p43)) - (rd t6 p43))) - 1)) (wrap64 ((wrap64 ((rd t6 (rd t4.2 p43)) - (rd t6 p43))) - 1)) else none) else none) else none else none) else none) else none) else none) else spec_Layout.j0 k44 l0 t1 t4 t6 q42 p43 ((rd_T76 l0 p43).f1.f1) ((rd_T76 l0 p43).f1.f2) ((rd_T76 l0 p43).f1.f3)) else none else none else if (q42.length : Int) > 400 then some (([] : List S55), false) else some (q42, true)
end
def spec_Layout.f (k : Nat) (l0 : List S76) : Option ((List S55) × Bool) := (spec_Sizes.f k l0).bind fun t1 => if (t1.length : Int) = 0 then some (([] : List S55), false) else (spec_l11Ways.f k l0).bind fun t4 => (spec_l11Begins.f k t1).bind fun t6 => spec_Layout.l0 k l0 t1 t4 t6 ([] : List S55) 0
theorem spec_Layout.ok {k : Nat} {l0 : List S76} {r : (List S55) × Bool} (H : spec_Layout.f k l0 = some r) : ACalls Try.prog 21 [] [.sl .o 7 (l0.map e76)] [(0, .row 55 4 (r.1.map e55))] (.tup [.row 0, .lit (.bool r.2)]) := by
 refine acalls (fn := Try.f21) (nt := 142) Try.func21 rfl rfl (Nat.le_of_ble_eq_true rfl) fun E hE => ?_
 rw [spec_Layout.f] at H
 refine aw_grp1 ?_
 refine wk_start ?_
 refine kv g0 (asg) ?_
 refine kv g0 (asg) ?_
 refine wk_end ?_
 refine ac_next ?_
 refine aw_grp1 ?_
 refine wk_start ?_
 refine kb g0 (bsl 0 55 4 [.int .i64 0, .int .i64 0, .int .i64 0, .int .i64 0] (([] : List S55).map e55)) ?_
 refine kv g0 (asg) ?_
 refine wk_end ?_
 refine ac_next ?_
 refine aw_grp1 ?_
 refine wk_start ?_
 refine kv g0 (mv) ?_
 obtain ⟨t1, A2, H⟩ := of_bind H
 refine kcS1 14 (.row 1) [(1, .row 3 1 (t1.map (eI .i64)))] g0 (cal (spec_Sizes.ok A2) [1] 9999 .n (hf := Try.func43)) rfl rfl ?_
 refine kv g0 (asg) ?_
 refine wk_end ?_
 refine ac_next ?_
 refine aw_grp1 ?_
 refine aw_grp1 ?_
 refine wk_start ?_
 refine kv g0 (mv) ?_
 refine kv g0 (lnR lenE) ?_
 refine kv g0 (eql) ?_
 refine wk_end ?_
 refine ac_next ?_
 by_cases c3 : (t1.length : Int) = 0
 ·rw [if_pos c3] at H
  refine aw_ifT ?_ (eT c3)
  refine aw_grp1 ?_
  refine wk_start ?_
  refine kv g0 (mv) ?_
  refine kv g0 (asg) ?_
  refine kv g0 (asg) ?_
  refine wk_end ?_
  refine ac_next ?_
  refine aw_ret ?_
  refine ac_thenR ?_
  obtain rfl := Option.some.inj H
  exact acr hE [.tmp 2, .tmp 3] (.tmp (.tmp .nil)) (.many _ _ _) [(0, 0)] 9999
 rw [if_neg c3] at H
 refine aw_ifF ?_ (eF c3)
 refine aw_skip ?_
 refine ac_next ?_
 refine aw_grp1 ?_
 refine wk_start ?_
 refine kv g0 (mv) ?_
 obtain ⟨t4, A5, H⟩ := of_bind H
 refine kcS2 21 (.tup [.row 2, .row 3]) [(2, .row 3 1 (t4.1.map (eI .i64))), (3, .row 3 1 (t4.2.map (eI .i64)))] g0 (cal (spec_l11Ways.ok A5) [2, 3] 9999 .n (hf := Try.func44)) rfl rfl ?_
 refine kv g0 (mv) ?_
 refine kv g0 (ext) ?_
 refine kv g0 (ext) ?_
 refine kv g0 (asg) ?_
 refine kv g0 (asg) ?_
 refine wk_end ?_
 refine ac_next ?_
 refine aw_grp1 ?_
 refine wk_start ?_
 refine kv g0 (mv) ?_
 obtain ⟨t6, A7, H⟩ := of_bind H
 refine kcS1 25 (.row 4) [(4, .row 3 1 (t6.map (eI .i64)))] g0 (cal (spec_l11Begins.ok A7) [4] 9999 .n (hf := Try.func45)) rfl rfl ?_
 refine kv g0 (asg) ?_
 refine wk_end ?_
 refine ac_next ?_
 refine aw_grp1 ?_
 refine wk_start ?_
 refine kb g0 (bsl 5 55 4 [.int .i64 0, .int .i64 0, .int .i64 0, .int .i64 0] (([] : List S55).map e55)) ?_
 refine kv g0 (asg) ?_
 refine wk_end ?_
 refine ac_next ?_
 refine aw_grp1 ?_
 refine aw_grp1 ?_
 refine wk_start ?_
 refine kv g0 (asg) ?_
 refine wk_end ?_
 refine ac_next ?_
 refine aw_block ?_
 refine aw_loop2 (fun (k_ : Nat) (q42 : List S55) (p43 : Int) => k_ ≤ k ∧ spec_Layout.l0 k_ l0 t1 t4 t6 q42 p43 = some r) (fun (q42 : List S55) (p43 : Int) => ⟨[(0, .sl .o 7 (l0.map e76)), (4, .row 0), (5, .row 1), (6, .row 2), (7, .row 3), (8, .row 4), (9, .row 5), (10, .lit (.int .i64 p43))], [(0, .row 55 4 (([] : List S55).map e55)), (1, .row 3 1 (t1.map (eI .i64))), (2, .row 3 1 (t4.1.map (eI .i64))), (3, .row 3 1 (t4.2.map (eI .i64))), (4, .row 3 1 (t6.map (eI .i64))), (5, .row 55 4 (q42.map e55))]⟩) k ([] : List S55) 0 ⟨Nat.le_refl _, H⟩ (fun K_ h_ => acw hE [(0, 0), (1, 1), (2, 2), (3, 3), (4, 4), (5, 5)] 9999 h_) (fun _ _ => by intro h_; have h_ := h_.2; rw [spec_Layout.l0.eq_1] at h_; cases h_) ?_
 intro k44 q42 p43 hq_ K79 hK80
 have hk44 := hq_.1
 have H := hq_.2
 clear hq_
 rw [spec_Layout.l0.eq_2] at H
 refine aw_grp1 ?_
 refine aw_grp1 ?_
 refine wk_start ?_
 refine kv g0 (mv) ?_
 refine kv g0 (mv) ?_
 refine kv g0 (lnS lenE) ?_
 refine kv g0 (lss) ?_
 refine wk_end ?_
 refine ac_next ?_
 by_cases c45 : p43 < (l0.length : Int)
 ·rw [if_pos c45] at H
  refine aw_ifT ?_ (decide_eq_true c45)
  refine aw_skip ?_
  refine ac_next ?_
  refine aw_grp1 ?_
  refine aw_block ?_
  refine aw_grp1 ?_
  refine wk_start ?_
  refine kv g0 (mv) ?_
  refine kv g0 (mv) ?_
  obtain ⟨c46, H⟩ := of_if H
  refine kv g0 (ixS 76 (e76 (rd_T76 l0 p43)) c46 (getE (z := z76) c46 c45)) ?_
  refine kv g0 (faR 1 1) ?_
  refine kv g0 (ldRA 4 [.lit (.int .i64 ((rd_T76 l0 p43).f1.f0)), .lit (.int .i64 ((rd_T76 l0 p43).f1.f1)), .lit (.int .i64 ((rd_T76 l0 p43).f1.f2)), .lit (.int .i64 ((rd_T76 l0 p43).f1.f3))]) ?_
  refine kb g0 (alc 6 [.int .i64 0, .int .i64 0, .int .i64 0, .int .i64 0] [.lit (.int .i64 0), .lit (.int .i64 0), .lit (.int .i64 0), .lit (.int .i64 0)]) ?_
  refine ks g0 (stB 4 [.lit (.int .i64 ((rd_T76 l0 p43).f1.f0)), .lit (.int .i64 ((rd_T76 l0 p43).f1.f1)), .lit (.int .i64 ((rd_T76 l0 p43).f1.f2)), .lit (.int .i64 ((rd_T76 l0 p43).f1.f3))]) ?_
  refine wk_end ?_
  refine ac_next ?_
  refine aw_cut1 (J := fun K_ => ∀ (k_ : Nat) (p73 : Int) (p74 : Int) (p75 : Int), k_ ≤ k44 → spec_Layout.j0 k_ l0 t1 t4 t6 q42 p43 p73 p74 p75 = some r → ACont E 142 ⟨[(0, .sl .o 7 (l0.map e76)), (4, .row 0), (5, .row 1), (6, .row 2), (7, .row 3), (8, .row 4), (9, .row 5), (10, .lit (.int .i64 p43)), (11, .box 6 0)], [(0, .row 55 4 (([] : List S55).map e55)), (1, .row 3 1 (t1.map (eI .i64))), (2, .row 3 1 (t4.1.map (eI .i64))), (3, .row 3 1 (t4.2.map (eI .i64))), (4, .row 3 1 (t6.map (eI .i64))), (5, .row 55 4 (q42.map e55)), (6, .box 55 [.lit (.int .i64 ((rd_T76 l0 p43).f1.f0)), .lit (.int .i64 p73), .lit (.int .i64 p74), .lit (.int .i64 p75)])]⟩ K_) ?_ ?_
  ·intro K_ hJ78
   refine aw_block ?_
   refine aw_grp1 ?_
   refine wk_start ?_
   refine kv g0 (mv) ?_
   refine kv g0 (mv) ?_
   obtain ⟨c47, H⟩ := of_if H
   refine kv g0 (ixR 3 c46 (ltE c47)) ?_
   refine kv g0 (ldE (eI .i64 (rd t1 p43)) (.lit (.int .i64 (rd t1 p43))) (getE (z := (0 : Int)) c46 c47)) ?_
   refine kv g0 (eql) ?_
   refine kv g0 (asg) ?_
   refine wk_end ?_
   refine ac_next ?_
   by_cases c48 : (rd t1 p43) = 0
   ·rw [if_pos c48] at H
    refine aw_ifT ?_ (eT c48)
    refine aw_exit ?_
    refine ac_miss rfl ?_
    refine ac_then ?_
    refine ac_hit rfl ?_
    refine ac_next ?_
    refine wk_start ?_
    refine kv g0 (mv) ?_
    refine kv g0 (add6) ?_
    refine kv g0 (asg) ?_
    refine wk_end ?_
    refine ac_k ?_
    exact acw hE [(0, 0), (1, 1), (2, 2), (3, 3), (4, 4), (5, 5)] 9999 (hK80 k44 q42 (wrap64 (p43 + 1)) (Nat.le_refl _) ⟨by omega, H⟩)
   rw [if_neg c48] at H
   refine aw_ifF ?_ (eF c48)
   refine aw_grp1 ?_
   refine wk_start ?_
   refine kv g0 (mv) ?_
   refine kv g0 (mv) ?_
   refine kv g0 (ixR 3 c46 (ltE c47)) ?_
   refine kv g0 (ldE (eI .i64 (rd t1 p43)) (.lit (.int .i64 (rd t1 p43))) (getE (z := (0 : Int)) c46 c47)) ?_
   refine kv g0 (eql) ?_
   refine kv g0 (asg) ?_
   refine wk_end ?_
   refine ac_next ?_
   by_cases c49 : (rd t1 p43) = 3
   ·rw [if_pos c49] at H
    refine aw_ifT ?_ (eT c49)
    refine aw_grp1 ?_
    refine wk_start ?_
    refine kv g0 (faB 3 3) ?_
    refine ks g0 (stB 1 [.lit (.int .i64 ((rd_T76 l0 p43).f1.f0)), .lit (.int .i64 ((rd_T76 l0 p43).f1.f1)), .lit (.int .i64 ((rd_T76 l0 p43).f1.f2)), .lit (.int .i64 1)]) ?_
    refine wk_end ?_
    refine ac_next ?_
    refine aw_grp1 ?_
    refine wk_start ?_
    refine kv g0 (mv) ?_
    refine kv g0 (ldBA 4 [.lit (.int .i64 ((rd_T76 l0 p43).f1.f0)), .lit (.int .i64 ((rd_T76 l0 p43).f1.f1)), .lit (.int .i64 ((rd_T76 l0 p43).f1.f2)), .lit (.int .i64 1)]) ?_
    refine kv g0 (mv) ?_
    refine kv g0 (mv) ?_
    refine kv g0 (mv) ?_
    obtain ⟨c50, H⟩ := of_if H
    refine kv g0 (ixR 3 c46 (ltE c50)) ?_
    refine kv g0 (ldE (eI .i64 (rd t4.1 p43)) (.lit (.int .i64 (rd t4.1 p43))) (getE (z := (0 : Int)) c46 c50)) ?_
    obtain ⟨c51, H⟩ := of_if H
    obtain ⟨c52, H⟩ := of_if H
    refine kv g0 (ixR 3 c51 (ltE c52)) ?_
    refine kv g0 (ldE (eI .i64 (rd t6 (rd t4.1 p43))) (.lit (.int .i64 (rd t6 (rd t4.1 p43)))) (getE (z := (0 : Int)) c51 c52)) ?_
    refine kv g0 (mv) ?_
    refine kv g0 (mv) ?_
    obtain ⟨c53, H⟩ := of_if H
    refine kv g0 (ixR 3 c46 (ltE c53)) ?_
    refine kv g0 (ldE (eI .i64 (rd t6 p43)) (.lit (.int .i64 (rd t6 p43))) (getE (z := (0 : Int)) c46 c53)) ?_
    refine kv g0 (sub6) ?_
    refine kv g0 (sub6) ?_
    refine kv g0 (bld [(0, 1), (1, 1), (2, 1), (3, 1)] [.int .i64 0, .int .i64 0, .int .i64 0, .int .i64 0] [.lit (.int .i64 7), .lit (.int .i64 (wrap64 ((wrap64 ((rd t6 (rd t4.1 p43)) - (rd t6 p43))) - 2))), .lit (.int .i64 0), .lit (.int .i64 0)]) ?_
    refine kv g0 (mv) ?_
    refine kv g0 (mv) ?_
    refine kv g0 (mv) ?_
    obtain ⟨c54, H⟩ := of_if H
    refine kv g0 (ixR 3 c46 (ltE c54)) ?_
    refine kv g0 (ldE (eI .i64 (rd t4.2 p43)) (.lit (.int .i64 (rd t4.2 p43))) (getE (z := (0 : Int)) c46 c54)) ?_
    obtain ⟨c55, H⟩ := of_if H
    obtain ⟨c56, H⟩ := of_if H
    refine kv g0 (ixR 3 c55 (ltE c56)) ?_
    refine kv g0 (ldE (eI .i64 (rd t6 (rd t4.2 p43))) (.lit (.int .i64 (rd t6 (rd t4.2 p43)))) (getE (z := (0 : Int)) c55 c56)) ?_
    refine kv g0 (mv) ?_
    refine kv g0 (mv) ?_
    refine kv g0 (ixR 3 c46 (ltE c53)) ?_
    refine kv g0 (ldE (eI .i64 (rd t6 p43)) (.lit (.int .i64 (rd t6 p43))) (getE (z := (0 : Int)) c46 c53)) ?_
    refine kv g0 (sub6) ?_
    refine kv g0 (sub6) ?_
    refine kv g0 (bld [(0, 1), (1, 1), (2, 1), (3, 1)] [.int .i64 0, .int .i64 0, .int .i64 0, .int .i64 0] [.lit (.int .i64 7), .lit (.int .i64 (wrap64 ((wrap64 ((rd t6 (rd t4.2 p43)) - (rd t6 p43))) - 3))), .lit (.int .i64 0), .lit (.int .i64 0)]) ?_
    refine kb g0 (bsl 7 55 4 [.int .i64 0, .int .i64 0, .int .i64 0, .int .i64 0] (([(⟨(rd_T76 l0 p43).f1.f0, (rd_T76 l0 p43).f1.f1, (rd_T76 l0 p43).f1.f2, 1⟩ : S55), (⟨7, wrap64 ((wrap64 ((rd t6 (rd t4.1 p43)) - (rd t6 p43))) - 2), 0, 0⟩ : S55), (⟨7, wrap64 ((wrap64 ((rd t6 (rd t4.2 p43)) - (rd t6 p43))) - 3), 0, 0⟩ : S55)] : List S55).map e55)) ?_
    obtain ⟨c57, H⟩ := of_if H
    refine kc g0 (apR 8 55 4 32 [.int .i64 0, .int .i64 0, .int .i64 0, .int .i64 0] ((q42 ++ ([(⟨(rd_T76 l0 p43).f1.f0, (rd_T76 l0 p43).f1.f1, (rd_T76 l0 p43).f1.f2, 1⟩ : S55), (⟨7, wrap64 ((wrap64 ((rd t6 (rd t4.1 p43)) - (rd t6 p43))) - 2), 0, 0⟩ : S55), (⟨7, wrap64 ((wrap64 ((rd t6 (rd t4.2 p43)) - (rd t6 p43))) - 3), 0, 0⟩ : S55)] : List S55)).map e55) (.row rfl) (apb c57 rfl) appE) ?_
    refine kv g0 (asg) ?_
    refine wk_end_draw hM (by kernel_rfl) ?_
    refine ac_next ?_
    refine aw_exit ?_
    refine ac_miss rfl ?_
    refine ac_then ?_
    refine ac_hit rfl ?_
    refine ac_next ?_
    refine wk_start ?_
    refine kv g0 (mv) ?_
    refine kv g0 (add6) ?_
    refine kv g0 (asg) ?_
    refine wk_end ?_
    refine ac_k ?_
    exact acw hE [(0, 0), (1, 1), (2, 2), (3, 3), (4, 4), (5, 8)] 9999 (hK80 k44 (q42 ++ ([(⟨(rd_T76 l0 p43).f1.f0, (rd_T76 l0 p43).f1.f1, (rd_T76 l0 p43).f1.f2, 1⟩ : S55), (⟨7, wrap64 ((wrap64 ((rd t6 (rd t4.1 p43)) - (rd t6 p43))) - 2), 0, 0⟩ : S55), (⟨7, wrap64 ((wrap64 ((rd t6 (rd t4.2 p43)) - (rd t6 p43))) - 3), 0, 0⟩ : S55)] : List S55)) (wrap64 (p43 + 1)) (Nat.le_refl _) ⟨by omega, H⟩)
   rw [if_neg c49] at H
   refine aw_ifF ?_ (eF c49)
   refine aw_grp1 ?_
   refine wk_start ?_
   refine kv g0 (faB 0 0) ?_
   refine kv g0 (ldB) ?_
   refine kv g0 (eql) ?_
   refine kv g0 (asg) ?_
   refine wk_end ?_
   refine ac_next ?_
   by_cases c58 : ((rd_T76 l0 p43).f1.f0) = 7
   ·rw [if_pos c58] at H
    refine aw_ifT ?_ (eT c58)
    refine wk_start ?_
    refine kv g0 (mv) ?_
    refine kv g0 (mv) ?_
    refine kv g0 (mv) ?_
    obtain ⟨c59, H⟩ := of_if H
    refine kv g0 (ixR 3 c46 (ltE c59)) ?_
    refine kv g0 (ldE (eI .i64 (rd t4.1 p43)) (.lit (.int .i64 (rd t4.1 p43))) (getE (z := (0 : Int)) c46 c59)) ?_
    obtain ⟨c60, H⟩ := of_if H
    obtain ⟨c61, H⟩ := of_if H
    refine kv g0 (ixR 3 c60 (ltE c61)) ?_
    refine kv g0 (ldE (eI .i64 (rd t6 (rd t4.1 p43))) (.lit (.int .i64 (rd t6 (rd t4.1 p43)))) (getE (z := (0 : Int)) c60 c61)) ?_
    refine kv g0 (mv) ?_
    refine kv g0 (mv) ?_
    obtain ⟨c62, H⟩ := of_if H
    refine kv g0 (ixR 3 c46 (ltE c62)) ?_
    refine kv g0 (ldE (eI .i64 (rd t6 p43)) (.lit (.int .i64 (rd t6 p43))) (getE (z := (0 : Int)) c46 c62)) ?_
    refine kv g0 (sub6) ?_
    refine kv g0 (sub6) ?_
    refine kv g0 (faB 1 1) ?_
    refine ks g0 (stB 1 [.lit (.int .i64 ((rd_T76 l0 p43).f1.f0)), .lit (.int .i64 (wrap64 ((wrap64 ((rd t6 (rd t4.1 p43)) - (rd t6 p43))) - 1))), .lit (.int .i64 ((rd_T76 l0 p43).f1.f2)), .lit (.int .i64 ((rd_T76 l0 p43).f1.f3))]) ?_
    refine wk_end_draw hM (by kernel_rfl) ?_
    refine ac_blkN ?_
    refine ac_k ?_
    exact acw hE [(0, 0), (1, 1), (2, 2), (3, 3), (4, 4), (5, 5), (6, 6)] 9999 (hJ78 k44 (wrap64 ((wrap64 ((rd t6 (rd t4.1 p43)) - (rd t6 p43))) - 1)) ((rd_T76 l0 p43).f1.f2) ((rd_T76 l0 p43).f1.f3) (Nat.le_refl _) H)
   rw [if_neg c58] at H
   refine aw_ifF ?_ (eF c58)
   refine aw_grp1 ?_
   refine wk_start ?_
   refine kv g0 (faB 0 0) ?_
   refine kv g0 (ldB) ?_
   obtain ⟨t63, A64, H⟩ := of_bind H
   refine kcS0 104 (.lit (.bool t63)) [] g0 (cal (spec_l06Ask.ok A64) [] 9999 .n (hf := Try.func46)) rfl rfl ?_
   refine kv g0 (asg) ?_
   refine wk_end ?_
   refine ac_next ?_
   by_cases c65 : t63 = true
   ·rw [if_pos c65] at H
    refine aw_ifT ?_ c65
    refine aw_grp1 ?_
    refine wk_start ?_
    refine kv g0 (mv) ?_
    refine kv g0 (mv) ?_
    refine kv g0 (mv) ?_
    obtain ⟨c66, H⟩ := of_if H
    refine kv g0 (ixR 3 c46 (ltE c66)) ?_
    refine kv g0 (ldE (eI .i64 (rd t4.1 p43)) (.lit (.int .i64 (rd t4.1 p43))) (getE (z := (0 : Int)) c46 c66)) ?_
    obtain ⟨c67, H⟩ := of_if H
    obtain ⟨c68, H⟩ := of_if H
    refine kv g0 (ixR 3 c67 (ltE c68)) ?_
    refine kv g0 (ldE (eI .i64 (rd t6 (rd t4.1 p43))) (.lit (.int .i64 (rd t6 (rd t4.1 p43)))) (getE (z := (0 : Int)) c67 c68)) ?_
    refine kv g0 (mv) ?_
    refine kv g0 (mv) ?_
    obtain ⟨c69, H⟩ := of_if H
    refine kv g0 (ixR 3 c46 (ltE c69)) ?_
    refine kv g0 (ldE (eI .i64 (rd t6 p43)) (.lit (.int .i64 (rd t6 p43))) (getE (z := (0 : Int)) c46 c69)) ?_
    refine kv g0 (sub6) ?_
    refine kv g0 (sub6) ?_
    refine kv g0 (faB 2 2) ?_
    refine ks g0 (stB 1 [.lit (.int .i64 ((rd_T76 l0 p43).f1.f0)), .lit (.int .i64 ((rd_T76 l0 p43).f1.f1)), .lit (.int .i64 (wrap64 ((wrap64 ((rd t6 (rd t4.1 p43)) - (rd t6 p43))) - 1))), .lit (.int .i64 ((rd_T76 l0 p43).f1.f3))]) ?_
    refine wk_end_draw hM (by kernel_rfl) ?_
    refine ac_next ?_
    refine wk_start ?_
    refine kv g0 (mv) ?_
    refine kv g0 (mv) ?_
    refine kv g0 (mv) ?_
    obtain ⟨c70, H⟩ := of_if H
    refine kv g0 (ixR 3 c46 (ltE c70)) ?_
    refine kv g0 (ldE (eI .i64 (rd t4.2 p43)) (.lit (.int .i64 (rd t4.2 p43))) (getE (z := (0 : Int)) c46 c70)) ?_
    obtain ⟨c71, H⟩ := of_if H
    obtain ⟨c72, H⟩ := of_if H
    refine kv g0 (ixR 3 c71 (ltE c72)) ?_
    refine kv g0 (ldE (eI .i64 (rd t6 (rd t4.2 p43))) (.lit (.int .i64 (rd t6 (rd t4.2 p43)))) (getE (z := (0 : Int)) c71 c72)) ?_
    refine kv g0 (mv) ?_
    refine kv g0 (mv) ?_
    refine kv g0 (ixR 3 c46 (ltE c69)) ?_
    refine kv g0 (ldE (eI .i64 (rd t6 p43)) (.lit (.int .i64 (rd t6 p43))) (getE (z := (0 : Int)) c46 c69)) ?_
    refine kv g0 (sub6) ?_
    refine kv g0 (sub6) ?_
    refine kv g0 (faB 3 3) ?_
    refine ks g0 (stB 1 [.lit (.int .i64 ((rd_T76 l0 p43).f1.f0)), .lit (.int .i64 ((rd_T76 l0 p43).f1.f1)), .lit (.int .i64 (wrap64 ((wrap64 ((rd t6 (rd t4.1 p43)) - (rd t6 p43))) - 1))), .lit (.int .i64 (wrap64 ((wrap64 ((rd t6 (rd t4.2 p43)) - (rd t6 p43))) - 1)))]) ?_
    refine wk_end_draw hM (by kernel_rfl) ?_
    refine ac_blkN ?_
    refine ac_k ?_
    exact acw hE [(0, 0), (1, 1), (2, 2), (3, 3), (4, 4), (5, 5), (6, 6)] 9999 (hJ78 k44 ((rd_T76 l0 p43).f1.f1) (wrap64 ((wrap64 ((rd t6 (rd t4.1 p43)) - (rd t6 p43))) - 1)) (wrap64 ((wrap64 ((rd t6 (rd t4.2 p43)) - (rd t6 p43))) - 1)) (Nat.le_refl _) H)
   rw [if_neg c65] at H
   refine aw_ifF ?_ (bF c65)
   refine aw_skip ?_
   refine ac_blkN ?_
   refine ac_k ?_
   exact acw hE [(0, 0), (1, 1), (2, 2), (3, 3), (4, 4), (5, 5), (6, 6)] 9999 (hJ78 k44 ((rd_T76 l0 p43).f1.f1) ((rd_T76 l0 p43).f1.f2) ((rd_T76 l0 p43).f1.f3) (Nat.le_refl _) H)
  intro k_ p73 p74 p75 hk_ H
  rcases k_ with _ | k76
  ·rw [spec_Layout.j0.eq_1] at H; cases H
  have hk76 : k76 ≤ k44 := by omega
  clear hk_
  rw [spec_Layout.j0.eq_2] at H
  refine wk_start ?_
  refine kv g0 (mv) ?_
  refine kv g0 (ldBA 4 [.lit (.int .i64 ((rd_T76 l0 p43).f1.f0)), .lit (.int .i64 p73), .lit (.int .i64 p74), .lit (.int .i64 p75)]) ?_
  refine kb g0 (bsl 9 55 4 [.int .i64 0, .int .i64 0, .int .i64 0, .int .i64 0] (([(⟨(rd_T76 l0 p43).f1.f0, p73, p74, p75⟩ : S55)] : List S55).map e55)) ?_
  obtain ⟨c77, H⟩ := of_if H
  refine kc g0 (apR 10 55 4 32 [.int .i64 0, .int .i64 0, .int .i64 0, .int .i64 0] ((q42 ++ ([(⟨(rd_T76 l0 p43).f1.f0, p73, p74, p75⟩ : S55)] : List S55)).map e55) (.row rfl) (apb c77 rfl) appE) ?_
  refine kv g0 (asg) ?_
  refine wk_end ?_
  refine ac_blkN ?_
  refine ac_next ?_
  refine wk_start ?_
  refine kv g0 (mv) ?_
  refine kv g0 (add6) ?_
  refine kv g0 (asg) ?_
  refine wk_end ?_
  refine ac_k ?_
  exact acw hE [(0, 0), (1, 1), (2, 2), (3, 3), (4, 4), (5, 10)] 9999 (hK80 k76 (q42 ++ ([(⟨(rd_T76 l0 p43).f1.f0, p73, p74, p75⟩ : S55)] : List S55)) (wrap64 (p43 + 1)) (by omega) ⟨by omega, H⟩)
 rw [if_neg c45] at H
 refine aw_ifF ?_ (decide_eq_false c45)
 refine aw_exit ?_
 refine ac_then ?_
 refine ac_then ?_
 refine ac_hit rfl ?_
 refine ac_next ?_
 refine aw_grp1 ?_
 refine aw_grp1 ?_
 refine wk_start ?_
 refine kv g0 (mv) ?_
 refine kv g0 (lnR lenE) ?_
 refine kv g0 (gtr) ?_
 refine wk_end ?_
 refine ac_next ?_
 by_cases c81 : (q42.length : Int) > 400
 ·rw [if_pos c81] at H
  refine aw_ifT ?_ (decide_eq_true c81)
  refine aw_grp1 ?_
  refine wk_start ?_
  refine kv g0 (mv) ?_
  refine kv g0 (asg) ?_
  refine kv g0 (asg) ?_
  refine wk_end ?_
  refine ac_next ?_
  refine aw_ret ?_
  refine ac_thenR ?_
  obtain rfl := Option.some.inj H
  exact acr hE [.tmp 2, .tmp 3] (.tmp (.tmp .nil)) (.many _ _ _) [(0, 0)] 9999
 rw [if_neg c81] at H
 refine aw_ifF ?_ (decide_eq_false c81)
 refine aw_skip ?_
 refine ac_next ?_
 refine aw_grp1 ?_
 refine wk_start ?_
 refine kv g0 (mv) ?_
 refine kv g0 (asg) ?_
 refine kv g0 (asg) ?_
 refine wk_end ?_
 refine ac_next ?_
 refine aw_ret ?_
 obtain rfl := Option.some.inj H
 exact acr hE [.tmp 2, .tmp 3] (.tmp (.tmp .nil)) (.many _ _ _) [(0, 5)] 9999
/-! spec_Compile -/
def spec_Compile.f (k : Nat) (a0_0 : Int) (a0_1 : Int) (a0_2 : Int) (l0_3 : List S67) : Option ((List S55) × Int) := (spec_PolicyOk.f k a0_0 a0_1 a0_2 l0_3).bind fun t1 => if t1 = true then (spec_PolicyLines.f k a0_0 a0_1 a0_2 l0_3).bind fun t4 => if (t4.length : Int) > 600 then some (([] : List S55), 2) else (spec_Layout.f k t4).bind fun t7 => if t7.2 = true then some (t7.1, 0) else some (([] : List S55), 2) else some (([] : List S55), 1)
theorem spec_Compile.ok {k : Nat} {a0_0 : Int} {a0_1 : Int} {a0_2 : Int} {l0_3 : List S67} {r : (List S55) × Int} (H : spec_Compile.f k a0_0 a0_1 a0_2 l0_3 = some r) : ACalls Try.prog 6 [] [.agg [.lit (.int .i64 a0_0), .lit (.int .i64 a0_1), .lit (.int .i64 a0_2), .sl .o 4 (l0_3.map e67)]] [(0, .row 55 4 (r.1.map e55))] (.tup [.row 0, .lit (.int .i64 r.2)]) := by
 refine acalls (fn := Try.f6) (nt := 26) Try.func6 rfl rfl (Nat.le_of_ble_eq_true rfl) fun E hE => ?_
 rw [spec_Compile.f] at H
 refine aw_grp1 ?_
 refine wk_start ?_
 refine kb g0 (bxA 0) ?_
 refine kv g0 (asg) ?_
 refine kv g0 (asg) ?_
 refine wk_end ?_
 refine ac_next ?_
 refine aw_grp1 ?_
 refine aw_grp1 ?_
 refine wk_start ?_
 refine kv g0 (ldBA 4 [.lit (.int .i64 a0_0), .lit (.int .i64 a0_1), .lit (.int .i64 a0_2), .sl .o 4 (l0_3.map e67)]) ?_
 obtain ⟨t1, A2, H⟩ := of_bind H
 refine kcS0 8 (.lit (.bool t1)) [] g0 (cal (spec_PolicyOk.ok A2) [] 9999 .n (hf := Try.func19)) rfl rfl ?_
 refine kv g0 (not_) ?_
 refine wk_end ?_
 refine ac_next ?_
 by_cases c3 : t1 = true
 ·rw [if_pos c3] at H
  refine aw_ifF ?_ (nF c3)
  refine aw_skip ?_
  refine ac_next ?_
  refine aw_grp1 ?_
  refine wk_start ?_
  refine kv g0 (ldBA 4 [.lit (.int .i64 a0_0), .lit (.int .i64 a0_1), .lit (.int .i64 a0_2), .sl .o 4 (l0_3.map e67)]) ?_
  obtain ⟨t4, A5, H⟩ := of_bind H
  refine kcS1 12 (.row 2) [(2, .row 76 7 (t4.map e76))] g0 (cal (spec_PolicyLines.ok A5) [2] 9999 .n (hf := Try.func20)) rfl rfl ?_
  refine kv g0 (asg) ?_
  refine wk_end ?_
  refine ac_next ?_
  refine aw_grp1 ?_
  refine aw_grp1 ?_
  refine wk_start ?_
  refine kv g0 (mv) ?_
  refine kv g0 (lnR lenE) ?_
  refine kv g0 (gtr) ?_
  refine wk_end ?_
  refine ac_next ?_
  by_cases c6 : (t4.length : Int) > 600
  ·rw [if_pos c6] at H
   refine aw_ifT ?_ (decide_eq_true c6)
   refine aw_grp1 ?_
   refine wk_start ?_
   refine kb g0 (bsl 3 55 4 [.int .i64 0, .int .i64 0, .int .i64 0, .int .i64 0] (([] : List S55).map e55)) ?_
   refine kv g0 (asg) ?_
   refine kv g0 (asg) ?_
   refine wk_end ?_
   refine ac_next ?_
   refine aw_ret ?_
   refine ac_thenR ?_
   obtain rfl := Option.some.inj H
   exact acr hE [.tmp 2, .tmp 3] (.tmp (.tmp .nil)) (.many _ _ _) [(0, 3)] 9999
  rw [if_neg c6] at H
  refine aw_ifF ?_ (decide_eq_false c6)
  refine aw_skip ?_
  refine ac_next ?_
  refine aw_grp1 ?_
  refine wk_start ?_
  refine kv g0 (mv) ?_
  obtain ⟨t7, A8, H⟩ := of_bind H
  refine kcS1 19 (.tup [.row 4, .lit (.bool t7.2)]) [(4, .row 55 4 (t7.1.map e55))] g0 (cal (spec_Layout.ok A8) [4] 9999 .n (hf := Try.func21)) rfl rfl ?_
  refine kv g0 (mv) ?_
  refine kv g0 (ext) ?_
  refine kv g0 (ext) ?_
  refine kv g0 (asg) ?_
  refine kv g0 (asg) ?_
  refine wk_end ?_
  refine ac_next ?_
  refine aw_grp1 ?_
  refine aw_grp1 ?_
  refine wk_start ?_
  refine kv g0 (mv) ?_
  refine kv g0 (not_) ?_
  refine wk_end ?_
  refine ac_next ?_
  by_cases c9 : t7.2 = true
  ·rw [if_pos c9] at H
   refine aw_ifF ?_ (nF c9)
   refine aw_skip ?_
   refine ac_next ?_
   refine aw_grp1 ?_
   refine wk_start ?_
   refine kv g0 (mv) ?_
   refine kv g0 (asg) ?_
   refine kv g0 (asg) ?_
   refine wk_end ?_
   refine ac_next ?_
   refine aw_ret ?_
   obtain rfl := Option.some.inj H
   exact acr hE [.tmp 2, .tmp 3] (.tmp (.tmp .nil)) (.many _ _ _) [(0, 4)] 9999
  rw [if_neg c9] at H
  refine aw_ifT ?_ (nT (bF c9))
  refine aw_grp1 ?_
  refine wk_start ?_
  refine kb g0 (bsl 5 55 4 [.int .i64 0, .int .i64 0, .int .i64 0, .int .i64 0] (([] : List S55).map e55)) ?_
  refine kv g0 (asg) ?_
  refine kv g0 (asg) ?_
  refine wk_end ?_
  refine ac_next ?_
  refine aw_ret ?_
  refine ac_thenR ?_
  obtain rfl := Option.some.inj H
  exact acr hE [.tmp 2, .tmp 3] (.tmp (.tmp .nil)) (.many _ _ _) [(0, 5)] 9999
 rw [if_neg c3] at H
 refine aw_ifT ?_ (nT (bF c3))
 refine aw_grp1 ?_
 refine wk_start ?_
 refine kb g0 (bsl 1 55 4 [.int .i64 0, .int .i64 0, .int .i64 0, .int .i64 0] (([] : List S55).map e55)) ?_
 refine kv g0 (asg) ?_
 refine kv g0 (asg) ?_
 refine wk_end ?_
 refine ac_next ?_
 refine aw_ret ?_
 refine ac_thenR ?_
 obtain rfl := Option.some.inj H
 exact acr hE [.tmp 2, .tmp 3] (.tmp (.tmp .nil)) (.many _ _ _) [(0, 1)] 9999
/-! spec_l07Far -/
def spec_l07Far.f (a0_0 : Int) (a0_1 : Int) (a0_2 : Int) (a0_3 : Int) : Option (Int) := if a0_0 = 7 then some a0_1 else if a0_2 > a0_3 then some a0_2 else some a0_3
theorem spec_l07Far.ok {a0_0 : Int} {a0_1 : Int} {a0_2 : Int} {a0_3 : Int} {r : Int} (H : spec_l07Far.f a0_0 a0_1 a0_2 a0_3 = some r) : ACalls Try.prog 24 [] [.agg [.lit (.int .i64 a0_0), .lit (.int .i64 a0_1), .lit (.int .i64 a0_2), .lit (.int .i64 a0_3)]] [] (.lit (.int .i64 r)) := by
 refine acalls (fn := Try.f24) (nt := 17) Try.func24 rfl rfl (Nat.le_of_ble_eq_true rfl) fun E hE => ?_
 rw [spec_l07Far.f] at H
 refine aw_grp1 ?_
 refine wk_start ?_
 refine kb g0 (bxA 0) ?_
 refine kv g0 (asg) ?_
 refine wk_end ?_
 refine ac_next ?_
 refine aw_grp1 ?_
 refine aw_grp1 ?_
 refine wk_start ?_
 refine kv g0 (faB 0 0) ?_
 refine kv g0 (ldB) ?_
 refine kv g0 (eql) ?_
 refine wk_end ?_
 refine ac_next ?_
 by_cases c1 : a0_0 = 7
 ·rw [if_pos c1] at H
  refine aw_ifT ?_ (eT c1)
  refine aw_grp1 ?_
  refine wk_start ?_
  refine kv g0 (faB 1 1) ?_
  refine kv g0 (ldB) ?_
  refine kv g0 (asg) ?_
  refine wk_end ?_
  refine ac_next ?_
  refine aw_ret ?_
  refine ac_thenR ?_
  obtain rfl := Option.some.inj H
  exact acr hE [.tmp 2] (.tmp .nil) (.one _) [] 9999
 rw [if_neg c1] at H
 refine aw_ifF ?_ (eF c1)
 refine aw_skip ?_
 refine ac_next ?_
 refine aw_grp1 ?_
 refine aw_grp1 ?_
 refine wk_start ?_
 refine kv g0 (faB 2 2) ?_
 refine kv g0 (ldB) ?_
 refine kv g0 (faB 3 3) ?_
 refine kv g0 (ldB) ?_
 refine kv g0 (gtr) ?_
 refine wk_end ?_
 refine ac_next ?_
 by_cases c2 : a0_2 > a0_3
 ·rw [if_pos c2] at H
  refine aw_ifT ?_ (decide_eq_true c2)
  refine aw_grp1 ?_
  refine wk_start ?_
  refine kv g0 (faB 2 2) ?_
  refine kv g0 (ldB) ?_
  refine kv g0 (asg) ?_
  refine wk_end ?_
  refine ac_next ?_
  refine aw_ret ?_
  refine ac_thenR ?_
  obtain rfl := Option.some.inj H
  exact acr hE [.tmp 2] (.tmp .nil) (.one _) [] 9999
 rw [if_neg c2] at H
 refine aw_ifF ?_ (decide_eq_false c2)
 refine aw_skip ?_
 refine ac_next ?_
 refine aw_grp1 ?_
 refine wk_start ?_
 refine kv g0 (faB 3 3) ?_
 refine kv g0 (ldB) ?_
 refine kv g0 (asg) ?_
 refine wk_end ?_
 refine ac_next ?_
 refine aw_ret ?_
 obtain rfl := Option.some.inj H
 exact acr hE [.tmp 2] (.tmp .nil) (.one _) [] 9999
/-! spec_CheckProgram -/
def spec_CheckProgram.l0 : Nat → (List S55) → Int → Option (Bool)
 | 0, _, _ => none
 | k14 + 1, l0, p13 => if p13 < (l0.length : Int) then if 0 ≤ p13 then ((spec_InsOk.f k14 ((rd_T55 l0 p13).f0) ((rd_T55 l0 p13).f1) ((rd_T55 l0 p13).f2) ((rd_T55 l0 p13).f3)).bind fun t17 => (if t17 = true then (if ((rd_T55 l0 p13).f0) = 8 then spec_CheckProgram.l0 k14 l0 (wrap64 (p13 + 1)) else ((spec_l07Far.f ((rd_T55 l0 p13).f0) ((rd_T55 l0 p13).f1) ((rd_T55 l0 p13).f2) ((rd_T55 l0 p13).f3)).bind fun t21 => if (wrap64 ((wrap64 (p13 + 1)) + t21)) ≥ (l0.length : Int) then some false else spec_CheckProgram.l0 k14 l0 (wrap64 (p13 + 1)))) else some false)) else none else if 0 ≤ (wrap64 ((l0.length : Int) - 1)) then (if (wrap64 ((l0.length : Int) - 1)) < (l0.length : Int) then some (((rd_T55 l0 (wrap64 ((l0.length : Int) - 1))).f0) == 8) else none) else none
def spec_CheckProgram.f (k : Nat) (l0 : List S55) : Option (Bool) := (spec_l01In.f (l0.length : Int) 1 400).bind fun t1 => if t1 = true then spec_CheckProgram.l0 k l0 0 else some false
theorem spec_CheckProgram.ok {k : Nat} {l0 : List S55} {r : Bool} (H : spec_CheckProgram.f k l0 = some r) : ACalls Try.prog 7 [] [.sl .o 4 (l0.map e55)] [] (.lit (.bool r)) := by
 refine acalls (fn := Try.f7) (nt := 49) Try.func7 rfl rfl (Nat.le_of_ble_eq_true rfl) fun E hE => ?_
 rw [spec_CheckProgram.f] at H
 refine aw_grp1 ?_
 refine wk_start ?_
 refine kv g0 (asg) ?_
 refine wk_end ?_
 refine ac_next ?_
 refine aw_grp1 ?_
 refine aw_grp1 ?_
 refine wk_start ?_
 refine kv g0 (mv) ?_
 refine kv g0 (lnS lenE) ?_
 obtain ⟨t1, A2, H⟩ := of_bind H
 refine kcS0 6 (.lit (.bool t1)) [] g0 (cal (spec_l01In.ok A2) [] 9999 .n (hf := Try.func22)) rfl rfl ?_
 refine kv g0 (not_) ?_
 refine wk_end ?_
 refine ac_next ?_
 by_cases c3 : t1 = true
 ·rw [if_pos c3] at H
  refine aw_ifF ?_ (nF c3)
  refine aw_skip ?_
  refine ac_next ?_
  refine aw_grp1 ?_
  refine aw_grp1 ?_
  refine wk_start ?_
  refine kv g0 (asg) ?_
  refine wk_end ?_
  refine ac_next ?_
  refine aw_block ?_
  refine aw_loop1 (fun (k_ : Nat) (p13 : Int) => k_ ≤ k ∧ spec_CheckProgram.l0 k_ l0 p13 = some r) (fun (p13 : Int) => ⟨[(0, .sl .o 4 (l0.map e55)), (3, .lit (.int .i64 p13))], []⟩) k 0 ⟨Nat.le_refl _, H⟩ (fun K_ h_ => acw hE [] 9999 h_) (fun _ => by intro h_; have h_ := h_.2; rw [spec_CheckProgram.l0.eq_1] at h_; cases h_) ?_
  intro k14 p13 hq_ K24 hK25
  have hk14 := hq_.1
  have H := hq_.2
  clear hq_
  rw [spec_CheckProgram.l0.eq_2] at H
  refine aw_grp1 ?_
  refine aw_grp1 ?_
  refine wk_start ?_
  refine kv g0 (mv) ?_
  refine kv g0 (mv) ?_
  refine kv g0 (lnS lenE) ?_
  refine kv g0 (lss) ?_
  refine wk_end ?_
  refine ac_next ?_
  by_cases c15 : p13 < (l0.length : Int)
  ·rw [if_pos c15] at H
   refine aw_ifT ?_ (decide_eq_true c15)
   refine aw_skip ?_
   refine ac_next ?_
   refine aw_grp1 ?_
   refine aw_block ?_
   refine aw_grp1 ?_
   refine wk_start ?_
   refine kv g0 (mv) ?_
   refine kv g0 (mv) ?_
   obtain ⟨c16, H⟩ := of_if H
   refine kv g0 (ixS 55 (e55 (rd_T55 l0 p13)) c16 (getE (z := z55) c16 c15)) ?_
   refine kv g0 (ldRA 4 [.lit (.int .i64 ((rd_T55 l0 p13).f0)), .lit (.int .i64 ((rd_T55 l0 p13).f1)), .lit (.int .i64 ((rd_T55 l0 p13).f2)), .lit (.int .i64 ((rd_T55 l0 p13).f3))]) ?_
   obtain ⟨t17, A18, H⟩ := of_bind H
   refine kcS0 18 (.lit (.bool t17)) [] g0 (cal (spec_InsOk.ok A18) [] 9999 .n (hf := Try.func23)) rfl rfl ?_
   refine kv g0 (not_) ?_
   refine kv g0 (mv) ?_
   by_cases c19 : t17 = true
   ·rw [if_pos c19] at H
    refine kv (g1 (nF c19)) (mv) ?_
    refine kv (g1 (nF c19)) (mv) ?_
    refine kv (g1 (nF c19)) (ixS 55 (e55 (rd_T55 l0 p13)) c16 (getE (z := z55) c16 c15)) ?_
    refine kv (g1 (nF c19)) (faR 0 0) ?_
    refine kv (g1 (nF c19)) (ldR (.lit (.int .i64 ((rd_T55 l0 p13).f0)))) ?_
    refine kv (g1 (nF c19)) (neq) ?_
    refine kv (g1 (nF c19)) (mv) ?_
    by_cases c20 : ((rd_T55 l0 p13).f0) = 8
    ·rw [if_pos c20] at H
     refine kx (hT (eM c20)) ?_
     refine kx (hT (eM c20)) ?_
     refine kx (hT (eM c20)) ?_
     refine kx (hT (eM c20)) ?_
     refine kx (hT (eM c20)) ?_
     refine kx (hT (eM c20)) ?_
     refine kx (hT (eM c20)) ?_
     refine kx (hT (eM c20)) ?_
     refine kx (hT (eM c20)) ?_
     refine kx (hT (eM c20)) ?_
     refine kx (hT (eM c20)) ?_
     refine kv (g1 (nF c19)) (pkF (eM c20)) ?_
     refine kv g0 (pkF (nF c19)) ?_
     refine wk_end ?_
     refine ac_next ?_
     refine aw_ifF ?_ rfl
     refine aw_skip ?_
     refine ac_blkN ?_
     refine ac_next ?_
     refine wk_start ?_
     refine kv g0 (mv) ?_
     refine kv g0 (add6) ?_
     refine kv g0 (asg) ?_
     refine wk_end ?_
     refine ac_k ?_
     exact acw hE [] 9999 (hK25 k14 (wrap64 (p13 + 1)) (Nat.le_refl _) ⟨by omega, H⟩)
    rw [if_neg c20] at H
    refine kv (g1 (eN c20)) (mv) ?_
    refine kv (g1 (eN c20)) (add6) ?_
    refine kv (g1 (eN c20)) (mv) ?_
    refine kv (g1 (eN c20)) (mv) ?_
    refine kv (g1 (eN c20)) (ixS 55 (e55 (rd_T55 l0 p13)) c16 (getE (z := z55) c16 c15)) ?_
    refine kv (g1 (eN c20)) (ldRA 4 [.lit (.int .i64 ((rd_T55 l0 p13).f0)), .lit (.int .i64 ((rd_T55 l0 p13).f1)), .lit (.int .i64 ((rd_T55 l0 p13).f2)), .lit (.int .i64 ((rd_T55 l0 p13).f3))]) ?_
    obtain ⟨t21, A22, H⟩ := of_bind H
    refine kcS0 34 (.lit (.int .i64 t21)) [] (g1 (eN c20)) (cal (spec_l07Far.ok A22) [] 9999 .n (hf := Try.func24)) rfl rfl ?_
    refine kv (g1 (eN c20)) (add6) ?_
    refine kv (g1 (eN c20)) (mv) ?_
    refine kv (g1 (eN c20)) (lnS lenE) ?_
    refine kv (g1 (eN c20)) (geq) ?_
    refine kv (g1 (nF c19)) (pkT (eN c20)) ?_
    refine kv g0 (pkF (nF c19)) ?_
    refine wk_end ?_
    refine ac_next ?_
    by_cases c23 : (wrap64 ((wrap64 (p13 + 1)) + t21)) ≥ (l0.length : Int)
    ·rw [if_pos c23] at H
     refine aw_ifT ?_ (decide_eq_true c23)
     refine aw_grp1 ?_
     refine wk_start ?_
     refine kv g0 (asg) ?_
     refine wk_end ?_
     refine ac_next ?_
     refine aw_ret ?_
     refine ac_blkR ?_
     refine ac_thenR ?_
     refine ac_thenR ?_
     refine ac_blkR ?_
     refine ac_thenR ?_
     obtain rfl := Option.some.inj H
     exact acr hE [.tmp 2] (.tmp .nil) (.one _) [] 9999
    rw [if_neg c23] at H
    refine aw_ifF ?_ (decide_eq_false c23)
    refine aw_skip ?_
    refine ac_blkN ?_
    refine ac_next ?_
    refine wk_start ?_
    refine kv g0 (mv) ?_
    refine kv g0 (add6) ?_
    refine kv g0 (asg) ?_
    refine wk_end ?_
    refine ac_k ?_
    exact acw hE [] 9999 (hK25 k14 (wrap64 (p13 + 1)) (Nat.le_refl _) ⟨by omega, H⟩)
   rw [if_neg c19] at H
   refine kx (hF (nT (bF c19))) ?_
   refine kx (hF (nT (bF c19))) ?_
   refine kx (hF (nT (bF c19))) ?_
   refine kx (hF (nT (bF c19))) ?_
   refine kx (hF (nT (bF c19))) ?_
   refine kx (hF (nT (bF c19))) ?_
   refine ku (neT (hF (nT (bF c19)))) ?_
   refine ku neU ?_
   refine ku neU ?_
   refine ku neU ?_
   refine ku neU ?_
   refine ku neU ?_
   refine ku neU ?_
   refine ku neU ?_
   refine ku neU ?_
   refine ku neU ?_
   refine ku neU ?_
   refine ku neU ?_
   refine kx (hF (nT (bF c19))) ?_
   refine kv g0 (pkT (nT (bF c19))) ?_
   refine wk_end ?_
   refine ac_next ?_
   refine aw_ifT ?_ rfl
   refine aw_grp1 ?_
   refine wk_start ?_
   refine kv g0 (asg) ?_
   refine wk_end ?_
   refine ac_next ?_
   refine aw_ret ?_
   refine ac_blkR ?_
   refine ac_thenR ?_
   refine ac_thenR ?_
   refine ac_blkR ?_
   refine ac_thenR ?_
   obtain rfl := Option.some.inj H
   exact acr hE [.tmp 2] (.tmp .nil) (.one _) [] 9999
  rw [if_neg c15] at H
  refine aw_ifF ?_ (decide_eq_false c15)
  refine aw_exit ?_
  refine ac_then ?_
  refine ac_then ?_
  refine ac_hit rfl ?_
  refine ac_next ?_
  refine aw_grp1 ?_
  refine wk_start ?_
  refine kv g0 (mv) ?_
  refine kv g0 (mv) ?_
  refine kv g0 (lnS lenE) ?_
  refine kv g0 (sub6) ?_
  obtain ⟨c26, H⟩ := of_if H
  obtain ⟨c27, H⟩ := of_if H
  refine kv g0 (ixS 55 (e55 (rd_T55 l0 (wrap64 ((l0.length : Int) - 1)))) c26 (getE (z := z55) c26 c27)) ?_
  refine kv g0 (faR 0 0) ?_
  refine kv g0 (ldR (.lit (.int .i64 ((rd_T55 l0 (wrap64 ((l0.length : Int) - 1))).f0)))) ?_
  refine kv g0 (eql) ?_
  refine kv g0 (asg) ?_
  refine wk_end ?_
  refine ac_next ?_
  refine aw_ret ?_
  obtain rfl := Option.some.inj H
  exact acr hE [.tmp 2] (.tmp .nil) (.one _) [] 9999
 rw [if_neg c3] at H
 refine aw_ifT ?_ (nT (bF c3))
 refine aw_grp1 ?_
 refine wk_start ?_
 refine kv g0 (asg) ?_
 refine wk_end ?_
 refine ac_next ?_
 refine aw_ret ?_
 refine ac_thenR ?_
 obtain rfl := Option.some.inj H
 exact acr hE [.tmp 2] (.tmp .nil) (.one _) [] 9999
/-! spec_l06Ins -/
mutual
def spec_l06Ins.j0 : Nat → (Int × (List Int) × Int × Int) → (Int × (List Int) × Int × Int) → Bool → Option (Int × Int × Int × Int × (List Int) × Int × Int)
 | 0, _, _, _ => none
 | k15 + 1, t1, t3, p14 => if p14 = true then ((spec_l01Below.f t3.2.1 t3.2.2.1 t3.2.2.2 4).bind fun t17 => (spec_l01Below.f t17.2.1 t17.2.2.1 t17.2.2.2 4).bind fun t19 => spec_l06Ins.j1 k15 t1 t19.2.1 t19.2.2.1 t19.2.2.2 t3.1 t17.1 t19.1) else if (wrap64 (1 + t1.1)) = 8 then ((spec_l01Below.f t3.2.1 t3.2.2.1 t3.2.2.2 6).bind fun t22 => ((spec_l01Below.f t22.2.1 t22.2.2.1 t22.2.2.2 5).bind fun t24 => ((spec_ResultOf.f t22.1 t24.1).bind fun t26 => spec_l06Ins.j1 k15 t1 t24.2.1 t24.2.2.1 t24.2.2.2 t26 0 0))) else spec_l06Ins.j1 k15 t1 t3.2.1 t3.2.2.1 t3.2.2.2 t3.1 0 0
def spec_l06Ins.j1 : Nat → (Int × (List Int) × Int × Int) → (List Int) → Int → Int → Int → Int → Int → Option (Int × Int × Int × Int × (List Int) × Int × Int)
 | 0, _, _, _, _, _, _, _ => none
 | k35 + 1, t1, q29, p30, p31, p32, p33, p34 => some (wrap64 (1 + t1.1), p32, p33, p34, q29, p30, p31)
end
def spec_l06Ins.f (k : Nat) (l0_0 : List Int) (a0_1 : Int) (a0_2 : Int) : Option (Int × Int × Int × Int × (List Int) × Int × Int) := (spec_l01Below.f l0_0 a0_1 a0_2 8).bind fun t1 => ((spec_l04Half.f t1.2.1 t1.2.2.1 t1.2.2.2).bind fun t3 => if (wrap64 (1 + t1.1)) = 1 then ((spec_l01Below.f t3.2.1 t3.2.2.1 t3.2.2.2 8).bind fun t6 => spec_l06Ins.j1 k t1 t6.2.1 t6.2.2.1 t6.2.2.2 t6.1 0 0) else if (wrap64 (1 + t1.1)) = 7 then ((spec_l01Below.f t3.2.1 t3.2.2.1 t3.2.2.2 4).bind fun t9 => spec_l06Ins.j1 k t1 t9.2.1 t9.2.2.1 t9.2.2.2 t9.1 0 0) else if (wrap64 (1 + t1.1)) = 3 then spec_l06Ins.j0 k t1 t3 ((wrap64 (1 + t1.1)) == 3) else if (wrap64 (1 + t1.1)) = 4 then spec_l06Ins.j0 k t1 t3 ((wrap64 (1 + t1.1)) == 4) else if (wrap64 (1 + t1.1)) = 5 then spec_l06Ins.j0 k t1 t3 ((wrap64 (1 + t1.1)) == 5) else spec_l06Ins.j0 k t1 t3 ((wrap64 (1 + t1.1)) == 6))
theorem spec_l06Ins.ok {k : Nat} {l0_0 : List Int} {a0_1 : Int} {a0_2 : Int} {r : Int × Int × Int × Int × (List Int) × Int × Int} (H : spec_l06Ins.f k l0_0 a0_1 a0_2 = some r) : ACalls Try.prog 47 [(0, .box 62 [.sl .u 1 (l0_0.map (eI .u8)), .lit (.int .i64 a0_1), .lit (.int .i64 a0_2)])] [.box 0 0] [(0, .box 62 [.sl .u 1 (r.2.2.2.2.1.map (eI .u8)), .lit (.int .i64 r.2.2.2.2.2.1), .lit (.int .i64 r.2.2.2.2.2.2)])] (.agg [.lit (.int .i64 r.1), .lit (.int .i64 r.2.1), .lit (.int .i64 r.2.2.1), .lit (.int .i64 r.2.2.2.1)]) := by
 refine acalls (fn := Try.f47) (nt := 42) Try.func47 rfl rfl (Nat.le_of_ble_eq_true rfl) fun E hE => ?_
 rw [spec_l06Ins.f] at H
 refine aw_grp1 ?_
 refine wk_start ?_
 refine kb g0 (alc 1 [.int .i64 0, .int .i64 0, .int .i64 0, .int .i64 0] [.lit (.int .i64 0), .lit (.int .i64 0), .lit (.int .i64 0), .lit (.int .i64 0)]) ?_
 refine wk_end ?_
 refine ac_next ?_
 refine aw_grp1 ?_
 refine wk_start ?_
 refine kv g0 (mv) ?_
 obtain ⟨t1, A2, H⟩ := of_bind H
 refine kcS1 5 (.lit (.int .i64 t1.1)) [(0, .box 62 [.sl .u 1 (t1.2.1.map (eI .u8)), .lit (.int .i64 t1.2.2.1), .lit (.int .i64 t1.2.2.2)])] g0 (cal (spec_l01Below.ok A2) [0] 9999 .u (hf := Try.func33)) rfl rfl ?_
 refine kv g0 (add6) ?_
 refine kv g0 (mv) ?_
 obtain ⟨t3, A4, H⟩ := of_bind H
 refine kcS1 8 (.lit (.int .i64 t3.1)) [(0, .box 62 [.sl .u 1 (t3.2.1.map (eI .u8)), .lit (.int .i64 t3.2.2.1), .lit (.int .i64 t3.2.2.2)])] g0 (cal (spec_l04Half.ok A4) [0] 9999 .u (hf := Try.func59)) rfl rfl ?_
 refine kv g0 (bld [(0, 1), (1, 1), (2, 1), (3, 1)] [.int .i64 0, .int .i64 0, .int .i64 0, .int .i64 0] [.lit (.int .i64 (wrap64 (1 + t1.1))), .lit (.int .i64 t3.1), .lit (.int .i64 0), .lit (.int .i64 0)]) ?_
 refine kb g0 (alc 2 [.int .i64 0, .int .i64 0, .int .i64 0, .int .i64 0] [.lit (.int .i64 0), .lit (.int .i64 0), .lit (.int .i64 0), .lit (.int .i64 0)]) ?_
 refine ks g0 (stB 4 [.lit (.int .i64 (wrap64 (1 + t1.1))), .lit (.int .i64 t3.1), .lit (.int .i64 0), .lit (.int .i64 0)]) ?_
 refine wk_end ?_
 refine ac_next ?_
 refine aw_cut1 (J := fun K_ => ∀ (k_ : Nat) (q29 : List Int) (p30 : Int) (p31 : Int) (p32 : Int) (p33 : Int) (p34 : Int), k_ ≤ k → spec_l06Ins.j1 k_ t1 q29 p30 p31 p32 p33 p34 = some r → ACont E 42 ⟨[(2, .box 1 0), (3, .box 2 0)], [(0, .box 62 [.sl .u 1 (q29.map (eI .u8)), .lit (.int .i64 p30), .lit (.int .i64 p31)]), (1, .box 55 [.lit (.int .i64 0), .lit (.int .i64 0), .lit (.int .i64 0), .lit (.int .i64 0)]), (2, .box 55 [.lit (.int .i64 (wrap64 (1 + t1.1))), .lit (.int .i64 p32), .lit (.int .i64 p33), .lit (.int .i64 p34)])]⟩ K_) ?_ ?_
 ·intro K_ hJ36
  refine aw_grp1 ?_
  refine wk_start ?_
  refine kv g0 (faB 0 0) ?_
  refine kv g0 (ldB) ?_
  refine wk_end ?_
  refine ac_next ?_
  refine aw_block ?_
  refine aw_grp1 ?_
  refine wk_start ?_
  refine kv g0 (eql) ?_
  refine kv g0 (asg) ?_
  refine wk_end ?_
  refine ac_next ?_
  by_cases c5 : (wrap64 (1 + t1.1)) = 1
  ·rw [if_pos c5] at H
   refine aw_ifT ?_ (eT c5)
   refine wk_start ?_
   refine kv g0 (mv) ?_
   obtain ⟨t6, A7, H⟩ := of_bind H
   refine kcS1 15 (.lit (.int .i64 t6.1)) [(0, .box 62 [.sl .u 1 (t6.2.1.map (eI .u8)), .lit (.int .i64 t6.2.2.1), .lit (.int .i64 t6.2.2.2)])] g0 (cal (spec_l01Below.ok A7) [0] 9999 .u (hf := Try.func33)) rfl rfl ?_
   refine kv g0 (faB 1 1) ?_
   refine ks g0 (stB 1 [.lit (.int .i64 (wrap64 (1 + t1.1))), .lit (.int .i64 t6.1), .lit (.int .i64 0), .lit (.int .i64 0)]) ?_
   refine wk_end ?_
   refine ac_blkN ?_
   refine ac_k ?_
   exact acw hE [(0, 0), (1, 1), (2, 2)] 9999 (hJ36 k t6.2.1 t6.2.2.1 t6.2.2.2 t6.1 0 0 (Nat.le_refl _) H)
  rw [if_neg c5] at H
  refine aw_ifF ?_ (eF c5)
  refine aw_grp1 ?_
  refine wk_start ?_
  refine kv g0 (eql) ?_
  refine kv g0 (asg) ?_
  refine wk_end ?_
  refine ac_next ?_
  by_cases c8 : (wrap64 (1 + t1.1)) = 7
  ·rw [if_pos c8] at H
   refine aw_ifT ?_ (eT c8)
   refine wk_start ?_
   refine kv g0 (mv) ?_
   obtain ⟨t9, A10, H⟩ := of_bind H
   refine kcS1 20 (.lit (.int .i64 t9.1)) [(0, .box 62 [.sl .u 1 (t9.2.1.map (eI .u8)), .lit (.int .i64 t9.2.2.1), .lit (.int .i64 t9.2.2.2)])] g0 (cal (spec_l01Below.ok A10) [0] 9999 .u (hf := Try.func33)) rfl rfl ?_
   refine kv g0 (faB 1 1) ?_
   refine ks g0 (stB 1 [.lit (.int .i64 (wrap64 (1 + t1.1))), .lit (.int .i64 t9.1), .lit (.int .i64 0), .lit (.int .i64 0)]) ?_
   refine wk_end ?_
   refine ac_blkN ?_
   refine ac_k ?_
   exact acw hE [(0, 0), (1, 1), (2, 2)] 9999 (hJ36 k t9.2.1 t9.2.2.1 t9.2.2.2 t9.1 0 0 (Nat.le_refl _) H)
  rw [if_neg c8] at H
  refine aw_ifF ?_ (eF c8)
  refine aw_cut1 (J := fun K_ => ∀ (k_ : Nat) (p14 : Bool), k_ ≤ k → spec_l06Ins.j0 k_ t1 t3 p14 = some r → ACont E 42 ⟨[(0, .box 0 0), (2, .box 1 0), (3, .box 2 0), (11, .lit (.int .i64 (wrap64 (1 + t1.1)))), (22, .lit (.bool p14))], [(0, .box 62 [.sl .u 1 (t3.2.1.map (eI .u8)), .lit (.int .i64 t3.2.2.1), .lit (.int .i64 t3.2.2.2)]), (1, .box 55 [.lit (.int .i64 0), .lit (.int .i64 0), .lit (.int .i64 0), .lit (.int .i64 0)]), (2, .box 55 [.lit (.int .i64 (wrap64 (1 + t1.1))), .lit (.int .i64 t3.1), .lit (.int .i64 0), .lit (.int .i64 0)])]⟩ K_) ?_ ?_
  ·intro K_ hJ28
   refine aw_grp1 ?_
   refine wk_start ?_
   refine kv g0 (eql) ?_
   refine kv g0 (asg) ?_
   refine wk_end ?_
   refine ac_next ?_
   by_cases c11 : (wrap64 (1 + t1.1)) = 3
   ·rw [if_pos c11] at H
    refine aw_ifT ?_ (eT c11)
    refine aw_skip ?_
    refine ac_k ?_
    exact acw hE [(0, 0), (1, 1), (2, 2)] 9999 (hJ28 k ((wrap64 (1 + t1.1)) == 3) (Nat.le_refl _) H)
   rw [if_neg c11] at H
   refine aw_ifF ?_ (eF c11)
   refine aw_grp1 ?_
   refine wk_start ?_
   refine kv g0 (eql) ?_
   refine kv g0 (asg) ?_
   refine wk_end ?_
   refine ac_next ?_
   by_cases c12 : (wrap64 (1 + t1.1)) = 4
   ·rw [if_pos c12] at H
    refine aw_ifT ?_ (eT c12)
    refine aw_skip ?_
    refine ac_k ?_
    exact acw hE [(0, 0), (1, 1), (2, 2)] 9999 (hJ28 k ((wrap64 (1 + t1.1)) == 4) (Nat.le_refl _) H)
   rw [if_neg c12] at H
   refine aw_ifF ?_ (eF c12)
   refine aw_grp1 ?_
   refine wk_start ?_
   refine kv g0 (eql) ?_
   refine kv g0 (asg) ?_
   refine wk_end ?_
   refine ac_next ?_
   by_cases c13 : (wrap64 (1 + t1.1)) = 5
   ·rw [if_pos c13] at H
    refine aw_ifT ?_ (eT c13)
    refine aw_skip ?_
    refine ac_k ?_
    exact acw hE [(0, 0), (1, 1), (2, 2)] 9999 (hJ28 k ((wrap64 (1 + t1.1)) == 5) (Nat.le_refl _) H)
   rw [if_neg c13] at H
   refine aw_ifF ?_ (eF c13)
   refine wk_start ?_
   refine kv g0 (eql) ?_
   refine kv g0 (asg) ?_
   refine wk_end ?_
   refine ac_k ?_
   exact acw hE [(0, 0), (1, 1), (2, 2)] 9999 (hJ28 k ((wrap64 (1 + t1.1)) == 6) (Nat.le_refl _) H)
  intro k_ p14 hk_ H
  rcases k_ with _ | k15
  ·rw [spec_l06Ins.j0.eq_1] at H; cases H
  have hk15 : k15 ≤ k := by omega
  clear hk_
  rw [spec_l06Ins.j0.eq_2] at H
  by_cases c16 : p14 = true
  ·rw [if_pos c16] at H
   refine aw_ifT ?_ c16
   refine aw_grp1 ?_
   refine wk_start ?_
   refine kv g0 (mv) ?_
   obtain ⟨t17, A18, H⟩ := of_bind H
   refine kcS1 28 (.lit (.int .i64 t17.1)) [(0, .box 62 [.sl .u 1 (t17.2.1.map (eI .u8)), .lit (.int .i64 t17.2.2.1), .lit (.int .i64 t17.2.2.2)])] g0 (cal (spec_l01Below.ok A18) [0] 9999 .u (hf := Try.func33)) rfl rfl ?_
   refine kv g0 (faB 2 2) ?_
   refine ks g0 (stB 1 [.lit (.int .i64 (wrap64 (1 + t1.1))), .lit (.int .i64 t3.1), .lit (.int .i64 t17.1), .lit (.int .i64 0)]) ?_
   refine wk_end ?_
   refine ac_next ?_
   refine wk_start ?_
   refine kv g0 (mv) ?_
   obtain ⟨t19, A20, H⟩ := of_bind H
   refine kcS1 31 (.lit (.int .i64 t19.1)) [(0, .box 62 [.sl .u 1 (t19.2.1.map (eI .u8)), .lit (.int .i64 t19.2.2.1), .lit (.int .i64 t19.2.2.2)])] g0 (cal (spec_l01Below.ok A20) [0] 9999 .u (hf := Try.func33)) rfl rfl ?_
   refine kv g0 (faB 3 3) ?_
   refine ks g0 (stB 1 [.lit (.int .i64 (wrap64 (1 + t1.1))), .lit (.int .i64 t3.1), .lit (.int .i64 t17.1), .lit (.int .i64 t19.1)]) ?_
   refine wk_end ?_
   refine ac_blkN ?_
   refine ac_k ?_
   exact acw hE [(0, 0), (1, 1), (2, 2)] 9999 (hJ36 k15 t19.2.1 t19.2.2.1 t19.2.2.2 t3.1 t17.1 t19.1 (by omega) H)
  rw [if_neg c16] at H
  refine aw_ifF ?_ (bF c16)
  refine aw_grp1 ?_
  refine wk_start ?_
  refine kv g0 (eql) ?_
  refine kv g0 (asg) ?_
  refine wk_end ?_
  refine ac_next ?_
  by_cases c21 : (wrap64 (1 + t1.1)) = 8
  ·rw [if_pos c21] at H
   refine aw_ifT ?_ (eT c21)
   refine wk_start ?_
   refine kv g0 (mv) ?_
   obtain ⟨t22, A23, H⟩ := of_bind H
   refine kcS1 36 (.lit (.int .i64 t22.1)) [(0, .box 62 [.sl .u 1 (t22.2.1.map (eI .u8)), .lit (.int .i64 t22.2.2.1), .lit (.int .i64 t22.2.2.2)])] g0 (cal (spec_l01Below.ok A23) [0] 9999 .u (hf := Try.func33)) rfl rfl ?_
   refine kv g0 (mv) ?_
   obtain ⟨t24, A25, H⟩ := of_bind H
   refine kcS1 38 (.lit (.int .i64 t24.1)) [(0, .box 62 [.sl .u 1 (t24.2.1.map (eI .u8)), .lit (.int .i64 t24.2.2.1), .lit (.int .i64 t24.2.2.2)])] g0 (cal (spec_l01Below.ok A25) [0] 9999 .u (hf := Try.func33)) rfl rfl ?_
   obtain ⟨t26, A27, H⟩ := of_bind H
   refine kcS0 39 (.lit (.int .i64 t26)) [] g0 (cal (spec_ResultOf.ok A27) [] 9999 .n (hf := Try.func48)) rfl rfl ?_
   refine kv g0 (faB 1 1) ?_
   refine ks g0 (stB 1 [.lit (.int .i64 (wrap64 (1 + t1.1))), .lit (.int .i64 t26), .lit (.int .i64 0), .lit (.int .i64 0)]) ?_
   refine wk_end ?_
   refine ac_blkN ?_
   refine ac_k ?_
   exact acw hE [(0, 0), (1, 1), (2, 2)] 9999 (hJ36 k15 t24.2.1 t24.2.2.1 t24.2.2.2 t26 0 0 (by omega) H)
  rw [if_neg c21] at H
  refine aw_ifF ?_ (eF c21)
  refine aw_skip ?_
  refine ac_blkN ?_
  refine ac_k ?_
  exact acw hE [(0, 0), (1, 1), (2, 2)] 9999 (hJ36 k15 t3.2.1 t3.2.2.1 t3.2.2.2 t3.1 0 0 (by omega) H)
 intro k_ q29 p30 p31 p32 p33 p34 hk_ H
 rcases k_ with _ | k35
 ·rw [spec_l06Ins.j1.eq_1] at H; cases H
 have hk35 : k35 ≤ k := by omega
 clear hk_
 rw [spec_l06Ins.j1.eq_2] at H
 refine aw_grp1 ?_
 refine wk_start ?_
 refine kv g0 (ldBA 4 [.lit (.int .i64 (wrap64 (1 + t1.1))), .lit (.int .i64 p32), .lit (.int .i64 p33), .lit (.int .i64 p34)]) ?_
 refine ks g0 (stB 4 [.lit (.int .i64 (wrap64 (1 + t1.1))), .lit (.int .i64 p32), .lit (.int .i64 p33), .lit (.int .i64 p34)]) ?_
 refine wk_end ?_
 refine ac_next ?_
 refine aw_ret ?_
 obtain rfl := Option.some.inj H
 exact acr hE [.cell 2 55] (rcA 4 .nil) (.one _) [(0, 0)] 9999
/-! spec_l06Program -/
mutual
def spec_l06Program.j0 : Nat → (Int × (List Int) × Int × Int) → (List S55) → Int → (Int × Int × Int × Int × (List Int) × Int × Int) → Int → Option ((List S55) × (List Int) × Int × Int)
 | 0, _, _, _, _, _ => none
 | k30 + 1, t1, q21, p22, t25, p29 => (spec_l06Ask.f t25.1).bind fun t31 => if t31 = true then (if (wrap64 ((wrap64 (1 + t1.1)) - p22)) ≠ 0 then if q21.length + ([(⟨t25.1, p29, t25.2.2.1.tmod (wrap64 ((wrap64 (1 + t1.1)) - p22)), t25.2.2.2.1.tmod (wrap64 ((wrap64 (1 + t1.1)) - p22))⟩ : S55)] : List S55).length < 4398046511104 then spec_l06Program.l0 k30 t1 t25.2.2.2.2.1 t25.2.2.2.2.2.1 t25.2.2.2.2.2.2 (q21 ++ ([(⟨t25.1, p29, t25.2.2.1.tmod (wrap64 ((wrap64 (1 + t1.1)) - p22)), t25.2.2.2.1.tmod (wrap64 ((wrap64 (1 + t1.1)) - p22))⟩ : S55)] : List S55)) (wrap64 (p22 + 1)) else none else none) else if q21.length + ([(⟨t25.1, p29, t25.2.2.1, t25.2.2.2.1⟩ : S55)] : List S55).length < 4398046511104 then spec_l06Program.l0 k30 t1 t25.2.2.2.2.1 t25.2.2.2.2.2.1 t25.2.2.2.2.2.2 (q21 ++ ([(⟨t25.1, p29, t25.2.2.1, t25.2.2.2.1⟩ : S55)] : List S55)) (wrap64 (p22 + 1)) else none
def spec_l06Program.l0 : Nat → (Int × (List Int) × Int × Int) → (List Int) → Int → Int → (List S55) → Int → Option ((List S55) × (List Int) × Int × Int)
 | 0, _, _, _, _, _, _ => none
 | k23 + 1, t1, q18, p19, p20, q21, p22 => if p22 < (wrap64 (1 + t1.1)) then (spec_l06Ins.f k23 q18 p19 p20).bind fun t25 => if t25.1 = 7 then (if (wrap64 ((wrap64 (1 + t1.1)) - p22)) ≠ 0 then spec_l06Program.j0 k23 t1 q21 p22 t25 (t25.2.1.tmod (wrap64 ((wrap64 (1 + t1.1)) - p22))) else none) else spec_l06Program.j0 k23 t1 q21 p22 t25 t25.2.1 else (spec_l01Below.f q18 p19 p20 6).bind fun t40 => ((spec_l01Below.f t40.2.1 t40.2.2.1 t40.2.2.2 5).bind fun t42 => ((spec_ResultOf.f t40.1 t42.1).bind fun t44 => (if q21.length + ([(⟨8, t44, 0, 0⟩ : S55)] : List S55).length < 4398046511104 then some (q21 ++ ([(⟨8, t44, 0, 0⟩ : S55)] : List S55), t42.2.1, t42.2.2.1, t42.2.2.2) else none)))
end
def spec_l06Program.f (k : Nat) (l0_0 : List Int) (a0_1 : Int) (a0_2 : Int) : Option ((List S55) × (List Int) × Int × Int) := (spec_l01Below.f l0_0 a0_1 a0_2 12).bind fun t1 => spec_l06Program.l0 k t1 t1.2.1 t1.2.2.1 t1.2.2.2 ([] : List S55) 0
theorem spec_l06Program.ok {k : Nat} {l0_0 : List Int} {a0_1 : Int} {a0_2 : Int} {r : (List S55) × (List Int) × Int × Int} (H : spec_l06Program.f k l0_0 a0_1 a0_2 = some r) : ACalls Try.prog 25 [(0, .box 62 [.sl .u 1 (l0_0.map (eI .u8)), .lit (.int .i64 a0_1), .lit (.int .i64 a0_2)])] [.box 0 0] [(0, .box 62 [.sl .u 1 (r.2.1.map (eI .u8)), .lit (.int .i64 r.2.2.1), .lit (.int .i64 r.2.2.2)]), (1, .row 55 4 (r.1.map e55))] (.row 1) := by
 refine acalls (fn := Try.f25) (nt := 56) Try.func25 rfl rfl (Nat.le_of_ble_eq_true rfl) fun E hE => ?_
 rw [spec_l06Program.f] at H
 refine aw_grp1 ?_
 refine wk_start ?_
 refine kv g0 (asg) ?_
 refine wk_end ?_
 refine ac_next ?_
 refine aw_grp1 ?_
 refine wk_start ?_
 refine kb g0 (bsl 1 55 4 [.int .i64 0, .int .i64 0, .int .i64 0, .int .i64 0] (([] : List S55).map e55)) ?_
 refine kv g0 (asg) ?_
 refine wk_end ?_
 refine ac_next ?_
 refine aw_grp1 ?_
 refine wk_start ?_
 refine kv g0 (mv) ?_
 obtain ⟨t1, A2, H⟩ := of_bind H
 refine kcS1 10 (.lit (.int .i64 t1.1)) [(0, .box 62 [.sl .u 1 (t1.2.1.map (eI .u8)), .lit (.int .i64 t1.2.2.1), .lit (.int .i64 t1.2.2.2)])] g0 (cal (spec_l01Below.ok A2) [0] 9999 .u (hf := Try.func33)) rfl rfl ?_
 refine kv g0 (add6) ?_
 refine kv g0 (asg) ?_
 refine wk_end ?_
 refine ac_next ?_
 refine aw_grp1 ?_
 refine aw_grp1 ?_
 refine wk_start ?_
 refine kv g0 (asg) ?_
 refine wk_end ?_
 refine ac_next ?_
 refine aw_block ?_
 refine aw_loop5 (fun (k_ : Nat) (q18 : List Int) (p19 : Int) (p20 : Int) (q21 : List S55) (p22 : Int) => k_ ≤ k ∧ spec_l06Program.l0 k_ t1 q18 p19 p20 q21 p22 = some r) (fun (q18 : List Int) (p19 : Int) (p20 : Int) (q21 : List S55) (p22 : Int) => ⟨[(0, .box 0 0), (3, .row 1), (4, .lit (.int .i64 (wrap64 (1 + t1.1)))), (5, .lit (.int .i64 p22))], [(0, .box 62 [.sl .u 1 (q18.map (eI .u8)), .lit (.int .i64 p19), .lit (.int .i64 p20)]), (1, .row 55 4 (q21.map e55))]⟩) k t1.2.1 t1.2.2.1 t1.2.2.2 ([] : List S55) 0 ⟨Nat.le_refl _, H⟩ (fun K_ h_ => acw hE [(0, 0), (1, 1)] 9999 h_) (fun _ _ _ _ _ => by intro h_; have h_ := h_.2; rw [spec_l06Program.l0.eq_1] at h_; cases h_) ?_
 intro k23 q18 p19 p20 q21 p22 hq_ K38 hK39
 have hk23 := hq_.1
 have H := hq_.2
 clear hq_
 rw [spec_l06Program.l0.eq_2] at H
 refine aw_grp1 ?_
 refine aw_grp1 ?_
 refine wk_start ?_
 refine kv g0 (mv) ?_
 refine kv g0 (mv) ?_
 refine kv g0 (lss) ?_
 refine wk_end ?_
 refine ac_next ?_
 by_cases c24 : p22 < (wrap64 (1 + t1.1))
 ·rw [if_pos c24] at H
  refine aw_ifT ?_ (decide_eq_true c24)
  refine aw_skip ?_
  refine ac_next ?_
  refine aw_grp1 ?_
  refine aw_block ?_
  refine aw_grp1 ?_
  refine wk_start ?_
  refine kv g0 (mv) ?_
  obtain ⟨t25, A26, H⟩ := of_bind H
  refine kcS1 18 (.agg [.lit (.int .i64 t25.1), .lit (.int .i64 t25.2.1), .lit (.int .i64 t25.2.2.1), .lit (.int .i64 t25.2.2.2.1)]) [(0, .box 62 [.sl .u 1 (t25.2.2.2.2.1.map (eI .u8)), .lit (.int .i64 t25.2.2.2.2.2.1), .lit (.int .i64 t25.2.2.2.2.2.2)])] g0 (cal (spec_l06Ins.ok A26) [0] 9999 .u (hf := Try.func47)) rfl rfl ?_
  refine kb g0 (alc 2 [.int .i64 0, .int .i64 0, .int .i64 0, .int .i64 0] [.lit (.int .i64 0), .lit (.int .i64 0), .lit (.int .i64 0), .lit (.int .i64 0)]) ?_
  refine ks g0 (stB 4 [.lit (.int .i64 t25.1), .lit (.int .i64 t25.2.1), .lit (.int .i64 t25.2.2.1), .lit (.int .i64 t25.2.2.2.1)]) ?_
  refine wk_end ?_
  refine ac_next ?_
  refine aw_grp1 ?_
  refine wk_start ?_
  refine kv g0 (mv) ?_
  refine kv g0 (mv) ?_
  refine kv g0 (sub6) ?_
  refine kv g0 (asg) ?_
  refine wk_end ?_
  refine ac_next ?_
  refine aw_cut1 (J := fun K_ => ∀ (k_ : Nat) (p29 : Int), k_ ≤ k23 → spec_l06Program.j0 k_ t1 q21 p22 t25 p29 = some r → ACont E 56 ⟨[(0, .box 0 0), (3, .row 1), (4, .lit (.int .i64 (wrap64 (1 + t1.1)))), (5, .lit (.int .i64 p22)), (6, .box 2 0), (7, .lit (.int .i64 (wrap64 ((wrap64 (1 + t1.1)) - p22))))], [(0, .box 62 [.sl .u 1 (t25.2.2.2.2.1.map (eI .u8)), .lit (.int .i64 t25.2.2.2.2.2.1), .lit (.int .i64 t25.2.2.2.2.2.2)]), (1, .row 55 4 (q21.map e55)), (2, .box 55 [.lit (.int .i64 t25.1), .lit (.int .i64 p29), .lit (.int .i64 t25.2.2.1), .lit (.int .i64 t25.2.2.2.1)])]⟩ K_) ?_ ?_
  ·intro K_ hJ37
   refine aw_grp1 ?_
   refine wk_start ?_
   refine kv g0 (faB 0 0) ?_
   refine kv g0 (ldB) ?_
   refine kv g0 (eql) ?_
   refine wk_end ?_
   refine ac_next ?_
   by_cases c27 : t25.1 = 7
   ·rw [if_pos c27] at H
    refine aw_ifT ?_ (eT c27)
    refine wk_start ?_
    refine kv g0 (faB 1 1) ?_
    refine kv g0 (ldB) ?_
    refine kv g0 (mv) ?_
    obtain ⟨c28, H⟩ := of_if H
    refine kv g0 (rem c28) ?_
    refine kv g0 (faB 1 1) ?_
    refine ks g0 (stB 1 [.lit (.int .i64 t25.1), .lit (.int .i64 (t25.2.1.tmod (wrap64 ((wrap64 (1 + t1.1)) - p22)))), .lit (.int .i64 t25.2.2.1), .lit (.int .i64 t25.2.2.2.1)]) ?_
    refine wk_end ?_
    refine ac_k ?_
    exact acw hE [(0, 0), (1, 1), (2, 2)] 9999 (hJ37 k23 (t25.2.1.tmod (wrap64 ((wrap64 (1 + t1.1)) - p22))) (Nat.le_refl _) H)
   rw [if_neg c27] at H
   refine aw_ifF ?_ (eF c27)
   refine aw_skip ?_
   refine ac_k ?_
   exact acw hE [(0, 0), (1, 1), (2, 2)] 9999 (hJ37 k23 t25.2.1 (Nat.le_refl _) H)
  intro k_ p29 hk_ H
  rcases k_ with _ | k30
  ·rw [spec_l06Program.j0.eq_1] at H; cases H
  have hk30 : k30 ≤ k23 := by omega
  clear hk_
  rw [spec_l06Program.j0.eq_2] at H
  refine aw_grp1 ?_
  refine aw_grp1 ?_
  refine wk_start ?_
  refine kv g0 (faB 0 0) ?_
  refine kv g0 (ldB) ?_
  obtain ⟨t31, A32, H⟩ := of_bind H
  refine kcS0 32 (.lit (.bool t31)) [] g0 (cal (spec_l06Ask.ok A32) [] 9999 .n (hf := Try.func46)) rfl rfl ?_
  refine wk_end ?_
  refine ac_next ?_
  by_cases c33 : t31 = true
  ·rw [if_pos c33] at H
   refine aw_ifT ?_ c33
   refine aw_grp1 ?_
   refine wk_start ?_
   refine kv g0 (faB 2 2) ?_
   refine kv g0 (ldB) ?_
   refine kv g0 (mv) ?_
   obtain ⟨c34, H⟩ := of_if H
   refine kv g0 (rem c34) ?_
   refine kv g0 (faB 2 2) ?_
   refine ks g0 (stB 1 [.lit (.int .i64 t25.1), .lit (.int .i64 p29), .lit (.int .i64 (t25.2.2.1.tmod (wrap64 ((wrap64 (1 + t1.1)) - p22)))), .lit (.int .i64 t25.2.2.2.1)]) ?_
   refine wk_end ?_
   refine ac_next ?_
   refine wk_start ?_
   refine kv g0 (faB 3 3) ?_
   refine kv g0 (ldB) ?_
   refine kv g0 (mv) ?_
   refine kv g0 (rem c34) ?_
   refine kv g0 (faB 3 3) ?_
   refine ks g0 (stB 1 [.lit (.int .i64 t25.1), .lit (.int .i64 p29), .lit (.int .i64 (t25.2.2.1.tmod (wrap64 ((wrap64 (1 + t1.1)) - p22)))), .lit (.int .i64 (t25.2.2.2.1.tmod (wrap64 ((wrap64 (1 + t1.1)) - p22))))]) ?_
   refine wk_end ?_
   refine ac_next ?_
   refine wk_start ?_
   refine kv g0 (mv) ?_
   refine kv g0 (ldBA 4 [.lit (.int .i64 t25.1), .lit (.int .i64 p29), .lit (.int .i64 (t25.2.2.1.tmod (wrap64 ((wrap64 (1 + t1.1)) - p22)))), .lit (.int .i64 (t25.2.2.2.1.tmod (wrap64 ((wrap64 (1 + t1.1)) - p22))))]) ?_
   refine kb g0 (bsl 3 55 4 [.int .i64 0, .int .i64 0, .int .i64 0, .int .i64 0] (([(⟨t25.1, p29, t25.2.2.1.tmod (wrap64 ((wrap64 (1 + t1.1)) - p22)), t25.2.2.2.1.tmod (wrap64 ((wrap64 (1 + t1.1)) - p22))⟩ : S55)] : List S55).map e55)) ?_
   obtain ⟨c35, H⟩ := of_if H
   refine kc g0 (apR 4 55 4 32 [.int .i64 0, .int .i64 0, .int .i64 0, .int .i64 0] ((q21 ++ ([(⟨t25.1, p29, t25.2.2.1.tmod (wrap64 ((wrap64 (1 + t1.1)) - p22)), t25.2.2.2.1.tmod (wrap64 ((wrap64 (1 + t1.1)) - p22))⟩ : S55)] : List S55)).map e55) (.row rfl) (apb c35 rfl) appE) ?_
   refine kv g0 (asg) ?_
   refine wk_end ?_
   refine ac_blkN ?_
   refine ac_next ?_
   refine wk_start ?_
   refine kv g0 (mv) ?_
   refine kv g0 (add6) ?_
   refine kv g0 (asg) ?_
   refine wk_end ?_
   refine ac_k ?_
   exact acw hE [(0, 0), (1, 4)] 9999 (hK39 k30 t25.2.2.2.2.1 t25.2.2.2.2.2.1 t25.2.2.2.2.2.2 (q21 ++ ([(⟨t25.1, p29, t25.2.2.1.tmod (wrap64 ((wrap64 (1 + t1.1)) - p22)), t25.2.2.2.1.tmod (wrap64 ((wrap64 (1 + t1.1)) - p22))⟩ : S55)] : List S55)) (wrap64 (p22 + 1)) (by omega) ⟨by omega, H⟩)
  rw [if_neg c33] at H
  refine aw_ifF ?_ (bF c33)
  refine aw_skip ?_
  refine ac_next ?_
  refine wk_start ?_
  refine kv g0 (mv) ?_
  refine kv g0 (ldBA 4 [.lit (.int .i64 t25.1), .lit (.int .i64 p29), .lit (.int .i64 t25.2.2.1), .lit (.int .i64 t25.2.2.2.1)]) ?_
  refine kb g0 (bsl 5 55 4 [.int .i64 0, .int .i64 0, .int .i64 0, .int .i64 0] (([(⟨t25.1, p29, t25.2.2.1, t25.2.2.2.1⟩ : S55)] : List S55).map e55)) ?_
  obtain ⟨c36, H⟩ := of_if H
  refine kc g0 (apR 6 55 4 32 [.int .i64 0, .int .i64 0, .int .i64 0, .int .i64 0] ((q21 ++ ([(⟨t25.1, p29, t25.2.2.1, t25.2.2.2.1⟩ : S55)] : List S55)).map e55) (.row rfl) (apb c36 rfl) appE) ?_
  refine kv g0 (asg) ?_
  refine wk_end ?_
  refine ac_blkN ?_
  refine ac_next ?_
  refine wk_start ?_
  refine kv g0 (mv) ?_
  refine kv g0 (add6) ?_
  refine kv g0 (asg) ?_
  refine wk_end ?_
  refine ac_k ?_
  exact acw hE [(0, 0), (1, 6)] 9999 (hK39 k30 t25.2.2.2.2.1 t25.2.2.2.2.2.1 t25.2.2.2.2.2.2 (q21 ++ ([(⟨t25.1, p29, t25.2.2.1, t25.2.2.2.1⟩ : S55)] : List S55)) (wrap64 (p22 + 1)) (by omega) ⟨by omega, H⟩)
 rw [if_neg c24] at H
 refine aw_ifF ?_ (decide_eq_false c24)
 refine aw_exit ?_
 refine ac_then ?_
 refine ac_then ?_
 refine ac_hit rfl ?_
 refine ac_next ?_
 refine aw_grp1 ?_
 refine wk_start ?_
 refine kv g0 (mv) ?_
 refine kv g0 (mv) ?_
 obtain ⟨t40, A41, H⟩ := of_bind H
 refine kcS1 49 (.lit (.int .i64 t40.1)) [(0, .box 62 [.sl .u 1 (t40.2.1.map (eI .u8)), .lit (.int .i64 t40.2.2.1), .lit (.int .i64 t40.2.2.2)])] g0 (cal (spec_l01Below.ok A41) [0] 9999 .u (hf := Try.func33)) rfl rfl ?_
 refine kv g0 (mv) ?_
 obtain ⟨t42, A43, H⟩ := of_bind H
 refine kcS1 51 (.lit (.int .i64 t42.1)) [(0, .box 62 [.sl .u 1 (t42.2.1.map (eI .u8)), .lit (.int .i64 t42.2.2.1), .lit (.int .i64 t42.2.2.2)])] g0 (cal (spec_l01Below.ok A43) [0] 9999 .u (hf := Try.func33)) rfl rfl ?_
 obtain ⟨t44, A45, H⟩ := of_bind H
 refine kcS0 52 (.lit (.int .i64 t44)) [] g0 (cal (spec_ResultOf.ok A45) [] 9999 .n (hf := Try.func48)) rfl rfl ?_
 refine kv g0 (bld [(0, 1), (1, 1), (2, 1), (3, 1)] [.int .i64 0, .int .i64 0, .int .i64 0, .int .i64 0] [.lit (.int .i64 8), .lit (.int .i64 t44), .lit (.int .i64 0), .lit (.int .i64 0)]) ?_
 refine kb g0 (bsl 7 55 4 [.int .i64 0, .int .i64 0, .int .i64 0, .int .i64 0] (([(⟨8, t44, 0, 0⟩ : S55)] : List S55).map e55)) ?_
 obtain ⟨c46, H⟩ := of_if H
 refine kc g0 (apR 8 55 4 32 [.int .i64 0, .int .i64 0, .int .i64 0, .int .i64 0] ((q21 ++ ([(⟨8, t44, 0, 0⟩ : S55)] : List S55)).map e55) (.row rfl) (apb c46 rfl) appE) ?_
 refine kv g0 (asg) ?_
 refine wk_end ?_
 refine ac_next ?_
 refine aw_ret ?_
 obtain rfl := Option.some.inj H
 exact acr hE [.tmp 2] (.tmp .nil) (.one _) [(0, 0), (1, 8)] 9999
/-! spec_DrawProgram -/
def spec_DrawProgram.f (k : Nat) (l0 : List Int) : Option ((List S55)) := (spec_l01New.f k l0).bind fun t1 => ((spec_l06Program.f k t1.1 t1.2.1 t1.2.2).bind fun t3 => some t3.1)
theorem spec_DrawProgram.ok {k : Nat} {l0 : List Int} {r : (List S55)} (H : spec_DrawProgram.f k l0 = some r) : ACalls Try.prog 8 [] [.sl .o 1 (l0.map (eI .u8))] [(0, .row 55 4 (r.map e55))] (.row 0) := by
 refine acalls (fn := Try.f8) (nt := 6) Try.func8 rfl rfl (Nat.le_of_ble_eq_true rfl) fun E hE => ?_
 rw [spec_DrawProgram.f] at H
 refine aw_grp1 ?_
 refine wk_start ?_
 refine kv g0 (asg) ?_
 refine wk_end ?_
 refine ac_next ?_
 refine aw_grp1 ?_
 refine wk_start ?_
 refine kv g0 (mv) ?_
 obtain ⟨t1, A2, H⟩ := of_bind H
 refine kcS1 4 (.box 0 0) [(0, .box 62 [.sl .o 1 (t1.1.map (eI .u8)), .lit (.int .i64 t1.2.1), .lit (.int .i64 t1.2.2)])] g0 (cal (spec_l01New.ok A2) [0] 9999 .o (hf := Try.func16)) rfl rfl ?_
 obtain ⟨t3, A4, H⟩ := of_bind H
 refine kcS2 5 (.row 1) [(0, .box 62 [.sl .o 1 (t3.2.1.map (eI .u8)), .lit (.int .i64 t3.2.2.1), .lit (.int .i64 t3.2.2.2)]), (1, .row 55 4 (t3.1.map e55))] g0 (cal (spec_l06Program.ok A4) [0, 1] 9999 .o (hf := Try.func25)) rfl rfl ?_
 refine kv g0 (asg) ?_
 refine wk_end ?_
 refine ac_next ?_
 refine aw_ret ?_
 obtain rfl := Option.some.inj H
 exact acr hE [.tmp 2] (.tmp .nil) (.one _) [(0, 1)] 9999
/-! spec_Threaded -/
mutual
def spec_Threaded.j0 : Nat → (List S55) → Int → Bool → Option ((List S55))
 | 0, _, _, _ => none
 | k30 + 1, q20, p21, p29 => if p29 = true then (if 0 ≤ p21 then (if p21 < (q20.length : Int) then (if 0 ≤ (wrap64 ((wrap64 (p21 + 1)) + ((rd_T55 q20 p21).f1))) then (if (wrap64 ((wrap64 (p21 + 1)) + ((rd_T55 q20 p21).f1))) < (q20.length : Int) then spec_Threaded.l0 k30 (q20.set p21.toNat (⟨(rd_T55 q20 (wrap64 ((wrap64 (p21 + 1)) + ((rd_T55 q20 p21).f1)))).f0, (rd_T55 q20 (wrap64 ((wrap64 (p21 + 1)) + ((rd_T55 q20 p21).f1)))).f1, (rd_T55 q20 (wrap64 ((wrap64 (p21 + 1)) + ((rd_T55 q20 p21).f1)))).f2, (rd_T55 q20 (wrap64 ((wrap64 (p21 + 1)) + ((rd_T55 q20 p21).f1)))).f3⟩ : S55)) (wrap64 (p21 - 1)) else none) else none) else none) else none) else spec_Threaded.l0 k30 q20 (wrap64 (p21 - 1))
def spec_Threaded.l0 : Nat → (List S55) → Int → Option ((List S55))
 | 0, _, _ => none
 | k22 + 1, q20, p21 => if p21 ≥ 0 then if 0 ≤ p21 then (if p21 < (q20.length : Int) then (if ((rd_T55 q20 p21).f0) = 7 then (if 0 ≤ (wrap64 ((wrap64 (p21 + 1)) + ((rd_T55 q20 p21).f1))) then (if (wrap64 ((wrap64 (p21 + 1)) + ((rd_T55 q20 p21).f1))) < (q20.length : Int) then spec_Threaded.j0 k22 q20 p21 (((rd_T55 q20 (wrap64 ((wrap64 (p21 + 1)) + ((rd_T55 q20 p21).f1)))).f0) == 8) else none) else none) else spec_Threaded.j0 k22 q20 p21 false) else none) else none else some q20
end
def spec_Threaded.f (k : Nat) (l0 : List S55) : Option ((List S55)) := if ([] : List S55).length + l0.length < 4398046511104 then (spec_CheckProgram.f k l0).bind fun t2 => if t2 = true then spec_Threaded.l0 k (([] : List S55) ++ l0) (wrap64 (((([] : List S55) ++ l0).length : Int) - 1)) else some (([] : List S55) ++ l0) else none
theorem spec_Threaded.ok {k : Nat} {l0 : List S55} {r : (List S55)} (H : spec_Threaded.f k l0 = some r) : ACalls Try.prog 27 [] [.sl .o 4 (l0.map e55)] [(0, .row 55 4 (r.map e55))] (.row 0) := by
 refine acalls (fn := Try.f27) (nt := 55) Try.func27 rfl rfl (Nat.le_of_ble_eq_true rfl) fun E hE => ?_
 rw [spec_Threaded.f] at H
 refine aw_grp1 ?_
 refine wk_start ?_
 refine kv g0 (asg) ?_
 refine wk_end ?_
 refine ac_next ?_
 refine aw_grp1 ?_
 refine wk_start ?_
 refine kb g0 (bsl 0 55 4 [.int .i64 0, .int .i64 0, .int .i64 0, .int .i64 0] (([] : List S55).map e55)) ?_
 refine kv g0 (mv) ?_
 obtain ⟨c1, H⟩ := of_if H
 refine kc g0 (apR 1 55 4 32 [.int .i64 0, .int .i64 0, .int .i64 0, .int .i64 0] ((([] : List S55) ++ l0).map e55) (.slF (fl55)) (apb c1 rfl) appE) ?_
 refine kv g0 (asg) ?_
 refine wk_end ?_
 refine ac_next ?_
 refine aw_grp1 ?_
 refine aw_grp1 ?_
 refine wk_start ?_
 refine kv g0 (mv) ?_
 obtain ⟨t2, A3, H⟩ := of_bind H
 refine kcS0 9 (.lit (.bool t2)) [] g0 (cal (spec_CheckProgram.ok A3) [] 9999 .n (hf := Try.func7)) rfl rfl ?_
 refine kv g0 (not_) ?_
 refine wk_end ?_
 refine ac_next ?_
 by_cases c4 : t2 = true
 ·rw [if_pos c4] at H
  refine aw_ifF ?_ (nF c4)
  refine aw_skip ?_
  refine ac_next ?_
  refine aw_grp1 ?_
  refine aw_grp1 ?_
  refine wk_start ?_
  refine kv g0 (mv) ?_
  refine kv g0 (lnR lenE) ?_
  refine kv g0 (sub6) ?_
  refine kv g0 (asg) ?_
  refine wk_end ?_
  refine ac_next ?_
  refine aw_block ?_
  refine aw_loop2 (fun (k_ : Nat) (q20 : List S55) (p21 : Int) => k_ ≤ k ∧ spec_Threaded.l0 k_ q20 p21 = some r) (fun (q20 : List S55) (p21 : Int) => ⟨[(3, .row 1), (4, .lit (.int .i64 p21))], [(1, .row 55 4 (q20.map e55))]⟩) k (([] : List S55) ++ l0) (wrap64 (((([] : List S55) ++ l0).length : Int) - 1)) ⟨Nat.le_refl _, H⟩ (fun K_ h_ => acw hE [(1, 1)] 9999 h_) (fun _ _ => by intro h_; have h_ := h_.2; rw [spec_Threaded.l0.eq_1] at h_; cases h_) ?_
  intro k22 q20 p21 hq_ K37 hK38
  have hk22 := hq_.1
  have H := hq_.2
  clear hq_
  rw [spec_Threaded.l0.eq_2] at H
  refine aw_grp1 ?_
  refine aw_grp1 ?_
  refine wk_start ?_
  refine kv g0 (mv) ?_
  refine kv g0 (geq) ?_
  refine wk_end ?_
  refine ac_next ?_
  by_cases c23 : p21 ≥ 0
  ·rw [if_pos c23] at H
   refine aw_ifT ?_ (decide_eq_true c23)
   refine aw_skip ?_
   refine ac_next ?_
   refine aw_grp1 ?_
   refine aw_block ?_
   refine aw_cut1 (J := fun K_ => ∀ (k_ : Nat) (p29 : Bool), k_ ≤ k22 → spec_Threaded.j0 k_ q20 p21 p29 = some r → ACont E 55 ⟨[(3, .row 1), (4, .lit (.int .i64 p21)), (39, .lit (.bool p29))], [(1, .row 55 4 (q20.map e55))]⟩ K_) ?_ ?_
   ·intro K_ hJ36
    refine wk_start ?_
    refine kv g0 (mv) ?_
    refine kv g0 (mv) ?_
    obtain ⟨c24, H⟩ := of_if H
    obtain ⟨c25, H⟩ := of_if H
    refine kv g0 (ixR 55 c24 (ltE c25)) ?_
    refine kv g0 (faE 0 0) ?_
    refine kv g0 (ldE (e55 (rd_T55 q20 p21)) (.lit (.int .i64 ((rd_T55 q20 p21).f0))) (getE (z := z55) c24 c25)) ?_
    refine kv g0 (eql) ?_
    refine kv g0 (mv) ?_
    by_cases c26 : ((rd_T55 q20 p21).f0) = 7
    ·rw [if_pos c26] at H
     refine kv (g1 (eT c26)) (mv) ?_
     refine kv (g1 (eT c26)) (mv) ?_
     refine kv (g1 (eT c26)) (add6) ?_
     refine kv (g1 (eT c26)) (mv) ?_
     refine kv (g1 (eT c26)) (mv) ?_
     refine kv (g1 (eT c26)) (ixR 55 c24 (ltE c25)) ?_
     refine kv (g1 (eT c26)) (faE 1 1) ?_
     refine kv (g1 (eT c26)) (ldE (e55 (rd_T55 q20 p21)) (.lit (.int .i64 ((rd_T55 q20 p21).f1))) (getE (z := z55) c24 c25)) ?_
     refine kv (g1 (eT c26)) (add6) ?_
     obtain ⟨c27, H⟩ := of_if H
     obtain ⟨c28, H⟩ := of_if H
     refine kv (g1 (eT c26)) (ixR 55 c27 (ltE c28)) ?_
     refine kv (g1 (eT c26)) (faE 0 0) ?_
     refine kv (g1 (eT c26)) (ldE (e55 (rd_T55 q20 (wrap64 ((wrap64 (p21 + 1)) + ((rd_T55 q20 p21).f1))))) (.lit (.int .i64 ((rd_T55 q20 (wrap64 ((wrap64 (p21 + 1)) + ((rd_T55 q20 p21).f1)))).f0))) (getE (z := z55) c27 c28)) ?_
     refine kv (g1 (eT c26)) (eql) ?_
     refine kv g0 (pkT (eT c26)) ?_
     refine wk_end ?_
     refine ac_k ?_
     exact acw hE [(1, 1)] 9999 (hJ36 k22 (((rd_T55 q20 (wrap64 ((wrap64 (p21 + 1)) + ((rd_T55 q20 p21).f1)))).f0) == 8) (Nat.le_refl _) H)
    rw [if_neg c26] at H
    refine kx (hT (eF c26)) ?_
    refine kx (hT (eF c26)) ?_
    refine kx (hT (eF c26)) ?_
    refine kx (hT (eF c26)) ?_
    refine kx (hT (eF c26)) ?_
    refine kx (hT (eF c26)) ?_
    refine kx (hT (eF c26)) ?_
    refine kx (hT (eF c26)) ?_
    refine kx (hT (eF c26)) ?_
    refine kx (hT (eF c26)) ?_
    refine kx (hT (eF c26)) ?_
    refine kx (hT (eF c26)) ?_
    refine kx (hT (eF c26)) ?_
    refine kv g0 (pkF (eF c26)) ?_
    refine wk_end ?_
    refine ac_k ?_
    exact acw hE [(1, 1)] 9999 (hJ36 k22 false (Nat.le_refl _) H)
   intro k_ p29 hk_ H
   rcases k_ with _ | k30
   ·rw [spec_Threaded.j0.eq_1] at H; cases H
   have hk30 : k30 ≤ k22 := by omega
   clear hk_
   rw [spec_Threaded.j0.eq_2] at H
   by_cases c31 : p29 = true
   ·rw [if_pos c31] at H
    refine aw_ifT ?_ c31
    refine wk_start ?_
    refine kv g0 (mv) ?_
    refine kv g0 (mv) ?_
    refine kv g0 (mv) ?_
    refine kv g0 (mv) ?_
    refine kv g0 (add6) ?_
    refine kv g0 (mv) ?_
    refine kv g0 (mv) ?_
    obtain ⟨c32, H⟩ := of_if H
    obtain ⟨c33, H⟩ := of_if H
    refine kv g0 (ixR 55 c32 (ltE c33)) ?_
    refine kv g0 (faE 1 1) ?_
    refine kv g0 (ldE (e55 (rd_T55 q20 p21)) (.lit (.int .i64 ((rd_T55 q20 p21).f1))) (getE (z := z55) c32 c33)) ?_
    refine kv g0 (add6) ?_
    obtain ⟨c34, H⟩ := of_if H
    obtain ⟨c35, H⟩ := of_if H
    refine kv g0 (ixR 55 c34 (ltE c35)) ?_
    refine kv g0 (ldEA 4 (e55 (rd_T55 q20 (wrap64 ((wrap64 (p21 + 1)) + ((rd_T55 q20 p21).f1))))) [.lit (.int .i64 ((rd_T55 q20 (wrap64 ((wrap64 (p21 + 1)) + ((rd_T55 q20 p21).f1)))).f0)), .lit (.int .i64 ((rd_T55 q20 (wrap64 ((wrap64 (p21 + 1)) + ((rd_T55 q20 p21).f1)))).f1)), .lit (.int .i64 ((rd_T55 q20 (wrap64 ((wrap64 (p21 + 1)) + ((rd_T55 q20 p21).f1)))).f2)), .lit (.int .i64 ((rd_T55 q20 (wrap64 ((wrap64 (p21 + 1)) + ((rd_T55 q20 p21).f1)))).f3))] (getE (z := z55) c34 c35)) ?_
    refine kv g0 (ixR 55 c32 (ltE c33)) ?_
    refine ks g0 (stE 4 (e55 (⟨(rd_T55 q20 (wrap64 ((wrap64 (p21 + 1)) + ((rd_T55 q20 p21).f1)))).f0, (rd_T55 q20 (wrap64 ((wrap64 (p21 + 1)) + ((rd_T55 q20 p21).f1)))).f1, (rd_T55 q20 (wrap64 ((wrap64 (p21 + 1)) + ((rd_T55 q20 p21).f1)))).f2, (rd_T55 q20 (wrap64 ((wrap64 (p21 + 1)) + ((rd_T55 q20 p21).f1)))).f3⟩ : S55)) ((q20.set p21.toNat (⟨(rd_T55 q20 (wrap64 ((wrap64 (p21 + 1)) + ((rd_T55 q20 p21).f1)))).f0, (rd_T55 q20 (wrap64 ((wrap64 (p21 + 1)) + ((rd_T55 q20 p21).f1)))).f1, (rd_T55 q20 (wrap64 ((wrap64 (p21 + 1)) + ((rd_T55 q20 p21).f1)))).f2, (rd_T55 q20 (wrap64 ((wrap64 (p21 + 1)) + ((rd_T55 q20 p21).f1)))).f3⟩ : S55)).map e55) (getE (z := z55) c32 c33) setE) ?_
    refine wk_end ?_
    refine ac_blkN ?_
    refine ac_next ?_
    refine wk_start ?_
    refine kv g0 (mv) ?_
    refine kv g0 (sub6) ?_
    refine kv g0 (asg) ?_
    refine wk_end ?_
    refine ac_k ?_
    exact acw hE [(1, 1)] 9999 (hK38 k30 (q20.set p21.toNat (⟨(rd_T55 q20 (wrap64 ((wrap64 (p21 + 1)) + ((rd_T55 q20 p21).f1)))).f0, (rd_T55 q20 (wrap64 ((wrap64 (p21 + 1)) + ((rd_T55 q20 p21).f1)))).f1, (rd_T55 q20 (wrap64 ((wrap64 (p21 + 1)) + ((rd_T55 q20 p21).f1)))).f2, (rd_T55 q20 (wrap64 ((wrap64 (p21 + 1)) + ((rd_T55 q20 p21).f1)))).f3⟩ : S55)) (wrap64 (p21 - 1)) (by omega) ⟨by omega, H⟩)
   rw [if_neg c31] at H
   refine aw_ifF ?_ (bF c31)
   refine aw_skip ?_
   refine ac_blkN ?_
   refine ac_next ?_
   refine wk_start ?_
   refine kv g0 (mv) ?_
   refine kv g0 (sub6) ?_
   refine kv g0 (asg) ?_
   refine wk_end ?_
   refine ac_k ?_
   exact acw hE [(1, 1)] 9999 (hK38 k30 q20 (wrap64 (p21 - 1)) (by omega) ⟨by omega, H⟩)
  rw [if_neg c23] at H
  refine aw_ifF ?_ (decide_eq_false c23)
  refine aw_exit ?_
  refine ac_then ?_
  refine ac_then ?_
  refine ac_hit rfl ?_
  refine ac_next ?_
  refine aw_grp1 ?_
  refine wk_start ?_
  refine kv g0 (mv) ?_
  refine kv g0 (asg) ?_
  refine wk_end ?_
  refine ac_next ?_
  refine aw_ret ?_
  obtain rfl := Option.some.inj H
  exact acr hE [.tmp 2] (.tmp .nil) (.one _) [(0, 1)] 9999
 rw [if_neg c4] at H
 refine aw_ifT ?_ (nT (bF c4))
 refine aw_grp1 ?_
 refine wk_start ?_
 refine kv g0 (mv) ?_
 refine kv g0 (asg) ?_
 refine wk_end ?_
 refine ac_next ?_
 refine aw_ret ?_
 refine ac_thenR ?_
 obtain rfl := Option.some.inj H
 exact acr hE [.tmp 2] (.tmp .nil) (.one _) [(0, 1)] 9999
/-! spec_Reached -/
def spec_Reached.l0 : Nat → (List S55) → (List Bool) → Int → Option ((List Bool))
 | 0, _, _, _ => none
 | k21 + 1, l0, q19, p20 => if p20 < (l0.length : Int) then if 0 ≤ p20 then if p20 < (q19.length : Int) then (if (rdOf false q19 p20) = true then if ((rd_T55 l0 p20).f0) = 8 then spec_Reached.l0 k21 l0 q19 (wrap64 (p20 + 1)) else if ((rd_T55 l0 p20).f0) = 7 then (if 0 ≤ (wrap64 ((wrap64 (p20 + 1)) + ((rd_T55 l0 p20).f1))) then (if (wrap64 ((wrap64 (p20 + 1)) + ((rd_T55 l0 p20).f1))) < (q19.length : Int) then spec_Reached.l0 k21 l0 (q19.set (wrap64 ((wrap64 (p20 + 1)) + ((rd_T55 l0 p20).f1))).toNat true) (wrap64 (p20 + 1)) else none) else none) else if 0 ≤ (wrap64 ((wrap64 (p20 + 1)) + ((rd_T55 l0 p20).f2))) then (if (wrap64 ((wrap64 (p20 + 1)) + ((rd_T55 l0 p20).f2))) < (q19.length : Int) then if 0 ≤ (wrap64 ((wrap64 (p20 + 1)) + ((rd_T55 l0 p20).f3))) then (if (wrap64 ((wrap64 (p20 + 1)) + ((rd_T55 l0 p20).f3))) < (q19.length : Int) then spec_Reached.l0 k21 l0 ((q19.set (wrap64 ((wrap64 (p20 + 1)) + ((rd_T55 l0 p20).f2))).toNat true).set (wrap64 ((wrap64 (p20 + 1)) + ((rd_T55 l0 p20).f3))).toNat true) (wrap64 (p20 + 1)) else none) else none else none) else none else spec_Reached.l0 k21 l0 q19 (wrap64 (p20 + 1))) else none else none else some q19
def spec_Reached.f (k : Nat) (l0 : List S55) : Option ((List Bool)) := (spec_CheckProgram.f k l0).bind fun t1 => if t1 = true then if 0 ≤ (l0.length : Int) then (if (l0.length : Int).toNat ≤ 281474976710656 then if 0 < ((List.replicate (l0.length : Int).toNat false).length : Int) then spec_Reached.l0 k l0 ((List.replicate (l0.length : Int).toNat false).set 0 true) 0 else none else none) else none else some ([] : List Bool)
theorem spec_Reached.ok {k : Nat} {l0 : List S55} {r : (List Bool)} (H : spec_Reached.f k l0 = some r) : ACalls Try.prog 49 [] [.sl .o 4 (l0.map e55)] [(0, .row 4 1 (r.map eB))] (.row 0) := by
 refine acalls (fn := Try.f49) (nt := 60) Try.func49 rfl rfl (Nat.le_of_ble_eq_true rfl) fun E hE => ?_
 rw [spec_Reached.f] at H
 refine aw_grp1 ?_
 refine wk_start ?_
 refine kv g0 (asg) ?_
 refine wk_end ?_
 refine ac_next ?_
 refine aw_grp1 ?_
 refine aw_grp1 ?_
 refine wk_start ?_
 refine kv g0 (mv) ?_
 obtain ⟨t1, A2, H⟩ := of_bind H
 refine kcS0 7 (.lit (.bool t1)) [] g0 (cal (spec_CheckProgram.ok A2) [] 9999 .n (hf := Try.func7)) rfl rfl ?_
 refine kv g0 (not_) ?_
 refine wk_end ?_
 refine ac_next ?_
 by_cases c3 : t1 = true
 ·rw [if_pos c3] at H
  refine aw_ifF ?_ (nF c3)
  refine aw_skip ?_
  refine ac_next ?_
  refine aw_grp1 ?_
  refine wk_start ?_
  refine kv g0 (mv) ?_
  refine kv g0 (lnS lenE) ?_
  obtain ⟨c4, H⟩ := of_if H
  obtain ⟨c5, H⟩ := of_if H
  refine kb g0 (mks 1 4 1 1 [.bool false] (eB false) ((List.replicate (l0.length : Int).toNat false).map eB) c4 (mkb c5 rfl) repE) ?_
  refine kv g0 (asg) ?_
  refine wk_end ?_
  refine ac_next ?_
  refine aw_grp1 ?_
  refine wk_start ?_
  refine kv g0 (mv) ?_
  obtain ⟨c6, H⟩ := of_if H
  refine kv g0 (ixR 4 (by decide : (0 : Int) ≤ 0) (ltE c6)) ?_
  refine ks g0 (stE 1 (eB true) (((List.replicate (l0.length : Int).toNat false).set 0 true).map eB) (getE (z := false) (by decide : (0 : Int) ≤ 0) c6) setE) ?_
  refine wk_end ?_
  refine ac_next ?_
  refine aw_grp1 ?_
  refine aw_grp1 ?_
  refine wk_start ?_
  refine kv g0 (asg) ?_
  refine wk_end ?_
  refine ac_next ?_
  refine aw_block ?_
  refine aw_loop2 (fun (k_ : Nat) (q19 : List Bool) (p20 : Int) => k_ ≤ k ∧ spec_Reached.l0 k_ l0 q19 p20 = some r) (fun (q19 : List Bool) (p20 : Int) => ⟨[(0, .sl .o 4 (l0.map e55)), (3, .row 1), (4, .lit (.int .i64 p20))], [(1, .row 4 1 (q19.map eB))]⟩) k ((List.replicate (l0.length : Int).toNat false).set 0 true) 0 ⟨Nat.le_refl _, H⟩ (fun K_ h_ => acw hE [(1, 1)] 9999 h_) (fun _ _ => by intro h_; have h_ := h_.2; rw [spec_Reached.l0.eq_1] at h_; cases h_) ?_
  intro k21 q19 p20 hq_ K34 hK35
  have hk21 := hq_.1
  have H := hq_.2
  clear hq_
  rw [spec_Reached.l0.eq_2] at H
  refine aw_grp1 ?_
  refine aw_grp1 ?_
  refine wk_start ?_
  refine kv g0 (mv) ?_
  refine kv g0 (mv) ?_
  refine kv g0 (lnS lenE) ?_
  refine kv g0 (lss) ?_
  refine wk_end ?_
  refine ac_next ?_
  by_cases c22 : p20 < (l0.length : Int)
  ·rw [if_pos c22] at H
   refine aw_ifT ?_ (decide_eq_true c22)
   refine aw_skip ?_
   refine ac_next ?_
   refine aw_grp1 ?_
   refine aw_block ?_
   refine aw_grp1 ?_
   refine wk_start ?_
   refine kv g0 (mv) ?_
   refine kv g0 (mv) ?_
   obtain ⟨c23, H⟩ := of_if H
   refine kv g0 (ixS 55 (e55 (rd_T55 l0 p20)) c23 (getE (z := z55) c23 c22)) ?_
   refine kv g0 (ldRA 4 [.lit (.int .i64 ((rd_T55 l0 p20).f0)), .lit (.int .i64 ((rd_T55 l0 p20).f1)), .lit (.int .i64 ((rd_T55 l0 p20).f2)), .lit (.int .i64 ((rd_T55 l0 p20).f3))]) ?_
   refine kb g0 (alc 2 [.int .i64 0, .int .i64 0, .int .i64 0, .int .i64 0] [.lit (.int .i64 0), .lit (.int .i64 0), .lit (.int .i64 0), .lit (.int .i64 0)]) ?_
   refine ks g0 (stB 4 [.lit (.int .i64 ((rd_T55 l0 p20).f0)), .lit (.int .i64 ((rd_T55 l0 p20).f1)), .lit (.int .i64 ((rd_T55 l0 p20).f2)), .lit (.int .i64 ((rd_T55 l0 p20).f3))]) ?_
   refine wk_end ?_
   refine ac_next ?_
   refine aw_grp1 ?_
   refine aw_grp1 ?_
   refine wk_start ?_
   refine kv g0 (mv) ?_
   refine kv g0 (mv) ?_
   obtain ⟨c24, H⟩ := of_if H
   refine kv g0 (ixR 4 c23 (ltE c24)) ?_
   refine kv g0 (ldE (eB (rdOf false q19 p20)) (.lit (.bool (rdOf false q19 p20))) (getE (z := false) c23 c24)) ?_
   refine kv g0 (not_) ?_
   refine kv g0 (mv) ?_
   by_cases c25 : (rdOf false q19 p20) = true
   ·rw [if_pos c25] at H
    refine kv (g1 (nF c25)) (faB 0 0) ?_
    refine kv (g1 (nF c25)) (ldB) ?_
    refine kv (g1 (nF c25)) (eql) ?_
    refine kv g0 (pkF (nF c25)) ?_
    refine wk_end ?_
    refine ac_next ?_
    by_cases c26 : ((rd_T55 l0 p20).f0) = 8
    ·rw [if_pos c26] at H
     refine aw_ifT ?_ (eT c26)
     refine aw_exit ?_
     refine ac_then ?_
     refine ac_hit rfl ?_
     refine ac_next ?_
     refine wk_start ?_
     refine kv g0 (mv) ?_
     refine kv g0 (add6) ?_
     refine kv g0 (asg) ?_
     refine wk_end ?_
     refine ac_k ?_
     exact acw hE [(1, 1)] 9999 (hK35 k21 q19 (wrap64 (p20 + 1)) (Nat.le_refl _) ⟨by omega, H⟩)
    rw [if_neg c26] at H
    refine aw_ifF ?_ (eF c26)
    refine aw_skip ?_
    refine ac_next ?_
    refine aw_grp1 ?_
    refine aw_grp1 ?_
    refine wk_start ?_
    refine kv g0 (faB 0 0) ?_
    refine kv g0 (ldB) ?_
    refine kv g0 (eql) ?_
    refine wk_end ?_
    refine ac_next ?_
    by_cases c27 : ((rd_T55 l0 p20).f0) = 7
    ·rw [if_pos c27] at H
     refine aw_ifT ?_ (eT c27)
     refine aw_grp1 ?_
     refine wk_start ?_
     refine kv g0 (mv) ?_
     refine kv g0 (mv) ?_
     refine kv g0 (add6) ?_
     refine kv g0 (faB 1 1) ?_
     refine kv g0 (ldB) ?_
     refine kv g0 (add6) ?_
     obtain ⟨c28, H⟩ := of_if H
     obtain ⟨c29, H⟩ := of_if H
     refine kv g0 (ixR 4 c28 (ltE c29)) ?_
     refine ks g0 (stE 1 (eB true) ((q19.set (wrap64 ((wrap64 (p20 + 1)) + ((rd_T55 l0 p20).f1))).toNat true).map eB) (getE (z := false) c28 c29) setE) ?_
     refine wk_end ?_
     refine ac_next ?_
     refine aw_exit ?_
     refine ac_then ?_
     refine ac_hit rfl ?_
     refine ac_next ?_
     refine wk_start ?_
     refine kv g0 (mv) ?_
     refine kv g0 (add6) ?_
     refine kv g0 (asg) ?_
     refine wk_end ?_
     refine ac_k ?_
     exact acw hE [(1, 1)] 9999 (hK35 k21 (q19.set (wrap64 ((wrap64 (p20 + 1)) + ((rd_T55 l0 p20).f1))).toNat true) (wrap64 (p20 + 1)) (Nat.le_refl _) ⟨by omega, H⟩)
    rw [if_neg c27] at H
    refine aw_ifF ?_ (eF c27)
    refine aw_skip ?_
    refine ac_next ?_
    refine aw_grp1 ?_
    refine wk_start ?_
    refine kv g0 (mv) ?_
    refine kv g0 (mv) ?_
    refine kv g0 (add6) ?_
    refine kv g0 (faB 2 2) ?_
    refine kv g0 (ldB) ?_
    refine kv g0 (add6) ?_
    obtain ⟨c30, H⟩ := of_if H
    obtain ⟨c31, H⟩ := of_if H
    refine kv g0 (ixR 4 c30 (ltE c31)) ?_
    refine ks g0 (stE 1 (eB true) ((q19.set (wrap64 ((wrap64 (p20 + 1)) + ((rd_T55 l0 p20).f2))).toNat true).map eB) (getE (z := false) c30 c31) setE) ?_
    refine wk_end ?_
    refine ac_next ?_
    refine wk_start ?_
    refine kv g0 (mv) ?_
    refine kv g0 (mv) ?_
    refine kv g0 (add6) ?_
    refine kv g0 (faB 3 3) ?_
    refine kv g0 (ldB) ?_
    refine kv g0 (add6) ?_
    obtain ⟨c32, H⟩ := of_if H
    obtain ⟨c33, H⟩ := of_if H
    refine kv g0 (ixR 4 c32 (ltE (ls c33))) ?_
    refine ks g0 (stE 1 (eB true) (((q19.set (wrap64 ((wrap64 (p20 + 1)) + ((rd_T55 l0 p20).f2))).toNat true).set (wrap64 ((wrap64 (p20 + 1)) + ((rd_T55 l0 p20).f3))).toNat true).map eB) (getE (z := false) c32 (ls c33)) setE) ?_
    refine wk_end ?_
    refine ac_blkN ?_
    refine ac_next ?_
    refine wk_start ?_
    refine kv g0 (mv) ?_
    refine kv g0 (add6) ?_
    refine kv g0 (asg) ?_
    refine wk_end ?_
    refine ac_k ?_
    exact acw hE [(1, 1)] 9999 (hK35 k21 ((q19.set (wrap64 ((wrap64 (p20 + 1)) + ((rd_T55 l0 p20).f2))).toNat true).set (wrap64 ((wrap64 (p20 + 1)) + ((rd_T55 l0 p20).f3))).toNat true) (wrap64 (p20 + 1)) (Nat.le_refl _) ⟨by omega, H⟩)
   rw [if_neg c25] at H
   refine kx (hF (nT (bF c25))) ?_
   refine kx (hF (nT (bF c25))) ?_
   refine kx (hF (nT (bF c25))) ?_
   refine kv g0 (pkT (nT (bF c25))) ?_
   refine wk_end ?_
   refine ac_next ?_
   refine aw_ifT ?_ rfl
   refine aw_exit ?_
   refine ac_then ?_
   refine ac_hit rfl ?_
   refine ac_next ?_
   refine wk_start ?_
   refine kv g0 (mv) ?_
   refine kv g0 (add6) ?_
   refine kv g0 (asg) ?_
   refine wk_end ?_
   refine ac_k ?_
   exact acw hE [(1, 1)] 9999 (hK35 k21 q19 (wrap64 (p20 + 1)) (Nat.le_refl _) ⟨by omega, H⟩)
  rw [if_neg c22] at H
  refine aw_ifF ?_ (decide_eq_false c22)
  refine aw_exit ?_
  refine ac_then ?_
  refine ac_then ?_
  refine ac_hit rfl ?_
  refine ac_next ?_
  refine aw_grp1 ?_
  refine wk_start ?_
  refine kv g0 (mv) ?_
  refine kv g0 (asg) ?_
  refine wk_end ?_
  refine ac_next ?_
  refine aw_ret ?_
  obtain rfl := Option.some.inj H
  exact acr hE [.tmp 2] (.tmp .nil) (.one _) [(0, 1)] 9999
 rw [if_neg c3] at H
 refine aw_ifT ?_ (nT (bF c3))
 refine aw_grp1 ?_
 refine wk_start ?_
 refine kb g0 (bsl 0 4 1 [.bool false] (([] : List Bool).map eB)) ?_
 refine kv g0 (asg) ?_
 refine wk_end ?_
 refine ac_next ?_
 refine aw_ret ?_
 refine ac_thenR ?_
 obtain rfl := Option.some.inj H
 exact acr hE [.tmp 2] (.tmp .nil) (.one _) [(0, 0)] 9999
/-! spec_Trimmed -/
mutual
def spec_Trimmed.l0 : Nat → (List S55) → ((List Bool)) → (List Int) → Int → Int → Option ((List S55))
 | 0, _, _, _, _, _ => none
 | k15 + 1, l0, t5, q12, p13, p14 => if p14 < (l0.length : Int) then if q12.length + ([p13] : List Int).length < 17592186044416 then if 0 ≤ p14 then (if p14 < (t5.length : Int) then if (rdOf false t5 p14) = true then spec_Trimmed.l0 k15 l0 t5 (q12 ++ ([p13] : List Int)) (wrap64 (p13 + 1)) (wrap64 (p14 + 1)) else spec_Trimmed.l0 k15 l0 t5 (q12 ++ ([p13] : List Int)) p13 (wrap64 (p14 + 1)) else none) else none else none else spec_Trimmed.l1 k15 l0 t5 q12 ([] : List S55) 0
def spec_Trimmed.j0 : Nat → (List S55) → ((List Bool)) → (List Int) → (List S55) → Int → Int → Option ((List S55))
 | 0, _, _, _, _, _, _ => none
 | k56 + 1, l0, t5, q12, q44, p45, p55 => (spec_l06Ask.f ((rd_T55 l0 p45).f0)).bind fun t57 => if t57 = true then (if 0 ≤ (wrap64 ((wrap64 (p45 + 1)) + ((rd_T55 l0 p45).f2))) then (if (wrap64 ((wrap64 (p45 + 1)) + ((rd_T55 l0 p45).f2))) < (q12.length : Int) then (if p45 < (q12.length : Int) then if 0 ≤ (wrap64 ((wrap64 (p45 + 1)) + ((rd_T55 l0 p45).f3))) then (if (wrap64 ((wrap64 (p45 + 1)) + ((rd_T55 l0 p45).f3))) < (q12.length : Int) then if q44.length + ([(⟨(rd_T55 l0 p45).f0, p55, wrap64 ((wrap64 ((rd q12 (wrap64 ((wrap64 (p45 + 1)) + ((rd_T55 l0 p45).f2)))) - (rd q12 p45))) - 1), wrap64 ((wrap64 ((rd q12 (wrap64 ((wrap64 (p45 + 1)) + ((rd_T55 l0 p45).f3)))) - (rd q12 p45))) - 1)⟩ : S55)] : List S55).length < 4398046511104 then spec_Trimmed.l1 k56 l0 t5 q12 (q44 ++ ([(⟨(rd_T55 l0 p45).f0, p55, wrap64 ((wrap64 ((rd q12 (wrap64 ((wrap64 (p45 + 1)) + ((rd_T55 l0 p45).f2)))) - (rd q12 p45))) - 1), wrap64 ((wrap64 ((rd q12 (wrap64 ((wrap64 (p45 + 1)) + ((rd_T55 l0 p45).f3)))) - (rd q12 p45))) - 1)⟩ : S55)] : List S55)) (wrap64 (p45 + 1)) else none else none) else none else none) else none) else none) else if q44.length + ([(⟨(rd_T55 l0 p45).f0, p55, (rd_T55 l0 p45).f2, (rd_T55 l0 p45).f3⟩ : S55)] : List S55).length < 4398046511104 then spec_Trimmed.l1 k56 l0 t5 q12 (q44 ++ ([(⟨(rd_T55 l0 p45).f0, p55, (rd_T55 l0 p45).f2, (rd_T55 l0 p45).f3⟩ : S55)] : List S55)) (wrap64 (p45 + 1)) else none
def spec_Trimmed.l1 : Nat → (List S55) → ((List Bool)) → (List Int) → (List S55) → Int → Option ((List S55))
 | 0, _, _, _, _, _ => none
 | k46 + 1, l0, t5, q12, q44, p45 => if p45 < (l0.length : Int) then if 0 ≤ p45 then (if p45 < (t5.length : Int) then if (rdOf false t5 p45) = true then if ((rd_T55 l0 p45).f0) = 7 then (if 0 ≤ (wrap64 ((wrap64 (p45 + 1)) + ((rd_T55 l0 p45).f1))) then (if (wrap64 ((wrap64 (p45 + 1)) + ((rd_T55 l0 p45).f1))) < (q12.length : Int) then (if p45 < (q12.length : Int) then spec_Trimmed.j0 k46 l0 t5 q12 q44 p45 (wrap64 ((wrap64 ((rd q12 (wrap64 ((wrap64 (p45 + 1)) + ((rd_T55 l0 p45).f1)))) - (rd q12 p45))) - 1)) else none) else none) else none) else spec_Trimmed.j0 k46 l0 t5 q12 q44 p45 ((rd_T55 l0 p45).f1) else spec_Trimmed.l1 k46 l0 t5 q12 q44 (wrap64 (p45 + 1)) else none) else none else some q44
end
def spec_Trimmed.f (k : Nat) (l0 : List S55) : Option ((List S55)) := (spec_CheckProgram.f k l0).bind fun t1 => if t1 = true then (spec_Reached.f k l0).bind fun t5 => spec_Trimmed.l0 k l0 t5 ([] : List Int) 0 0 else (if ([] : List S55).length + l0.length < 4398046511104 then some (([] : List S55) ++ l0) else none)
theorem spec_Trimmed.ok {k : Nat} {l0 : List S55} {r : (List S55)} (H : spec_Trimmed.f k l0 = some r) : ACalls Try.prog 26 [] [.sl .o 4 (l0.map e55)] [(0, .row 55 4 (r.map e55))] (.row 0) := by
 refine acalls (fn := Try.f26) (nt := 107) Try.func26 rfl rfl (Nat.le_of_ble_eq_true rfl) fun E hE => ?_
 rw [spec_Trimmed.f] at H
 refine aw_grp1 ?_
 refine wk_start ?_
 refine kv g0 (asg) ?_
 refine wk_end ?_
 refine ac_next ?_
 refine aw_grp1 ?_
 refine aw_grp1 ?_
 refine wk_start ?_
 refine kv g0 (mv) ?_
 obtain ⟨t1, A2, H⟩ := of_bind H
 refine kcS0 11 (.lit (.bool t1)) [] g0 (cal (spec_CheckProgram.ok A2) [] 9999 .n (hf := Try.func7)) rfl rfl ?_
 refine kv g0 (not_) ?_
 refine wk_end ?_
 refine ac_next ?_
 by_cases c3 : t1 = true
 ·rw [if_pos c3] at H
  refine aw_ifF ?_ (nF c3)
  refine aw_skip ?_
  refine ac_next ?_
  refine aw_grp1 ?_
  refine wk_start ?_
  refine kv g0 (mv) ?_
  obtain ⟨t5, A6, H⟩ := of_bind H
  refine kcS1 17 (.row 2) [(2, .row 4 1 (t5.map eB))] g0 (cal (spec_Reached.ok A6) [2] 9999 .n (hf := Try.func49)) rfl rfl ?_
  refine kv g0 (asg) ?_
  refine wk_end ?_
  refine ac_next ?_
  refine aw_grp1 ?_
  refine wk_start ?_
  refine kb g0 (bsl 3 3 1 [.int .i64 0] (([] : List Int).map (eI .i64))) ?_
  refine kv g0 (asg) ?_
  refine wk_end ?_
  refine ac_next ?_
  refine aw_grp1 ?_
  refine wk_start ?_
  refine kv g0 (asg) ?_
  refine wk_end ?_
  refine ac_next ?_
  refine aw_grp1 ?_
  refine aw_grp1 ?_
  refine wk_start ?_
  refine kv g0 (asg) ?_
  refine wk_end ?_
  refine ac_next ?_
  refine aw_block ?_
  refine aw_loop3 (fun (k_ : Nat) (q12 : List Int) (p13 : Int) (p14 : Int) => k_ ≤ k ∧ spec_Trimmed.l0 k_ l0 t5 q12 p13 p14 = some r) (fun (q12 : List Int) (p13 : Int) (p14 : Int) => ⟨[(0, .sl .o 4 (l0.map e55)), (3, .row 2), (4, .row 3), (5, .lit (.int .i64 p13)), (6, .lit (.int .i64 p14))], [(2, .row 4 1 (t5.map eB)), (3, .row 3 1 (q12.map (eI .i64)))]⟩) k ([] : List Int) 0 0 ⟨Nat.le_refl _, H⟩ (fun K_ h_ => acw hE [(2, 2), (3, 3)] 9999 h_) (fun _ _ _ => by intro h_; have h_ := h_.2; rw [spec_Trimmed.l0.eq_1] at h_; cases h_) ?_
  intro k15 q12 p13 p14 hq_ K21 hK22
  have hk15 := hq_.1
  have H := hq_.2
  clear hq_
  rw [spec_Trimmed.l0.eq_2] at H
  refine aw_grp1 ?_
  refine aw_grp1 ?_
  refine wk_start ?_
  refine kv g0 (mv) ?_
  refine kv g0 (mv) ?_
  refine kv g0 (lnS lenE) ?_
  refine kv g0 (lss) ?_
  refine wk_end ?_
  refine ac_next ?_
  by_cases c16 : p14 < (l0.length : Int)
  ·rw [if_pos c16] at H
   refine aw_ifT ?_ (decide_eq_true c16)
   refine aw_skip ?_
   refine ac_next ?_
   refine aw_grp1 ?_
   refine aw_block ?_
   refine aw_grp1 ?_
   refine wk_start ?_
   refine kv g0 (mv) ?_
   refine kv g0 (mv) ?_
   refine kb g0 (bsl 4 3 1 [.int .i64 0] (([p13] : List Int).map (eI .i64))) ?_
   obtain ⟨c17, H⟩ := of_if H
   refine kc g0 (apR 5 3 1 8 [.int .i64 0] ((q12 ++ ([p13] : List Int)).map (eI .i64)) (.row rfl) (apb c17 rfl) appE) ?_
   refine kv g0 (asg) ?_
   refine wk_end ?_
   refine ac_next ?_
   refine aw_grp1 ?_
   refine wk_start ?_
   refine kv g0 (mv) ?_
   refine kv g0 (mv) ?_
   obtain ⟨c18, H⟩ := of_if H
   obtain ⟨c19, H⟩ := of_if H
   refine kv g0 (ixR 4 c18 (ltE c19)) ?_
   refine kv g0 (ldE (eB (rdOf false t5 p14)) (.lit (.bool (rdOf false t5 p14))) (getE (z := false) c18 c19)) ?_
   refine wk_end ?_
   refine ac_next ?_
   by_cases c20 : (rdOf false t5 p14) = true
   ·rw [if_pos c20] at H
    refine aw_ifT ?_ c20
    refine wk_start ?_
    refine kv g0 (mv) ?_
    refine kv g0 (add6) ?_
    refine kv g0 (asg) ?_
    refine wk_end ?_
    refine ac_blkN ?_
    refine ac_next ?_
    refine wk_start ?_
    refine kv g0 (mv) ?_
    refine kv g0 (add6) ?_
    refine kv g0 (asg) ?_
    refine wk_end ?_
    refine ac_k ?_
    exact acw hE [(2, 2), (3, 5)] 9999 (hK22 k15 (q12 ++ ([p13] : List Int)) (wrap64 (p13 + 1)) (wrap64 (p14 + 1)) (Nat.le_refl _) ⟨by omega, H⟩)
   rw [if_neg c20] at H
   refine aw_ifF ?_ (bF c20)
   refine aw_skip ?_
   refine ac_blkN ?_
   refine ac_next ?_
   refine wk_start ?_
   refine kv g0 (mv) ?_
   refine kv g0 (add6) ?_
   refine kv g0 (asg) ?_
   refine wk_end ?_
   refine ac_k ?_
   exact acw hE [(2, 2), (3, 5)] 9999 (hK22 k15 (q12 ++ ([p13] : List Int)) p13 (wrap64 (p14 + 1)) (Nat.le_refl _) ⟨by omega, H⟩)
  rw [if_neg c16] at H
  refine aw_ifF ?_ (decide_eq_false c16)
  refine aw_exit ?_
  refine ac_then ?_
  refine ac_then ?_
  refine ac_hit rfl ?_
  refine ac_next ?_
  refine aw_grp1 ?_
  refine wk_start ?_
  refine kb g0 (bsl 6 55 4 [.int .i64 0, .int .i64 0, .int .i64 0, .int .i64 0] (([] : List S55).map e55)) ?_
  refine kv g0 (asg) ?_
  refine wk_end ?_
  refine ac_next ?_
  refine aw_grp1 ?_
  refine aw_grp1 ?_
  refine wk_start ?_
  refine kv g0 (asg) ?_
  refine wk_end ?_
  refine ac_next ?_
  refine aw_block ?_
  refine aw_loop2 (fun (k_ : Nat) (q44 : List S55) (p45 : Int) => k_ ≤ k15 ∧ spec_Trimmed.l1 k_ l0 t5 q12 q44 p45 = some r) (fun (q44 : List S55) (p45 : Int) => ⟨[(0, .sl .o 4 (l0.map e55)), (3, .row 2), (4, .row 3), (7, .row 6), (8, .lit (.int .i64 p45))], [(2, .row 4 1 (t5.map eB)), (3, .row 3 1 (q12.map (eI .i64))), (6, .row 55 4 (q44.map e55))]⟩) k15 ([] : List S55) 0 ⟨Nat.le_refl _, H⟩ (fun K_ h_ => acw hE [(2, 2), (3, 3), (6, 6)] 9999 h_) (fun _ _ => by intro h_; have h_ := h_.2; rw [spec_Trimmed.l1.eq_1] at h_; cases h_) ?_
  intro k46 q44 p45 hq_ K68 hK69
  have hk46 := hq_.1
  have H := hq_.2
  clear hq_
  rw [spec_Trimmed.l1.eq_2] at H
  refine aw_grp1 ?_
  refine aw_grp1 ?_
  refine wk_start ?_
  refine kv g0 (mv) ?_
  refine kv g0 (mv) ?_
  refine kv g0 (lnS lenE) ?_
  refine kv g0 (lss) ?_
  refine wk_end ?_
  refine ac_next ?_
  by_cases c47 : p45 < (l0.length : Int)
  ·rw [if_pos c47] at H
   refine aw_ifT ?_ (decide_eq_true c47)
   refine aw_skip ?_
   refine ac_next ?_
   refine aw_grp1 ?_
   refine aw_block ?_
   refine aw_grp1 ?_
   refine aw_grp1 ?_
   refine wk_start ?_
   refine kv g0 (mv) ?_
   refine kv g0 (mv) ?_
   obtain ⟨c48, H⟩ := of_if H
   obtain ⟨c49, H⟩ := of_if H
   refine kv g0 (ixR 4 c48 (ltE c49)) ?_
   refine kv g0 (ldE (eB (rdOf false t5 p45)) (.lit (.bool (rdOf false t5 p45))) (getE (z := false) c48 c49)) ?_
   refine kv g0 (not_) ?_
   refine wk_end ?_
   refine ac_next ?_
   by_cases c50 : (rdOf false t5 p45) = true
   ·rw [if_pos c50] at H
    refine aw_ifF ?_ (nF c50)
    refine aw_skip ?_
    refine ac_next ?_
    refine aw_grp1 ?_
    refine wk_start ?_
    refine kv g0 (mv) ?_
    refine kv g0 (mv) ?_
    refine kv g0 (ixS 55 (e55 (rd_T55 l0 p45)) c48 (getE (z := z55) c48 c47)) ?_
    refine kv g0 (ldRA 4 [.lit (.int .i64 ((rd_T55 l0 p45).f0)), .lit (.int .i64 ((rd_T55 l0 p45).f1)), .lit (.int .i64 ((rd_T55 l0 p45).f2)), .lit (.int .i64 ((rd_T55 l0 p45).f3))]) ?_
    refine kb g0 (alc 7 [.int .i64 0, .int .i64 0, .int .i64 0, .int .i64 0] [.lit (.int .i64 0), .lit (.int .i64 0), .lit (.int .i64 0), .lit (.int .i64 0)]) ?_
    refine ks g0 (stB 4 [.lit (.int .i64 ((rd_T55 l0 p45).f0)), .lit (.int .i64 ((rd_T55 l0 p45).f1)), .lit (.int .i64 ((rd_T55 l0 p45).f2)), .lit (.int .i64 ((rd_T55 l0 p45).f3))]) ?_
    refine wk_end ?_
    refine ac_next ?_
    refine aw_cut1 (J := fun K_ => ∀ (k_ : Nat) (p55 : Int), k_ ≤ k46 → spec_Trimmed.j0 k_ l0 t5 q12 q44 p45 p55 = some r → ACont E 107 ⟨[(0, .sl .o 4 (l0.map e55)), (3, .row 2), (4, .row 3), (7, .row 6), (8, .lit (.int .i64 p45)), (9, .box 7 0)], [(2, .row 4 1 (t5.map eB)), (3, .row 3 1 (q12.map (eI .i64))), (6, .row 55 4 (q44.map e55)), (7, .box 55 [.lit (.int .i64 ((rd_T55 l0 p45).f0)), .lit (.int .i64 p55), .lit (.int .i64 ((rd_T55 l0 p45).f2)), .lit (.int .i64 ((rd_T55 l0 p45).f3))])]⟩ K_) ?_ ?_
    ·intro K_ hJ67
     refine aw_grp1 ?_
     refine wk_start ?_
     refine kv g0 (faB 0 0) ?_
     refine kv g0 (ldB) ?_
     refine kv g0 (eql) ?_
     refine wk_end ?_
     refine ac_next ?_
     by_cases c51 : ((rd_T55 l0 p45).f0) = 7
     ·rw [if_pos c51] at H
      refine aw_ifT ?_ (eT c51)
      refine wk_start ?_
      refine kv g0 (mv) ?_
      refine kv g0 (mv) ?_
      refine kv g0 (add6) ?_
      refine kv g0 (faB 1 1) ?_
      refine kv g0 (ldB) ?_
      refine kv g0 (add6) ?_
      obtain ⟨c52, H⟩ := of_if H
      obtain ⟨c53, H⟩ := of_if H
      refine kv g0 (ixR 3 c52 (ltE c53)) ?_
      refine kv g0 (ldE (eI .i64 (rd q12 (wrap64 ((wrap64 (p45 + 1)) + ((rd_T55 l0 p45).f1))))) (.lit (.int .i64 (rd q12 (wrap64 ((wrap64 (p45 + 1)) + ((rd_T55 l0 p45).f1)))))) (getE (z := (0 : Int)) c52 c53)) ?_
      refine kv g0 (mv) ?_
      refine kv g0 (mv) ?_
      obtain ⟨c54, H⟩ := of_if H
      refine kv g0 (ixR 3 c48 (ltE c54)) ?_
      refine kv g0 (ldE (eI .i64 (rd q12 p45)) (.lit (.int .i64 (rd q12 p45))) (getE (z := (0 : Int)) c48 c54)) ?_
      refine kv g0 (sub6) ?_
      refine kv g0 (sub6) ?_
      refine kv g0 (faB 1 1) ?_
      refine ks g0 (stB 1 [.lit (.int .i64 ((rd_T55 l0 p45).f0)), .lit (.int .i64 (wrap64 ((wrap64 ((rd q12 (wrap64 ((wrap64 (p45 + 1)) + ((rd_T55 l0 p45).f1)))) - (rd q12 p45))) - 1))), .lit (.int .i64 ((rd_T55 l0 p45).f2)), .lit (.int .i64 ((rd_T55 l0 p45).f3))]) ?_
      refine wk_end_draw hM (by kernel_rfl) ?_
      refine ac_k ?_
      exact acw hE [(2, 2), (3, 3), (6, 6), (7, 7)] 9999 (hJ67 k46 (wrap64 ((wrap64 ((rd q12 (wrap64 ((wrap64 (p45 + 1)) + ((rd_T55 l0 p45).f1)))) - (rd q12 p45))) - 1)) (Nat.le_refl _) H)
     rw [if_neg c51] at H
     refine aw_ifF ?_ (eF c51)
     refine aw_skip ?_
     refine ac_k ?_
     exact acw hE [(2, 2), (3, 3), (6, 6), (7, 7)] 9999 (hJ67 k46 ((rd_T55 l0 p45).f1) (Nat.le_refl _) H)
    intro k_ p55 hk_ H
    rcases k_ with _ | k56
    ·rw [spec_Trimmed.j0.eq_1] at H; cases H
    have hk56 : k56 ≤ k46 := by omega
    clear hk_
    rw [spec_Trimmed.j0.eq_2] at H
    refine aw_grp1 ?_
    refine aw_grp1 ?_
    refine wk_start ?_
    refine kv g0 (faB 0 0) ?_
    refine kv g0 (ldB) ?_
    obtain ⟨t57, A58, H⟩ := of_bind H
    refine kcS0 71 (.lit (.bool t57)) [] g0 (cal (spec_l06Ask.ok A58) [] 9999 .n (hf := Try.func46)) rfl rfl ?_
    refine wk_end ?_
    refine ac_next ?_
    by_cases c59 : t57 = true
    ·rw [if_pos c59] at H
     refine aw_ifT ?_ c59
     refine aw_grp1 ?_
     refine wk_start ?_
     refine kv g0 (mv) ?_
     refine kv g0 (mv) ?_
     refine kv g0 (add6) ?_
     refine kv g0 (faB 2 2) ?_
     refine kv g0 (ldB) ?_
     refine kv g0 (add6) ?_
     obtain ⟨c60, H⟩ := of_if H
     obtain ⟨c61, H⟩ := of_if H
     refine kv g0 (ixR 3 c60 (ltE c61)) ?_
     refine kv g0 (ldE (eI .i64 (rd q12 (wrap64 ((wrap64 (p45 + 1)) + ((rd_T55 l0 p45).f2))))) (.lit (.int .i64 (rd q12 (wrap64 ((wrap64 (p45 + 1)) + ((rd_T55 l0 p45).f2)))))) (getE (z := (0 : Int)) c60 c61)) ?_
     refine kv g0 (mv) ?_
     refine kv g0 (mv) ?_
     obtain ⟨c62, H⟩ := of_if H
     refine kv g0 (ixR 3 c48 (ltE c62)) ?_
     refine kv g0 (ldE (eI .i64 (rd q12 p45)) (.lit (.int .i64 (rd q12 p45))) (getE (z := (0 : Int)) c48 c62)) ?_
     refine kv g0 (sub6) ?_
     refine kv g0 (sub6) ?_
     refine kv g0 (faB 2 2) ?_
     refine ks g0 (stB 1 [.lit (.int .i64 ((rd_T55 l0 p45).f0)), .lit (.int .i64 p55), .lit (.int .i64 (wrap64 ((wrap64 ((rd q12 (wrap64 ((wrap64 (p45 + 1)) + ((rd_T55 l0 p45).f2)))) - (rd q12 p45))) - 1))), .lit (.int .i64 ((rd_T55 l0 p45).f3))]) ?_
     refine wk_end_draw hM (by kernel_rfl) ?_
     refine ac_next ?_
     refine wk_start ?_
     refine kv g0 (mv) ?_
     refine kv g0 (mv) ?_
     refine kv g0 (add6) ?_
     refine kv g0 (faB 3 3) ?_
     refine kv g0 (ldB) ?_
     refine kv g0 (add6) ?_
     obtain ⟨c63, H⟩ := of_if H
     obtain ⟨c64, H⟩ := of_if H
     refine kv g0 (ixR 3 c63 (ltE c64)) ?_
     refine kv g0 (ldE (eI .i64 (rd q12 (wrap64 ((wrap64 (p45 + 1)) + ((rd_T55 l0 p45).f3))))) (.lit (.int .i64 (rd q12 (wrap64 ((wrap64 (p45 + 1)) + ((rd_T55 l0 p45).f3)))))) (getE (z := (0 : Int)) c63 c64)) ?_
     refine kv g0 (mv) ?_
     refine kv g0 (mv) ?_
     refine kv g0 (ixR 3 c48 (ltE c62)) ?_
     refine kv g0 (ldE (eI .i64 (rd q12 p45)) (.lit (.int .i64 (rd q12 p45))) (getE (z := (0 : Int)) c48 c62)) ?_
     refine kv g0 (sub6) ?_
     refine kv g0 (sub6) ?_
     refine kv g0 (faB 3 3) ?_
     refine ks g0 (stB 1 [.lit (.int .i64 ((rd_T55 l0 p45).f0)), .lit (.int .i64 p55), .lit (.int .i64 (wrap64 ((wrap64 ((rd q12 (wrap64 ((wrap64 (p45 + 1)) + ((rd_T55 l0 p45).f2)))) - (rd q12 p45))) - 1))), .lit (.int .i64 (wrap64 ((wrap64 ((rd q12 (wrap64 ((wrap64 (p45 + 1)) + ((rd_T55 l0 p45).f3)))) - (rd q12 p45))) - 1)))]) ?_
     refine wk_end_draw hM (by kernel_rfl) ?_
     refine ac_next ?_
     refine wk_start ?_
     refine kv g0 (mv) ?_
     refine kv g0 (ldBA 4 [.lit (.int .i64 ((rd_T55 l0 p45).f0)), .lit (.int .i64 p55), .lit (.int .i64 (wrap64 ((wrap64 ((rd q12 (wrap64 ((wrap64 (p45 + 1)) + ((rd_T55 l0 p45).f2)))) - (rd q12 p45))) - 1))), .lit (.int .i64 (wrap64 ((wrap64 ((rd q12 (wrap64 ((wrap64 (p45 + 1)) + ((rd_T55 l0 p45).f3)))) - (rd q12 p45))) - 1)))]) ?_
     refine kb g0 (bsl 8 55 4 [.int .i64 0, .int .i64 0, .int .i64 0, .int .i64 0] (([(⟨(rd_T55 l0 p45).f0, p55, wrap64 ((wrap64 ((rd q12 (wrap64 ((wrap64 (p45 + 1)) + ((rd_T55 l0 p45).f2)))) - (rd q12 p45))) - 1), wrap64 ((wrap64 ((rd q12 (wrap64 ((wrap64 (p45 + 1)) + ((rd_T55 l0 p45).f3)))) - (rd q12 p45))) - 1)⟩ : S55)] : List S55).map e55)) ?_
     obtain ⟨c65, H⟩ := of_if H
     refine kc g0 (apR 9 55 4 32 [.int .i64 0, .int .i64 0, .int .i64 0, .int .i64 0] ((q44 ++ ([(⟨(rd_T55 l0 p45).f0, p55, wrap64 ((wrap64 ((rd q12 (wrap64 ((wrap64 (p45 + 1)) + ((rd_T55 l0 p45).f2)))) - (rd q12 p45))) - 1), wrap64 ((wrap64 ((rd q12 (wrap64 ((wrap64 (p45 + 1)) + ((rd_T55 l0 p45).f3)))) - (rd q12 p45))) - 1)⟩ : S55)] : List S55)).map e55) (.row rfl) (apb c65 rfl) appE) ?_
     refine kv g0 (asg) ?_
     refine wk_end ?_
     refine ac_blkN ?_
     refine ac_next ?_
     refine wk_start ?_
     refine kv g0 (mv) ?_
     refine kv g0 (add6) ?_
     refine kv g0 (asg) ?_
     refine wk_end ?_
     refine ac_k ?_
     exact acw hE [(2, 2), (3, 3), (6, 9)] 9999 (hK69 k56 (q44 ++ ([(⟨(rd_T55 l0 p45).f0, p55, wrap64 ((wrap64 ((rd q12 (wrap64 ((wrap64 (p45 + 1)) + ((rd_T55 l0 p45).f2)))) - (rd q12 p45))) - 1), wrap64 ((wrap64 ((rd q12 (wrap64 ((wrap64 (p45 + 1)) + ((rd_T55 l0 p45).f3)))) - (rd q12 p45))) - 1)⟩ : S55)] : List S55)) (wrap64 (p45 + 1)) (by omega) ⟨by omega, H⟩)
    rw [if_neg c59] at H
    refine aw_ifF ?_ (bF c59)
    refine aw_skip ?_
    refine ac_next ?_
    refine wk_start ?_
    refine kv g0 (mv) ?_
    refine kv g0 (ldBA 4 [.lit (.int .i64 ((rd_T55 l0 p45).f0)), .lit (.int .i64 p55), .lit (.int .i64 ((rd_T55 l0 p45).f2)), .lit (.int .i64 ((rd_T55 l0 p45).f3))]) ?_
    refine kb g0 (bsl 10 55 4 [.int .i64 0, .int .i64 0, .int .i64 0, .int .i64 0] (([(⟨(rd_T55 l0 p45).f0, p55, (rd_T55 l0 p45).f2, (rd_T55 l0 p45).f3⟩ : S55)] : List S55).map e55)) ?_
    obtain ⟨c66, H⟩ := of_if H
    refine kc g0 (apR 11 55 4 32 [.int .i64 0, .int .i64 0, .int .i64 0, .int .i64 0] ((q44 ++ ([(⟨(rd_T55 l0 p45).f0, p55, (rd_T55 l0 p45).f2, (rd_T55 l0 p45).f3⟩ : S55)] : List S55)).map e55) (.row rfl) (apb c66 rfl) appE) ?_
    refine kv g0 (asg) ?_
    refine wk_end ?_
    refine ac_blkN ?_
    refine ac_next ?_
    refine wk_start ?_
    refine kv g0 (mv) ?_
    refine kv g0 (add6) ?_
    refine kv g0 (asg) ?_
    refine wk_end ?_
    refine ac_k ?_
    exact acw hE [(2, 2), (3, 3), (6, 11)] 9999 (hK69 k56 (q44 ++ ([(⟨(rd_T55 l0 p45).f0, p55, (rd_T55 l0 p45).f2, (rd_T55 l0 p45).f3⟩ : S55)] : List S55)) (wrap64 (p45 + 1)) (by omega) ⟨by omega, H⟩)
   rw [if_neg c50] at H
   refine aw_ifT ?_ (nT (bF c50))
   refine aw_exit ?_
   refine ac_then ?_
   refine ac_hit rfl ?_
   refine ac_next ?_
   refine wk_start ?_
   refine kv g0 (mv) ?_
   refine kv g0 (add6) ?_
   refine kv g0 (asg) ?_
   refine wk_end ?_
   refine ac_k ?_
   exact acw hE [(2, 2), (3, 3), (6, 6)] 9999 (hK69 k46 q44 (wrap64 (p45 + 1)) (Nat.le_refl _) ⟨by omega, H⟩)
  rw [if_neg c47] at H
  refine aw_ifF ?_ (decide_eq_false c47)
  refine aw_exit ?_
  refine ac_then ?_
  refine ac_then ?_
  refine ac_hit rfl ?_
  refine ac_next ?_
  refine aw_grp1 ?_
  refine wk_start ?_
  refine kv g0 (mv) ?_
  refine kv g0 (asg) ?_
  refine wk_end ?_
  refine ac_next ?_
  refine aw_ret ?_
  obtain rfl := Option.some.inj H
  exact acr hE [.tmp 2] (.tmp .nil) (.one _) [(0, 6)] 9999
 rw [if_neg c3] at H
 refine aw_ifT ?_ (nT (bF c3))
 refine aw_grp1 ?_
 refine wk_start ?_
 refine kb g0 (bsl 0 55 4 [.int .i64 0, .int .i64 0, .int .i64 0, .int .i64 0] (([] : List S55).map e55)) ?_
 refine kv g0 (mv) ?_
 obtain ⟨c4, H⟩ := of_if H
 refine kc g0 (apR 1 55 4 32 [.int .i64 0, .int .i64 0, .int .i64 0, .int .i64 0] ((([] : List S55) ++ l0).map e55) (.slF (fl55)) (apb c4 rfl) appE) ?_
 refine kv g0 (asg) ?_
 refine wk_end ?_
 refine ac_next ?_
 refine aw_ret ?_
 refine ac_thenR ?_
 obtain rfl := Option.some.inj H
 exact acr hE [.tmp 2] (.tmp .nil) (.one _) [(0, 1)] 9999
/-! spec_Short -/
def spec_Short.f (k : Nat) (l0 : List S55) : Option ((List S55)) := (spec_Threaded.f k l0).bind fun t1 => ((spec_Trimmed.f k t1).bind fun t3 => some t3)
theorem spec_Short.ok {k : Nat} {l0 : List S55} {r : (List S55)} (H : spec_Short.f k l0 = some r) : ACalls Try.prog 9 [] [.sl .o 4 (l0.map e55)] [(0, .row 55 4 (r.map e55))] (.row 0) := by
 refine acalls (fn := Try.f9) (nt := 6) Try.func9 rfl rfl (Nat.le_of_ble_eq_true rfl) fun E hE => ?_
 rw [spec_Short.f] at H
 refine aw_grp1 ?_
 refine wk_start ?_
 refine kv g0 (asg) ?_
 refine wk_end ?_
 refine ac_next ?_
 refine aw_grp1 ?_
 refine wk_start ?_
 refine kv g0 (mv) ?_
 obtain ⟨t1, A2, H⟩ := of_bind H
 refine kcS1 4 (.row 0) [(0, .row 55 4 (t1.map e55))] g0 (cal (spec_Threaded.ok A2) [0] 9999 .n (hf := Try.func27)) rfl rfl ?_
 obtain ⟨t3, A4, H⟩ := of_bind H
 refine kcS1 5 (.row 1) [(1, .row 55 4 (t3.map e55))] g0 (cal (spec_Trimmed.ok A4) [1] 9999 .n (hf := Try.func26)) rfl rfl ?_
 refine kv g0 (asg) ?_
 refine wk_end ?_
 refine ac_next ?_
 refine aw_ret ?_
 obtain rfl := Option.some.inj H
 exact acr hE [.tmp 2] (.tmp .nil) (.one _) [(0, 1)] 9999
/-! impl_within -/
def impl_within.f (a0 : Int) (a1 : Int) (a2 : Int) : Option (Bool) := if a0 ≥ a1 then some (decide (a0 ≤ a2)) else some false
theorem impl_within.ok {a0 : Int} {a1 : Int} {a2 : Int} {r : Bool} (H : impl_within.f a0 a1 a2 = some r) : ACalls Try.prog 69 [] [.lit (.int .i64 a0), .lit (.int .i64 a1), .lit (.int .i64 a2)] [] (.lit (.bool r)) := by
 refine acalls (fn := Try.f69) (nt := 15) Try.func69 rfl rfl (Nat.le_of_ble_eq_true rfl) fun E hE => ?_
 rw [impl_within.f] at H
 refine aw_grp1 ?_
 refine wk_start ?_
 refine kv g0 (asg) ?_
 refine wk_end ?_
 refine ac_next ?_
 refine aw_grp1 ?_
 refine wk_start ?_
 refine kv g0 (mv) ?_
 refine kv g0 (mv) ?_
 refine kv g0 (geq) ?_
 refine kv g0 (mv) ?_
 by_cases c1 : a0 ≥ a1
 ·rw [if_pos c1] at H
  refine kv (g1 (decide_eq_true c1)) (mv) ?_
  refine kv (g1 (decide_eq_true c1)) (mv) ?_
  refine kv (g1 (decide_eq_true c1)) (leq) ?_
  refine kv g0 (pkT (decide_eq_true c1)) ?_
  refine kv g0 (asg) ?_
  refine wk_end ?_
  refine ac_next ?_
  refine aw_ret ?_
  obtain rfl := Option.some.inj H
  exact acr hE [.tmp 6] (.tmp .nil) (.one _) [] 9999
 rw [if_neg c1] at H
 refine kx (hT (decide_eq_false c1)) ?_
 refine kx (hT (decide_eq_false c1)) ?_
 refine kx (hT (decide_eq_false c1)) ?_
 refine kv g0 (pkF (decide_eq_false c1)) ?_
 refine kv g0 (asg) ?_
 refine wk_end ?_
 refine ac_next ?_
 refine aw_ret ?_
 obtain rfl := Option.some.inj H
 exact acr hE [.tmp 6] (.tmp .nil) (.one _) [] 9999
/-! impl_Ins_asks -/
def impl_Ins_asks.f (a0_0 : Int) (a0_1 : Int) (a0_2 : Int) (a0_3 : Int) : Option (Bool) := (impl_within.f a0_0 3 6).bind fun t1 => some t1
theorem impl_Ins_asks.ok {a0_0 : Int} {a0_1 : Int} {a0_2 : Int} {a0_3 : Int} {r : Bool} (H : impl_Ins_asks.f a0_0 a0_1 a0_2 a0_3 = some r) : ACalls Try.prog 72 [] [.agg [.lit (.int .i64 a0_0), .lit (.int .i64 a0_1), .lit (.int .i64 a0_2), .lit (.int .i64 a0_3)]] [] (.lit (.bool r)) := by
 refine acalls (fn := Try.f72) (nt := 6) Try.func72 rfl rfl (Nat.le_of_ble_eq_true rfl) fun E hE => ?_
 rw [impl_Ins_asks.f] at H
 refine aw_grp1 ?_
 refine wk_start ?_
 refine kb g0 (bxA 0) ?_
 refine kv g0 (asg) ?_
 refine wk_end ?_
 refine ac_next ?_
 refine aw_grp1 ?_
 refine wk_start ?_
 refine kv g0 (faB 0 0) ?_
 refine kv g0 (ldB) ?_
 obtain ⟨t1, A2, H⟩ := of_bind H
 refine kcS0 5 (.lit (.bool t1)) [] g0 (cal (impl_within.ok A2) [] 9999 .n (hf := Try.func69)) rfl rfl ?_
 refine kv g0 (asg) ?_
 refine wk_end ?_
 refine ac_next ?_
 refine aw_ret ?_
 obtain rfl := Option.some.inj H
 exact acr hE [.tmp 2] (.tmp .nil) (.one _) [] 9999
/-! impl_HalfOk -/
def impl_HalfOk.f (a0 : Int) : Option (Bool) := (impl_within.f a0 0 4294967295).bind fun t1 => some t1
theorem impl_HalfOk.ok {a0 : Int} {r : Bool} (H : impl_HalfOk.f a0 = some r) : ACalls Try.prog 87 [] [.lit (.int .i64 a0)] [] (.lit (.bool r)) := by
 refine acalls (fn := Try.f87) (nt := 5) Try.func87 rfl rfl (Nat.le_of_ble_eq_true rfl) fun E hE => ?_
 rw [impl_HalfOk.f] at H
 refine aw_grp1 ?_
 refine wk_start ?_
 refine kv g0 (asg) ?_
 refine wk_end ?_
 refine ac_next ?_
 refine aw_grp1 ?_
 refine wk_start ?_
 refine kv g0 (mv) ?_
 obtain ⟨t1, A2, H⟩ := of_bind H
 refine kcS0 4 (.lit (.bool t1)) [] g0 (cal (impl_within.ok A2) [] 9999 .n (hf := Try.func69)) rfl rfl ?_
 refine kv g0 (asg) ?_
 refine wk_end ?_
 refine ac_next ?_
 refine aw_ret ?_
 obtain rfl := Option.some.inj H
 exact acr hE [.tmp 2] (.tmp .nil) (.one _) [] 9999
/-! impl_InsOk -/
def impl_InsOk.f (a0_0 : Int) (a0_1 : Int) (a0_2 : Int) (a0_3 : Int) : Option (Bool) := (impl_Ins_asks.f a0_0 a0_1 a0_2 a0_3).bind fun t1 => if t1 = true then ((impl_HalfOk.f a0_1).bind fun t4 => (if t4 = true then ((impl_within.f a0_2 0 15).bind fun t7 => (if t7 = true then ((impl_within.f a0_3 0 15).bind fun t10 => some t10) else some false)) else some false)) else if a0_2 = 0 then if a0_3 = 0 then if a0_0 = 1 then ((impl_within.f a0_1 0 7).bind fun t15 => some t15) else if a0_0 = 7 then ((impl_within.f a0_1 0 399).bind fun t18 => some t18) else if a0_0 = 2 then (impl_HalfOk.f a0_1).bind fun t21 => some t21 else if a0_0 = 8 then ((impl_HalfOk.f a0_1).bind fun t24 => some t24) else some false else some false else some false
theorem impl_InsOk.ok {a0_0 : Int} {a0_1 : Int} {a0_2 : Int} {a0_3 : Int} {r : Bool} (H : impl_InsOk.f a0_0 a0_1 a0_2 a0_3 = some r) : ACalls Try.prog 70 [] [.agg [.lit (.int .i64 a0_0), .lit (.int .i64 a0_1), .lit (.int .i64 a0_2), .lit (.int .i64 a0_3)]] [] (.lit (.bool r)) := by
 refine acalls (fn := Try.f70) (nt := 44) Try.func70 rfl rfl (Nat.le_of_ble_eq_true rfl) fun E hE => ?_
 rw [impl_InsOk.f] at H
 refine aw_grp1 ?_
 refine wk_start ?_
 refine kb g0 (bxA 0) ?_
 refine kv g0 (asg) ?_
 refine wk_end ?_
 refine ac_next ?_
 refine aw_grp1 ?_
 refine aw_grp1 ?_
 refine wk_start ?_
 refine kv g0 (ldBA 4 [.lit (.int .i64 a0_0), .lit (.int .i64 a0_1), .lit (.int .i64 a0_2), .lit (.int .i64 a0_3)]) ?_
 obtain ⟨t1, A2, H⟩ := of_bind H
 refine kcS0 4 (.lit (.bool t1)) [] g0 (cal (impl_Ins_asks.ok A2) [] 9999 .n (hf := Try.func72)) rfl rfl ?_
 refine wk_end ?_
 refine ac_next ?_
 by_cases c3 : t1 = true
 ·rw [if_pos c3] at H
  refine aw_ifT ?_ c3
  refine aw_grp1 ?_
  refine wk_start ?_
  refine kv g0 (faB 1 1) ?_
  refine kv g0 (ldB) ?_
  obtain ⟨t4, A5, H⟩ := of_bind H
  refine kcS0 7 (.lit (.bool t4)) [] g0 (cal (impl_HalfOk.ok A5) [] 9999 .n (hf := Try.func87)) rfl rfl ?_
  refine kv g0 (mv) ?_
  by_cases c6 : t4 = true
  ·rw [if_pos c6] at H
   refine kv (g1 c6) (faB 2 2) ?_
   refine kv (g1 c6) (ldB) ?_
   obtain ⟨t7, A8, H⟩ := of_bind H
   refine kcS0 11 (.lit (.bool t7)) [] (g1 c6) (cal (impl_within.ok A8) [] 9999 .n (hf := Try.func69)) rfl rfl ?_
   refine kv g0 (pkT c6) ?_
   refine kv g0 (mv) ?_
   by_cases c9 : t7 = true
   ·rw [if_pos c9] at H
    refine kv (g1 c9) (faB 3 3) ?_
    refine kv (g1 c9) (ldB) ?_
    obtain ⟨t10, A11, H⟩ := of_bind H
    refine kcS0 16 (.lit (.bool t10)) [] (g1 c9) (cal (impl_within.ok A11) [] 9999 .n (hf := Try.func69)) rfl rfl ?_
    refine kv g0 (pkT c9) ?_
    refine kv g0 (asg) ?_
    refine wk_end ?_
    refine ac_next ?_
    refine aw_ret ?_
    refine ac_thenR ?_
    obtain rfl := Option.some.inj H
    exact acr hE [.tmp 2] (.tmp .nil) (.one _) [] 9999
   rw [if_neg c9] at H
   refine kx (hT (bF c9)) ?_
   refine kx (hT (bF c9)) ?_
   refine kx (hT (bF c9)) ?_
   refine kv g0 (pkF (bF c9)) ?_
   refine kv g0 (asg) ?_
   refine wk_end ?_
   refine ac_next ?_
   refine aw_ret ?_
   refine ac_thenR ?_
   obtain rfl := Option.some.inj H
   exact acr hE [.tmp 2] (.tmp .nil) (.one _) [] 9999
  rw [if_neg c6] at H
  refine kx (hT (bF c6)) ?_
  refine kx (hT (bF c6)) ?_
  refine kx (hT (bF c6)) ?_
  refine kv g0 (pkF (bF c6)) ?_
  refine kv g0 (mv) ?_
  refine kx (hT rfl) ?_
  refine kx (hT rfl) ?_
  refine kx (hT rfl) ?_
  refine kv g0 (pkF rfl) ?_
  refine kv g0 (asg) ?_
  refine wk_end ?_
  refine ac_next ?_
  refine aw_ret ?_
  refine ac_thenR ?_
  obtain rfl := Option.some.inj H
  exact acr hE [.tmp 2] (.tmp .nil) (.one _) [] 9999
 rw [if_neg c3] at H
 refine aw_ifF ?_ (bF c3)
 refine aw_skip ?_
 refine ac_next ?_
 refine aw_grp1 ?_
 refine aw_grp1 ?_
 refine wk_start ?_
 refine kv g0 (faB 2 2) ?_
 refine kv g0 (ldB) ?_
 refine kv g0 (neq) ?_
 refine kv g0 (mv) ?_
 by_cases c12 : a0_2 = 0
 ·rw [if_pos c12] at H
  refine kv (g1 (eM c12)) (faB 3 3) ?_
  refine kv (g1 (eM c12)) (ldB) ?_
  refine kv (g1 (eM c12)) (neq) ?_
  refine kv g0 (pkF (eM c12)) ?_
  refine wk_end ?_
  refine ac_next ?_
  by_cases c13 : a0_3 = 0
  ·rw [if_pos c13] at H
   refine aw_ifF ?_ (eM c13)
   refine aw_skip ?_
   refine ac_next ?_
   refine aw_grp1 ?_
   refine aw_grp1 ?_
   refine wk_start ?_
   refine kv g0 (faB 0 0) ?_
   refine kv g0 (ldB) ?_
   refine wk_end ?_
   refine ac_next ?_
   refine aw_block ?_
   refine aw_grp1 ?_
   refine wk_start ?_
   refine kv g0 (eql) ?_
   refine kv g0 (asg) ?_
   refine wk_end ?_
   refine ac_next ?_
   by_cases c14 : a0_0 = 1
   ·rw [if_pos c14] at H
    refine aw_ifT ?_ (eT c14)
    refine aw_grp1 ?_
    refine wk_start ?_
    refine kv g0 (faB 1 1) ?_
    refine kv g0 (ldB) ?_
    obtain ⟨t15, A16, H⟩ := of_bind H
    refine kcS0 32 (.lit (.bool t15)) [] g0 (cal (impl_within.ok A16) [] 9999 .n (hf := Try.func69)) rfl rfl ?_
    refine kv g0 (asg) ?_
    refine wk_end ?_
    refine ac_next ?_
    refine aw_ret ?_
    refine ac_blkR ?_
    refine ac_thenR ?_
    obtain rfl := Option.some.inj H
    exact acr hE [.tmp 2] (.tmp .nil) (.one _) [] 9999
   rw [if_neg c14] at H
   refine aw_ifF ?_ (eF c14)
   refine aw_grp1 ?_
   refine wk_start ?_
   refine kv g0 (eql) ?_
   refine kv g0 (asg) ?_
   refine wk_end ?_
   refine ac_next ?_
   by_cases c17 : a0_0 = 7
   ·rw [if_pos c17] at H
    refine aw_ifT ?_ (eT c17)
    refine aw_grp1 ?_
    refine wk_start ?_
    refine kv g0 (faB 1 1) ?_
    refine kv g0 (ldB) ?_
    obtain ⟨t18, A19, H⟩ := of_bind H
    refine kcS0 37 (.lit (.bool t18)) [] g0 (cal (impl_within.ok A19) [] 9999 .n (hf := Try.func69)) rfl rfl ?_
    refine kv g0 (asg) ?_
    refine wk_end ?_
    refine ac_next ?_
    refine aw_ret ?_
    refine ac_blkR ?_
    refine ac_thenR ?_
    obtain rfl := Option.some.inj H
    exact acr hE [.tmp 2] (.tmp .nil) (.one _) [] 9999
   rw [if_neg c17] at H
   refine aw_ifF ?_ (eF c17)
   refine aw_grp1 ?_
   refine aw_grp1 ?_
   refine wk_start ?_
   refine kv g0 (eql) ?_
   refine kv g0 (asg) ?_
   refine wk_end ?_
   refine ac_next ?_
   by_cases c20 : a0_0 = 2
   ·rw [if_pos c20] at H
    refine aw_ifT ?_ (eT c20)
    refine aw_skip ?_
    refine ac_next ?_
    refine aw_ifT ?_ (eT c20)
    refine aw_grp1 ?_
    refine wk_start ?_
    refine kv g0 (faB 1 1) ?_
    refine kv g0 (ldB) ?_
    obtain ⟨t21, A22, H⟩ := of_bind H
    refine kcS0 43 (.lit (.bool t21)) [] g0 (cal (impl_HalfOk.ok A22) [] 9999 .n (hf := Try.func87)) rfl rfl ?_
    refine kv g0 (asg) ?_
    refine wk_end ?_
    refine ac_next ?_
    refine aw_ret ?_
    refine ac_blkR ?_
    refine ac_thenR ?_
    obtain rfl := Option.some.inj H
    exact acr hE [.tmp 2] (.tmp .nil) (.one _) [] 9999
   rw [if_neg c20] at H
   refine aw_ifF ?_ (eF c20)
   refine wk_start ?_
   refine kv g0 (eql) ?_
   refine kv g0 (asg) ?_
   refine wk_end ?_
   refine ac_next ?_
   by_cases c23 : a0_0 = 8
   ·rw [if_pos c23] at H
    refine aw_ifT ?_ (eT c23)
    refine aw_grp1 ?_
    refine wk_start ?_
    refine kv g0 (faB 1 1) ?_
    refine kv g0 (ldB) ?_
    obtain ⟨t24, A25, H⟩ := of_bind H
    refine kcS0 43 (.lit (.bool t24)) [] g0 (cal (impl_HalfOk.ok A25) [] 9999 .n (hf := Try.func87)) rfl rfl ?_
    refine kv g0 (asg) ?_
    refine wk_end ?_
    refine ac_next ?_
    refine aw_ret ?_
    refine ac_blkR ?_
    refine ac_thenR ?_
    obtain rfl := Option.some.inj H
    exact acr hE [.tmp 2] (.tmp .nil) (.one _) [] 9999
   rw [if_neg c23] at H
   refine aw_ifF ?_ (eF c23)
   refine aw_skip ?_
   refine ac_blkN ?_
   refine ac_next ?_
   refine aw_grp1 ?_
   refine wk_start ?_
   refine kv g0 (asg) ?_
   refine wk_end ?_
   refine ac_next ?_
   refine aw_ret ?_
   obtain rfl := Option.some.inj H
   exact acr hE [.tmp 2] (.tmp .nil) (.one _) [] 9999
  rw [if_neg c13] at H
  refine aw_ifT ?_ (eN c13)
  refine aw_grp1 ?_
  refine wk_start ?_
  refine kv g0 (asg) ?_
  refine wk_end ?_
  refine ac_next ?_
  refine aw_ret ?_
  refine ac_thenR ?_
  obtain rfl := Option.some.inj H
  exact acr hE [.tmp 2] (.tmp .nil) (.one _) [] 9999
 rw [if_neg c12] at H
 refine kx (hF (eN c12)) ?_
 refine kx (hF (eN c12)) ?_
 refine kx (hF (eN c12)) ?_
 refine kv g0 (pkT (eN c12)) ?_
 refine wk_end ?_
 refine ac_next ?_
 refine aw_ifT ?_ rfl
 refine aw_grp1 ?_
 refine wk_start ?_
 refine kv g0 (asg) ?_
 refine wk_end ?_
 refine ac_next ?_
 refine aw_ret ?_
 refine ac_thenR ?_
 obtain rfl := Option.some.inj H
 exact acr hE [.tmp 2] (.tmp .nil) (.one _) [] 9999
end Go.Proofs.Ytlmpaphlnlgelaa.PFnWaysShort
