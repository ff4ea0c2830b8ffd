import Derived.Test.YtlkcnldfnhclbaaPFnLessx2
set_option linter.unusedVariables false
set_option linter.unusedSimpArgs false
set_option maxRecDepth 100000
namespace Go.Proofs.Ytlkcnldfnhclbaa.PFnLess
open Go Go.RowKit Go.Proofs.YtlkcnldfnhclbaaA
/-! spec_l10Same -/
def spec_l10Same.l0 : Nat → (List Int) → (List Int) → Int → Option (Bool)
 | 0, _, _, _ => none
 | k7 + 1, l0, l1, p6 => if p6 < (l0.length : Int) then if 0 ≤ p6 then (if p6 < (l1.length : Int) then if (rd l0 p6) = (rd l1 p6) then spec_l10Same.l0 k7 l0 l1 (wrap64 (p6 + 1)) else some false else none) else none else some true
def spec_l10Same.f (k : Nat) (l0 : List Int) (l1 : List Int) : Option (Bool) := if (l0.length : Int) = (l1.length : Int) then spec_l10Same.l0 k l0 l1 0 else some false
theorem spec_l10Same.ok {k : Nat} {l0 : List Int} {l1 : List Int} {r : Bool} (H : spec_l10Same.f k l0 l1 = some r) : ACalls Try.prog 49 [] [.sl .o 1 (l0.map (eI .i64)), .sl .o 1 (l1.map (eI .i64))] [] (.lit (.bool r)) := by
 refine acalls (fn := Try.f49) (nt := 26) Try.func49 rfl rfl (Nat.le_of_ble_eq_true rfl) fun E hE => ?_
 rw [spec_l10Same.f] at H
 refine aw_grp1 ?_
 refine wk_start ?_
 refine kv g0 (asg) ?_
 refine wk_end ?_
 refine ac_next ?_
 refine aw_grp1 ?_
 refine aw_grp1 ?_
 refine wk_start ?_
 refine kv g0 (mv) ?_
 refine kv g0 (lnS lenE) ?_
 refine kv g0 (mv) ?_
 refine kv g0 (lnS lenE) ?_
 refine kv g0 (neq) ?_
 refine wk_end ?_
 refine ac_next ?_
 by_cases c1 : (l0.length : Int) = (l1.length : Int)
 ·rw [if_pos c1] at H
  refine aw_ifF ?_ (eM c1)
  refine aw_skip ?_
  refine ac_next ?_
  refine aw_grp1 ?_
  refine aw_grp1 ?_
  refine wk_start ?_
  refine kv g0 (asg) ?_
  refine wk_end ?_
  refine ac_next ?_
  refine aw_block ?_
  refine aw_loop1 (fun (k_ : Nat) (p6 : Int) => k_ ≤ k ∧ spec_l10Same.l0 k_ l0 l1 p6 = some r) (fun (p6 : Int) => ⟨[(0, .sl .o 1 (l0.map (eI .i64))), (1, .sl .o 1 (l1.map (eI .i64))), (5, .lit (.int .i64 p6))], []⟩) k 0 ⟨Nat.le_refl _, H⟩ (fun K_ h_ => acw hE [] 9999 h_) (fun _ => by intro h_; have h_ := h_.2; rw [spec_l10Same.l0.eq_1] at h_; cases h_) ?_
  intro k7 p6 hq_ K12 hK13
  have hk7 := hq_.1
  have H := hq_.2
  clear hq_
  rw [spec_l10Same.l0.eq_2] at H
  refine aw_grp1 ?_
  refine aw_grp1 ?_
  refine wk_start ?_
  refine kv g0 (mv) ?_
  refine kv g0 (mv) ?_
  refine kv g0 (lnS lenE) ?_
  refine kv g0 (lss) ?_
  refine wk_end ?_
  refine ac_next ?_
  by_cases c8 : p6 < (l0.length : Int)
  ·rw [if_pos c8] at H
   refine aw_ifT ?_ (decide_eq_true c8)
   refine aw_skip ?_
   refine ac_next ?_
   refine aw_grp1 ?_
   refine aw_block ?_
   refine aw_grp1 ?_
   refine wk_start ?_
   refine kv g0 (mv) ?_
   refine kv g0 (mv) ?_
   obtain ⟨c9, H⟩ := of_if H
   refine kv g0 (ixS 3 (eI .i64 (rd l0 p6)) c9 (getE (z := (0 : Int)) c9 c8)) ?_
   refine kv g0 (ldR (.lit (.int .i64 (rd l0 p6)))) ?_
   refine kv g0 (mv) ?_
   refine kv g0 (mv) ?_
   obtain ⟨c10, H⟩ := of_if H
   refine kv g0 (ixS 3 (eI .i64 (rd l1 p6)) c9 (getE (z := (0 : Int)) c9 c10)) ?_
   refine kv g0 (ldR (.lit (.int .i64 (rd l1 p6)))) ?_
   refine kv g0 (neq) ?_
   refine wk_end_draw hM (by kernel_rfl) ?_
   refine ac_next ?_
   by_cases c11 : (rd l0 p6) = (rd l1 p6)
   ·rw [if_pos c11] at H
    refine aw_ifF ?_ (eM c11)
    refine aw_skip ?_
    refine ac_blkN ?_
    refine ac_next ?_
    refine wk_start ?_
    refine kv g0 (mv) ?_
    refine kv g0 (add6) ?_
    refine kv g0 (asg) ?_
    refine wk_end ?_
    refine ac_k ?_
    exact acw hE [] 9999 (hK13 k7 (wrap64 (p6 + 1)) (Nat.le_refl _) ⟨by omega, H⟩)
   rw [if_neg c11] at H
   refine aw_ifT ?_ (eN c11)
   refine aw_grp1 ?_
   refine wk_start ?_
   refine kv g0 (asg) ?_
   refine wk_end ?_
   refine ac_next ?_
   refine aw_ret ?_
   refine ac_blkR ?_
   refine ac_thenR ?_
   refine ac_thenR ?_
   refine ac_blkR ?_
   refine ac_thenR ?_
   obtain rfl := Option.some.inj H
   exact acr hE [.tmp 4] (.tmp .nil) (.one _) [] 9999
  rw [if_neg c8] at H
  refine aw_ifF ?_ (decide_eq_false c8)
  refine aw_exit ?_
  refine ac_then ?_
  refine ac_then ?_
  refine ac_hit rfl ?_
  refine ac_next ?_
  refine aw_grp1 ?_
  refine wk_start ?_
  refine kv g0 (asg) ?_
  refine wk_end ?_
  refine ac_next ?_
  refine aw_ret ?_
  obtain rfl := Option.some.inj H
  exact acr hE [.tmp 4] (.tmp .nil) (.one _) [] 9999
 rw [if_neg c1] at H
 refine aw_ifT ?_ (eN c1)
 refine aw_grp1 ?_
 refine wk_start ?_
 refine kv g0 (asg) ?_
 refine wk_end ?_
 refine ac_next ?_
 refine aw_ret ?_
 refine ac_thenR ?_
 obtain rfl := Option.some.inj H
 exact acr hE [.tmp 4] (.tmp .nil) (.one _) [] 9999
/-! spec_SamePolicy -/
mutual
def spec_SamePolicy.l0 : Nat → Int → Int → Int → (List S59) → Int → Int → Int → (List S59) → Int → Int → Option (Bool)
 | 0, _, _, _, _, _, _, _, _, _, _ => none
 | k42 + 1, a0_0, a0_1, a0_2, l0_3, a1_0, a1_1, a1_2, l1_3, p26, p41 => if p41 < (((rd_T59 l0_3 p26).f1).length : Int) then if 0 ≤ p41 then (if p41 < (((rd_T59 l1_3 p26).f1).length : Int) then if (((rd_T71 ((rd_T59 l0_3 p26).f1) p41).f0) == ((rd_T71 ((rd_T59 l1_3 p26).f1) p41).f0) && ((((rd_T71 ((rd_T59 l0_3 p26).f1) p41).f1.f0) == ((rd_T71 ((rd_T59 l1_3 p26).f1) p41).f1.f0) && (((rd_T71 ((rd_T59 l0_3 p26).f1) p41).f1.f1) == ((rd_T71 ((rd_T59 l1_3 p26).f1) p41).f1.f1))) && (((rd_T71 ((rd_T59 l0_3 p26).f1) p41).f2) == ((rd_T71 ((rd_T59 l1_3 p26).f1) p41).f2) && ((((rd_T71 ((rd_T59 l0_3 p26).f1) p41).f3.f0) == ((rd_T71 ((rd_T59 l1_3 p26).f1) p41).f3.f0) && (((rd_T71 ((rd_T59 l0_3 p26).f1) p41).f3.f1) == ((rd_T71 ((rd_T59 l1_3 p26).f1) p41).f3.f1))))))) = true then spec_SamePolicy.l0 k42 a0_0 a0_1 a0_2 l0_3 a1_0 a1_1 a1_2 l1_3 p26 (wrap64 (p41 + 1)) else some false else none) else none else spec_SamePolicy.l1 k42 a0_0 a0_1 a0_2 l0_3 a1_0 a1_1 a1_2 l1_3 (wrap64 (p26 + 1))
def spec_SamePolicy.l1 : Nat → Int → Int → Int → (List S59) → Int → Int → Int → (List S59) → Int → Option (Bool)
 | 0, _, _, _, _, _, _, _, _, _ => none
 | k27 + 1, a0_0, a0_1, a0_2, l0_3, a1_0, a1_1, a1_2, l1_3, p26 => if p26 < (l0_3.length : Int) then if 0 ≤ p26 then if p26 < (l1_3.length : Int) then (spec_l10Same.f k27 ((rd_T59 l0_3 p26).f0) ((rd_T59 l1_3 p26).f0)).bind fun t31 => (if t31 = true then (if ((rd_T59 l0_3 p26).f2) = ((rd_T59 l1_3 p26).f2) then (if ((rd_T59 l0_3 p26).f3) = ((rd_T59 l1_3 p26).f3) then if (((rd_T59 l0_3 p26).f1).length : Int) = (((rd_T59 l1_3 p26).f1).length : Int) then spec_SamePolicy.l0 k27 a0_0 a0_1 a0_2 l0_3 a1_0 a1_1 a1_2 l1_3 p26 0 else some false else some false) else some false) else some false) else none else none else some true
end
def spec_SamePolicy.f (k : Nat) (a0_0 : Int) (a0_1 : Int) (a0_2 : Int) (l0_3 : List S59) (a1_0 : Int) (a1_1 : Int) (a1_2 : Int) (l1_3 : List S59) : Option (Bool) := if a0_0 = a1_0 then (if a0_1 = a1_1 then (if a0_2 = a1_2 then if (l0_3.length : Int) = (l1_3.length : Int) then spec_SamePolicy.l1 k a0_0 a0_1 a0_2 l0_3 a1_0 a1_1 a1_2 l1_3 0 else some false else some false) else some false) else some false
theorem spec_SamePolicy.ok {k : Nat} {a0_0 : Int} {a0_1 : Int} {a0_2 : Int} {l0_3 : List S59} {a1_0 : Int} {a1_1 : Int} {a1_2 : Int} {l1_3 : List S59} {r : Bool} (H : spec_SamePolicy.f k a0_0 a0_1 a0_2 l0_3 a1_0 a1_1 a1_2 l1_3 = some r) : ACalls Try.prog 16 [] [.agg [.lit (.int .i64 a0_0), .lit (.int .i64 a0_1), .lit (.int .i64 a0_2), .sl .o 4 (l0_3.map e59)], .agg [.lit (.int .i64 a1_0), .lit (.int .i64 a1_1), .lit (.int .i64 a1_2), .sl .o 4 (l1_3.map e59)]] [] (.lit (.bool r)) := by
 refine acalls (fn := Try.f16) (nt := 101) Try.func16 rfl rfl (Nat.le_of_ble_eq_true rfl) fun E hE => ?_
 rw [spec_SamePolicy.f] at H
 refine aw_grp1 ?_
 refine wk_start ?_
 refine kb g0 (bxA 0) ?_
 refine kb g0 (bxA 1) ?_
 refine kv g0 (asg) ?_
 refine wk_end ?_
 refine ac_next ?_
 refine aw_grp1 ?_
 refine aw_grp1 ?_
 refine wk_start ?_
 refine kv g0 (faB 0 0) ?_
 refine kv g0 (ldB) ?_
 refine kv g0 (faB 0 0) ?_
 refine kv g0 (ldB) ?_
 refine kv g0 (neq) ?_
 refine kv g0 (mv) ?_
 by_cases c1 : a0_0 = a1_0
 ·rw [if_pos c1] at H
  refine kv (g1 (eM c1)) (faB 1 1) ?_
  refine kv (g1 (eM c1)) (ldB) ?_
  refine kv (g1 (eM c1)) (faB 1 1) ?_
  refine kv (g1 (eM c1)) (ldB) ?_
  refine kv (g1 (eM c1)) (neq) ?_
  refine kv g0 (pkF (eM c1)) ?_
  refine kv g0 (mv) ?_
  by_cases c2 : a0_1 = a1_1
  ·rw [if_pos c2] at H
   refine kv (g1 (eM c2)) (faB 2 2) ?_
   refine kv (g1 (eM c2)) (ldB) ?_
   refine kv (g1 (eM c2)) (faB 2 2) ?_
   refine kv (g1 (eM c2)) (ldB) ?_
   refine kv (g1 (eM c2)) (neq) ?_
   refine kv g0 (pkF (eM c2)) ?_
   refine kv g0 (mv) ?_
   by_cases c3 : a0_2 = a1_2
   ·rw [if_pos c3] at H
    refine kv (g1 (eM c3)) (faB 3 3) ?_
    refine kv (g1 (eM c3)) (ldB) ?_
    refine kv (g1 (eM c3)) (lnS lenE) ?_
    refine kv (g1 (eM c3)) (faB 3 3) ?_
    refine kv (g1 (eM c3)) (ldB) ?_
    refine kv (g1 (eM c3)) (lnS lenE) ?_
    refine kv (g1 (eM c3)) (neq) ?_
    refine kv g0 (pkF (eM c3)) ?_
    refine wk_end ?_
    refine ac_next ?_
    by_cases c4 : (l0_3.length : Int) = (l1_3.length : Int)
    ·rw [if_pos c4] at H
     refine aw_ifF ?_ (eM c4)
     refine aw_skip ?_
     refine ac_next ?_
     refine aw_grp1 ?_
     refine aw_grp1 ?_
     refine wk_start ?_
     refine kv g0 (asg) ?_
     refine wk_end ?_
     refine ac_next ?_
     refine aw_block ?_
     refine aw_loop1 (fun (k_ : Nat) (p26 : Int) => k_ ≤ k ∧ spec_SamePolicy.l1 k_ a0_0 a0_1 a0_2 l0_3 a1_0 a1_1 a1_2 l1_3 p26 = some r) (fun (p26 : Int) => ⟨[(2, .box 0 0), (3, .box 1 0), (5, .lit (.int .i64 p26))], [(0, .box 26 [.lit (.int .i64 a0_0), .lit (.int .i64 a0_1), .lit (.int .i64 a0_2), .sl .o 4 (l0_3.map e59)]), (1, .box 26 [.lit (.int .i64 a1_0), .lit (.int .i64 a1_1), .lit (.int .i64 a1_2), .sl .o 4 (l1_3.map e59)])]⟩) k 0 ⟨Nat.le_refl _, H⟩ (fun K_ h_ => acw hE [(0, 0), (1, 1)] 9999 h_) (fun _ => by intro h_; have h_ := h_.2; rw [spec_SamePolicy.l1.eq_1] at h_; cases h_) ?_
     intro k27 p26 hq_ K49 hK50
     have hk27 := hq_.1
     have H := hq_.2
     clear hq_
     rw [spec_SamePolicy.l1.eq_2] at H
     refine aw_grp1 ?_
     refine aw_grp1 ?_
     refine wk_start ?_
     refine kv g0 (mv) ?_
     refine kv g0 (faB 3 3) ?_
     refine kv g0 (ldB) ?_
     refine kv g0 (lnS lenE) ?_
     refine kv g0 (lss) ?_
     refine wk_end ?_
     refine ac_next ?_
     by_cases c28 : p26 < (l0_3.length : Int)
     ·rw [if_pos c28] at H
      refine aw_ifT ?_ (decide_eq_true c28)
      refine aw_skip ?_
      refine ac_next ?_
      refine aw_grp1 ?_
      refine aw_block ?_
      refine aw_grp1 ?_
      refine wk_start ?_
      refine kv g0 (faB 3 3) ?_
      refine kv g0 (ldB) ?_
      refine kv g0 (mv) ?_
      obtain ⟨c29, H⟩ := of_if H
      refine kv g0 (ixS 59 (e59 (rd_T59 l0_3 p26)) c29 (getE (z := z59) c29 c28)) ?_
      refine kv g0 (ldRA 4 [.sl .o 1 (((rd_T59 l0_3 p26).f0).map (eI .i64)), .sl .o 6 (((rd_T59 l0_3 p26).f1).map e71), .lit (.int .i64 ((rd_T59 l0_3 p26).f2)), .lit (.int .i64 ((rd_T59 l0_3 p26).f3))]) ?_
      refine kb g0 (alc 2 [.slice none 0 0, .slice none 0 0, .int .i64 0, .int .i64 0] [.lit (.slice none 0 0), .lit (.slice none 0 0), .lit (.int .i64 0), .lit (.int .i64 0)]) ?_
      refine ks g0 (stB 4 [.sl .o 1 (((rd_T59 l0_3 p26).f0).map (eI .i64)), .sl .o 6 (((rd_T59 l0_3 p26).f1).map e71), .lit (.int .i64 ((rd_T59 l0_3 p26).f2)), .lit (.int .i64 ((rd_T59 l0_3 p26).f3))]) ?_
      refine wk_end ?_
      refine ac_next ?_
      refine aw_grp1 ?_
      refine wk_start ?_
      refine kv g0 (faB 3 3) ?_
      refine kv g0 (ldB) ?_
      refine kv g0 (mv) ?_
      obtain ⟨c30, H⟩ := of_if H
      refine kv g0 (ixS 59 (e59 (rd_T59 l1_3 p26)) c29 (getE (z := z59) c29 c30)) ?_
      refine kv g0 (ldRA 4 [.sl .o 1 (((rd_T59 l1_3 p26).f0).map (eI .i64)), .sl .o 6 (((rd_T59 l1_3 p26).f1).map e71), .lit (.int .i64 ((rd_T59 l1_3 p26).f2)), .lit (.int .i64 ((rd_T59 l1_3 p26).f3))]) ?_
      refine kb g0 (alc 3 [.slice none 0 0, .slice none 0 0, .int .i64 0, .int .i64 0] [.lit (.slice none 0 0), .lit (.slice none 0 0), .lit (.int .i64 0), .lit (.int .i64 0)]) ?_
      refine ks g0 (stB 4 [.sl .o 1 (((rd_T59 l1_3 p26).f0).map (eI .i64)), .sl .o 6 (((rd_T59 l1_3 p26).f1).map e71), .lit (.int .i64 ((rd_T59 l1_3 p26).f2)), .lit (.int .i64 ((rd_T59 l1_3 p26).f3))]) ?_
      refine wk_end ?_
      refine ac_next ?_
      refine aw_grp1 ?_
      refine aw_grp1 ?_
      refine wk_start ?_
      refine kv g0 (faB 0 0) ?_
      refine kv g0 (ldB) ?_
      refine kv g0 (faB 0 0) ?_
      refine kv g0 (ldB) ?_
      obtain ⟨t31, A32, H⟩ := of_bind H
      refine kcS0 58 (.lit (.bool t31)) [] g0 (cal (spec_l10Same.ok A32) [] 9999 .n (hf := Try.func49)) rfl rfl ?_
      refine kv g0 (not_) ?_
      refine kv g0 (mv) ?_
      by_cases c33 : t31 = true
      ·rw [if_pos c33] at H
       refine kv (g1 (nF c33)) (faB 2 2) ?_
       refine kv (g1 (nF c33)) (ldB) ?_
       refine kv (g1 (nF c33)) (faB 2 2) ?_
       refine kv (g1 (nF c33)) (ldB) ?_
       refine kv (g1 (nF c33)) (neq) ?_
       refine kv g0 (pkF (nF c33)) ?_
       refine kv g0 (mv) ?_
       by_cases c34 : ((rd_T59 l0_3 p26).f2) = ((rd_T59 l1_3 p26).f2)
       ·rw [if_pos c34] at H
        refine kv (g1 (eM c34)) (faB 3 3) ?_
        refine kv (g1 (eM c34)) (ldB) ?_
        refine kv (g1 (eM c34)) (faB 3 3) ?_
        refine kv (g1 (eM c34)) (ldB) ?_
        refine kv (g1 (eM c34)) (neq) ?_
        refine kv g0 (pkF (eM c34)) ?_
        refine kv g0 (mv) ?_
        by_cases c35 : ((rd_T59 l0_3 p26).f3) = ((rd_T59 l1_3 p26).f3)
        ·rw [if_pos c35] at H
         refine kv (g1 (eM c35)) (faB 1 1) ?_
         refine kv (g1 (eM c35)) (ldB) ?_
         refine kv (g1 (eM c35)) (lnS lenE) ?_
         refine kv (g1 (eM c35)) (faB 1 1) ?_
         refine kv (g1 (eM c35)) (ldB) ?_
         refine kv (g1 (eM c35)) (lnS lenE) ?_
         refine kv (g1 (eM c35)) (neq) ?_
         refine kv g0 (pkF (eM c35)) ?_
         refine wk_end ?_
         refine ac_next ?_
         by_cases c36 : (((rd_T59 l0_3 p26).f1).length : Int) = (((rd_T59 l1_3 p26).f1).length : Int)
         ·rw [if_pos c36] at H
          refine aw_ifF ?_ (eM c36)
          refine aw_skip ?_
          refine ac_next ?_
          refine aw_grp1 ?_
          refine wk_start ?_
          refine kv g0 (asg) ?_
          refine wk_end ?_
          refine ac_next ?_
          refine aw_block ?_
          refine aw_loop1 (fun (k_ : Nat) (p41 : Int) => k_ ≤ k27 ∧ spec_SamePolicy.l0 k_ a0_0 a0_1 a0_2 l0_3 a1_0 a1_1 a1_2 l1_3 p26 p41 = some r) (fun (p41 : Int) => ⟨[(2, .box 0 0), (3, .box 1 0), (5, .lit (.int .i64 p26)), (6, .box 2 0), (7, .box 3 0), (8, .lit (.int .i64 p41))], [(0, .box 26 [.lit (.int .i64 a0_0), .lit (.int .i64 a0_1), .lit (.int .i64 a0_2), .sl .o 4 (l0_3.map e59)]), (1, .box 26 [.lit (.int .i64 a1_0), .lit (.int .i64 a1_1), .lit (.int .i64 a1_2), .sl .o 4 (l1_3.map e59)]), (2, .box 59 [.sl .o 1 (((rd_T59 l0_3 p26).f0).map (eI .i64)), .sl .o 6 (((rd_T59 l0_3 p26).f1).map e71), .lit (.int .i64 ((rd_T59 l0_3 p26).f2)), .lit (.int .i64 ((rd_T59 l0_3 p26).f3))]), (3, .box 59 [.sl .o 1 (((rd_T59 l1_3 p26).f0).map (eI .i64)), .sl .o 6 (((rd_T59 l1_3 p26).f1).map e71), .lit (.int .i64 ((rd_T59 l1_3 p26).f2)), .lit (.int .i64 ((rd_T59 l1_3 p26).f3))])]⟩) k27 0 ⟨Nat.le_refl _, H⟩ (fun K_ h_ => acw hE [(0, 0), (1, 1), (2, 2), (3, 3)] 9999 h_) (fun _ => by intro h_; have h_ := h_.2; rw [spec_SamePolicy.l0.eq_1] at h_; cases h_) ?_
          intro k42 p41 hq_ K47 hK48
          have hk42 := hq_.1
          have H := hq_.2
          clear hq_
          rw [spec_SamePolicy.l0.eq_2] at H
          refine aw_grp1 ?_
          refine aw_grp1 ?_
          refine wk_start ?_
          refine kv g0 (mv) ?_
          refine kv g0 (faB 1 1) ?_
          refine kv g0 (ldB) ?_
          refine kv g0 (lnS lenE) ?_
          refine kv g0 (lss) ?_
          refine wk_end ?_
          refine ac_next ?_
          by_cases c43 : p41 < (((rd_T59 l0_3 p26).f1).length : Int)
          ·rw [if_pos c43] at H
           refine aw_ifT ?_ (decide_eq_true c43)
           refine aw_skip ?_
           refine ac_next ?_
           refine aw_grp1 ?_
           refine aw_block ?_
           refine aw_grp1 ?_
           refine wk_start ?_
           refine kv g0 (faB 1 1) ?_
           refine kv g0 (ldB) ?_
           refine kv g0 (mv) ?_
           obtain ⟨c44, H⟩ := of_if H
           refine kv g0 (ixS 71 (e71 (rd_T71 ((rd_T59 l0_3 p26).f1) p41)) c44 (getE (z := z71) c44 c43)) ?_
           refine kv g0 (ldRA 6 [.lit (.int .i64 ((rd_T71 ((rd_T59 l0_3 p26).f1) p41).f0)), .lit (.int .i64 ((rd_T71 ((rd_T59 l0_3 p26).f1) p41).f1.f0)), .lit (.int .i64 ((rd_T71 ((rd_T59 l0_3 p26).f1) p41).f1.f1)), .lit (.int .i64 ((rd_T71 ((rd_T59 l0_3 p26).f1) p41).f2)), .lit (.int .i64 ((rd_T71 ((rd_T59 l0_3 p26).f1) p41).f3.f0)), .lit (.int .i64 ((rd_T71 ((rd_T59 l0_3 p26).f1) p41).f3.f1))]) ?_
           refine kv g0 (faB 1 1) ?_
           refine kv g0 (ldB) ?_
           refine kv g0 (mv) ?_
           obtain ⟨c45, H⟩ := of_if H
           refine kv g0 (ixS 71 (e71 (rd_T71 ((rd_T59 l1_3 p26).f1) p41)) c44 (getE (z := z71) c44 c45)) ?_
           refine kv g0 (ldRA 6 [.lit (.int .i64 ((rd_T71 ((rd_T59 l1_3 p26).f1) p41).f0)), .lit (.int .i64 ((rd_T71 ((rd_T59 l1_3 p26).f1) p41).f1.f0)), .lit (.int .i64 ((rd_T71 ((rd_T59 l1_3 p26).f1) p41).f1.f1)), .lit (.int .i64 ((rd_T71 ((rd_T59 l1_3 p26).f1) p41).f2)), .lit (.int .i64 ((rd_T71 ((rd_T59 l1_3 p26).f1) p41).f3.f0)), .lit (.int .i64 ((rd_T71 ((rd_T59 l1_3 p26).f1) p41).f3.f1))]) ?_
           refine kv g0 (neS (fun w => eq71 _ w ((rd_T71 ((rd_T59 l0_3 p26).f1) p41).f0) ((rd_T71 ((rd_T59 l0_3 p26).f1) p41).f1.f0) ((rd_T71 ((rd_T59 l0_3 p26).f1) p41).f1.f1) ((rd_T71 ((rd_T59 l0_3 p26).f1) p41).f2) ((rd_T71 ((rd_T59 l0_3 p26).f1) p41).f3.f0) ((rd_T71 ((rd_T59 l0_3 p26).f1) p41).f3.f1) ((rd_T71 ((rd_T59 l1_3 p26).f1) p41).f0) ((rd_T71 ((rd_T59 l1_3 p26).f1) p41).f1.f0) ((rd_T71 ((rd_T59 l1_3 p26).f1) p41).f1.f1) ((rd_T71 ((rd_T59 l1_3 p26).f1) p41).f2) ((rd_T71 ((rd_T59 l1_3 p26).f1) p41).f3.f0) ((rd_T71 ((rd_T59 l1_3 p26).f1) p41).f3.f1))) ?_
           refine wk_end_draw hM (by kernel_rfl) ?_
           refine ac_next ?_
           by_cases c46 : (((rd_T71 ((rd_T59 l0_3 p26).f1) p41).f0) == ((rd_T71 ((rd_T59 l1_3 p26).f1) p41).f0) && ((((rd_T71 ((rd_T59 l0_3 p26).f1) p41).f1.f0) == ((rd_T71 ((rd_T59 l1_3 p26).f1) p41).f1.f0) && (((rd_T71 ((rd_T59 l0_3 p26).f1) p41).f1.f1) == ((rd_T71 ((rd_T59 l1_3 p26).f1) p41).f1.f1))) && (((rd_T71 ((rd_T59 l0_3 p26).f1) p41).f2) == ((rd_T71 ((rd_T59 l1_3 p26).f1) p41).f2) && ((((rd_T71 ((rd_T59 l0_3 p26).f1) p41).f3.f0) == ((rd_T71 ((rd_T59 l1_3 p26).f1) p41).f3.f0) && (((rd_T71 ((rd_T59 l0_3 p26).f1) p41).f3.f1) == ((rd_T71 ((rd_T59 l1_3 p26).f1) p41).f3.f1))))))) = true
           ·rw [if_pos c46] at H
            refine aw_ifF ?_ (nF c46)
            refine aw_skip ?_
            refine ac_blkN ?_
            refine ac_next ?_
            refine wk_start ?_
            refine kv g0 (mv) ?_
            refine kv g0 (add6) ?_
            refine kv g0 (asg) ?_
            refine wk_end ?_
            refine ac_k ?_
            exact acw hE [(0, 0), (1, 1), (2, 2), (3, 3)] 9999 (hK48 k42 (wrap64 (p41 + 1)) (Nat.le_refl _) ⟨by omega, H⟩)
           rw [if_neg c46] at H
           refine aw_ifT ?_ (nT (bF c46))
           refine aw_grp1 ?_
           refine wk_start ?_
           refine kv g0 (asg) ?_
           refine wk_end ?_
           refine ac_next ?_
           refine aw_ret ?_
           refine ac_blkR ?_
           refine ac_thenR ?_
           refine ac_thenR ?_
           refine ac_blkR ?_
           refine ac_blkR ?_
           refine ac_thenR ?_
           refine ac_thenR ?_
           refine ac_blkR ?_
           refine ac_thenR ?_
           obtain rfl := Option.some.inj H
           exact acr hE [.tmp 4] (.tmp .nil) (.one _) [] 9999
          rw [if_neg c43] at H
          refine aw_ifF ?_ (decide_eq_false c43)
          refine aw_exit ?_
          refine ac_then ?_
          refine ac_then ?_
          refine ac_hit rfl ?_
          refine ac_blkN ?_
          refine ac_next ?_
          refine wk_start ?_
          refine kv g0 (mv) ?_
          refine kv g0 (add6) ?_
          refine kv g0 (asg) ?_
          refine wk_end ?_
          refine ac_k ?_
          exact acw hE [(0, 0), (1, 1)] 9999 (hK50 k42 (wrap64 (p26 + 1)) (by omega) ⟨by omega, H⟩)
         rw [if_neg c36] at H
         refine aw_ifT ?_ (eN c36)
         refine aw_grp1 ?_
         refine wk_start ?_
         refine kv g0 (asg) ?_
         refine wk_end ?_
         refine ac_next ?_
         refine aw_ret ?_
         refine ac_thenR ?_
         refine ac_blkR ?_
         refine ac_thenR ?_
         refine ac_thenR ?_
         refine ac_blkR ?_
         refine ac_thenR ?_
         obtain rfl := Option.some.inj H
         exact acr hE [.tmp 4] (.tmp .nil) (.one _) [] 9999
        rw [if_neg c35] at H
        refine kx (hF (eN c35)) ?_
        refine kx (hF (eN c35)) ?_
        refine kx (hF (eN c35)) ?_
        refine kx (hF (eN c35)) ?_
        refine kx (hF (eN c35)) ?_
        refine kx (hF (eN c35)) ?_
        refine kx (hF (eN c35)) ?_
        refine kv g0 (pkT (eN c35)) ?_
        refine wk_end ?_
        refine ac_next ?_
        refine aw_ifT ?_ rfl
        refine aw_grp1 ?_
        refine wk_start ?_
        refine kv g0 (asg) ?_
        refine wk_end ?_
        refine ac_next ?_
        refine aw_ret ?_
        refine ac_thenR ?_
        refine ac_blkR ?_
        refine ac_thenR ?_
        refine ac_thenR ?_
        refine ac_blkR ?_
        refine ac_thenR ?_
        obtain rfl := Option.some.inj H
        exact acr hE [.tmp 4] (.tmp .nil) (.one _) [] 9999
       rw [if_neg c34] at H
       refine kx (hF (eN c34)) ?_
       refine kx (hF (eN c34)) ?_
       refine kx (hF (eN c34)) ?_
       refine kx (hF (eN c34)) ?_
       refine kx (hF (eN c34)) ?_
       refine kv g0 (pkT (eN c34)) ?_
       refine kv g0 (mv) ?_
       refine kx (hF rfl) ?_
       refine kx (hF rfl) ?_
       refine kx (hF rfl) ?_
       refine kx (hF rfl) ?_
       refine kx (hF rfl) ?_
       refine kx (hF rfl) ?_
       refine kx (hF rfl) ?_
       refine kv g0 (pkT rfl) ?_
       refine wk_end ?_
       refine ac_next ?_
       refine aw_ifT ?_ rfl
       refine aw_grp1 ?_
       refine wk_start ?_
       refine kv g0 (asg) ?_
       refine wk_end ?_
       refine ac_next ?_
       refine aw_ret ?_
       refine ac_thenR ?_
       refine ac_blkR ?_
       refine ac_thenR ?_
       refine ac_thenR ?_
       refine ac_blkR ?_
       refine ac_thenR ?_
       obtain rfl := Option.some.inj H
       exact acr hE [.tmp 4] (.tmp .nil) (.one _) [] 9999
      rw [if_neg c33] at H
      refine kx (hF (nT (bF c33))) ?_
      refine kx (hF (nT (bF c33))) ?_
      refine kx (hF (nT (bF c33))) ?_
      refine kx (hF (nT (bF c33))) ?_
      refine kx (hF (nT (bF c33))) ?_
      refine kv g0 (pkT (nT (bF c33))) ?_
      refine kv g0 (mv) ?_
      refine kx (hF rfl) ?_
      refine kx (hF rfl) ?_
      refine kx (hF rfl) ?_
      refine kx (hF rfl) ?_
      refine kx (hF rfl) ?_
      refine kv g0 (pkT rfl) ?_
      refine kv g0 (mv) ?_
      refine kx (hF rfl) ?_
      refine kx (hF rfl) ?_
      refine kx (hF rfl) ?_
      refine kx (hF rfl) ?_
      refine kx (hF rfl) ?_
      refine kx (hF rfl) ?_
      refine kx (hF rfl) ?_
      refine kv g0 (pkT rfl) ?_
      refine wk_end ?_
      refine ac_next ?_
      refine aw_ifT ?_ rfl
      refine aw_grp1 ?_
      refine wk_start ?_
      refine kv g0 (asg) ?_
      refine wk_end ?_
      refine ac_next ?_
      refine aw_ret ?_
      refine ac_thenR ?_
      refine ac_blkR ?_
      refine ac_thenR ?_
      refine ac_thenR ?_
      refine ac_blkR ?_
      refine ac_thenR ?_
      obtain rfl := Option.some.inj H
      exact acr hE [.tmp 4] (.tmp .nil) (.one _) [] 9999
     rw [if_neg c28] at H
     refine aw_ifF ?_ (decide_eq_false c28)
     refine aw_exit ?_
     refine ac_then ?_
     refine ac_then ?_
     refine ac_hit rfl ?_
     refine ac_next ?_
     refine aw_grp1 ?_
     refine wk_start ?_
     refine kv g0 (asg) ?_
     refine wk_end ?_
     refine ac_next ?_
     refine aw_ret ?_
     obtain rfl := Option.some.inj H
     exact acr hE [.tmp 4] (.tmp .nil) (.one _) [] 9999
    rw [if_neg c4] at H
    refine aw_ifT ?_ (eN c4)
    refine aw_grp1 ?_
    refine wk_start ?_
    refine kv g0 (asg) ?_
    refine wk_end ?_
    refine ac_next ?_
    refine aw_ret ?_
    refine ac_thenR ?_
    obtain rfl := Option.some.inj H
    exact acr hE [.tmp 4] (.tmp .nil) (.one _) [] 9999
   rw [if_neg c3] at H
   refine kx (hF (eN c3)) ?_
   refine kx (hF (eN c3)) ?_
   refine kx (hF (eN c3)) ?_
   refine kx (hF (eN c3)) ?_
   refine kx (hF (eN c3)) ?_
   refine kx (hF (eN c3)) ?_
   refine kx (hF (eN c3)) ?_
   refine kv g0 (pkT (eN c3)) ?_
   refine wk_end ?_
   refine ac_next ?_
   refine aw_ifT ?_ rfl
   refine aw_grp1 ?_
   refine wk_start ?_
   refine kv g0 (asg) ?_
   refine wk_end ?_
   refine ac_next ?_
   refine aw_ret ?_
   refine ac_thenR ?_
   obtain rfl := Option.some.inj H
   exact acr hE [.tmp 4] (.tmp .nil) (.one _) [] 9999
  rw [if_neg c2] at H
  refine kx (hF (eN c2)) ?_
  refine kx (hF (eN c2)) ?_
  refine kx (hF (eN c2)) ?_
  refine kx (hF (eN c2)) ?_
  refine kx (hF (eN c2)) ?_
  refine kv g0 (pkT (eN c2)) ?_
  refine kv g0 (mv) ?_
  refine kx (hF rfl) ?_
  refine kx (hF rfl) ?_
  refine kx (hF rfl) ?_
  refine kx (hF rfl) ?_
  refine kx (hF rfl) ?_
  refine kx (hF rfl) ?_
  refine kx (hF rfl) ?_
  refine kv g0 (pkT rfl) ?_
  refine wk_end ?_
  refine ac_next ?_
  refine aw_ifT ?_ rfl
  refine aw_grp1 ?_
  refine wk_start ?_
  refine kv g0 (asg) ?_
  refine wk_end ?_
  refine ac_next ?_
  refine aw_ret ?_
  refine ac_thenR ?_
  obtain rfl := Option.some.inj H
  exact acr hE [.tmp 4] (.tmp .nil) (.one _) [] 9999
 rw [if_neg c1] at H
 refine kx (hF (eN c1)) ?_
 refine kx (hF (eN c1)) ?_
 refine kx (hF (eN c1)) ?_
 refine kx (hF (eN c1)) ?_
 refine kx (hF (eN c1)) ?_
 refine kv g0 (pkT (eN c1)) ?_
 refine kv g0 (mv) ?_
 refine kx (hF rfl) ?_
 refine kx (hF rfl) ?_
 refine kx (hF rfl) ?_
 refine kx (hF rfl) ?_
 refine kx (hF rfl) ?_
 refine kv g0 (pkT rfl) ?_
 refine kv g0 (mv) ?_
 refine kx (hF rfl) ?_
 refine kx (hF rfl) ?_
 refine kx (hF rfl) ?_
 refine kx (hF rfl) ?_
 refine kx (hF rfl) ?_
 refine kx (hF rfl) ?_
 refine kx (hF rfl) ?_
 refine kv g0 (pkT rfl) ?_
 refine wk_end ?_
 refine ac_next ?_
 refine aw_ifT ?_ rfl
 refine aw_grp1 ?_
 refine wk_start ?_
 refine kv g0 (asg) ?_
 refine wk_end ?_
 refine ac_next ?_
 refine aw_ret ?_
 refine ac_thenR ?_
 obtain rfl := Option.some.inj H
 exact acr hE [.tmp 4] (.tmp .nil) (.one _) [] 9999
/-! laws_FnLess -/
def laws_FnLess.f (k : Nat) (l0 : List Int) : Option (Bool) := (laws_big.f l0).bind fun t1 => if t1 = true then some true else (spec_DrawTwice.f k l0).bind fun t4 => (spec_Decide.f k t4.1 t4.2.1 t4.2.2.1 t4.2.2.2.1 t4.2.2.2.2.1 t4.2.2.2.2.2.1 t4.2.2.2.2.2.2).bind fun t6 => (impl_Unshadowed.f k t4.1 t4.2.1 t4.2.2.1 t4.2.2.2.1).bind fun t8 => (impl_Lessened.f k t4.1 t4.2.1 t4.2.2.1 t4.2.2.2.1).bind fun t10 => (impl_OnlyFor.f k t4.1 t4.2.1 t4.2.2.1 t4.2.2.2.1 t4.2.2.2.2.2.1).bind fun t12 => (impl_Shadowed.f k t4.1 t4.2.1 t4.2.2.1 t4.2.2.2.1).bind fun t14 => (spec_PolicyOk.f k t10.1 t10.2.1 t10.2.2.1 t10.2.2.2).bind fun t16 => (if t16 = true then ((spec_Decide.f k t8.1 t8.2.1 t8.2.2.1 t8.2.2.2 t4.2.2.2.2.1 t4.2.2.2.2.2.1 t4.2.2.2.2.2.2).bind fun t19 => (if t19 = t6 then ((spec_Decide.f k t10.1 t10.2.1 t10.2.2.1 t10.2.2.2 t4.2.2.2.2.1 t4.2.2.2.2.2.1 t4.2.2.2.2.2.2).bind fun t22 => (if t22 = t6 then ((spec_Decide.f k t12.1 t12.2.1 t12.2.2.1 t12.2.2.2 t4.2.2.2.2.1 t4.2.2.2.2.2.1 t4.2.2.2.2.2.2).bind fun t25 => (if t25 = t6 then (if (wrap64 ((t8.2.2.2.length : Int) + (t14.length : Int))) = (t4.2.2.2.1.length : Int) then (if (t10.2.2.2.length : Int) ≤ (t8.2.2.2.length : Int) then ((impl_Lessened.f k t10.1 t10.2.1 t10.2.2.1 t10.2.2.2).bind fun t30 => ((spec_SamePolicy.f k t30.1 t30.2.1 t30.2.2.1 t30.2.2.2 t10.1 t10.2.1 t10.2.2.1 t10.2.2.2).bind fun t32 => (if t32 = true then ((impl_Unshadowed.f k t8.1 t8.2.1 t8.2.2.1 t8.2.2.2).bind fun t35 => ((spec_SamePolicy.f k t35.1 t35.2.1 t35.2.2.1 t35.2.2.2 t8.1 t8.2.1 t8.2.2.1 t8.2.2.2).bind fun t37 => (if t37 = true then ((impl_Shadowed.f k t8.1 t8.2.1 t8.2.2.1 t8.2.2.2).bind fun t40 => some ((t40.length : Int) == 0)) else some false))) else some false))) else some false) else some false) else some false)) else some false)) else some false)) else some false)
theorem laws_FnLess.ok {k : Nat} {l0 : List Int} {r : Bool} (H : laws_FnLess.f k l0 = some r) : ACalls Try.prog 3 [] [.sl .o 1 (l0.map (eI .u8))] [] (.lit (.bool r)) := by
 refine acalls (fn := Try.f3) (nt := 92) Try.func3 rfl rfl (Nat.le_of_ble_eq_true rfl) fun E hE => ?_
 rw [laws_FnLess.f] at H
 refine aw_grp1 ?_
 refine wk_start ?_
 refine kv g0 (asg) ?_
 refine wk_end ?_
 refine ac_next ?_
 refine aw_grp1 ?_
 refine aw_grp1 ?_
 refine wk_start ?_
 refine kv g0 (mv) ?_
 obtain ⟨t1, A2, H⟩ := of_bind H
 refine kcS0 11 (.lit (.bool t1)) [] g0 (cal (laws_big.ok A2) [] 9999 .n (hf := Try.func8)) rfl rfl ?_
 refine wk_end ?_
 refine ac_next ?_
 by_cases c3 : t1 = true
 ·rw [if_pos c3] at H
  refine aw_ifT ?_ c3
  refine aw_grp1 ?_
  refine wk_start ?_
  refine kv g0 (asg) ?_
  refine wk_end ?_
  refine ac_next ?_
  refine aw_ret ?_
  refine ac_thenR ?_
  obtain rfl := Option.some.inj H
  exact acr hE [.tmp 2] (.tmp .nil) (.one _) [] 9999
 rw [if_neg c3] at H
 refine aw_ifF ?_ (bF c3)
 refine aw_skip ?_
 refine ac_next ?_
 refine aw_grp1 ?_
 refine wk_start ?_
 refine kv g0 (mv) ?_
 obtain ⟨t4, A5, H⟩ := of_bind H
 refine kcS2 14 (.tup [.agg [.lit (.int .i64 t4.1), .lit (.int .i64 t4.2.1), .lit (.int .i64 t4.2.2.1), .row 0], .agg [.lit (.int .i64 t4.2.2.2.2.1), .lit (.int .i64 t4.2.2.2.2.2.1), .row 1]]) [(0, .row 59 4 (t4.2.2.2.1.map e59)), (1, .row 69 2 (t4.2.2.2.2.2.2.map e69))] g0 (cal (spec_DrawTwice.ok A5) [0, 1] 9999 .n (hf := Try.func9)) rfl rfl ?_
 refine kv g0 (mv) ?_
 refine kv g0 (ext) ?_
 refine kv g0 (ext) ?_
 refine kb g0 (alc 2 [.int .i64 0, .int .i64 0, .int .i64 0, .slice none 0 0] [.lit (.int .i64 0), .lit (.int .i64 0), .lit (.int .i64 0), .lit (.slice none 0 0)]) ?_
 refine kb g0 (alc 3 [.int .i64 0, .int .i64 0, .slice none 0 0] [.lit (.int .i64 0), .lit (.int .i64 0), .lit (.slice none 0 0)]) ?_
 refine ks g0 (stB 4 [.lit (.int .i64 t4.1), .lit (.int .i64 t4.2.1), .lit (.int .i64 t4.2.2.1), .row 0]) ?_
 refine ks g0 (stB 3 [.lit (.int .i64 t4.2.2.2.2.1), .lit (.int .i64 t4.2.2.2.2.2.1), .row 1]) ?_
 refine wk_end ?_
 refine ac_next ?_
 refine aw_grp1 ?_
 refine wk_start ?_
 refine kv g0 (ldBA 4 [.lit (.int .i64 t4.1), .lit (.int .i64 t4.2.1), .lit (.int .i64 t4.2.2.1), .row 0]) ?_
 refine kv g0 (ldBA 3 [.lit (.int .i64 t4.2.2.2.2.1), .lit (.int .i64 t4.2.2.2.2.2.1), .row 1]) ?_
 obtain ⟨t6, A7, H⟩ := of_bind H
 refine kcS0 19 (.lit (.int .i64 t6)) [] g0 (cal (spec_Decide.ok A7) [] 9999 .n (hf := Try.func10)) rfl rfl ?_
 refine kv g0 (asg) ?_
 refine wk_end ?_
 refine ac_next ?_
 refine aw_grp1 ?_
 refine wk_start ?_
 refine kv g0 (ldBA 4 [.lit (.int .i64 t4.1), .lit (.int .i64 t4.2.1), .lit (.int .i64 t4.2.2.1), .row 0]) ?_
 obtain ⟨t8, A9, H⟩ := of_bind H
 refine kcS1 21 (.agg [.lit (.int .i64 t8.1), .lit (.int .i64 t8.2.1), .lit (.int .i64 t8.2.2.1), .row 4]) [(4, .row 59 4 (t8.2.2.2.map e59))] g0 (cal (impl_Unshadowed.ok A9) [4] 9999 .n (hf := Try.func11)) rfl rfl ?_
 refine kb g0 (alc 5 [.int .i64 0, .int .i64 0, .int .i64 0, .slice none 0 0] [.lit (.int .i64 0), .lit (.int .i64 0), .lit (.int .i64 0), .lit (.slice none 0 0)]) ?_
 refine ks g0 (stB 4 [.lit (.int .i64 t8.1), .lit (.int .i64 t8.2.1), .lit (.int .i64 t8.2.2.1), .row 4]) ?_
 refine wk_end ?_
 refine ac_next ?_
 refine aw_grp1 ?_
 refine wk_start ?_
 refine kv g0 (ldBA 4 [.lit (.int .i64 t4.1), .lit (.int .i64 t4.2.1), .lit (.int .i64 t4.2.2.1), .row 0]) ?_
 obtain ⟨t10, A11, H⟩ := of_bind H
 refine kcS1 23 (.agg [.lit (.int .i64 t10.1), .lit (.int .i64 t10.2.1), .lit (.int .i64 t10.2.2.1), .row 6]) [(6, .row 59 4 (t10.2.2.2.map e59))] g0 (cal (impl_Lessened.ok A11) [6] 9999 .n (hf := Try.func12)) rfl rfl ?_
 refine kb g0 (alc 7 [.int .i64 0, .int .i64 0, .int .i64 0, .slice none 0 0] [.lit (.int .i64 0), .lit (.int .i64 0), .lit (.int .i64 0), .lit (.slice none 0 0)]) ?_
 refine ks g0 (stB 4 [.lit (.int .i64 t10.1), .lit (.int .i64 t10.2.1), .lit (.int .i64 t10.2.2.1), .row 6]) ?_
 refine wk_end ?_
 refine ac_next ?_
 refine aw_grp1 ?_
 refine wk_start ?_
 refine kv g0 (ldBA 4 [.lit (.int .i64 t4.1), .lit (.int .i64 t4.2.1), .lit (.int .i64 t4.2.2.1), .row 0]) ?_
 refine kv g0 (faB 1 1) ?_
 refine kv g0 (ldB) ?_
 obtain ⟨t12, A13, H⟩ := of_bind H
 refine kcS1 27 (.agg [.lit (.int .i64 t12.1), .lit (.int .i64 t12.2.1), .lit (.int .i64 t12.2.2.1), .row 8]) [(8, .row 59 4 (t12.2.2.2.map e59))] g0 (cal (impl_OnlyFor.ok A13) [8] 9999 .n (hf := Try.func13)) rfl rfl ?_
 refine kb g0 (alc 9 [.int .i64 0, .int .i64 0, .int .i64 0, .slice none 0 0] [.lit (.int .i64 0), .lit (.int .i64 0), .lit (.int .i64 0), .lit (.slice none 0 0)]) ?_
 refine ks g0 (stB 4 [.lit (.int .i64 t12.1), .lit (.int .i64 t12.2.1), .lit (.int .i64 t12.2.2.1), .row 8]) ?_
 refine wk_end ?_
 refine ac_next ?_
 refine aw_grp1 ?_
 refine wk_start ?_
 refine kv g0 (ldBA 4 [.lit (.int .i64 t4.1), .lit (.int .i64 t4.2.1), .lit (.int .i64 t4.2.2.1), .row 0]) ?_
 obtain ⟨t14, A15, H⟩ := of_bind H
 refine kcS1 29 (.row 10) [(10, .row 3 1 (t14.map (eI .i64)))] g0 (cal (impl_Shadowed.ok A15) [10] 9999 .n (hf := Try.func14)) rfl rfl ?_
 refine kv g0 (lnR lenE) ?_
 refine kv g0 (asg) ?_
 refine wk_end ?_
 refine ac_next ?_
 refine aw_grp1 ?_
 refine wk_start ?_
 refine kv g0 (ldBA 4 [.lit (.int .i64 t10.1), .lit (.int .i64 t10.2.1), .lit (.int .i64 t10.2.2.1), .row 6]) ?_
 obtain ⟨t16, A17, H⟩ := of_bind H
 refine kcS0 32 (.lit (.bool t16)) [] g0 (cal (spec_PolicyOk.ok A17) [] 9999 .n (hf := Try.func15)) rfl rfl ?_
 refine kv g0 (mv) ?_
 by_cases c18 : t16 = true
 ·rw [if_pos c18] at H
  refine kv (g1 c18) (ldBA 4 [.lit (.int .i64 t8.1), .lit (.int .i64 t8.2.1), .lit (.int .i64 t8.2.2.1), .row 4]) ?_
  refine kv (g1 c18) (ldBA 3 [.lit (.int .i64 t4.2.2.2.2.1), .lit (.int .i64 t4.2.2.2.2.2.1), .row 1]) ?_
  obtain ⟨t19, A20, H⟩ := of_bind H
  refine kcS0 36 (.lit (.int .i64 t19)) [] (g1 c18) (cal (spec_Decide.ok A20) [] 9999 .n (hf := Try.func10)) rfl rfl ?_
  refine kv (g1 c18) (mv) ?_
  refine kv (g1 c18) (eql) ?_
  refine kv g0 (pkT c18) ?_
  refine kv g0 (mv) ?_
  by_cases c21 : t19 = t6
  ·rw [if_pos c21] at H
   refine kv (g1 (eT c21)) (ldBA 4 [.lit (.int .i64 t10.1), .lit (.int .i64 t10.2.1), .lit (.int .i64 t10.2.2.1), .row 6]) ?_
   refine kv (g1 (eT c21)) (ldBA 3 [.lit (.int .i64 t4.2.2.2.2.1), .lit (.int .i64 t4.2.2.2.2.2.1), .row 1]) ?_
   obtain ⟨t22, A23, H⟩ := of_bind H
   refine kcS0 43 (.lit (.int .i64 t22)) [] (g1 (eT c21)) (cal (spec_Decide.ok A23) [] 9999 .n (hf := Try.func10)) rfl rfl ?_
   refine kv (g1 (eT c21)) (mv) ?_
   refine kv (g1 (eT c21)) (eql) ?_
   refine kv g0 (pkT (eT c21)) ?_
   refine kv g0 (mv) ?_
   by_cases c24 : t22 = t6
   ·rw [if_pos c24] at H
    refine kv (g1 (eT c24)) (ldBA 4 [.lit (.int .i64 t12.1), .lit (.int .i64 t12.2.1), .lit (.int .i64 t12.2.2.1), .row 8]) ?_
    refine kv (g1 (eT c24)) (ldBA 3 [.lit (.int .i64 t4.2.2.2.2.1), .lit (.int .i64 t4.2.2.2.2.2.1), .row 1]) ?_
    obtain ⟨t25, A26, H⟩ := of_bind H
    refine kcS0 50 (.lit (.int .i64 t25)) [] (g1 (eT c24)) (cal (spec_Decide.ok A26) [] 9999 .n (hf := Try.func10)) rfl rfl ?_
    refine kv (g1 (eT c24)) (mv) ?_
    refine kv (g1 (eT c24)) (eql) ?_
    refine kv g0 (pkT (eT c24)) ?_
    refine kv g0 (mv) ?_
    by_cases c27 : t25 = t6
    ·rw [if_pos c27] at H
     refine kv (g1 (eT c27)) (faB 3 3) ?_
     refine kv (g1 (eT c27)) (ldB) ?_
     refine kv (g1 (eT c27)) (lnR lenE) ?_
     refine kv (g1 (eT c27)) (mv) ?_
     refine kv (g1 (eT c27)) (add6) ?_
     refine kv (g1 (eT c27)) (faB 3 3) ?_
     refine kv (g1 (eT c27)) (ldB) ?_
     refine kv (g1 (eT c27)) (lnR lenE) ?_
     refine kv (g1 (eT c27)) (eql) ?_
     refine kv g0 (pkT (eT c27)) ?_
     refine kv g0 (mv) ?_
     by_cases c28 : (wrap64 ((t8.2.2.2.length : Int) + (t14.length : Int))) = (t4.2.2.2.1.length : Int)
     ·rw [if_pos c28] at H
      refine kv (g1 (eT c28)) (faB 3 3) ?_
      refine kv (g1 (eT c28)) (ldB) ?_
      refine kv (g1 (eT c28)) (lnR lenE) ?_
      refine kv (g1 (eT c28)) (faB 3 3) ?_
      refine kv (g1 (eT c28)) (ldB) ?_
      refine kv (g1 (eT c28)) (lnR lenE) ?_
      refine kv (g1 (eT c28)) (leq) ?_
      refine kv g0 (pkT (eT c28)) ?_
      refine kv g0 (mv) ?_
      by_cases c29 : (t10.2.2.2.length : Int) ≤ (t8.2.2.2.length : Int)
      ·rw [if_pos c29] at H
       refine kv (g1 (decide_eq_true c29)) (ldBA 4 [.lit (.int .i64 t10.1), .lit (.int .i64 t10.2.1), .lit (.int .i64 t10.2.2.1), .row 6]) ?_
       obtain ⟨t30, A31, H⟩ := of_bind H
       refine kcS1 76 (.agg [.lit (.int .i64 t30.1), .lit (.int .i64 t30.2.1), .lit (.int .i64 t30.2.2.1), .row 11]) [(11, .row 59 4 (t30.2.2.2.map e59))] (g1 (decide_eq_true c29)) (cal (impl_Lessened.ok A31) [11] 9999 .n (hf := Try.func12)) rfl rfl ?_
       refine kv (g1 (decide_eq_true c29)) (ldBA 4 [.lit (.int .i64 t10.1), .lit (.int .i64 t10.2.1), .lit (.int .i64 t10.2.2.1), .row 6]) ?_
       obtain ⟨t32, A33, H⟩ := of_bind H
       refine kcS0 78 (.lit (.bool t32)) [] (g1 (decide_eq_true c29)) (cal (spec_SamePolicy.ok A33) [] 9999 .n (hf := Try.func16)) rfl rfl ?_
       refine kv g0 (pkT (decide_eq_true c29)) ?_
       refine kv g0 (mv) ?_
       by_cases c34 : t32 = true
       ·rw [if_pos c34] at H
        refine kv (g1 c34) (ldBA 4 [.lit (.int .i64 t8.1), .lit (.int .i64 t8.2.1), .lit (.int .i64 t8.2.2.1), .row 4]) ?_
        obtain ⟨t35, A36, H⟩ := of_bind H
        refine kcS1 82 (.agg [.lit (.int .i64 t35.1), .lit (.int .i64 t35.2.1), .lit (.int .i64 t35.2.2.1), .row 12]) [(12, .row 59 4 (t35.2.2.2.map e59))] (g1 c34) (cal (impl_Unshadowed.ok A36) [12] 9999 .n (hf := Try.func11)) rfl rfl ?_
        refine kv (g1 c34) (ldBA 4 [.lit (.int .i64 t8.1), .lit (.int .i64 t8.2.1), .lit (.int .i64 t8.2.2.1), .row 4]) ?_
        obtain ⟨t37, A38, H⟩ := of_bind H
        refine kcS0 84 (.lit (.bool t37)) [] (g1 c34) (cal (spec_SamePolicy.ok A38) [] 9999 .n (hf := Try.func16)) rfl rfl ?_
        refine kv g0 (pkT c34) ?_
        refine kv g0 (mv) ?_
        by_cases c39 : t37 = true
        ·rw [if_pos c39] at H
         refine kv (g1 c39) (ldBA 4 [.lit (.int .i64 t8.1), .lit (.int .i64 t8.2.1), .lit (.int .i64 t8.2.2.1), .row 4]) ?_
         obtain ⟨t40, A41, H⟩ := of_bind H
         refine kcS1 88 (.row 13) [(13, .row 3 1 (t40.map (eI .i64)))] (g1 c39) (cal (impl_Shadowed.ok A41) [13] 9999 .n (hf := Try.func14)) rfl rfl ?_
         refine kv (g1 c39) (lnR lenE) ?_
         refine kv (g1 c39) (eql) ?_
         refine kv g0 (pkT c39) ?_
         refine kv g0 (asg) ?_
         refine wk_end_draw hM (by kernel_rfl) ?_
         refine ac_next ?_
         refine aw_ret ?_
         obtain rfl := Option.some.inj H
         exact acr hE [.tmp 2] (.tmp .nil) (.one _) [] 9999
        rw [if_neg c39] at H
        refine kx (hT (bF c39)) ?_
        refine kx (hT (bF c39)) ?_
        refine kx (hT (bF c39)) ?_
        refine kx (hT (bF c39)) ?_
        refine kv g0 (pkF (bF c39)) ?_
        refine kv g0 (asg) ?_
        refine wk_end_draw hM (by kernel_rfl) ?_
        refine ac_next ?_
        refine aw_ret ?_
        obtain rfl := Option.some.inj H
        exact acr hE [.tmp 2] (.tmp .nil) (.one _) [] 9999
       rw [if_neg c34] at H
       refine kx (hT (bF c34)) ?_
       refine kx (hT (bF c34)) ?_
       refine kx (hT (bF c34)) ?_
       refine kx (hT (bF c34)) ?_
       refine kv g0 (pkF (bF c34)) ?_
       refine kv g0 (mv) ?_
       refine kx (hT rfl) ?_
       refine kx (hT rfl) ?_
       refine kx (hT rfl) ?_
       refine kx (hT rfl) ?_
       refine kv g0 (pkF rfl) ?_
       refine kv g0 (asg) ?_
       refine wk_end_draw hM (by kernel_rfl) ?_
       refine ac_next ?_
       refine aw_ret ?_
       obtain rfl := Option.some.inj H
       exact acr hE [.tmp 2] (.tmp .nil) (.one _) [] 9999
      rw [if_neg c29] at H
      refine kx (hT (decide_eq_false c29)) ?_
      refine kx (hT (decide_eq_false c29)) ?_
      refine kx (hT (decide_eq_false c29)) ?_
      refine kx (hT (decide_eq_false c29)) ?_
      refine kv g0 (pkF (decide_eq_false c29)) ?_
      refine kv g0 (mv) ?_
      refine kx (hT rfl) ?_
      refine kx (hT rfl) ?_
      refine kx (hT rfl) ?_
      refine kx (hT rfl) ?_
      refine kv g0 (pkF rfl) ?_
      refine kv g0 (mv) ?_
      refine kx (hT rfl) ?_
      refine kx (hT rfl) ?_
      refine kx (hT rfl) ?_
      refine kx (hT rfl) ?_
      refine kv g0 (pkF rfl) ?_
      refine kv g0 (asg) ?_
      refine wk_end_draw hM (by kernel_rfl) ?_
      refine ac_next ?_
      refine aw_ret ?_
      obtain rfl := Option.some.inj H
      exact acr hE [.tmp 2] (.tmp .nil) (.one _) [] 9999
     rw [if_neg c28] at H
     refine kx (hT (eF c28)) ?_
     refine kx (hT (eF c28)) ?_
     refine kx (hT (eF c28)) ?_
     refine kx (hT (eF c28)) ?_
     refine kx (hT (eF c28)) ?_
     refine kx (hT (eF c28)) ?_
     refine kx (hT (eF c28)) ?_
     refine kv g0 (pkF (eF c28)) ?_
     refine kv g0 (mv) ?_
     refine kx (hT rfl) ?_
     refine kx (hT rfl) ?_
     refine kx (hT rfl) ?_
     refine kx (hT rfl) ?_
     refine kv g0 (pkF rfl) ?_
     refine kv g0 (mv) ?_
     refine kx (hT rfl) ?_
     refine kx (hT rfl) ?_
     refine kx (hT rfl) ?_
     refine kx (hT rfl) ?_
     refine kv g0 (pkF rfl) ?_
     refine kv g0 (mv) ?_
     refine kx (hT rfl) ?_
     refine kx (hT rfl) ?_
     refine kx (hT rfl) ?_
     refine kx (hT rfl) ?_
     refine kv g0 (pkF rfl) ?_
     refine kv g0 (asg) ?_
     refine wk_end_draw hM (by kernel_rfl) ?_
     refine ac_next ?_
     refine aw_ret ?_
     obtain rfl := Option.some.inj H
     exact acr hE [.tmp 2] (.tmp .nil) (.one _) [] 9999
    rw [if_neg c27] at H
    refine kx (hT (eF c27)) ?_
    refine kx (hT (eF c27)) ?_
    refine kx (hT (eF c27)) ?_
    refine kx (hT (eF c27)) ?_
    refine kx (hT (eF c27)) ?_
    refine kx (hT (eF c27)) ?_
    refine kx (hT (eF c27)) ?_
    refine kx (hT (eF c27)) ?_
    refine kx (hT (eF c27)) ?_
    refine kv g0 (pkF (eF c27)) ?_
    refine kv g0 (mv) ?_
    refine kx (hT rfl) ?_
    refine kx (hT rfl) ?_
    refine kx (hT rfl) ?_
    refine kx (hT rfl) ?_
    refine kx (hT rfl) ?_
    refine kx (hT rfl) ?_
    refine kx (hT rfl) ?_
    refine kv g0 (pkF rfl) ?_
    refine kv g0 (mv) ?_
    refine kx (hT rfl) ?_
    refine kx (hT rfl) ?_
    refine kx (hT rfl) ?_
    refine kx (hT rfl) ?_
    refine kv g0 (pkF rfl) ?_
    refine kv g0 (mv) ?_
    refine kx (hT rfl) ?_
    refine kx (hT rfl) ?_
    refine kx (hT rfl) ?_
    refine kx (hT rfl) ?_
    refine kv g0 (pkF rfl) ?_
    refine kv g0 (mv) ?_
    refine kx (hT rfl) ?_
    refine kx (hT rfl) ?_
    refine kx (hT rfl) ?_
    refine kx (hT rfl) ?_
    refine kv g0 (pkF rfl) ?_
    refine kv g0 (asg) ?_
    refine wk_end_draw hM (by kernel_rfl) ?_
    refine ac_next ?_
    refine aw_ret ?_
    obtain rfl := Option.some.inj H
    exact acr hE [.tmp 2] (.tmp .nil) (.one _) [] 9999
   rw [if_neg c24] at H
   refine kx (hT (eF c24)) ?_
   refine kx (hT (eF c24)) ?_
   refine kx (hT (eF c24)) ?_
   refine kx (hT (eF c24)) ?_
   refine kx (hT (eF c24)) ?_
   refine kv g0 (pkF (eF c24)) ?_
   refine kv g0 (mv) ?_
   refine kx (hT rfl) ?_
   refine kx (hT rfl) ?_
   refine kx (hT rfl) ?_
   refine kx (hT rfl) ?_
   refine kx (hT rfl) ?_
   refine kx (hT rfl) ?_
   refine kx (hT rfl) ?_
   refine kx (hT rfl) ?_
   refine kx (hT rfl) ?_
   refine kv g0 (pkF rfl) ?_
   refine kv g0 (mv) ?_
   refine kx (hT rfl) ?_
   refine kx (hT rfl) ?_
   refine kx (hT rfl) ?_
   refine kx (hT rfl) ?_
   refine kx (hT rfl) ?_
   refine kx (hT rfl) ?_
   refine kx (hT rfl) ?_
   refine kv g0 (pkF rfl) ?_
   refine kv g0 (mv) ?_
   refine kx (hT rfl) ?_
   refine kx (hT rfl) ?_
   refine kx (hT rfl) ?_
   refine kx (hT rfl) ?_
   refine kv g0 (pkF rfl) ?_
   refine kv g0 (mv) ?_
   refine kx (hT rfl) ?_
   refine kx (hT rfl) ?_
   refine kx (hT rfl) ?_
   refine kx (hT rfl) ?_
   refine kv g0 (pkF rfl) ?_
   refine kv g0 (mv) ?_
   refine kx (hT rfl) ?_
   refine kx (hT rfl) ?_
   refine kx (hT rfl) ?_
   refine kx (hT rfl) ?_
   refine kv g0 (pkF rfl) ?_
   refine kv g0 (asg) ?_
   refine wk_end_draw hM (by kernel_rfl) ?_
   refine ac_next ?_
   refine aw_ret ?_
   obtain rfl := Option.some.inj H
   exact acr hE [.tmp 2] (.tmp .nil) (.one _) [] 9999
  rw [if_neg c21] at H
  refine kx (hT (eF c21)) ?_
  refine kx (hT (eF c21)) ?_
  refine kx (hT (eF c21)) ?_
  refine kx (hT (eF c21)) ?_
  refine kx (hT (eF c21)) ?_
  refine kv g0 (pkF (eF c21)) ?_
  refine kv g0 (mv) ?_
  refine kx (hT rfl) ?_
  refine kx (hT rfl) ?_
  refine kx (hT rfl) ?_
  refine kx (hT rfl) ?_
  refine kx (hT rfl) ?_
  refine kv g0 (pkF rfl) ?_
  refine kv g0 (mv) ?_
  refine kx (hT rfl) ?_
  refine kx (hT rfl) ?_
  refine kx (hT rfl) ?_
  refine kx (hT rfl) ?_
  refine kx (hT rfl) ?_
  refine kx (hT rfl) ?_
  refine kx (hT rfl) ?_
  refine kx (hT rfl) ?_
  refine kx (hT rfl) ?_
  refine kv g0 (pkF rfl) ?_
  refine kv g0 (mv) ?_
  refine kx (hT rfl) ?_
  refine kx (hT rfl) ?_
  refine kx (hT rfl) ?_
  refine kx (hT rfl) ?_
  refine kx (hT rfl) ?_
  refine kx (hT rfl) ?_
  refine kx (hT rfl) ?_
  refine kv g0 (pkF rfl) ?_
  refine kv g0 (mv) ?_
  refine kx (hT rfl) ?_
  refine kx (hT rfl) ?_
  refine kx (hT rfl) ?_
  refine kx (hT rfl) ?_
  refine kv g0 (pkF rfl) ?_
  refine kv g0 (mv) ?_
  refine kx (hT rfl) ?_
  refine kx (hT rfl) ?_
  refine kx (hT rfl) ?_
  refine kx (hT rfl) ?_
  refine kv g0 (pkF rfl) ?_
  refine kv g0 (mv) ?_
  refine kx (hT rfl) ?_
  refine kx (hT rfl) ?_
  refine kx (hT rfl) ?_
  refine kx (hT rfl) ?_
  refine kv g0 (pkF rfl) ?_
  refine kv g0 (asg) ?_
  refine wk_end_draw hM (by kernel_rfl) ?_
  refine ac_next ?_
  refine aw_ret ?_
  obtain rfl := Option.some.inj H
  exact acr hE [.tmp 2] (.tmp .nil) (.one _) [] 9999
 rw [if_neg c18] at H
 refine kx (hT (bF c18)) ?_
 refine kx (hT (bF c18)) ?_
 refine kx (hT (bF c18)) ?_
 refine kx (hT (bF c18)) ?_
 refine kx (hT (bF c18)) ?_
 refine kv g0 (pkF (bF c18)) ?_
 refine kv g0 (mv) ?_
 refine kx (hT rfl) ?_
 refine kx (hT rfl) ?_
 refine kx (hT rfl) ?_
 refine kx (hT rfl) ?_
 refine kx (hT rfl) ?_
 refine kv g0 (pkF rfl) ?_
 refine kv g0 (mv) ?_
 refine kx (hT rfl) ?_
 refine kx (hT rfl) ?_
 refine kx (hT rfl) ?_
 refine kx (hT rfl) ?_
 refine kx (hT rfl) ?_
 refine kv g0 (pkF rfl) ?_
 refine kv g0 (mv) ?_
 refine kx (hT rfl) ?_
 refine kx (hT rfl) ?_
 refine kx (hT rfl) ?_
 refine kx (hT rfl) ?_
 refine kx (hT rfl) ?_
 refine kx (hT rfl) ?_
 refine kx (hT rfl) ?_
 refine kx (hT rfl) ?_
 refine kx (hT rfl) ?_
 refine kv g0 (pkF rfl) ?_
 refine kv g0 (mv) ?_
 refine kx (hT rfl) ?_
 refine kx (hT rfl) ?_
 refine kx (hT rfl) ?_
 refine kx (hT rfl) ?_
 refine kx (hT rfl) ?_
 refine kx (hT rfl) ?_
 refine kx (hT rfl) ?_
 refine kv g0 (pkF rfl) ?_
 refine kv g0 (mv) ?_
 refine kx (hT rfl) ?_
 refine kx (hT rfl) ?_
 refine kx (hT rfl) ?_
 refine kx (hT rfl) ?_
 refine kv g0 (pkF rfl) ?_
 refine kv g0 (mv) ?_
 refine kx (hT rfl) ?_
 refine kx (hT rfl) ?_
 refine kx (hT rfl) ?_
 refine kx (hT rfl) ?_
 refine kv g0 (pkF rfl) ?_
 refine kv g0 (mv) ?_
 refine kx (hT rfl) ?_
 refine kx (hT rfl) ?_
 refine kx (hT rfl) ?_
 refine kx (hT rfl) ?_
 refine kv g0 (pkF rfl) ?_
 refine kv g0 (asg) ?_
 refine wk_end_draw hM (by kernel_rfl) ?_
 refine ac_next ?_
 refine aw_ret ?_
 obtain rfl := Option.some.inj H
 exact acr hE [.tmp 2] (.tmp .nil) (.one _) [] 9999
end Go.Proofs.Ytlkcnldfnhclbaa.PFnLess
