import Derived.Test.YtkkglhhkpihmgaaPFnExactFiledOfx0
set_option linter.unusedVariables false
set_option linter.unusedSimpArgs false
set_option maxRecDepth 100000
namespace Go.Proofs.Ytkkglhhkpihmgaa.PFnExactFiledOf
open Go Go.RowKit Go.Proofs.YtkkglhhkpihmgaaA
/-! laws_szInsS -/
def laws_szInsS.f (l0 : List S154) (a1 : Int) : Option (Int) := if (wrap64 (a1 - (l0.length : Int))) < 0 then some (-1) else some (wrap64 (a1 - (l0.length : Int)))
theorem laws_szInsS.ok {l0 : List S154} {a1 : Int} {r : Int} (H : laws_szInsS.f l0 a1 = some r) : ACalls Try.prog 90 [] [.sl .o 4 (l0.map e154), .lit (.int .i64 a1)] [] (.lit (.int .i64 r)) := by
 refine acalls (fn := Try.f90) (nt := 12) Try.func90 rfl rfl (Nat.le_of_ble_eq_true rfl) fun E hE => ?_
 rw [laws_szInsS.f] at H
 refine aw_grp1 ?_
 refine wk_start ?_
 refine kv g0 (asg) ?_
 refine wk_end ?_
 refine ac_next ?_
 refine aw_grp1 ?_
 refine wk_start ?_
 refine kv g0 (mv) ?_
 refine kv g0 (mv) ?_
 refine kv g0 (lnS lenE) ?_
 refine kv g0 (sub6) ?_
 refine kv g0 (asg) ?_
 refine wk_end ?_
 refine ac_next ?_
 refine aw_grp1 ?_
 refine aw_grp1 ?_
 refine wk_start ?_
 refine kv g0 (mv) ?_
 refine kv g0 (lss) ?_
 refine wk_end ?_
 refine ac_next ?_
 by_cases c1 : (wrap64 (a1 - (l0.length : Int))) < 0
 ·rw [if_pos c1] at H
  refine aw_ifT ?_ (decide_eq_true c1)
  refine aw_grp1 ?_
  refine wk_start ?_
  refine kv g0 (asg) ?_
  refine wk_end ?_
  refine ac_next ?_
  refine aw_ret ?_
  refine ac_thenR ?_
  obtain rfl := Option.some.inj H
  exact acr hE [.tmp 4] (.tmp .nil) (.one _) [] 9999
 rw [if_neg c1] at H
 refine aw_ifF ?_ (decide_eq_false c1)
 refine aw_skip ?_
 refine ac_next ?_
 refine aw_grp1 ?_
 refine wk_start ?_
 refine kv g0 (mv) ?_
 refine kv g0 (asg) ?_
 refine wk_end ?_
 refine ac_next ?_
 refine aw_ret ?_
 obtain rfl := Option.some.inj H
 exact acr hE [.tmp 4] (.tmp .nil) (.one _) [] 9999
/-! laws_szInsSS -/
def laws_szInsSS.l0 : Nat → (List (List S154)) → Int → Int → Option (Int)
 | 0, _, _, _ => none
 | k9 + 1, l0, p7, p8 => if p8 < (l0.length : Int) then if 0 ≤ p8 then ((laws_szInsS.f (rdOf ([] : List S154) l0 p8) p7).bind fun t12 => if t12 < 0 then some (-1) else laws_szInsSS.l0 k9 l0 t12 (wrap64 (p8 + 1))) else none else some p7
def laws_szInsSS.f (k : Nat) (l0 : List (List S154)) (a1 : Int) : Option (Int) := if (wrap64 (a1 - (l0.length : Int))) < 0 then some (-1) else laws_szInsSS.l0 k l0 (wrap64 (a1 - (l0.length : Int))) 0
theorem laws_szInsSS.ok {k : Nat} {l0 : List (List S154)} {a1 : Int} {r : Int} (H : laws_szInsSS.f k l0 a1 = some r) : ACalls Try.prog 71 [] [.sl .o 1 (l0.map (eL 4 (e154))), .lit (.int .i64 a1)] [] (.lit (.int .i64 r)) := by
 refine acalls (fn := Try.f71) (nt := 27) Try.func71 rfl rfl (Nat.le_of_ble_eq_true rfl) fun E hE => ?_
 rw [laws_szInsSS.f] at H
 refine aw_grp1 ?_
 refine wk_start ?_
 refine kv g0 (asg) ?_
 refine wk_end ?_
 refine ac_next ?_
 refine aw_grp1 ?_
 refine wk_start ?_
 refine kv g0 (mv) ?_
 refine kv g0 (mv) ?_
 refine kv g0 (lnS lenE) ?_
 refine kv g0 (sub6) ?_
 refine kv g0 (asg) ?_
 refine wk_end ?_
 refine ac_next ?_
 refine aw_grp1 ?_
 refine aw_grp1 ?_
 refine wk_start ?_
 refine kv g0 (mv) ?_
 refine kv g0 (lss) ?_
 refine wk_end ?_
 refine ac_next ?_
 by_cases c1 : (wrap64 (a1 - (l0.length : Int))) < 0
 ·rw [if_pos c1] at H
  refine aw_ifT ?_ (decide_eq_true c1)
  refine aw_grp1 ?_
  refine wk_start ?_
  refine kv g0 (asg) ?_
  refine wk_end ?_
  refine ac_next ?_
  refine aw_ret ?_
  refine ac_thenR ?_
  obtain rfl := Option.some.inj H
  exact acr hE [.tmp 4] (.tmp .nil) (.one _) [] 9999
 rw [if_neg c1] at H
 refine aw_ifF ?_ (decide_eq_false c1)
 refine aw_skip ?_
 refine ac_next ?_
 refine aw_grp1 ?_
 refine aw_grp1 ?_
 refine wk_start ?_
 refine kv g0 (asg) ?_
 refine wk_end ?_
 refine ac_next ?_
 refine aw_block ?_
 refine aw_loop2 (fun (k_ : Nat) (p7 : Int) (p8 : Int) => k_ ≤ k ∧ laws_szInsSS.l0 k_ l0 p7 p8 = some r) (fun (p7 : Int) (p8 : Int) => ⟨[(0, .sl .o 1 (l0.map (eL 4 (e154)))), (1, .lit (.int .i64 p7)), (5, .lit (.int .i64 p8))], []⟩) k (wrap64 (a1 - (l0.length : Int))) 0 ⟨Nat.le_refl _, H⟩ (fun K_ h_ => acw hE [] 9999 h_) (fun _ _ => by intro h_; have h_ := h_.2; rw [laws_szInsSS.l0.eq_1] at h_; cases h_) ?_
 intro k9 p7 p8 hq_ K15 hK16
 have hk9 := hq_.1
 have H := hq_.2
 clear hq_
 rw [laws_szInsSS.l0.eq_2] at H
 refine aw_grp1 ?_
 refine aw_grp1 ?_
 refine wk_start ?_
 refine kv g0 (mv) ?_
 refine kv g0 (mv) ?_
 refine kv g0 (lnS lenE) ?_
 refine kv g0 (lss) ?_
 refine wk_end ?_
 refine ac_next ?_
 by_cases c10 : p8 < (l0.length : Int)
 ·rw [if_pos c10] at H
  refine aw_ifT ?_ (decide_eq_true c10)
  refine aw_skip ?_
  refine ac_next ?_
  refine aw_grp1 ?_
  refine aw_block ?_
  refine aw_grp1 ?_
  refine wk_start ?_
  refine kv g0 (mv) ?_
  refine kv g0 (mv) ?_
  obtain ⟨c11, H⟩ := of_if H
  refine kv g0 (ixS 139 (eL 4 (e154) (rdOf ([] : List S154) l0 p8)) c11 (getE (z := ([] : List S154)) c11 c10)) ?_
  refine kv g0 (ldR (.sl .o 4 ((rdOf ([] : List S154) l0 p8).map e154))) ?_
  refine kv g0 (mv) ?_
  obtain ⟨t12, A13, H⟩ := of_bind H
  refine kcS0 23 (.lit (.int .i64 t12)) [] g0 (cal (laws_szInsS.ok A13) [] 9999 .n (hf := Try.func90)) rfl rfl ?_
  refine kv g0 (asg) ?_
  refine wk_end ?_
  refine ac_next ?_
  refine aw_grp1 ?_
  refine wk_start ?_
  refine kv g0 (mv) ?_
  refine kv g0 (lss) ?_
  refine wk_end ?_
  refine ac_next ?_
  by_cases c14 : t12 < 0
  ·rw [if_pos c14] at H
   refine aw_ifT ?_ (decide_eq_true c14)
   refine aw_grp1 ?_
   refine wk_start ?_
   refine kv g0 (asg) ?_
   refine wk_end ?_
   refine ac_next ?_
   refine aw_ret ?_
   refine ac_blkR ?_
   refine ac_thenR ?_
   refine ac_thenR ?_
   refine ac_blkR ?_
   refine ac_thenR ?_
   obtain rfl := Option.some.inj H
   exact acr hE [.tmp 4] (.tmp .nil) (.one _) [] 9999
  rw [if_neg c14] at H
  refine aw_ifF ?_ (decide_eq_false c14)
  refine aw_skip ?_
  refine ac_blkN ?_
  refine ac_next ?_
  refine wk_start ?_
  refine kv g0 (mv) ?_
  refine kv g0 (add6) ?_
  refine kv g0 (asg) ?_
  refine wk_end ?_
  refine ac_k ?_
  exact acw hE [] 9999 (hK16 k9 t12 (wrap64 (p8 + 1)) (Nat.le_refl _) ⟨by omega, H⟩)
 rw [if_neg c10] at H
 refine aw_ifF ?_ (decide_eq_false c10)
 refine aw_exit ?_
 refine ac_then ?_
 refine ac_then ?_
 refine ac_hit rfl ?_
 refine ac_next ?_
 refine aw_grp1 ?_
 refine wk_start ?_
 refine kv g0 (mv) ?_
 refine kv g0 (asg) ?_
 refine wk_end ?_
 refine ac_next ?_
 refine aw_ret ?_
 obtain rfl := Option.some.inj H
 exact acr hE [.tmp 4] (.tmp .nil) (.one _) [] 9999
/-! laws_szInsSSS -/
def laws_szInsSSS.l0 : Nat → (List (List (List S154))) → Int → Int → Option (Int)
 | 0, _, _, _ => none
 | k9 + 1, l0, p7, p8 => if p8 < (l0.length : Int) then if 0 ≤ p8 then ((laws_szInsSS.f k9 (rdOf ([] : List (List S154)) l0 p8) p7).bind fun t12 => if t12 < 0 then some (-1) else laws_szInsSSS.l0 k9 l0 t12 (wrap64 (p8 + 1))) else none else some p7
def laws_szInsSSS.f (k : Nat) (l0 : List (List (List S154))) (a1 : Int) : Option (Int) := if (wrap64 (a1 - (l0.length : Int))) < 0 then some (-1) else laws_szInsSSS.l0 k l0 (wrap64 (a1 - (l0.length : Int))) 0
theorem laws_szInsSSS.ok {k : Nat} {l0 : List (List (List S154))} {a1 : Int} {r : Int} (H : laws_szInsSSS.f k l0 a1 = some r) : ACalls Try.prog 41 [] [.sl .o 1 (l0.map (eL 1 (eL 4 (e154)))), .lit (.int .i64 a1)] [] (.lit (.int .i64 r)) := by
 refine acalls (fn := Try.f41) (nt := 27) Try.func41 rfl rfl (Nat.le_of_ble_eq_true rfl) fun E hE => ?_
 rw [laws_szInsSSS.f] at H
 refine aw_grp1 ?_
 refine wk_start ?_
 refine kv g0 (asg) ?_
 refine wk_end ?_
 refine ac_next ?_
 refine aw_grp1 ?_
 refine wk_start ?_
 refine kv g0 (mv) ?_
 refine kv g0 (mv) ?_
 refine kv g0 (lnS lenE) ?_
 refine kv g0 (sub6) ?_
 refine kv g0 (asg) ?_
 refine wk_end ?_
 refine ac_next ?_
 refine aw_grp1 ?_
 refine aw_grp1 ?_
 refine wk_start ?_
 refine kv g0 (mv) ?_
 refine kv g0 (lss) ?_
 refine wk_end ?_
 refine ac_next ?_
 by_cases c1 : (wrap64 (a1 - (l0.length : Int))) < 0
 ·rw [if_pos c1] at H
  refine aw_ifT ?_ (decide_eq_true c1)
  refine aw_grp1 ?_
  refine wk_start ?_
  refine kv g0 (asg) ?_
  refine wk_end ?_
  refine ac_next ?_
  refine aw_ret ?_
  refine ac_thenR ?_
  obtain rfl := Option.some.inj H
  exact acr hE [.tmp 4] (.tmp .nil) (.one _) [] 9999
 rw [if_neg c1] at H
 refine aw_ifF ?_ (decide_eq_false c1)
 refine aw_skip ?_
 refine ac_next ?_
 refine aw_grp1 ?_
 refine aw_grp1 ?_
 refine wk_start ?_
 refine kv g0 (asg) ?_
 refine wk_end ?_
 refine ac_next ?_
 refine aw_block ?_
 refine aw_loop2 (fun (k_ : Nat) (p7 : Int) (p8 : Int) => k_ ≤ k ∧ laws_szInsSSS.l0 k_ l0 p7 p8 = some r) (fun (p7 : Int) (p8 : Int) => ⟨[(0, .sl .o 1 (l0.map (eL 1 (eL 4 (e154))))), (1, .lit (.int .i64 p7)), (5, .lit (.int .i64 p8))], []⟩) k (wrap64 (a1 - (l0.length : Int))) 0 ⟨Nat.le_refl _, H⟩ (fun K_ h_ => acw hE [] 9999 h_) (fun _ _ => by intro h_; have h_ := h_.2; rw [laws_szInsSSS.l0.eq_1] at h_; cases h_) ?_
 intro k9 p7 p8 hq_ K15 hK16
 have hk9 := hq_.1
 have H := hq_.2
 clear hq_
 rw [laws_szInsSSS.l0.eq_2] at H
 refine aw_grp1 ?_
 refine aw_grp1 ?_
 refine wk_start ?_
 refine kv g0 (mv) ?_
 refine kv g0 (mv) ?_
 refine kv g0 (lnS lenE) ?_
 refine kv g0 (lss) ?_
 refine wk_end ?_
 refine ac_next ?_
 by_cases c10 : p8 < (l0.length : Int)
 ·rw [if_pos c10] at H
  refine aw_ifT ?_ (decide_eq_true c10)
  refine aw_skip ?_
  refine ac_next ?_
  refine aw_grp1 ?_
  refine aw_block ?_
  refine aw_grp1 ?_
  refine wk_start ?_
  refine kv g0 (mv) ?_
  refine kv g0 (mv) ?_
  obtain ⟨c11, H⟩ := of_if H
  refine kv g0 (ixS 106 (eL 1 (eL 4 (e154)) (rdOf ([] : List (List S154)) l0 p8)) c11 (getE (z := ([] : List (List S154))) c11 c10)) ?_
  refine kv g0 (ldR (.sl .o 1 ((rdOf ([] : List (List S154)) l0 p8).map (eL 4 (e154))))) ?_
  refine kv g0 (mv) ?_
  obtain ⟨t12, A13, H⟩ := of_bind H
  refine kcS0 23 (.lit (.int .i64 t12)) [] g0 (cal (laws_szInsSS.ok A13) [] 9999 .n (hf := Try.func71)) rfl rfl ?_
  refine kv g0 (asg) ?_
  refine wk_end ?_
  refine ac_next ?_
  refine aw_grp1 ?_
  refine wk_start ?_
  refine kv g0 (mv) ?_
  refine kv g0 (lss) ?_
  refine wk_end ?_
  refine ac_next ?_
  by_cases c14 : t12 < 0
  ·rw [if_pos c14] at H
   refine aw_ifT ?_ (decide_eq_true c14)
   refine aw_grp1 ?_
   refine wk_start ?_
   refine kv g0 (asg) ?_
   refine wk_end ?_
   refine ac_next ?_
   refine aw_ret ?_
   refine ac_blkR ?_
   refine ac_thenR ?_
   refine ac_thenR ?_
   refine ac_blkR ?_
   refine ac_thenR ?_
   obtain rfl := Option.some.inj H
   exact acr hE [.tmp 4] (.tmp .nil) (.one _) [] 9999
  rw [if_neg c14] at H
  refine aw_ifF ?_ (decide_eq_false c14)
  refine aw_skip ?_
  refine ac_blkN ?_
  refine ac_next ?_
  refine wk_start ?_
  refine kv g0 (mv) ?_
  refine kv g0 (add6) ?_
  refine kv g0 (asg) ?_
  refine wk_end ?_
  refine ac_k ?_
  exact acw hE [] 9999 (hK16 k9 t12 (wrap64 (p8 + 1)) (Nat.le_refl _) ⟨by omega, H⟩)
 rw [if_neg c10] at H
 refine aw_ifF ?_ (decide_eq_false c10)
 refine aw_exit ?_
 refine ac_then ?_
 refine ac_then ?_
 refine ac_hit rfl ?_
 refine ac_next ?_
 refine aw_grp1 ?_
 refine wk_start ?_
 refine kv g0 (mv) ?_
 refine kv g0 (asg) ?_
 refine wk_end ?_
 refine ac_next ?_
 refine aw_ret ?_
 obtain rfl := Option.some.inj H
 exact acr hE [.tmp 4] (.tmp .nil) (.one _) [] 9999
/-! laws_szItemS -/
def laws_szItemS.f (l0 : List S144) (a1 : Int) : Option (Int) := if (wrap64 (a1 - (l0.length : Int))) < 0 then some (-1) else some (wrap64 (a1 - (l0.length : Int)))
theorem laws_szItemS.ok {l0 : List S144} {a1 : Int} {r : Int} (H : laws_szItemS.f l0 a1 = some r) : ACalls Try.prog 91 [] [.sl .o 4 (l0.map e144), .lit (.int .i64 a1)] [] (.lit (.int .i64 r)) := by
 refine acalls (fn := Try.f91) (nt := 12) Try.func91 rfl rfl (Nat.le_of_ble_eq_true rfl) fun E hE => ?_
 rw [laws_szItemS.f] at H
 refine aw_grp1 ?_
 refine wk_start ?_
 refine kv g0 (asg) ?_
 refine wk_end ?_
 refine ac_next ?_
 refine aw_grp1 ?_
 refine wk_start ?_
 refine kv g0 (mv) ?_
 refine kv g0 (mv) ?_
 refine kv g0 (lnS lenE) ?_
 refine kv g0 (sub6) ?_
 refine kv g0 (asg) ?_
 refine wk_end ?_
 refine ac_next ?_
 refine aw_grp1 ?_
 refine aw_grp1 ?_
 refine wk_start ?_
 refine kv g0 (mv) ?_
 refine kv g0 (lss) ?_
 refine wk_end ?_
 refine ac_next ?_
 by_cases c1 : (wrap64 (a1 - (l0.length : Int))) < 0
 ·rw [if_pos c1] at H
  refine aw_ifT ?_ (decide_eq_true c1)
  refine aw_grp1 ?_
  refine wk_start ?_
  refine kv g0 (asg) ?_
  refine wk_end ?_
  refine ac_next ?_
  refine aw_ret ?_
  refine ac_thenR ?_
  obtain rfl := Option.some.inj H
  exact acr hE [.tmp 4] (.tmp .nil) (.one _) [] 9999
 rw [if_neg c1] at H
 refine aw_ifF ?_ (decide_eq_false c1)
 refine aw_skip ?_
 refine ac_next ?_
 refine aw_grp1 ?_
 refine wk_start ?_
 refine kv g0 (mv) ?_
 refine kv g0 (asg) ?_
 refine wk_end ?_
 refine ac_next ?_
 refine aw_ret ?_
 obtain rfl := Option.some.inj H
 exact acr hE [.tmp 4] (.tmp .nil) (.one _) [] 9999
/-! laws_szRing -/
def laws_szRing.f (l0_0 : List S144) (a0_1 : Int) (a0_2 : Int) (a0_3 : Int) (a1 : Int) : Option (Int) := (laws_szItemS.f l0_0 a1).bind fun t1 => if t1 < 0 then some (-1) else some t1
theorem laws_szRing.ok {l0_0 : List S144} {a0_1 : Int} {a0_2 : Int} {a0_3 : Int} {a1 : Int} {r : Int} (H : laws_szRing.f l0_0 a0_1 a0_2 a0_3 a1 = some r) : ACalls Try.prog 72 [] [.agg [.sl .o 4 (l0_0.map e144), .lit (.int .i64 a0_1), .lit (.int .i64 a0_2), .lit (.int .i64 a0_3)], .lit (.int .i64 a1)] [] (.lit (.int .i64 r)) := by
 refine acalls (fn := Try.f72) (nt := 12) Try.func72 rfl rfl (Nat.le_of_ble_eq_true rfl) fun E hE => ?_
 rw [laws_szRing.f] at H
 refine aw_grp1 ?_
 refine wk_start ?_
 refine kb g0 (bxA 0) ?_
 refine kv g0 (asg) ?_
 refine wk_end ?_
 refine ac_next ?_
 refine aw_grp1 ?_
 refine wk_start ?_
 refine kv g0 (faB 0 0) ?_
 refine kv g0 (ldB) ?_
 refine kv g0 (mv) ?_
 obtain ⟨t1, A2, H⟩ := of_bind H
 refine kcS0 8 (.lit (.int .i64 t1)) [] g0 (cal (laws_szItemS.ok A2) [] 9999 .n (hf := Try.func91)) rfl rfl ?_
 refine kv g0 (asg) ?_
 refine wk_end ?_
 refine ac_next ?_
 refine aw_grp1 ?_
 refine aw_grp1 ?_
 refine wk_start ?_
 refine kv g0 (mv) ?_
 refine kv g0 (lss) ?_
 refine wk_end ?_
 refine ac_next ?_
 by_cases c3 : t1 < 0
 ·rw [if_pos c3] at H
  refine aw_ifT ?_ (decide_eq_true c3)
  refine aw_grp1 ?_
  refine wk_start ?_
  refine kv g0 (asg) ?_
  refine wk_end ?_
  refine ac_next ?_
  refine aw_ret ?_
  refine ac_thenR ?_
  obtain rfl := Option.some.inj H
  exact acr hE [.tmp 4] (.tmp .nil) (.one _) [] 9999
 rw [if_neg c3] at H
 refine aw_ifF ?_ (decide_eq_false c3)
 refine aw_skip ?_
 refine ac_next ?_
 refine aw_grp1 ?_
 refine wk_start ?_
 refine kv g0 (mv) ?_
 refine kv g0 (asg) ?_
 refine wk_end ?_
 refine ac_next ?_
 refine aw_ret ?_
 obtain rfl := Option.some.inj H
 exact acr hE [.tmp 4] (.tmp .nil) (.one _) [] 9999
/-! laws_szRingS -/
def laws_szRingS.l0 : Nat → (List S110) → Int → Int → Option (Int)
 | 0, _, _, _ => none
 | k9 + 1, l0, p7, p8 => if p8 < (l0.length : Int) then if 0 ≤ p8 then ((laws_szRing.f ((rd_T110 l0 p8).f0) ((rd_T110 l0 p8).f1) ((rd_T110 l0 p8).f2) ((rd_T110 l0 p8).f3) p7).bind fun t12 => if t12 < 0 then some (-1) else laws_szRingS.l0 k9 l0 t12 (wrap64 (p8 + 1))) else none else some p7
def laws_szRingS.f (k : Nat) (l0 : List S110) (a1 : Int) : Option (Int) := if (wrap64 (a1 - (l0.length : Int))) < 0 then some (-1) else laws_szRingS.l0 k l0 (wrap64 (a1 - (l0.length : Int))) 0
theorem laws_szRingS.ok {k : Nat} {l0 : List S110} {a1 : Int} {r : Int} (H : laws_szRingS.f k l0 a1 = some r) : ACalls Try.prog 42 [] [.sl .o 4 (l0.map e110), .lit (.int .i64 a1)] [] (.lit (.int .i64 r)) := by
 refine acalls (fn := Try.f42) (nt := 27) Try.func42 rfl rfl (Nat.le_of_ble_eq_true rfl) fun E hE => ?_
 rw [laws_szRingS.f] at H
 refine aw_grp1 ?_
 refine wk_start ?_
 refine kv g0 (asg) ?_
 refine wk_end ?_
 refine ac_next ?_
 refine aw_grp1 ?_
 refine wk_start ?_
 refine kv g0 (mv) ?_
 refine kv g0 (mv) ?_
 refine kv g0 (lnS lenE) ?_
 refine kv g0 (sub6) ?_
 refine kv g0 (asg) ?_
 refine wk_end ?_
 refine ac_next ?_
 refine aw_grp1 ?_
 refine aw_grp1 ?_
 refine wk_start ?_
 refine kv g0 (mv) ?_
 refine kv g0 (lss) ?_
 refine wk_end ?_
 refine ac_next ?_
 by_cases c1 : (wrap64 (a1 - (l0.length : Int))) < 0
 ·rw [if_pos c1] at H
  refine aw_ifT ?_ (decide_eq_true c1)
  refine aw_grp1 ?_
  refine wk_start ?_
  refine kv g0 (asg) ?_
  refine wk_end ?_
  refine ac_next ?_
  refine aw_ret ?_
  refine ac_thenR ?_
  obtain rfl := Option.some.inj H
  exact acr hE [.tmp 4] (.tmp .nil) (.one _) [] 9999
 rw [if_neg c1] at H
 refine aw_ifF ?_ (decide_eq_false c1)
 refine aw_skip ?_
 refine ac_next ?_
 refine aw_grp1 ?_
 refine aw_grp1 ?_
 refine wk_start ?_
 refine kv g0 (asg) ?_
 refine wk_end ?_
 refine ac_next ?_
 refine aw_block ?_
 refine aw_loop2 (fun (k_ : Nat) (p7 : Int) (p8 : Int) => k_ ≤ k ∧ laws_szRingS.l0 k_ l0 p7 p8 = some r) (fun (p7 : Int) (p8 : Int) => ⟨[(0, .sl .o 4 (l0.map e110)), (1, .lit (.int .i64 p7)), (5, .lit (.int .i64 p8))], []⟩) k (wrap64 (a1 - (l0.length : Int))) 0 ⟨Nat.le_refl _, H⟩ (fun K_ h_ => acw hE [] 9999 h_) (fun _ _ => by intro h_; have h_ := h_.2; rw [laws_szRingS.l0.eq_1] at h_; cases h_) ?_
 intro k9 p7 p8 hq_ K15 hK16
 have hk9 := hq_.1
 have H := hq_.2
 clear hq_
 rw [laws_szRingS.l0.eq_2] at H
 refine aw_grp1 ?_
 refine aw_grp1 ?_
 refine wk_start ?_
 refine kv g0 (mv) ?_
 refine kv g0 (mv) ?_
 refine kv g0 (lnS lenE) ?_
 refine kv g0 (lss) ?_
 refine wk_end ?_
 refine ac_next ?_
 by_cases c10 : p8 < (l0.length : Int)
 ·rw [if_pos c10] at H
  refine aw_ifT ?_ (decide_eq_true c10)
  refine aw_skip ?_
  refine ac_next ?_
  refine aw_grp1 ?_
  refine aw_block ?_
  refine aw_grp1 ?_
  refine wk_start ?_
  refine kv g0 (mv) ?_
  refine kv g0 (mv) ?_
  obtain ⟨c11, H⟩ := of_if H
  refine kv g0 (ixS 110 (e110 (rd_T110 l0 p8)) c11 (getE (z := z110) c11 c10)) ?_
  refine kv g0 (ldRA 4 [.sl .o 4 (((rd_T110 l0 p8).f0).map e144), .lit (.int .i64 ((rd_T110 l0 p8).f1)), .lit (.int .i64 ((rd_T110 l0 p8).f2)), .lit (.int .i64 ((rd_T110 l0 p8).f3))]) ?_
  refine kv g0 (mv) ?_
  obtain ⟨t12, A13, H⟩ := of_bind H
  refine kcS0 23 (.lit (.int .i64 t12)) [] g0 (cal (laws_szRing.ok A13) [] 9999 .n (hf := Try.func72)) rfl rfl ?_
  refine kv g0 (asg) ?_
  refine wk_end ?_
  refine ac_next ?_
  refine aw_grp1 ?_
  refine wk_start ?_
  refine kv g0 (mv) ?_
  refine kv g0 (lss) ?_
  refine wk_end ?_
  refine ac_next ?_
  by_cases c14 : t12 < 0
  ·rw [if_pos c14] at H
   refine aw_ifT ?_ (decide_eq_true c14)
   refine aw_grp1 ?_
   refine wk_start ?_
   refine kv g0 (asg) ?_
   refine wk_end ?_
   refine ac_next ?_
   refine aw_ret ?_
   refine ac_blkR ?_
   refine ac_thenR ?_
   refine ac_thenR ?_
   refine ac_blkR ?_
   refine ac_thenR ?_
   obtain rfl := Option.some.inj H
   exact acr hE [.tmp 4] (.tmp .nil) (.one _) [] 9999
  rw [if_neg c14] at H
  refine aw_ifF ?_ (decide_eq_false c14)
  refine aw_skip ?_
  refine ac_blkN ?_
  refine ac_next ?_
  refine wk_start ?_
  refine kv g0 (mv) ?_
  refine kv g0 (add6) ?_
  refine kv g0 (asg) ?_
  refine wk_end ?_
  refine ac_k ?_
  exact acw hE [] 9999 (hK16 k9 t12 (wrap64 (p8 + 1)) (Nat.le_refl _) ⟨by omega, H⟩)
 rw [if_neg c10] at H
 refine aw_ifF ?_ (decide_eq_false c10)
 refine aw_exit ?_
 refine ac_then ?_
 refine ac_then ?_
 refine ac_hit rfl ?_
 refine ac_next ?_
 refine aw_grp1 ?_
 refine wk_start ?_
 refine kv g0 (mv) ?_
 refine kv g0 (asg) ?_
 refine wk_end ?_
 refine ac_next ?_
 refine aw_ret ?_
 obtain rfl := Option.some.inj H
 exact acr hE [.tmp 4] (.tmp .nil) (.one _) [] 9999
/-! laws_szSender -/
def laws_szSender.f (a0_0 : Int) (a0_1 : Int) (l0_2 : List S144) (a0_3 : Int) (a0_4 : Int) (a1 : Int) : Option (Int) := (laws_szItemS.f l0_2 a1).bind fun t1 => if t1 < 0 then some (-1) else some t1
theorem laws_szSender.ok {a0_0 : Int} {a0_1 : Int} {l0_2 : List S144} {a0_3 : Int} {a0_4 : Int} {a1 : Int} {r : Int} (H : laws_szSender.f a0_0 a0_1 l0_2 a0_3 a0_4 a1 = some r) : ACalls Try.prog 73 [] [.agg [.lit (.int .i64 a0_0), .lit (.int .i64 a0_1), .sl .o 4 (l0_2.map e144), .lit (.int .i64 a0_3), .lit (.int .i64 a0_4)], .lit (.int .i64 a1)] [] (.lit (.int .i64 r)) := by
 refine acalls (fn := Try.f73) (nt := 12) Try.func73 rfl rfl (Nat.le_of_ble_eq_true rfl) fun E hE => ?_
 rw [laws_szSender.f] at H
 refine aw_grp1 ?_
 refine wk_start ?_
 refine kb g0 (bxA 0) ?_
 refine kv g0 (asg) ?_
 refine wk_end ?_
 refine ac_next ?_
 refine aw_grp1 ?_
 refine wk_start ?_
 refine kv g0 (faB 2 2) ?_
 refine kv g0 (ldB) ?_
 refine kv g0 (mv) ?_
 obtain ⟨t1, A2, H⟩ := of_bind H
 refine kcS0 8 (.lit (.int .i64 t1)) [] g0 (cal (laws_szItemS.ok A2) [] 9999 .n (hf := Try.func91)) rfl rfl ?_
 refine kv g0 (asg) ?_
 refine wk_end ?_
 refine ac_next ?_
 refine aw_grp1 ?_
 refine aw_grp1 ?_
 refine wk_start ?_
 refine kv g0 (mv) ?_
 refine kv g0 (lss) ?_
 refine wk_end ?_
 refine ac_next ?_
 by_cases c3 : t1 < 0
 ·rw [if_pos c3] at H
  refine aw_ifT ?_ (decide_eq_true c3)
  refine aw_grp1 ?_
  refine wk_start ?_
  refine kv g0 (asg) ?_
  refine wk_end ?_
  refine ac_next ?_
  refine aw_ret ?_
  refine ac_thenR ?_
  obtain rfl := Option.some.inj H
  exact acr hE [.tmp 4] (.tmp .nil) (.one _) [] 9999
 rw [if_neg c3] at H
 refine aw_ifF ?_ (decide_eq_false c3)
 refine aw_skip ?_
 refine ac_next ?_
 refine aw_grp1 ?_
 refine wk_start ?_
 refine kv g0 (mv) ?_
 refine kv g0 (asg) ?_
 refine wk_end ?_
 refine ac_next ?_
 refine aw_ret ?_
 obtain rfl := Option.some.inj H
 exact acr hE [.tmp 4] (.tmp .nil) (.one _) [] 9999
/-! laws_szSenderS -/
def laws_szSenderS.l0 : Nat → (List S113) → Int → Int → Option (Int)
 | 0, _, _, _ => none
 | k9 + 1, l0, p7, p8 => if p8 < (l0.length : Int) then if 0 ≤ p8 then ((laws_szSender.f ((rd_T113 l0 p8).f0) ((rd_T113 l0 p8).f1) ((rd_T113 l0 p8).f2) ((rd_T113 l0 p8).f3) ((rd_T113 l0 p8).f4) p7).bind fun t12 => if t12 < 0 then some (-1) else laws_szSenderS.l0 k9 l0 t12 (wrap64 (p8 + 1))) else none else some p7
def laws_szSenderS.f (k : Nat) (l0 : List S113) (a1 : Int) : Option (Int) := if (wrap64 (a1 - (l0.length : Int))) < 0 then some (-1) else laws_szSenderS.l0 k l0 (wrap64 (a1 - (l0.length : Int))) 0
theorem laws_szSenderS.ok {k : Nat} {l0 : List S113} {a1 : Int} {r : Int} (H : laws_szSenderS.f k l0 a1 = some r) : ACalls Try.prog 43 [] [.sl .o 5 (l0.map e113), .lit (.int .i64 a1)] [] (.lit (.int .i64 r)) := by
 refine acalls (fn := Try.f43) (nt := 27) Try.func43 rfl rfl (Nat.le_of_ble_eq_true rfl) fun E hE => ?_
 rw [laws_szSenderS.f] at H
 refine aw_grp1 ?_
 refine wk_start ?_
 refine kv g0 (asg) ?_
 refine wk_end ?_
 refine ac_next ?_
 refine aw_grp1 ?_
 refine wk_start ?_
 refine kv g0 (mv) ?_
 refine kv g0 (mv) ?_
 refine kv g0 (lnS lenE) ?_
 refine kv g0 (sub6) ?_
 refine kv g0 (asg) ?_
 refine wk_end ?_
 refine ac_next ?_
 refine aw_grp1 ?_
 refine aw_grp1 ?_
 refine wk_start ?_
 refine kv g0 (mv) ?_
 refine kv g0 (lss) ?_
 refine wk_end ?_
 refine ac_next ?_
 by_cases c1 : (wrap64 (a1 - (l0.length : Int))) < 0
 ·rw [if_pos c1] at H
  refine aw_ifT ?_ (decide_eq_true c1)
  refine aw_grp1 ?_
  refine wk_start ?_
  refine kv g0 (asg) ?_
  refine wk_end ?_
  refine ac_next ?_
  refine aw_ret ?_
  refine ac_thenR ?_
  obtain rfl := Option.some.inj H
  exact acr hE [.tmp 4] (.tmp .nil) (.one _) [] 9999
 rw [if_neg c1] at H
 refine aw_ifF ?_ (decide_eq_false c1)
 refine aw_skip ?_
 refine ac_next ?_
 refine aw_grp1 ?_
 refine aw_grp1 ?_
 refine wk_start ?_
 refine kv g0 (asg) ?_
 refine wk_end ?_
 refine ac_next ?_
 refine aw_block ?_
 refine aw_loop2 (fun (k_ : Nat) (p7 : Int) (p8 : Int) => k_ ≤ k ∧ laws_szSenderS.l0 k_ l0 p7 p8 = some r) (fun (p7 : Int) (p8 : Int) => ⟨[(0, .sl .o 5 (l0.map e113)), (1, .lit (.int .i64 p7)), (5, .lit (.int .i64 p8))], []⟩) k (wrap64 (a1 - (l0.length : Int))) 0 ⟨Nat.le_refl _, H⟩ (fun K_ h_ => acw hE [] 9999 h_) (fun _ _ => by intro h_; have h_ := h_.2; rw [laws_szSenderS.l0.eq_1] at h_; cases h_) ?_
 intro k9 p7 p8 hq_ K15 hK16
 have hk9 := hq_.1
 have H := hq_.2
 clear hq_
 rw [laws_szSenderS.l0.eq_2] at H
 refine aw_grp1 ?_
 refine aw_grp1 ?_
 refine wk_start ?_
 refine kv g0 (mv) ?_
 refine kv g0 (mv) ?_
 refine kv g0 (lnS lenE) ?_
 refine kv g0 (lss) ?_
 refine wk_end ?_
 refine ac_next ?_
 by_cases c10 : p8 < (l0.length : Int)
 ·rw [if_pos c10] at H
  refine aw_ifT ?_ (decide_eq_true c10)
  refine aw_skip ?_
  refine ac_next ?_
  refine aw_grp1 ?_
  refine aw_block ?_
  refine aw_grp1 ?_
  refine wk_start ?_
  refine kv g0 (mv) ?_
  refine kv g0 (mv) ?_
  obtain ⟨c11, H⟩ := of_if H
  refine kv g0 (ixS 113 (e113 (rd_T113 l0 p8)) c11 (getE (z := z113) c11 c10)) ?_
  refine kv g0 (ldRA 5 [.lit (.int .i64 ((rd_T113 l0 p8).f0)), .lit (.int .i64 ((rd_T113 l0 p8).f1)), .sl .o 4 (((rd_T113 l0 p8).f2).map e144), .lit (.int .i64 ((rd_T113 l0 p8).f3)), .lit (.int .i64 ((rd_T113 l0 p8).f4))]) ?_
  refine kv g0 (mv) ?_
  obtain ⟨t12, A13, H⟩ := of_bind H
  refine kcS0 23 (.lit (.int .i64 t12)) [] g0 (cal (laws_szSender.ok A13) [] 9999 .n (hf := Try.func73)) rfl rfl ?_
  refine kv g0 (asg) ?_
  refine wk_end ?_
  refine ac_next ?_
  refine aw_grp1 ?_
  refine wk_start ?_
  refine kv g0 (mv) ?_
  refine kv g0 (lss) ?_
  refine wk_end ?_
  refine ac_next ?_
  by_cases c14 : t12 < 0
  ·rw [if_pos c14] at H
   refine aw_ifT ?_ (decide_eq_true c14)
   refine aw_grp1 ?_
   refine wk_start ?_
   refine kv g0 (asg) ?_
   refine wk_end ?_
   refine ac_next ?_
   refine aw_ret ?_
   refine ac_blkR ?_
   refine ac_thenR ?_
   refine ac_thenR ?_
   refine ac_blkR ?_
   refine ac_thenR ?_
   obtain rfl := Option.some.inj H
   exact acr hE [.tmp 4] (.tmp .nil) (.one _) [] 9999
  rw [if_neg c14] at H
  refine aw_ifF ?_ (decide_eq_false c14)
  refine aw_skip ?_
  refine ac_blkN ?_
  refine ac_next ?_
  refine wk_start ?_
  refine kv g0 (mv) ?_
  refine kv g0 (add6) ?_
  refine kv g0 (asg) ?_
  refine wk_end ?_
  refine ac_k ?_
  exact acw hE [] 9999 (hK16 k9 t12 (wrap64 (p8 + 1)) (Nat.le_refl _) ⟨by omega, H⟩)
 rw [if_neg c10] at H
 refine aw_ifF ?_ (decide_eq_false c10)
 refine aw_exit ?_
 refine ac_then ?_
 refine ac_then ?_
 refine ac_hit rfl ?_
 refine ac_next ?_
 refine aw_grp1 ?_
 refine wk_start ?_
 refine kv g0 (mv) ?_
 refine kv g0 (asg) ?_
 refine wk_end ?_
 refine ac_next ?_
 refine aw_ret ?_
 obtain rfl := Option.some.inj H
 exact acr hE [.tmp 4] (.tmp .nil) (.one _) [] 9999
/-! laws_szEntryS -/
def laws_szEntryS.f (l0 : List S146) (a1 : Int) : Option (Int) := if (wrap64 (a1 - (l0.length : Int))) < 0 then some (-1) else some (wrap64 (a1 - (l0.length : Int)))
theorem laws_szEntryS.ok {l0 : List S146} {a1 : Int} {r : Int} (H : laws_szEntryS.f l0 a1 = some r) : ACalls Try.prog 74 [] [.sl .o 6 (l0.map e146), .lit (.int .i64 a1)] [] (.lit (.int .i64 r)) := by
 refine acalls (fn := Try.f74) (nt := 12) Try.func74 rfl rfl (Nat.le_of_ble_eq_true rfl) fun E hE => ?_
 rw [laws_szEntryS.f] at H
 refine aw_grp1 ?_
 refine wk_start ?_
 refine kv g0 (asg) ?_
 refine wk_end ?_
 refine ac_next ?_
 refine aw_grp1 ?_
 refine wk_start ?_
 refine kv g0 (mv) ?_
 refine kv g0 (mv) ?_
 refine kv g0 (lnS lenE) ?_
 refine kv g0 (sub6) ?_
 refine kv g0 (asg) ?_
 refine wk_end ?_
 refine ac_next ?_
 refine aw_grp1 ?_
 refine aw_grp1 ?_
 refine wk_start ?_
 refine kv g0 (mv) ?_
 refine kv g0 (lss) ?_
 refine wk_end ?_
 refine ac_next ?_
 by_cases c1 : (wrap64 (a1 - (l0.length : Int))) < 0
 ·rw [if_pos c1] at H
  refine aw_ifT ?_ (decide_eq_true c1)
  refine aw_grp1 ?_
  refine wk_start ?_
  refine kv g0 (asg) ?_
  refine wk_end ?_
  refine ac_next ?_
  refine aw_ret ?_
  refine ac_thenR ?_
  obtain rfl := Option.some.inj H
  exact acr hE [.tmp 4] (.tmp .nil) (.one _) [] 9999
 rw [if_neg c1] at H
 refine aw_ifF ?_ (decide_eq_false c1)
 refine aw_skip ?_
 refine ac_next ?_
 refine aw_grp1 ?_
 refine wk_start ?_
 refine kv g0 (mv) ?_
 refine kv g0 (asg) ?_
 refine wk_end ?_
 refine ac_next ?_
 refine aw_ret ?_
 obtain rfl := Option.some.inj H
 exact acr hE [.tmp 4] (.tmp .nil) (.one _) [] 9999
/-! laws_szIntS -/
def laws_szIntS.f (l0 : List Int) (a1 : Int) : Option (Int) := if (wrap64 (a1 - (l0.length : Int))) < 0 then some (-1) else some (wrap64 (a1 - (l0.length : Int)))
theorem laws_szIntS.ok {l0 : List Int} {a1 : Int} {r : Int} (H : laws_szIntS.f l0 a1 = some r) : ACalls Try.prog 46 [] [.sl .o 1 (l0.map (eI .i64)), .lit (.int .i64 a1)] [] (.lit (.int .i64 r)) := by
 refine acalls (fn := Try.f46) (nt := 12) Try.func46 rfl rfl (Nat.le_of_ble_eq_true rfl) fun E hE => ?_
 rw [laws_szIntS.f] at H
 refine aw_grp1 ?_
 refine wk_start ?_
 refine kv g0 (asg) ?_
 refine wk_end ?_
 refine ac_next ?_
 refine aw_grp1 ?_
 refine wk_start ?_
 refine kv g0 (mv) ?_
 refine kv g0 (mv) ?_
 refine kv g0 (lnS lenE) ?_
 refine kv g0 (sub6) ?_
 refine kv g0 (asg) ?_
 refine wk_end ?_
 refine ac_next ?_
 refine aw_grp1 ?_
 refine aw_grp1 ?_
 refine wk_start ?_
 refine kv g0 (mv) ?_
 refine kv g0 (lss) ?_
 refine wk_end ?_
 refine ac_next ?_
 by_cases c1 : (wrap64 (a1 - (l0.length : Int))) < 0
 ·rw [if_pos c1] at H
  refine aw_ifT ?_ (decide_eq_true c1)
  refine aw_grp1 ?_
  refine wk_start ?_
  refine kv g0 (asg) ?_
  refine wk_end ?_
  refine ac_next ?_
  refine aw_ret ?_
  refine ac_thenR ?_
  obtain rfl := Option.some.inj H
  exact acr hE [.tmp 4] (.tmp .nil) (.one _) [] 9999
 rw [if_neg c1] at H
 refine aw_ifF ?_ (decide_eq_false c1)
 refine aw_skip ?_
 refine ac_next ?_
 refine aw_grp1 ?_
 refine wk_start ?_
 refine kv g0 (mv) ?_
 refine kv g0 (asg) ?_
 refine wk_end ?_
 refine ac_next ?_
 refine aw_ret ?_
 obtain rfl := Option.some.inj H
 exact acr hE [.tmp 4] (.tmp .nil) (.one _) [] 9999
/-! laws_szEarlyS -/
def laws_szEarlyS.f (l0 : List S148) (a1 : Int) : Option (Int) := if (wrap64 (a1 - (l0.length : Int))) < 0 then some (-1) else some (wrap64 (a1 - (l0.length : Int)))
theorem laws_szEarlyS.ok {l0 : List S148} {a1 : Int} {r : Int} (H : laws_szEarlyS.f l0 a1 = some r) : ACalls Try.prog 75 [] [.sl .o 6 (l0.map e148), .lit (.int .i64 a1)] [] (.lit (.int .i64 r)) := by
 refine acalls (fn := Try.f75) (nt := 12) Try.func75 rfl rfl (Nat.le_of_ble_eq_true rfl) fun E hE => ?_
 rw [laws_szEarlyS.f] at H
 refine aw_grp1 ?_
 refine wk_start ?_
 refine kv g0 (asg) ?_
 refine wk_end ?_
 refine ac_next ?_
 refine aw_grp1 ?_
 refine wk_start ?_
 refine kv g0 (mv) ?_
 refine kv g0 (mv) ?_
 refine kv g0 (lnS lenE) ?_
 refine kv g0 (sub6) ?_
 refine kv g0 (asg) ?_
 refine wk_end ?_
 refine ac_next ?_
 refine aw_grp1 ?_
 refine aw_grp1 ?_
 refine wk_start ?_
 refine kv g0 (mv) ?_
 refine kv g0 (lss) ?_
 refine wk_end ?_
 refine ac_next ?_
 by_cases c1 : (wrap64 (a1 - (l0.length : Int))) < 0
 ·rw [if_pos c1] at H
  refine aw_ifT ?_ (decide_eq_true c1)
  refine aw_grp1 ?_
  refine wk_start ?_
  refine kv g0 (asg) ?_
  refine wk_end ?_
  refine ac_next ?_
  refine aw_ret ?_
  refine ac_thenR ?_
  obtain rfl := Option.some.inj H
  exact acr hE [.tmp 4] (.tmp .nil) (.one _) [] 9999
 rw [if_neg c1] at H
 refine aw_ifF ?_ (decide_eq_false c1)
 refine aw_skip ?_
 refine ac_next ?_
 refine aw_grp1 ?_
 refine wk_start ?_
 refine kv g0 (mv) ?_
 refine kv g0 (asg) ?_
 refine wk_end ?_
 refine ac_next ?_
 refine aw_ret ?_
 obtain rfl := Option.some.inj H
 exact acr hE [.tmp 4] (.tmp .nil) (.one _) [] 9999
/-! laws_szKeeper -/
def laws_szKeeper.f (l0_0 : List S146) (l0_1 : List Int) (l0_2 : List S148) (a0_3 : Int) (l0_4 : List Int) (a1 : Int) : Option (Int) := (laws_szEntryS.f l0_0 a1).bind fun t1 => if t1 < 0 then some (-1) else (laws_szIntS.f l0_1 t1).bind fun t4 => if t4 < 0 then some (-1) else (laws_szEarlyS.f l0_2 t4).bind fun t7 => if t7 < 0 then some (-1) else (laws_szIntS.f l0_4 t7).bind fun t10 => if t10 < 0 then some (-1) else some t10
theorem laws_szKeeper.ok {l0_0 : List S146} {l0_1 : List Int} {l0_2 : List S148} {a0_3 : Int} {l0_4 : List Int} {a1 : Int} {r : Int} (H : laws_szKeeper.f l0_0 l0_1 l0_2 a0_3 l0_4 a1 = some r) : ACalls Try.prog 44 [] [.agg [.sl .o 6 (l0_0.map e146), .sl .o 1 (l0_1.map (eI .i64)), .sl .o 6 (l0_2.map e148), .lit (.int .i64 a0_3), .sl .o 1 (l0_4.map (eI .i64))], .lit (.int .i64 a1)] [] (.lit (.int .i64 r)) := by
 refine acalls (fn := Try.f44) (nt := 30) Try.func44 rfl rfl (Nat.le_of_ble_eq_true rfl) fun E hE => ?_
 rw [laws_szKeeper.f] at H
 refine aw_grp1 ?_
 refine wk_start ?_
 refine kb g0 (bxA 0) ?_
 refine kv g0 (asg) ?_
 refine wk_end ?_
 refine ac_next ?_
 refine aw_grp1 ?_
 refine wk_start ?_
 refine kv g0 (faB 0 0) ?_
 refine kv g0 (ldB) ?_
 refine kv g0 (mv) ?_
 obtain ⟨t1, A2, H⟩ := of_bind H
 refine kcS0 8 (.lit (.int .i64 t1)) [] g0 (cal (laws_szEntryS.ok A2) [] 9999 .n (hf := Try.func74)) rfl rfl ?_
 refine kv g0 (asg) ?_
 refine wk_end ?_
 refine ac_next ?_
 refine aw_grp1 ?_
 refine aw_grp1 ?_
 refine wk_start ?_
 refine kv g0 (mv) ?_
 refine kv g0 (lss) ?_
 refine wk_end ?_
 refine ac_next ?_
 by_cases c3 : t1 < 0
 ·rw [if_pos c3] at H
  refine aw_ifT ?_ (decide_eq_true c3)
  refine aw_grp1 ?_
  refine wk_start ?_
  refine kv g0 (asg) ?_
  refine wk_end ?_
  refine ac_next ?_
  refine aw_ret ?_
  refine ac_thenR ?_
  obtain rfl := Option.some.inj H
  exact acr hE [.tmp 4] (.tmp .nil) (.one _) [] 9999
 rw [if_neg c3] at H
 refine aw_ifF ?_ (decide_eq_false c3)
 refine aw_skip ?_
 refine ac_next ?_
 refine aw_grp1 ?_
 refine wk_start ?_
 refine kv g0 (faB 1 1) ?_
 refine kv g0 (ldB) ?_
 refine kv g0 (mv) ?_
 obtain ⟨t4, A5, H⟩ := of_bind H
 refine kcS0 14 (.lit (.int .i64 t4)) [] g0 (cal (laws_szIntS.ok A5) [] 9999 .n (hf := Try.func46)) rfl rfl ?_
 refine kv g0 (asg) ?_
 refine wk_end ?_
 refine ac_next ?_
 refine aw_grp1 ?_
 refine aw_grp1 ?_
 refine wk_start ?_
 refine kv g0 (mv) ?_
 refine kv g0 (lss) ?_
 refine wk_end ?_
 refine ac_next ?_
 by_cases c6 : t4 < 0
 ·rw [if_pos c6] at H
  refine aw_ifT ?_ (decide_eq_true c6)
  refine aw_grp1 ?_
  refine wk_start ?_
  refine kv g0 (asg) ?_
  refine wk_end ?_
  refine ac_next ?_
  refine aw_ret ?_
  refine ac_thenR ?_
  obtain rfl := Option.some.inj H
  exact acr hE [.tmp 4] (.tmp .nil) (.one _) [] 9999
 rw [if_neg c6] at H
 refine aw_ifF ?_ (decide_eq_false c6)
 refine aw_skip ?_
 refine ac_next ?_
 refine aw_grp1 ?_
 refine wk_start ?_
 refine kv g0 (faB 2 2) ?_
 refine kv g0 (ldB) ?_
 refine kv g0 (mv) ?_
 obtain ⟨t7, A8, H⟩ := of_bind H
 refine kcS0 20 (.lit (.int .i64 t7)) [] g0 (cal (laws_szEarlyS.ok A8) [] 9999 .n (hf := Try.func75)) rfl rfl ?_
 refine kv g0 (asg) ?_
 refine wk_end ?_
 refine ac_next ?_
 refine aw_grp1 ?_
 refine aw_grp1 ?_
 refine wk_start ?_
 refine kv g0 (mv) ?_
 refine kv g0 (lss) ?_
 refine wk_end ?_
 refine ac_next ?_
 by_cases c9 : t7 < 0
 ·rw [if_pos c9] at H
  refine aw_ifT ?_ (decide_eq_true c9)
  refine aw_grp1 ?_
  refine wk_start ?_
  refine kv g0 (asg) ?_
  refine wk_end ?_
  refine ac_next ?_
  refine aw_ret ?_
  refine ac_thenR ?_
  obtain rfl := Option.some.inj H
  exact acr hE [.tmp 4] (.tmp .nil) (.one _) [] 9999
 rw [if_neg c9] at H
 refine aw_ifF ?_ (decide_eq_false c9)
 refine aw_skip ?_
 refine ac_next ?_
 refine aw_grp1 ?_
 refine wk_start ?_
 refine kv g0 (faB 4 4) ?_
 refine kv g0 (ldB) ?_
 refine kv g0 (mv) ?_
 obtain ⟨t10, A11, H⟩ := of_bind H
 refine kcS0 26 (.lit (.int .i64 t10)) [] g0 (cal (laws_szIntS.ok A11) [] 9999 .n (hf := Try.func46)) rfl rfl ?_
 refine kv g0 (asg) ?_
 refine wk_end ?_
 refine ac_next ?_
 refine aw_grp1 ?_
 refine aw_grp1 ?_
 refine wk_start ?_
 refine kv g0 (mv) ?_
 refine kv g0 (lss) ?_
 refine wk_end ?_
 refine ac_next ?_
 by_cases c12 : t10 < 0
 ·rw [if_pos c12] at H
  refine aw_ifT ?_ (decide_eq_true c12)
  refine aw_grp1 ?_
  refine wk_start ?_
  refine kv g0 (asg) ?_
  refine wk_end ?_
  refine ac_next ?_
  refine aw_ret ?_
  refine ac_thenR ?_
  obtain rfl := Option.some.inj H
  exact acr hE [.tmp 4] (.tmp .nil) (.one _) [] 9999
 rw [if_neg c12] at H
 refine aw_ifF ?_ (decide_eq_false c12)
 refine aw_skip ?_
 refine ac_next ?_
 refine aw_grp1 ?_
 refine wk_start ?_
 refine kv g0 (mv) ?_
 refine kv g0 (asg) ?_
 refine wk_end ?_
 refine ac_next ?_
 refine aw_ret ?_
 obtain rfl := Option.some.inj H
 exact acr hE [.tmp 4] (.tmp .nil) (.one _) [] 9999
/-! laws_szLetter -/
def laws_szLetter.f (a0_0 : Bool) (a0_1 : ByteArray) (a0_2 : Bool) (a1 : Int) : Option (Int) := if (wrap64 (a1 - (a0_1.size : Int))) < 0 then some (-1) else some (wrap64 (a1 - (a0_1.size : Int)))
theorem laws_szLetter.ok {a0_0 : Bool} {a0_1 : ByteArray} {a0_2 : Bool} {a1 : Int} {r : Int} (H : laws_szLetter.f a0_0 a0_1 a0_2 a1 = some r) : ACalls Try.prog 76 [] [.agg [.lit (.bool a0_0), .lit (.string a0_1), .lit (.bool a0_2)], .lit (.int .i64 a1)] [] (.lit (.int .i64 r)) := by
 refine acalls (fn := Try.f76) (nt := 13) Try.func76 rfl rfl (Nat.le_of_ble_eq_true rfl) fun E hE => ?_
 rw [laws_szLetter.f] at H
 refine aw_grp1 ?_
 refine wk_start ?_
 refine kb g0 (bxA 0) ?_
 refine kv g0 (asg) ?_
 refine wk_end ?_
 refine ac_next ?_
 refine aw_grp1 ?_
 refine wk_start ?_
 refine kv g0 (mv) ?_
 refine kv g0 (faB 1 1) ?_
 refine kv g0 (ldB) ?_
 refine kv g0 (lnT) ?_
 refine kv g0 (sub6) ?_
 refine kv g0 (asg) ?_
 refine wk_end ?_
 refine ac_next ?_
 refine aw_grp1 ?_
 refine aw_grp1 ?_
 refine wk_start ?_
 refine kv g0 (mv) ?_
 refine kv g0 (lss) ?_
 refine wk_end ?_
 refine ac_next ?_
 by_cases c1 : (wrap64 (a1 - (a0_1.size : Int))) < 0
 ·rw [if_pos c1] at H
  refine aw_ifT ?_ (decide_eq_true c1)
  refine aw_grp1 ?_
  refine wk_start ?_
  refine kv g0 (asg) ?_
  refine wk_end ?_
  refine ac_next ?_
  refine aw_ret ?_
  refine ac_thenR ?_
  obtain rfl := Option.some.inj H
  exact acr hE [.tmp 4] (.tmp .nil) (.one _) [] 9999
 rw [if_neg c1] at H
 refine aw_ifF ?_ (decide_eq_false c1)
 refine aw_skip ?_
 refine ac_next ?_
 refine aw_grp1 ?_
 refine wk_start ?_
 refine kv g0 (mv) ?_
 refine kv g0 (asg) ?_
 refine wk_end ?_
 refine ac_next ?_
 refine aw_ret ?_
 obtain rfl := Option.some.inj H
 exact acr hE [.tmp 4] (.tmp .nil) (.one _) [] 9999
/-! laws_szLetterS -/
def laws_szLetterS.l0 : Nat → (List S117) → Int → Int → Option (Int)
 | 0, _, _, _ => none
 | k9 + 1, l0, p7, p8 => if p8 < (l0.length : Int) then if 0 ≤ p8 then ((laws_szLetter.f ((rd_T117 l0 p8).f0) ((rd_T117 l0 p8).f1) ((rd_T117 l0 p8).f2) p7).bind fun t12 => if t12 < 0 then some (-1) else laws_szLetterS.l0 k9 l0 t12 (wrap64 (p8 + 1))) else none else some p7
def laws_szLetterS.f (k : Nat) (l0 : List S117) (a1 : Int) : Option (Int) := if (wrap64 (a1 - (l0.length : Int))) < 0 then some (-1) else laws_szLetterS.l0 k l0 (wrap64 (a1 - (l0.length : Int))) 0
theorem laws_szLetterS.ok {k : Nat} {l0 : List S117} {a1 : Int} {r : Int} (H : laws_szLetterS.f k l0 a1 = some r) : ACalls Try.prog 45 [] [.sl .o 3 (l0.map e117), .lit (.int .i64 a1)] [] (.lit (.int .i64 r)) := by
 refine acalls (fn := Try.f45) (nt := 27) Try.func45 rfl rfl (Nat.le_of_ble_eq_true rfl) fun E hE => ?_
 rw [laws_szLetterS.f] at H
 refine aw_grp1 ?_
 refine wk_start ?_
 refine kv g0 (asg) ?_
 refine wk_end ?_
 refine ac_next ?_
 refine aw_grp1 ?_
 refine wk_start ?_
 refine kv g0 (mv) ?_
 refine kv g0 (mv) ?_
 refine kv g0 (lnS lenE) ?_
 refine kv g0 (sub6) ?_
 refine kv g0 (asg) ?_
 refine wk_end ?_
 refine ac_next ?_
 refine aw_grp1 ?_
 refine aw_grp1 ?_
 refine wk_start ?_
 refine kv g0 (mv) ?_
 refine kv g0 (lss) ?_
 refine wk_end ?_
 refine ac_next ?_
 by_cases c1 : (wrap64 (a1 - (l0.length : Int))) < 0
 ·rw [if_pos c1] at H
  refine aw_ifT ?_ (decide_eq_true c1)
  refine aw_grp1 ?_
  refine wk_start ?_
  refine kv g0 (asg) ?_
  refine wk_end ?_
  refine ac_next ?_
  refine aw_ret ?_
  refine ac_thenR ?_
  obtain rfl := Option.some.inj H
  exact acr hE [.tmp 4] (.tmp .nil) (.one _) [] 9999
 rw [if_neg c1] at H
 refine aw_ifF ?_ (decide_eq_false c1)
 refine aw_skip ?_
 refine ac_next ?_
 refine aw_grp1 ?_
 refine aw_grp1 ?_
 refine wk_start ?_
 refine kv g0 (asg) ?_
 refine wk_end ?_
 refine ac_next ?_
 refine aw_block ?_
 refine aw_loop2 (fun (k_ : Nat) (p7 : Int) (p8 : Int) => k_ ≤ k ∧ laws_szLetterS.l0 k_ l0 p7 p8 = some r) (fun (p7 : Int) (p8 : Int) => ⟨[(0, .sl .o 3 (l0.map e117)), (1, .lit (.int .i64 p7)), (5, .lit (.int .i64 p8))], []⟩) k (wrap64 (a1 - (l0.length : Int))) 0 ⟨Nat.le_refl _, H⟩ (fun K_ h_ => acw hE [] 9999 h_) (fun _ _ => by intro h_; have h_ := h_.2; rw [laws_szLetterS.l0.eq_1] at h_; cases h_) ?_
 intro k9 p7 p8 hq_ K15 hK16
 have hk9 := hq_.1
 have H := hq_.2
 clear hq_
 rw [laws_szLetterS.l0.eq_2] at H
 refine aw_grp1 ?_
 refine aw_grp1 ?_
 refine wk_start ?_
 refine kv g0 (mv) ?_
 refine kv g0 (mv) ?_
 refine kv g0 (lnS lenE) ?_
 refine kv g0 (lss) ?_
 refine wk_end ?_
 refine ac_next ?_
 by_cases c10 : p8 < (l0.length : Int)
 ·rw [if_pos c10] at H
  refine aw_ifT ?_ (decide_eq_true c10)
  refine aw_skip ?_
  refine ac_next ?_
  refine aw_grp1 ?_
  refine aw_block ?_
  refine aw_grp1 ?_
  refine wk_start ?_
  refine kv g0 (mv) ?_
  refine kv g0 (mv) ?_
  obtain ⟨c11, H⟩ := of_if H
  refine kv g0 (ixS 117 (e117 (rd_T117 l0 p8)) c11 (getE (z := z117) c11 c10)) ?_
  refine kv g0 (ldRA 3 [.lit (.bool ((rd_T117 l0 p8).f0)), .lit (.string ((rd_T117 l0 p8).f1)), .lit (.bool ((rd_T117 l0 p8).f2))]) ?_
  refine kv g0 (mv) ?_
  obtain ⟨t12, A13, H⟩ := of_bind H
  refine kcS0 23 (.lit (.int .i64 t12)) [] g0 (cal (laws_szLetter.ok A13) [] 9999 .n (hf := Try.func76)) rfl rfl ?_
  refine kv g0 (asg) ?_
  refine wk_end ?_
  refine ac_next ?_
  refine aw_grp1 ?_
  refine wk_start ?_
  refine kv g0 (mv) ?_
  refine kv g0 (lss) ?_
  refine wk_end ?_
  refine ac_next ?_
  by_cases c14 : t12 < 0
  ·rw [if_pos c14] at H
   refine aw_ifT ?_ (decide_eq_true c14)
   refine aw_grp1 ?_
   refine wk_start ?_
   refine kv g0 (asg) ?_
   refine wk_end ?_
   refine ac_next ?_
   refine aw_ret ?_
   refine ac_blkR ?_
   refine ac_thenR ?_
   refine ac_thenR ?_
   refine ac_blkR ?_
   refine ac_thenR ?_
   obtain rfl := Option.some.inj H
   exact acr hE [.tmp 4] (.tmp .nil) (.one _) [] 9999
  rw [if_neg c14] at H
  refine aw_ifF ?_ (decide_eq_false c14)
  refine aw_skip ?_
  refine ac_blkN ?_
  refine ac_next ?_
  refine wk_start ?_
  refine kv g0 (mv) ?_
  refine kv g0 (add6) ?_
  refine kv g0 (asg) ?_
  refine wk_end ?_
  refine ac_k ?_
  exact acw hE [] 9999 (hK16 k9 t12 (wrap64 (p8 + 1)) (Nat.le_refl _) ⟨by omega, H⟩)
 rw [if_neg c10] at H
 refine aw_ifF ?_ (decide_eq_false c10)
 refine aw_exit ?_
 refine ac_then ?_
 refine ac_then ?_
 refine ac_hit rfl ?_
 refine ac_next ?_
 refine aw_grp1 ?_
 refine wk_start ?_
 refine kv g0 (mv) ?_
 refine kv g0 (asg) ?_
 refine wk_end ?_
 refine ac_next ?_
 refine aw_ret ?_
 obtain rfl := Option.some.inj H
 exact acr hE [.tmp 4] (.tmp .nil) (.one _) [] 9999
/-! laws_szSeenS -/
def laws_szSeenS.f (l0 : List S125) (a1 : Int) : Option (Int) := if (wrap64 (a1 - (l0.length : Int))) < 0 then some (-1) else some (wrap64 (a1 - (l0.length : Int)))
theorem laws_szSeenS.ok {l0 : List S125} {a1 : Int} {r : Int} (H : laws_szSeenS.f l0 a1 = some r) : ACalls Try.prog 47 [] [.sl .o 4 (l0.map e125), .lit (.int .i64 a1)] [] (.lit (.int .i64 r)) := by
 refine acalls (fn := Try.f47) (nt := 12) Try.func47 rfl rfl (Nat.le_of_ble_eq_true rfl) fun E hE => ?_
 rw [laws_szSeenS.f] at H
 refine aw_grp1 ?_
 refine wk_start ?_
 refine kv g0 (asg) ?_
 refine wk_end ?_
 refine ac_next ?_
 refine aw_grp1 ?_
 refine wk_start ?_
 refine kv g0 (mv) ?_
 refine kv g0 (mv) ?_
 refine kv g0 (lnS lenE) ?_
 refine kv g0 (sub6) ?_
 refine kv g0 (asg) ?_
 refine wk_end ?_
 refine ac_next ?_
 refine aw_grp1 ?_
 refine aw_grp1 ?_
 refine wk_start ?_
 refine kv g0 (mv) ?_
 refine kv g0 (lss) ?_
 refine wk_end ?_
 refine ac_next ?_
 by_cases c1 : (wrap64 (a1 - (l0.length : Int))) < 0
 ·rw [if_pos c1] at H
  refine aw_ifT ?_ (decide_eq_true c1)
  refine aw_grp1 ?_
  refine wk_start ?_
  refine kv g0 (asg) ?_
  refine wk_end ?_
  refine ac_next ?_
  refine aw_ret ?_
  refine ac_thenR ?_
  obtain rfl := Option.some.inj H
  exact acr hE [.tmp 4] (.tmp .nil) (.one _) [] 9999
 rw [if_neg c1] at H
 refine aw_ifF ?_ (decide_eq_false c1)
 refine aw_skip ?_
 refine ac_next ?_
 refine aw_grp1 ?_
 refine wk_start ?_
 refine kv g0 (mv) ?_
 refine kv g0 (asg) ?_
 refine wk_end ?_
 refine ac_next ?_
 refine aw_ret ?_
 obtain rfl := Option.some.inj H
 exact acr hE [.tmp 4] (.tmp .nil) (.one _) [] 9999
/-! laws_szWorld -/
def laws_szWorld.f (k : Nat) (l0_0 : List (List (List S154))) (l0_1 : List S110) (l0_2 : List S113) (l0_3 : List S146) (l0_4 : List Int) (l0_5 : List S148) (a0_6 : Int) (l0_7 : List Int) (l0_8 : List S117) (a0_9 : Int) (l0_10 : List Int) (l0_11 : List S125) (a1 : Int) : Option (Int) := (laws_szInsSSS.f k l0_0 a1).bind fun t1 => if t1 < 0 then some (-1) else (laws_szRingS.f k l0_1 t1).bind fun t4 => if t4 < 0 then some (-1) else (laws_szSenderS.f k l0_2 t4).bind fun t7 => if t7 < 0 then some (-1) else (laws_szKeeper.f l0_3 l0_4 l0_5 a0_6 l0_7 t7).bind fun t10 => if t10 < 0 then some (-1) else (laws_szLetterS.f k l0_8 t10).bind fun t13 => if t13 < 0 then some (-1) else (laws_szIntS.f l0_10 t13).bind fun t16 => if t16 < 0 then some (-1) else (laws_szSeenS.f l0_11 t16).bind fun t19 => if t19 < 0 then some (-1) else some t19
theorem laws_szWorld.ok {k : Nat} {l0_0 : List (List (List S154))} {l0_1 : List S110} {l0_2 : List S113} {l0_3 : List S146} {l0_4 : List Int} {l0_5 : List S148} {a0_6 : Int} {l0_7 : List Int} {l0_8 : List S117} {a0_9 : Int} {l0_10 : List Int} {l0_11 : List S125} {a1 : Int} {r : Int} (H : laws_szWorld.f k l0_0 l0_1 l0_2 l0_3 l0_4 l0_5 a0_6 l0_7 l0_8 a0_9 l0_10 l0_11 a1 = some r) : ACalls Try.prog 10 [] [.agg [.sl .o 1 (l0_0.map (eL 1 (eL 4 (e154)))), .sl .o 4 (l0_1.map e110), .sl .o 5 (l0_2.map e113), .sl .o 6 (l0_3.map e146), .sl .o 1 (l0_4.map (eI .i64)), .sl .o 6 (l0_5.map e148), .lit (.int .i64 a0_6), .sl .o 1 (l0_7.map (eI .i64)), .sl .o 3 (l0_8.map e117), .lit (.int .i64 a0_9), .sl .o 1 (l0_10.map (eI .i64)), .sl .o 4 (l0_11.map e125)], .lit (.int .i64 a1)] [] (.lit (.int .i64 r)) := by
 refine acalls (fn := Try.f10) (nt := 48) Try.func10 rfl rfl (Nat.le_of_ble_eq_true rfl) fun E hE => ?_
 rw [laws_szWorld.f] at H
 refine aw_grp1 ?_
 refine wk_start ?_
 refine kb g0 (bxA 0) ?_
 refine kv g0 (asg) ?_
 refine wk_end ?_
 refine ac_next ?_
 refine aw_grp1 ?_
 refine wk_start ?_
 refine kv g0 (faB 0 0) ?_
 refine kv g0 (ldB) ?_
 refine kv g0 (mv) ?_
 obtain ⟨t1, A2, H⟩ := of_bind H
 refine kcS0 8 (.lit (.int .i64 t1)) [] g0 (cal (laws_szInsSSS.ok A2) [] 9999 .n (hf := Try.func41)) rfl rfl ?_
 refine kv g0 (asg) ?_
 refine wk_end ?_
 refine ac_next ?_
 refine aw_grp1 ?_
 refine aw_grp1 ?_
 refine wk_start ?_
 refine kv g0 (mv) ?_
 refine kv g0 (lss) ?_
 refine wk_end ?_
 refine ac_next ?_
 by_cases c3 : t1 < 0
 ·rw [if_pos c3] at H
  refine aw_ifT ?_ (decide_eq_true c3)
  refine aw_grp1 ?_
  refine wk_start ?_
  refine kv g0 (asg) ?_
  refine wk_end ?_
  refine ac_next ?_
  refine aw_ret ?_
  refine ac_thenR ?_
  obtain rfl := Option.some.inj H
  exact acr hE [.tmp 4] (.tmp .nil) (.one _) [] 9999
 rw [if_neg c3] at H
 refine aw_ifF ?_ (decide_eq_false c3)
 refine aw_skip ?_
 refine ac_next ?_
 refine aw_grp1 ?_
 refine wk_start ?_
 refine kv g0 (faB 1 1) ?_
 refine kv g0 (ldB) ?_
 refine kv g0 (mv) ?_
 obtain ⟨t4, A5, H⟩ := of_bind H
 refine kcS0 14 (.lit (.int .i64 t4)) [] g0 (cal (laws_szRingS.ok A5) [] 9999 .n (hf := Try.func42)) rfl rfl ?_
 refine kv g0 (asg) ?_
 refine wk_end ?_
 refine ac_next ?_
 refine aw_grp1 ?_
 refine aw_grp1 ?_
 refine wk_start ?_
 refine kv g0 (mv) ?_
 refine kv g0 (lss) ?_
 refine wk_end ?_
 refine ac_next ?_
 by_cases c6 : t4 < 0
 ·rw [if_pos c6] at H
  refine aw_ifT ?_ (decide_eq_true c6)
  refine aw_grp1 ?_
  refine wk_start ?_
  refine kv g0 (asg) ?_
  refine wk_end ?_
  refine ac_next ?_
  refine aw_ret ?_
  refine ac_thenR ?_
  obtain rfl := Option.some.inj H
  exact acr hE [.tmp 4] (.tmp .nil) (.one _) [] 9999
 rw [if_neg c6] at H
 refine aw_ifF ?_ (decide_eq_false c6)
 refine aw_skip ?_
 refine ac_next ?_
 refine aw_grp1 ?_
 refine wk_start ?_
 refine kv g0 (faB 2 2) ?_
 refine kv g0 (ldB) ?_
 refine kv g0 (mv) ?_
 obtain ⟨t7, A8, H⟩ := of_bind H
 refine kcS0 20 (.lit (.int .i64 t7)) [] g0 (cal (laws_szSenderS.ok A8) [] 9999 .n (hf := Try.func43)) rfl rfl ?_
 refine kv g0 (asg) ?_
 refine wk_end ?_
 refine ac_next ?_
 refine aw_grp1 ?_
 refine aw_grp1 ?_
 refine wk_start ?_
 refine kv g0 (mv) ?_
 refine kv g0 (lss) ?_
 refine wk_end ?_
 refine ac_next ?_
 by_cases c9 : t7 < 0
 ·rw [if_pos c9] at H
  refine aw_ifT ?_ (decide_eq_true c9)
  refine aw_grp1 ?_
  refine wk_start ?_
  refine kv g0 (asg) ?_
  refine wk_end ?_
  refine ac_next ?_
  refine aw_ret ?_
  refine ac_thenR ?_
  obtain rfl := Option.some.inj H
  exact acr hE [.tmp 4] (.tmp .nil) (.one _) [] 9999
 rw [if_neg c9] at H
 refine aw_ifF ?_ (decide_eq_false c9)
 refine aw_skip ?_
 refine ac_next ?_
 refine aw_grp1 ?_
 refine wk_start ?_
 refine kv g0 (faB 3 3) ?_
 refine kv g0 (ldBA 5 [.sl .o 6 (l0_3.map e146), .sl .o 1 (l0_4.map (eI .i64)), .sl .o 6 (l0_5.map e148), .lit (.int .i64 a0_6), .sl .o 1 (l0_7.map (eI .i64))]) ?_
 refine kv g0 (mv) ?_
 obtain ⟨t10, A11, H⟩ := of_bind H
 refine kcS0 26 (.lit (.int .i64 t10)) [] g0 (cal (laws_szKeeper.ok A11) [] 9999 .n (hf := Try.func44)) rfl rfl ?_
 refine kv g0 (asg) ?_
 refine wk_end ?_
 refine ac_next ?_
 refine aw_grp1 ?_
 refine aw_grp1 ?_
 refine wk_start ?_
 refine kv g0 (mv) ?_
 refine kv g0 (lss) ?_
 refine wk_end ?_
 refine ac_next ?_
 by_cases c12 : t10 < 0
 ·rw [if_pos c12] at H
  refine aw_ifT ?_ (decide_eq_true c12)
  refine aw_grp1 ?_
  refine wk_start ?_
  refine kv g0 (asg) ?_
  refine wk_end ?_
  refine ac_next ?_
  refine aw_ret ?_
  refine ac_thenR ?_
  obtain rfl := Option.some.inj H
  exact acr hE [.tmp 4] (.tmp .nil) (.one _) [] 9999
 rw [if_neg c12] at H
 refine aw_ifF ?_ (decide_eq_false c12)
 refine aw_skip ?_
 refine ac_next ?_
 refine aw_grp1 ?_
 refine wk_start ?_
 refine kv g0 (faB 8 8) ?_
 refine kv g0 (ldB) ?_
 refine kv g0 (mv) ?_
 obtain ⟨t13, A14, H⟩ := of_bind H
 refine kcS0 32 (.lit (.int .i64 t13)) [] g0 (cal (laws_szLetterS.ok A14) [] 9999 .n (hf := Try.func45)) rfl rfl ?_
 refine kv g0 (asg) ?_
 refine wk_end ?_
 refine ac_next ?_
 refine aw_grp1 ?_
 refine aw_grp1 ?_
 refine wk_start ?_
 refine kv g0 (mv) ?_
 refine kv g0 (lss) ?_
 refine wk_end ?_
 refine ac_next ?_
 by_cases c15 : t13 < 0
 ·rw [if_pos c15] at H
  refine aw_ifT ?_ (decide_eq_true c15)
  refine aw_grp1 ?_
  refine wk_start ?_
  refine kv g0 (asg) ?_
  refine wk_end ?_
  refine ac_next ?_
  refine aw_ret ?_
  refine ac_thenR ?_
  obtain rfl := Option.some.inj H
  exact acr hE [.tmp 4] (.tmp .nil) (.one _) [] 9999
 rw [if_neg c15] at H
 refine aw_ifF ?_ (decide_eq_false c15)
 refine aw_skip ?_
 refine ac_next ?_
 refine aw_grp1 ?_
 refine wk_start ?_
 refine kv g0 (faB 10 10) ?_
 refine kv g0 (ldB) ?_
 refine kv g0 (mv) ?_
 obtain ⟨t16, A17, H⟩ := of_bind H
 refine kcS0 38 (.lit (.int .i64 t16)) [] g0 (cal (laws_szIntS.ok A17) [] 9999 .n (hf := Try.func46)) rfl rfl ?_
 refine kv g0 (asg) ?_
 refine wk_end ?_
 refine ac_next ?_
 refine aw_grp1 ?_
 refine aw_grp1 ?_
 refine wk_start ?_
 refine kv g0 (mv) ?_
 refine kv g0 (lss) ?_
 refine wk_end ?_
 refine ac_next ?_
 by_cases c18 : t16 < 0
 ·rw [if_pos c18] at H
  refine aw_ifT ?_ (decide_eq_true c18)
  refine aw_grp1 ?_
  refine wk_start ?_
  refine kv g0 (asg) ?_
  refine wk_end ?_
  refine ac_next ?_
  refine aw_ret ?_
  refine ac_thenR ?_
  obtain rfl := Option.some.inj H
  exact acr hE [.tmp 4] (.tmp .nil) (.one _) [] 9999
 rw [if_neg c18] at H
 refine aw_ifF ?_ (decide_eq_false c18)
 refine aw_skip ?_
 refine ac_next ?_
 refine aw_grp1 ?_
 refine wk_start ?_
 refine kv g0 (faB 11 11) ?_
 refine kv g0 (ldB) ?_
 refine kv g0 (mv) ?_
 obtain ⟨t19, A20, H⟩ := of_bind H
 refine kcS0 44 (.lit (.int .i64 t19)) [] g0 (cal (laws_szSeenS.ok A20) [] 9999 .n (hf := Try.func47)) rfl rfl ?_
 refine kv g0 (asg) ?_
 refine wk_end ?_
 refine ac_next ?_
 refine aw_grp1 ?_
 refine aw_grp1 ?_
 refine wk_start ?_
 refine kv g0 (mv) ?_
 refine kv g0 (lss) ?_
 refine wk_end ?_
 refine ac_next ?_
 by_cases c21 : t19 < 0
 ·rw [if_pos c21] at H
  refine aw_ifT ?_ (decide_eq_true c21)
  refine aw_grp1 ?_
  refine wk_start ?_
  refine kv g0 (asg) ?_
  refine wk_end ?_
  refine ac_next ?_
  refine aw_ret ?_
  refine ac_thenR ?_
  obtain rfl := Option.some.inj H
  exact acr hE [.tmp 4] (.tmp .nil) (.one _) [] 9999
 rw [if_neg c21] at H
 refine aw_ifF ?_ (decide_eq_false c21)
 refine aw_skip ?_
 refine ac_next ?_
 refine aw_grp1 ?_
 refine wk_start ?_
 refine kv g0 (mv) ?_
 refine kv g0 (asg) ?_
 refine wk_end ?_
 refine ac_next ?_
 refine aw_ret ?_
 obtain rfl := Option.some.inj H
 exact acr hE [.tmp 4] (.tmp .nil) (.one _) [] 9999
/-! laws_toIns -/
def laws_toIns.f (a0_0 : Int) (a0_1 : Int) (a0_2 : Int) (a0_3 : Int) : Option (Int × Int × Int × Int) := some (a0_0, a0_1, a0_2, a0_3)
theorem laws_toIns.ok {a0_0 : Int} {a0_1 : Int} {a0_2 : Int} {a0_3 : Int} {r : Int × Int × Int × Int} (H : laws_toIns.f a0_0 a0_1 a0_2 a0_3 = some r) : ACalls Try.prog 98 [] [.agg [.lit (.int .i64 a0_0), .lit (.int .i64 a0_1), .lit (.int .i64 a0_2), .lit (.int .i64 a0_3)]] [] (.agg [.lit (.int .i64 r.1), .lit (.int .i64 r.2.1), .lit (.int .i64 r.2.2.1), .lit (.int .i64 r.2.2.2)]) := by
 refine acalls (fn := Try.f98) (nt := 17) Try.func98 rfl rfl (Nat.le_of_ble_eq_true rfl) fun E hE => ?_
 rw [laws_toIns.f] at H
 refine aw_grp1 ?_
 refine wk_start ?_
 refine kb g0 (bxA 0) ?_
 refine kb g0 (alc 1 [.int .i64 0, .int .i64 0, .int .i64 0, .int .i64 0] [.lit (.int .i64 0), .lit (.int .i64 0), .lit (.int .i64 0), .lit (.int .i64 0)]) ?_
 refine wk_end ?_
 refine ac_next ?_
 refine aw_grp1 ?_
 refine wk_start ?_
 refine kb g0 (alc 2 [.int .i64 0, .int .i64 0, .int .i64 0, .int .i64 0] [.lit (.int .i64 0), .lit (.int .i64 0), .lit (.int .i64 0), .lit (.int .i64 0)]) ?_
 refine wk_end ?_
 refine ac_next ?_
 refine aw_grp1 ?_
 refine wk_start ?_
 refine kv g0 (faB 0 0) ?_
 refine kv g0 (ldB) ?_
 refine kv g0 (faB 0 0) ?_
 refine ks g0 (stB 1 [.lit (.int .i64 a0_0), .lit (.int .i64 0), .lit (.int .i64 0), .lit (.int .i64 0)]) ?_
 refine wk_end ?_
 refine ac_next ?_
 refine aw_grp1 ?_
 refine wk_start ?_
 refine kv g0 (faB 1 1) ?_
 refine kv g0 (ldB) ?_
 refine kv g0 (faB 1 1) ?_
 refine ks g0 (stB 1 [.lit (.int .i64 a0_0), .lit (.int .i64 a0_1), .lit (.int .i64 0), .lit (.int .i64 0)]) ?_
 refine wk_end ?_
 refine ac_next ?_
 refine aw_grp1 ?_
 refine wk_start ?_
 refine kv g0 (faB 2 2) ?_
 refine kv g0 (ldB) ?_
 refine kv g0 (faB 2 2) ?_
 refine ks g0 (stB 1 [.lit (.int .i64 a0_0), .lit (.int .i64 a0_1), .lit (.int .i64 a0_2), .lit (.int .i64 0)]) ?_
 refine wk_end ?_
 refine ac_next ?_
 refine aw_grp1 ?_
 refine wk_start ?_
 refine kv g0 (faB 3 3) ?_
 refine kv g0 (ldB) ?_
 refine kv g0 (faB 3 3) ?_
 refine ks g0 (stB 1 [.lit (.int .i64 a0_0), .lit (.int .i64 a0_1), .lit (.int .i64 a0_2), .lit (.int .i64 a0_3)]) ?_
 refine wk_end ?_
 refine ac_next ?_
 refine aw_grp1 ?_
 refine wk_start ?_
 refine kv g0 (ldBA 4 [.lit (.int .i64 a0_0), .lit (.int .i64 a0_1), .lit (.int .i64 a0_2), .lit (.int .i64 a0_3)]) ?_
 refine ks g0 (stB 4 [.lit (.int .i64 a0_0), .lit (.int .i64 a0_1), .lit (.int .i64 a0_2), .lit (.int .i64 a0_3)]) ?_
 refine wk_end ?_
 refine ac_next ?_
 refine aw_ret ?_
 obtain rfl := Option.some.inj H
 exact acr hE [.cell 2 151] (rcA 4 .nil) (.one _) [] 9999
/-! laws_toInsS -/
def laws_toInsS.l0 : Nat → (List S154) → (List S151) → Int → Option ((List S151))
 | 0, _, _, _ => none
 | k10 + 1, l0, q8, p9 => if p9 < (l0.length : Int) then if 0 ≤ p9 then ((laws_toIns.f ((rd_T154 l0 p9).f0) ((rd_T154 l0 p9).f1) ((rd_T154 l0 p9).f2) ((rd_T154 l0 p9).f3)).bind fun t13 => (if p9 < (q8.length : Int) then laws_toInsS.l0 k10 l0 (q8.set p9.toNat (⟨t13.1, t13.2.1, t13.2.2.1, t13.2.2.2⟩ : S151)) (wrap64 (p9 + 1)) else none)) else none else some q8
def laws_toInsS.f (k : Nat) (l0 : List S154) : Option ((List S151)) := if 0 ≤ (l0.length : Int) then (if (l0.length : Int).toNat ≤ 8796093022208 then laws_toInsS.l0 k l0 (List.replicate (l0.length : Int).toNat z151) 0 else none) else none
theorem laws_toInsS.ok {k : Nat} {l0 : List S154} {r : (List S151)} (H : laws_toInsS.f k l0 = some r) : ACalls Try.prog 92 [] [.sl .o 4 (l0.map e154)] [(0, .row 151 4 (r.map e151))] (.row 0) := by
 refine acalls (fn := Try.f92) (nt := 23) Try.func92 rfl rfl (Nat.le_of_ble_eq_true rfl) fun E hE => ?_
 rw [laws_toInsS.f] at H
 refine aw_grp1 ?_
 refine wk_start ?_
 refine kv g0 (asg) ?_
 refine wk_end ?_
 refine ac_next ?_
 refine aw_grp1 ?_
 refine wk_start ?_
 refine kv g0 (mv) ?_
 refine kv g0 (lnS lenE) ?_
 obtain ⟨c1, H⟩ := of_if H
 obtain ⟨c2, H⟩ := of_if H
 refine kb g0 (mks 0 151 4 32 [.int .i64 0, .int .i64 0, .int .i64 0, .int .i64 0] (e151 z151) ((List.replicate (l0.length : Int).toNat z151).map e151) c1 (mkb c2 rfl) repE) ?_
 refine kv g0 (asg) ?_
 refine wk_end ?_
 refine ac_next ?_
 refine aw_grp1 ?_
 refine aw_grp1 ?_
 refine wk_start ?_
 refine kv g0 (asg) ?_
 refine wk_end ?_
 refine ac_next ?_
 refine aw_block ?_
 refine aw_loop2 (fun (k_ : Nat) (q8 : List S151) (p9 : Int) => k_ ≤ k ∧ laws_toInsS.l0 k_ l0 q8 p9 = some r) (fun (q8 : List S151) (p9 : Int) => ⟨[(0, .sl .o 4 (l0.map e154)), (3, .row 0), (4, .lit (.int .i64 p9))], [(0, .row 151 4 (q8.map e151))]⟩) k (List.replicate (l0.length : Int).toNat z151) 0 ⟨Nat.le_refl _, H⟩ (fun K_ h_ => acw hE [(0, 0)] 9999 h_) (fun _ _ => by intro h_; have h_ := h_.2; rw [laws_toInsS.l0.eq_1] at h_; cases h_) ?_
 intro k10 q8 p9 hq_ K16 hK17
 have hk10 := hq_.1
 have H := hq_.2
 clear hq_
 rw [laws_toInsS.l0.eq_2] at H
 refine aw_grp1 ?_
 refine aw_grp1 ?_
 refine wk_start ?_
 refine kv g0 (mv) ?_
 refine kv g0 (mv) ?_
 refine kv g0 (lnS lenE) ?_
 refine kv g0 (lss) ?_
 refine wk_end ?_
 refine ac_next ?_
 by_cases c11 : p9 < (l0.length : Int)
 ·rw [if_pos c11] at H
  refine aw_ifT ?_ (decide_eq_true c11)
  refine aw_skip ?_
  refine ac_next ?_
  refine aw_grp1 ?_
  refine aw_block ?_
  refine wk_start ?_
  refine kv g0 (mv) ?_
  refine kv g0 (mv) ?_
  refine kv g0 (mv) ?_
  refine kv g0 (mv) ?_
  obtain ⟨c12, H⟩ := of_if H
  refine kv g0 (ixS 154 (e154 (rd_T154 l0 p9)) c12 (getE (z := z154) c12 c11)) ?_
  refine kv g0 (ldRA 4 [.lit (.int .i64 ((rd_T154 l0 p9).f0)), .lit (.int .i64 ((rd_T154 l0 p9).f1)), .lit (.int .i64 ((rd_T154 l0 p9).f2)), .lit (.int .i64 ((rd_T154 l0 p9).f3))]) ?_
  obtain ⟨t13, A14, H⟩ := of_bind H
  refine kcS0 20 (.agg [.lit (.int .i64 t13.1), .lit (.int .i64 t13.2.1), .lit (.int .i64 t13.2.2.1), .lit (.int .i64 t13.2.2.2)]) [] g0 (cal (laws_toIns.ok A14) [] 9999 .n (hf := Try.func98)) rfl rfl ?_
  obtain ⟨c15, H⟩ := of_if H
  refine kv g0 (ixR 151 c12 (ltE c15)) ?_
  refine ks g0 (stE 4 (e151 (⟨t13.1, t13.2.1, t13.2.2.1, t13.2.2.2⟩ : S151)) ((q8.set p9.toNat (⟨t13.1, t13.2.1, t13.2.2.1, t13.2.2.2⟩ : S151)).map e151) (getE (z := z151) c12 c15) setE) ?_
  refine wk_end ?_
  refine ac_blkN ?_
  refine ac_next ?_
  refine wk_start ?_
  refine kv g0 (mv) ?_
  refine kv g0 (add6) ?_
  refine kv g0 (asg) ?_
  refine wk_end ?_
  refine ac_k ?_
  exact acw hE [(0, 0)] 9999 (hK17 k10 (q8.set p9.toNat (⟨t13.1, t13.2.1, t13.2.2.1, t13.2.2.2⟩ : S151)) (wrap64 (p9 + 1)) (Nat.le_refl _) ⟨by omega, H⟩)
 rw [if_neg c11] at H
 refine aw_ifF ?_ (decide_eq_false c11)
 refine aw_exit ?_
 refine ac_then ?_
 refine ac_then ?_
 refine ac_hit rfl ?_
 refine ac_next ?_
 refine aw_grp1 ?_
 refine wk_start ?_
 refine kv g0 (mv) ?_
 refine kv g0 (asg) ?_
 refine wk_end ?_
 refine ac_next ?_
 refine aw_ret ?_
 obtain rfl := Option.some.inj H
 exact acr hE [.tmp 2] (.tmp .nil) (.one _) [(0, 0)] 9999
/-! laws_toInsSS -/
def laws_toInsSS.l0 : Nat → (List (List S154)) → (List (List S151)) → Int → Option ((List (List S151)))
 | 0, _, _, _ => none
 | k10 + 1, l0, q8, p9 => if p9 < (l0.length : Int) then if 0 ≤ p9 then ((laws_toInsS.f k10 (rdOf ([] : List S154) l0 p9)).bind fun t13 => (if p9 < (q8.length : Int) then laws_toInsSS.l0 k10 l0 (q8.set p9.toNat t13) (wrap64 (p9 + 1)) else none)) else none else some q8
def laws_toInsSS.f (k : Nat) (l0 : List (List S154)) : Option ((List (List S151))) := if 0 ≤ (l0.length : Int) then (if (l0.length : Int).toNat ≤ 11728124029610 then laws_toInsSS.l0 k l0 (List.replicate (l0.length : Int).toNat ([] : List S151)) 0 else none) else none
theorem laws_toInsSS.ok {k : Nat} {l0 : List (List S154)} {r : (List (List S151))} (H : laws_toInsSS.f k l0 = some r) : ACalls Try.prog 77 [] [.sl .o 1 (l0.map (eL 4 (e154)))] [(0, .drow false [.own 151 []] 127 1 (r.map (eL 4 (e151))))] (.row 0) := by
 refine acalls (fn := Try.f77) (nt := 23) Try.func77 rfl rfl (Nat.le_of_ble_eq_true rfl) fun E hE => ?_
 rw [laws_toInsSS.f] at H
 refine aw_grp1 ?_
 refine wk_start ?_
 refine kv g0 (asg) ?_
 refine wk_end ?_
 refine ac_next ?_
 refine aw_grp1 ?_
 refine wk_start ?_
 refine kv g0 (mv) ?_
 refine kv g0 (lnS lenE) ?_
 obtain ⟨c1, H⟩ := of_if H
 obtain ⟨c2, H⟩ := of_if H
 refine kb g0 (mksD 0 127 1 24 [.own 151 []] [.slice none 0 0] (eL 4 (e151) ([] : List S151)) ((List.replicate (l0.length : Int).toNat ([] : List S151)).map (eL 4 (e151))) c1 (mkb c2 rfl) repE) ?_
 refine kv g0 (asg) ?_
 refine wk_end ?_
 refine ac_next ?_
 refine aw_grp1 ?_
 refine aw_grp1 ?_
 refine wk_start ?_
 refine kv g0 (asg) ?_
 refine wk_end ?_
 refine ac_next ?_
 refine aw_block ?_
 refine ac_g1 (sealD 0 (rfl) clL) ?_
 refine aw_loop2 (fun (k_ : Nat) (q8 : List (List S151)) (p9 : Int) => k_ ≤ k ∧ laws_toInsSS.l0 k_ l0 q8 p9 = some r) (fun (q8 : List (List S151)) (p9 : Int) => ⟨[(0, .sl .o 1 (l0.map (eL 4 (e154)))), (3, .row 0), (4, .lit (.int .i64 p9))], [(0, .drow false [.own 151 []] 127 1 (q8.map (eL 4 (e151))))]⟩) k (List.replicate (l0.length : Int).toNat ([] : List S151)) 0 ⟨Nat.le_refl _, H⟩ (fun K_ h_ => acw hE [(0, 0)] 9999 h_) (fun _ _ => by intro h_; have h_ := h_.2; rw [laws_toInsSS.l0.eq_1] at h_; cases h_) ?_
 intro k10 q8 p9 hq_ K16 hK17
 have hk10 := hq_.1
 have H := hq_.2
 clear hq_
 rw [laws_toInsSS.l0.eq_2] at H
 refine aw_grp1 ?_
 refine aw_grp1 ?_
 refine wk_start ?_
 refine kv g0 (mv) ?_
 refine kv g0 (mv) ?_
 refine kv g0 (lnS lenE) ?_
 refine kv g0 (lss) ?_
 refine wk_end ?_
 refine ac_next ?_
 by_cases c11 : p9 < (l0.length : Int)
 ·rw [if_pos c11] at H
  refine aw_ifT ?_ (decide_eq_true c11)
  refine aw_skip ?_
  refine ac_next ?_
  refine aw_grp1 ?_
  refine aw_block ?_
  refine wk_start ?_
  refine kv g0 (mv) ?_
  refine kv g0 (mv) ?_
  refine kv g0 (mv) ?_
  refine kv g0 (mv) ?_
  obtain ⟨c12, H⟩ := of_if H
  refine kv g0 (ixS 139 (eL 4 (e154) (rdOf ([] : List S154) l0 p9)) c12 (getE (z := ([] : List S154)) c12 c11)) ?_
  refine kv g0 (ldR (.sl .o 4 ((rdOf ([] : List S154) l0 p9).map e154))) ?_
  obtain ⟨t13, A14, H⟩ := of_bind H
  refine kcS1 20 (.row 1) [(1, .row 151 4 (t13.map e151))] g0 (cal (laws_toInsS.ok A14) [1] 9999 .n (hf := Try.func92)) rfl rfl ?_
  obtain ⟨c15, H⟩ := of_if H
  refine kv g0 (ixD 127 c12 (ltE c15)) ?_
  refine ks g0 (stD 1 [.own 151 []] 0 1 [.row 1] (.row 1) (getE (f := eL 4 (e151)) (z := ([] : List S151)) c12 c15) (rfl)) ?_
  refine wk_end ?_
  refine ac_blkN ?_
  refine ac_next ?_
  refine wk_start ?_
  refine kv g0 (mv) ?_
  refine kv g0 (add6) ?_
  refine kv g0 (asg) ?_
  refine wk_end ?_
  refine ac_g2 (pk 0 1 0 (.sl .n 4 (t13.map e151)) (setXG (f := eL 4 (e151)) (X := .row 1) c12 c15) (setXX) rfl) ?_
  refine ac_g1 (sealD 0 (setSeal (f := eL 4 (e151)) p9.toNat t13) clL) ?_
  refine ac_k ?_
  exact acw hE [(0, 0)] 9999 (hK17 k10 (q8.set p9.toNat t13) (wrap64 (p9 + 1)) (Nat.le_refl _) ⟨by omega, H⟩)
 rw [if_neg c11] at H
 refine aw_ifF ?_ (decide_eq_false c11)
 refine aw_exit ?_
 refine ac_then ?_
 refine ac_then ?_
 refine ac_hit rfl ?_
 refine ac_next ?_
 refine aw_grp1 ?_
 refine wk_start ?_
 refine kv g0 (mv) ?_
 refine kv g0 (asg) ?_
 refine wk_end ?_
 refine ac_next ?_
 refine aw_ret ?_
 obtain rfl := Option.some.inj H
 exact acr hE [.tmp 2] (.tmp .nil) (.one _) [(0, 0)] 9999
/-! laws_toInsSSS -/
def laws_toInsSSS.l0 : Nat → (List (List (List S154))) → (List (List (List S151))) → Int → Option ((List (List (List S151))))
 | 0, _, _, _ => none
 | k10 + 1, l0, q8, p9 => if p9 < (l0.length : Int) then if 0 ≤ p9 then ((laws_toInsSS.f k10 (rdOf ([] : List (List S154)) l0 p9)).bind fun t13 => (if p9 < (q8.length : Int) then laws_toInsSSS.l0 k10 l0 (q8.set p9.toNat t13) (wrap64 (p9 + 1)) else none)) else none else some q8
def laws_toInsSSS.f (k : Nat) (l0 : List (List (List S154))) : Option ((List (List (List S151)))) := if 0 ≤ (l0.length : Int) then (if (l0.length : Int).toNat ≤ 11728124029610 then laws_toInsSSS.l0 k l0 (List.replicate (l0.length : Int).toNat ([] : List (List S151))) 0 else none) else none
theorem laws_toInsSSS.ok {k : Nat} {l0 : List (List (List S154))} {r : (List (List (List S151)))} (H : laws_toInsSSS.f k l0 = some r) : ACalls Try.prog 48 [] [.sl .o 1 (l0.map (eL 1 (eL 4 (e154))))] [(0, .drow false [.own 127 [.own 151 []]] 56 1 (r.map (eL 1 (eL 4 (e151)))))] (.row 0) := by
 refine acalls (fn := Try.f48) (nt := 23) Try.func48 rfl rfl (Nat.le_of_ble_eq_true rfl) fun E hE => ?_
 rw [laws_toInsSSS.f] at H
 refine aw_grp1 ?_
 refine wk_start ?_
 refine kv g0 (asg) ?_
 refine wk_end ?_
 refine ac_next ?_
 refine aw_grp1 ?_
 refine wk_start ?_
 refine kv g0 (mv) ?_
 refine kv g0 (lnS lenE) ?_
 obtain ⟨c1, H⟩ := of_if H
 obtain ⟨c2, H⟩ := of_if H
 refine kb g0 (mksD 0 56 1 24 [.own 127 [.own 151 []]] [.slice none 0 0] (eL 1 (eL 4 (e151)) ([] : List (List S151))) ((List.replicate (l0.length : Int).toNat ([] : List (List S151))).map (eL 1 (eL 4 (e151)))) c1 (mkb c2 rfl) repE) ?_
 refine kv g0 (asg) ?_
 refine wk_end ?_
 refine ac_next ?_
 refine aw_grp1 ?_
 refine aw_grp1 ?_
 refine wk_start ?_
 refine kv g0 (asg) ?_
 refine wk_end ?_
 refine ac_next ?_
 refine aw_block ?_
 refine ac_g1 (sealD 0 (rfl) clL) ?_
 refine aw_loop2 (fun (k_ : Nat) (q8 : List (List (List S151))) (p9 : Int) => k_ ≤ k ∧ laws_toInsSSS.l0 k_ l0 q8 p9 = some r) (fun (q8 : List (List (List S151))) (p9 : Int) => ⟨[(0, .sl .o 1 (l0.map (eL 1 (eL 4 (e154))))), (3, .row 0), (4, .lit (.int .i64 p9))], [(0, .drow false [.own 127 [.own 151 []]] 56 1 (q8.map (eL 1 (eL 4 (e151)))))]⟩) k (List.replicate (l0.length : Int).toNat ([] : List (List S151))) 0 ⟨Nat.le_refl _, H⟩ (fun K_ h_ => acw hE [(0, 0)] 9999 h_) (fun _ _ => by intro h_; have h_ := h_.2; rw [laws_toInsSSS.l0.eq_1] at h_; cases h_) ?_
 intro k10 q8 p9 hq_ K16 hK17
 have hk10 := hq_.1
 have H := hq_.2
 clear hq_
 rw [laws_toInsSSS.l0.eq_2] at H
 refine aw_grp1 ?_
 refine aw_grp1 ?_
 refine wk_start ?_
 refine kv g0 (mv) ?_
 refine kv g0 (mv) ?_
 refine kv g0 (lnS lenE) ?_
 refine kv g0 (lss) ?_
 refine wk_end ?_
 refine ac_next ?_
 by_cases c11 : p9 < (l0.length : Int)
 ·rw [if_pos c11] at H
  refine aw_ifT ?_ (decide_eq_true c11)
  refine aw_skip ?_
  refine ac_next ?_
  refine aw_grp1 ?_
  refine aw_block ?_
  refine wk_start ?_
  refine kv g0 (mv) ?_
  refine kv g0 (mv) ?_
  refine kv g0 (mv) ?_
  refine kv g0 (mv) ?_
  obtain ⟨c12, H⟩ := of_if H
  refine kv g0 (ixS 106 (eL 1 (eL 4 (e154)) (rdOf ([] : List (List S154)) l0 p9)) c12 (getE (z := ([] : List (List S154))) c12 c11)) ?_
  refine kv g0 (ldR (.sl .o 1 ((rdOf ([] : List (List S154)) l0 p9).map (eL 4 (e154))))) ?_
  obtain ⟨t13, A14, H⟩ := of_bind H
  refine kcS1 20 (.row 1) [(1, .drow false [.own 151 []] 127 1 (t13.map (eL 4 (e151))))] g0 (cal (laws_toInsSS.ok A14) [1] 9999 .n (hf := Try.func77)) rfl rfl ?_
  obtain ⟨c15, H⟩ := of_if H
  refine kv g0 (ixD 56 c12 (ltE c15)) ?_
  refine ks g0 (stD 1 [.own 127 [.own 151 []]] 0 1 [.row 1] (.row 1) (getE (f := eL 1 (eL 4 (e151))) (z := ([] : List (List S151))) c12 c15) (rfl)) ?_
  refine wk_end ?_
  refine ac_blkN ?_
  refine ac_next ?_
  refine wk_start ?_
  refine kv g0 (mv) ?_
  refine kv g0 (add6) ?_
  refine kv g0 (asg) ?_
  refine wk_end ?_
  refine ac_g2 (pk 0 1 0 (.sl .n 1 (t13.map (eL 4 (e151)))) (setXG (f := eL 1 (eL 4 (e151))) (X := .row 1) c12 c15) (setXX) rfl) ?_
  refine ac_g1 (sealD 0 (setSeal (f := eL 1 (eL 4 (e151))) p9.toNat t13) clL) ?_
  refine ac_k ?_
  exact acw hE [(0, 0)] 9999 (hK17 k10 (q8.set p9.toNat t13) (wrap64 (p9 + 1)) (Nat.le_refl _) ⟨by omega, H⟩)
 rw [if_neg c11] at H
 refine aw_ifF ?_ (decide_eq_false c11)
 refine aw_exit ?_
 refine ac_then ?_
 refine ac_then ?_
 refine ac_hit rfl ?_
 refine ac_next ?_
 refine aw_grp1 ?_
 refine wk_start ?_
 refine kv g0 (mv) ?_
 refine kv g0 (asg) ?_
 refine wk_end ?_
 refine ac_next ?_
 refine aw_ret ?_
 obtain rfl := Option.some.inj H
 exact acr hE [.tmp 2] (.tmp .nil) (.one _) [(0, 0)] 9999
/-! laws_toItem -/
def laws_toItem.f (a0_0 : Int) (a0_1 : Int) (a0_2 : Int) (a0_3 : Int) : Option (Int × Int × Int × Int) := some (a0_0, a0_1, a0_2, a0_3)
theorem laws_toItem.ok {a0_0 : Int} {a0_1 : Int} {a0_2 : Int} {a0_3 : Int} {r : Int × Int × Int × Int} (H : laws_toItem.f a0_0 a0_1 a0_2 a0_3 = some r) : ACalls Try.prog 99 [] [.agg [.lit (.int .i64 a0_0), .lit (.int .i64 a0_1), .lit (.int .i64 a0_2), .lit (.int .i64 a0_3)]] [] (.agg [.lit (.int .i64 r.1), .lit (.int .i64 r.2.1), .lit (.int .i64 r.2.2.1), .lit (.int .i64 r.2.2.2)]) := by
 refine acalls (fn := Try.f99) (nt := 17) Try.func99 rfl rfl (Nat.le_of_ble_eq_true rfl) fun E hE => ?_
 rw [laws_toItem.f] at H
 refine aw_grp1 ?_
 refine wk_start ?_
 refine kb g0 (bxA 0) ?_
 refine kb g0 (alc 1 [.int .i64 0, .int .i64 0, .int .i64 0, .int .i64 0] [.lit (.int .i64 0), .lit (.int .i64 0), .lit (.int .i64 0), .lit (.int .i64 0)]) ?_
 refine wk_end ?_
 refine ac_next ?_
 refine aw_grp1 ?_
 refine wk_start ?_
 refine kb g0 (alc 2 [.int .i64 0, .int .i64 0, .int .i64 0, .int .i64 0] [.lit (.int .i64 0), .lit (.int .i64 0), .lit (.int .i64 0), .lit (.int .i64 0)]) ?_
 refine wk_end ?_
 refine ac_next ?_
 refine aw_grp1 ?_
 refine wk_start ?_
 refine kv g0 (faB 0 0) ?_
 refine kv g0 (ldB) ?_
 refine kv g0 (faB 0 0) ?_
 refine ks g0 (stB 1 [.lit (.int .i64 a0_0), .lit (.int .i64 0), .lit (.int .i64 0), .lit (.int .i64 0)]) ?_
 refine wk_end ?_
 refine ac_next ?_
 refine aw_grp1 ?_
 refine wk_start ?_
 refine kv g0 (faB 1 1) ?_
 refine kv g0 (ldB) ?_
 refine kv g0 (faB 1 1) ?_
 refine ks g0 (stB 1 [.lit (.int .i64 a0_0), .lit (.int .i64 a0_1), .lit (.int .i64 0), .lit (.int .i64 0)]) ?_
 refine wk_end ?_
 refine ac_next ?_
 refine aw_grp1 ?_
 refine wk_start ?_
 refine kv g0 (faB 2 2) ?_
 refine kv g0 (ldB) ?_
 refine kv g0 (faB 2 2) ?_
 refine ks g0 (stB 1 [.lit (.int .i64 a0_0), .lit (.int .i64 a0_1), .lit (.int .i64 a0_2), .lit (.int .i64 0)]) ?_
 refine wk_end ?_
 refine ac_next ?_
 refine aw_grp1 ?_
 refine wk_start ?_
 refine kv g0 (faB 3 3) ?_
 refine kv g0 (ldB) ?_
 refine kv g0 (faB 3 3) ?_
 refine ks g0 (stB 1 [.lit (.int .i64 a0_0), .lit (.int .i64 a0_1), .lit (.int .i64 a0_2), .lit (.int .i64 a0_3)]) ?_
 refine wk_end ?_
 refine ac_next ?_
 refine aw_grp1 ?_
 refine wk_start ?_
 refine kv g0 (ldBA 4 [.lit (.int .i64 a0_0), .lit (.int .i64 a0_1), .lit (.int .i64 a0_2), .lit (.int .i64 a0_3)]) ?_
 refine ks g0 (stB 4 [.lit (.int .i64 a0_0), .lit (.int .i64 a0_1), .lit (.int .i64 a0_2), .lit (.int .i64 a0_3)]) ?_
 refine wk_end ?_
 refine ac_next ?_
 refine aw_ret ?_
 obtain rfl := Option.some.inj H
 exact acr hE [.cell 2 131] (rcA 4 .nil) (.one _) [] 9999
/-! laws_toItemS -/
def laws_toItemS.l0 : Nat → (List S144) → (List S131) → Int → Option ((List S131))
 | 0, _, _, _ => none
 | k10 + 1, l0, q8, p9 => if p9 < (l0.length : Int) then if 0 ≤ p9 then ((laws_toItem.f ((rd_T144 l0 p9).f0) ((rd_T144 l0 p9).f1) ((rd_T144 l0 p9).f2) ((rd_T144 l0 p9).f3)).bind fun t13 => (if p9 < (q8.length : Int) then laws_toItemS.l0 k10 l0 (q8.set p9.toNat (⟨t13.1, t13.2.1, t13.2.2.1, t13.2.2.2⟩ : S131)) (wrap64 (p9 + 1)) else none)) else none else some q8
def laws_toItemS.f (k : Nat) (l0 : List S144) : Option ((List S131)) := if 0 ≤ (l0.length : Int) then (if (l0.length : Int).toNat ≤ 8796093022208 then laws_toItemS.l0 k l0 (List.replicate (l0.length : Int).toNat z131) 0 else none) else none
theorem laws_toItemS.ok {k : Nat} {l0 : List S144} {r : (List S131)} (H : laws_toItemS.f k l0 = some r) : ACalls Try.prog 93 [] [.sl .o 4 (l0.map e144)] [(0, .row 131 4 (r.map e131))] (.row 0) := by
 refine acalls (fn := Try.f93) (nt := 23) Try.func93 rfl rfl (Nat.le_of_ble_eq_true rfl) fun E hE => ?_
 rw [laws_toItemS.f] at H
 refine aw_grp1 ?_
 refine wk_start ?_
 refine kv g0 (asg) ?_
 refine wk_end ?_
 refine ac_next ?_
 refine aw_grp1 ?_
 refine wk_start ?_
 refine kv g0 (mv) ?_
 refine kv g0 (lnS lenE) ?_
 obtain ⟨c1, H⟩ := of_if H
 obtain ⟨c2, H⟩ := of_if H
 refine kb g0 (mks 0 131 4 32 [.int .i64 0, .int .i64 0, .int .i64 0, .int .i64 0] (e131 z131) ((List.replicate (l0.length : Int).toNat z131).map e131) c1 (mkb c2 rfl) repE) ?_
 refine kv g0 (asg) ?_
 refine wk_end ?_
 refine ac_next ?_
 refine aw_grp1 ?_
 refine aw_grp1 ?_
 refine wk_start ?_
 refine kv g0 (asg) ?_
 refine wk_end ?_
 refine ac_next ?_
 refine aw_block ?_
 refine aw_loop2 (fun (k_ : Nat) (q8 : List S131) (p9 : Int) => k_ ≤ k ∧ laws_toItemS.l0 k_ l0 q8 p9 = some r) (fun (q8 : List S131) (p9 : Int) => ⟨[(0, .sl .o 4 (l0.map e144)), (3, .row 0), (4, .lit (.int .i64 p9))], [(0, .row 131 4 (q8.map e131))]⟩) k (List.replicate (l0.length : Int).toNat z131) 0 ⟨Nat.le_refl _, H⟩ (fun K_ h_ => acw hE [(0, 0)] 9999 h_) (fun _ _ => by intro h_; have h_ := h_.2; rw [laws_toItemS.l0.eq_1] at h_; cases h_) ?_
 intro k10 q8 p9 hq_ K16 hK17
 have hk10 := hq_.1
 have H := hq_.2
 clear hq_
 rw [laws_toItemS.l0.eq_2] at H
 refine aw_grp1 ?_
 refine aw_grp1 ?_
 refine wk_start ?_
 refine kv g0 (mv) ?_
 refine kv g0 (mv) ?_
 refine kv g0 (lnS lenE) ?_
 refine kv g0 (lss) ?_
 refine wk_end ?_
 refine ac_next ?_
 by_cases c11 : p9 < (l0.length : Int)
 ·rw [if_pos c11] at H
  refine aw_ifT ?_ (decide_eq_true c11)
  refine aw_skip ?_
  refine ac_next ?_
  refine aw_grp1 ?_
  refine aw_block ?_
  refine wk_start ?_
  refine kv g0 (mv) ?_
  refine kv g0 (mv) ?_
  refine kv g0 (mv) ?_
  refine kv g0 (mv) ?_
  obtain ⟨c12, H⟩ := of_if H
  refine kv g0 (ixS 144 (e144 (rd_T144 l0 p9)) c12 (getE (z := z144) c12 c11)) ?_
  refine kv g0 (ldRA 4 [.lit (.int .i64 ((rd_T144 l0 p9).f0)), .lit (.int .i64 ((rd_T144 l0 p9).f1)), .lit (.int .i64 ((rd_T144 l0 p9).f2)), .lit (.int .i64 ((rd_T144 l0 p9).f3))]) ?_
  obtain ⟨t13, A14, H⟩ := of_bind H
  refine kcS0 20 (.agg [.lit (.int .i64 t13.1), .lit (.int .i64 t13.2.1), .lit (.int .i64 t13.2.2.1), .lit (.int .i64 t13.2.2.2)]) [] g0 (cal (laws_toItem.ok A14) [] 9999 .n (hf := Try.func99)) rfl rfl ?_
  obtain ⟨c15, H⟩ := of_if H
  refine kv g0 (ixR 131 c12 (ltE c15)) ?_
  refine ks g0 (stE 4 (e131 (⟨t13.1, t13.2.1, t13.2.2.1, t13.2.2.2⟩ : S131)) ((q8.set p9.toNat (⟨t13.1, t13.2.1, t13.2.2.1, t13.2.2.2⟩ : S131)).map e131) (getE (z := z131) c12 c15) setE) ?_
  refine wk_end ?_
  refine ac_blkN ?_
  refine ac_next ?_
  refine wk_start ?_
  refine kv g0 (mv) ?_
  refine kv g0 (add6) ?_
  refine kv g0 (asg) ?_
  refine wk_end ?_
  refine ac_k ?_
  exact acw hE [(0, 0)] 9999 (hK17 k10 (q8.set p9.toNat (⟨t13.1, t13.2.1, t13.2.2.1, t13.2.2.2⟩ : S131)) (wrap64 (p9 + 1)) (Nat.le_refl _) ⟨by omega, H⟩)
 rw [if_neg c11] at H
 refine aw_ifF ?_ (decide_eq_false c11)
 refine aw_exit ?_
 refine ac_then ?_
 refine ac_then ?_
 refine ac_hit rfl ?_
 refine ac_next ?_
 refine aw_grp1 ?_
 refine wk_start ?_
 refine kv g0 (mv) ?_
 refine kv g0 (asg) ?_
 refine wk_end ?_
 refine ac_next ?_
 refine aw_ret ?_
 obtain rfl := Option.some.inj H
 exact acr hE [.tmp 2] (.tmp .nil) (.one _) [(0, 0)] 9999
/-! laws_toRing -/
def laws_toRing.f (k : Nat) (l0_0 : List S144) (a0_1 : Int) (a0_2 : Int) (a0_3 : Int) : Option ((List S131) × Int × Int × Int) := (laws_toItemS.f k l0_0).bind fun t1 => some (t1, a0_1, a0_2, a0_3)
theorem laws_toRing.ok {k : Nat} {l0_0 : List S144} {a0_1 : Int} {a0_2 : Int} {a0_3 : Int} {r : (List S131) × Int × Int × Int} (H : laws_toRing.f k l0_0 a0_1 a0_2 a0_3 = some r) : ACalls Try.prog 78 [] [.agg [.sl .o 4 (l0_0.map e144), .lit (.int .i64 a0_1), .lit (.int .i64 a0_2), .lit (.int .i64 a0_3)]] [(0, .row 131 4 (r.1.map e131))] (.agg [.row 0, .lit (.int .i64 r.2.1), .lit (.int .i64 r.2.2.1), .lit (.int .i64 r.2.2.2)]) := by
 refine acalls (fn := Try.f78) (nt := 18) Try.func78 rfl rfl (Nat.le_of_ble_eq_true rfl) fun E hE => ?_
 rw [laws_toRing.f] at H
 refine aw_grp1 ?_
 refine wk_start ?_
 refine kb g0 (bxA 0) ?_
 refine kb g0 (alc 1 [.slice none 0 0, .int .i64 0, .int .i64 0, .int .i64 0] [.lit (.slice none 0 0), .lit (.int .i64 0), .lit (.int .i64 0), .lit (.int .i64 0)]) ?_
 refine wk_end ?_
 refine ac_next ?_
 refine aw_grp1 ?_
 refine wk_start ?_
 refine kb g0 (alc 2 [.slice none 0 0, .int .i64 0, .int .i64 0, .int .i64 0] [.lit (.slice none 0 0), .lit (.int .i64 0), .lit (.int .i64 0), .lit (.int .i64 0)]) ?_
 refine wk_end ?_
 refine ac_next ?_
 refine aw_grp1 ?_
 refine wk_start ?_
 refine kv g0 (faB 0 0) ?_
 refine kv g0 (ldB) ?_
 obtain ⟨t1, A2, H⟩ := of_bind H
 refine kcS1 6 (.row 3) [(3, .row 131 4 (t1.map e131))] g0 (cal (laws_toItemS.ok A2) [3] 9999 .n (hf := Try.func93)) rfl rfl ?_
 refine kv g0 (faB 0 0) ?_
 refine ks g0 (stB 1 [.row 3, .lit (.int .i64 0), .lit (.int .i64 0), .lit (.int .i64 0)]) ?_
 refine wk_end ?_
 refine ac_next ?_
 refine aw_grp1 ?_
 refine wk_start ?_
 refine kv g0 (faB 1 1) ?_
 refine kv g0 (ldB) ?_
 refine kv g0 (faB 1 1) ?_
 refine ks g0 (stB 1 [.row 3, .lit (.int .i64 a0_1), .lit (.int .i64 0), .lit (.int .i64 0)]) ?_
 refine wk_end ?_
 refine ac_next ?_
 refine aw_grp1 ?_
 refine wk_start ?_
 refine kv g0 (faB 2 2) ?_
 refine kv g0 (ldB) ?_
 refine kv g0 (faB 2 2) ?_
 refine ks g0 (stB 1 [.row 3, .lit (.int .i64 a0_1), .lit (.int .i64 a0_2), .lit (.int .i64 0)]) ?_
 refine wk_end ?_
 refine ac_next ?_
 refine aw_grp1 ?_
 refine wk_start ?_
 refine kv g0 (faB 3 3) ?_
 refine kv g0 (ldB) ?_
 refine kv g0 (faB 3 3) ?_
 refine ks g0 (stB 1 [.row 3, .lit (.int .i64 a0_1), .lit (.int .i64 a0_2), .lit (.int .i64 a0_3)]) ?_
 refine wk_end ?_
 refine ac_next ?_
 refine aw_grp1 ?_
 refine wk_start ?_
 refine kv g0 (ldBA 4 [.row 3, .lit (.int .i64 a0_1), .lit (.int .i64 a0_2), .lit (.int .i64 a0_3)]) ?_
 refine ks g0 (stB 4 [.row 3, .lit (.int .i64 a0_1), .lit (.int .i64 a0_2), .lit (.int .i64 a0_3)]) ?_
 refine wk_end ?_
 refine ac_next ?_
 refine aw_ret ?_
 obtain rfl := Option.some.inj H
 exact acr hE [.cell 2 59] (rcA 4 .nil) (.one _) [(0, 3)] 9999
/-! laws_toRingS -/
def laws_toRingS.l0 : Nat → (List S110) → (List S59) → Int → Option ((List S59))
 | 0, _, _, _ => none
 | k10 + 1, l0, q8, p9 => if p9 < (l0.length : Int) then if 0 ≤ p9 then ((laws_toRing.f k10 ((rd_T110 l0 p9).f0) ((rd_T110 l0 p9).f1) ((rd_T110 l0 p9).f2) ((rd_T110 l0 p9).f3)).bind fun t13 => (if p9 < (q8.length : Int) then laws_toRingS.l0 k10 l0 (q8.set p9.toNat (⟨t13.1, t13.2.1, t13.2.2.1, t13.2.2.2⟩ : S59)) (wrap64 (p9 + 1)) else none)) else none else some q8
def laws_toRingS.f (k : Nat) (l0 : List S110) : Option ((List S59)) := if 0 ≤ (l0.length : Int) then (if (l0.length : Int).toNat ≤ 5864062014805 then laws_toRingS.l0 k l0 (List.replicate (l0.length : Int).toNat z59) 0 else none) else none
theorem laws_toRingS.ok {k : Nat} {l0 : List S110} {r : (List S59)} (H : laws_toRingS.f k l0 = some r) : ACalls Try.prog 49 [] [.sl .o 4 (l0.map e110)] [(0, .drow false ds59 59 4 (r.map e59))] (.row 0) := by
 refine acalls (fn := Try.f49) (nt := 23) Try.func49 rfl rfl (Nat.le_of_ble_eq_true rfl) fun E hE => ?_
 rw [laws_toRingS.f] at H
 refine aw_grp1 ?_
 refine wk_start ?_
 refine kv g0 (asg) ?_
 refine wk_end ?_
 refine ac_next ?_
 refine aw_grp1 ?_
 refine wk_start ?_
 refine kv g0 (mv) ?_
 refine kv g0 (lnS lenE) ?_
 obtain ⟨c1, H⟩ := of_if H
 obtain ⟨c2, H⟩ := of_if H
 refine kb g0 (mksD 0 59 4 48 ds59 [.slice none 0 0, .int .i64 0, .int .i64 0, .int .i64 0] (e59 z59) ((List.replicate (l0.length : Int).toNat z59).map e59) c1 (mkb c2 rfl) repE) ?_
 refine kv g0 (asg) ?_
 refine wk_end ?_
 refine ac_next ?_
 refine aw_grp1 ?_
 refine aw_grp1 ?_
 refine wk_start ?_
 refine kv g0 (asg) ?_
 refine wk_end ?_
 refine ac_next ?_
 refine aw_block ?_
 refine ac_g1 (sealD 0 (rfl) cl59) ?_
 refine aw_loop2 (fun (k_ : Nat) (q8 : List S59) (p9 : Int) => k_ ≤ k ∧ laws_toRingS.l0 k_ l0 q8 p9 = some r) (fun (q8 : List S59) (p9 : Int) => ⟨[(0, .sl .o 4 (l0.map e110)), (3, .row 0), (4, .lit (.int .i64 p9))], [(0, .drow false ds59 59 4 (q8.map e59))]⟩) k (List.replicate (l0.length : Int).toNat z59) 0 ⟨Nat.le_refl _, H⟩ (fun K_ h_ => acw hE [(0, 0)] 9999 h_) (fun _ _ => by intro h_; have h_ := h_.2; rw [laws_toRingS.l0.eq_1] at h_; cases h_) ?_
 intro k10 q8 p9 hq_ K16 hK17
 have hk10 := hq_.1
 have H := hq_.2
 clear hq_
 rw [laws_toRingS.l0.eq_2] at H
 refine aw_grp1 ?_
 refine aw_grp1 ?_
 refine wk_start ?_
 refine kv g0 (mv) ?_
 refine kv g0 (mv) ?_
 refine kv g0 (lnS lenE) ?_
 refine kv g0 (lss) ?_
 refine wk_end ?_
 refine ac_next ?_
 by_cases c11 : p9 < (l0.length : Int)
 ·rw [if_pos c11] at H
  refine aw_ifT ?_ (decide_eq_true c11)
  refine aw_skip ?_
  refine ac_next ?_
  refine aw_grp1 ?_
  refine aw_block ?_
  refine wk_start ?_
  refine kv g0 (mv) ?_
  refine kv g0 (mv) ?_
  refine kv g0 (mv) ?_
  refine kv g0 (mv) ?_
  obtain ⟨c12, H⟩ := of_if H
  refine kv g0 (ixS 110 (e110 (rd_T110 l0 p9)) c12 (getE (z := z110) c12 c11)) ?_
  refine kv g0 (ldRA 4 [.sl .o 4 (((rd_T110 l0 p9).f0).map e144), .lit (.int .i64 ((rd_T110 l0 p9).f1)), .lit (.int .i64 ((rd_T110 l0 p9).f2)), .lit (.int .i64 ((rd_T110 l0 p9).f3))]) ?_
  obtain ⟨t13, A14, H⟩ := of_bind H
  refine kcS1 20 (.agg [.row 1, .lit (.int .i64 t13.2.1), .lit (.int .i64 t13.2.2.1), .lit (.int .i64 t13.2.2.2)]) [(1, .row 131 4 (t13.1.map e131))] g0 (cal (laws_toRing.ok A14) [1] 9999 .n (hf := Try.func78)) rfl rfl ?_
  obtain ⟨c15, H⟩ := of_if H
  refine kv g0 (ixD 59 c12 (ltE c15)) ?_
  refine ks g0 (stD 4 ds59 0 4 [.row 1, .lit (.int .i64 t13.2.1), .lit (.int .i64 t13.2.2.1), .lit (.int .i64 t13.2.2.2)] (.agg [.row 1, .lit (.int .i64 t13.2.1), .lit (.int .i64 t13.2.2.1), .lit (.int .i64 t13.2.2.2)]) (getE (f := e59) (z := z59) c12 c15) (rfl)) ?_
  refine wk_end ?_
  refine ac_blkN ?_
  refine ac_next ?_
  refine wk_start ?_
  refine kv g0 (mv) ?_
  refine kv g0 (add6) ?_
  refine kv g0 (asg) ?_
  refine wk_end ?_
  refine ac_g2 (pk 0 1 0 (.agg [.sl .n 4 (t13.1.map e131), .lit (.int .i64 t13.2.1), .lit (.int .i64 t13.2.2.1), .lit (.int .i64 t13.2.2.2)]) (setXG (f := e59) (X := .agg [.row 1, .lit (.int .i64 t13.2.1), .lit (.int .i64 t13.2.2.1), .lit (.int .i64 t13.2.2.2)]) c12 c15) (setXX) rfl) ?_
  refine ac_g1 (sealD 0 (setSeal (f := e59) p9.toNat (⟨t13.1, t13.2.1, t13.2.2.1, t13.2.2.2⟩ : S59)) cl59) ?_
  refine ac_k ?_
  exact acw hE [(0, 0)] 9999 (hK17 k10 (q8.set p9.toNat (⟨t13.1, t13.2.1, t13.2.2.1, t13.2.2.2⟩ : S59)) (wrap64 (p9 + 1)) (Nat.le_refl _) ⟨by omega, H⟩)
 rw [if_neg c11] at H
 refine aw_ifF ?_ (decide_eq_false c11)
 refine aw_exit ?_
 refine ac_then ?_
 refine ac_then ?_
 refine ac_hit rfl ?_
 refine ac_next ?_
 refine aw_grp1 ?_
 refine wk_start ?_
 refine kv g0 (mv) ?_
 refine kv g0 (asg) ?_
 refine wk_end ?_
 refine ac_next ?_
 refine aw_ret ?_
 obtain rfl := Option.some.inj H
 exact acr hE [.tmp 2] (.tmp .nil) (.one _) [(0, 0)] 9999
/-! laws_toSender -/
def laws_toSender.f (k : Nat) (a0_0 : Int) (a0_1 : Int) (l0_2 : List S144) (a0_3 : Int) (a0_4 : Int) : Option (Int × Int × (List S131) × Int × Int) := (laws_toItemS.f k l0_2).bind fun t1 => some (a0_0, a0_1, t1, a0_3, a0_4)
theorem laws_toSender.ok {k : Nat} {a0_0 : Int} {a0_1 : Int} {l0_2 : List S144} {a0_3 : Int} {a0_4 : Int} {r : Int × Int × (List S131) × Int × Int} (H : laws_toSender.f k a0_0 a0_1 l0_2 a0_3 a0_4 = some r) : ACalls Try.prog 79 [] [.agg [.lit (.int .i64 a0_0), .lit (.int .i64 a0_1), .sl .o 4 (l0_2.map e144), .lit (.int .i64 a0_3), .lit (.int .i64 a0_4)]] [(0, .row 131 4 (r.2.2.1.map e131))] (.agg [.lit (.int .i64 r.1), .lit (.int .i64 r.2.1), .row 0, .lit (.int .i64 r.2.2.2.1), .lit (.int .i64 r.2.2.2.2)]) := by
 refine acalls (fn := Try.f79) (nt := 21) Try.func79 rfl rfl (Nat.le_of_ble_eq_true rfl) fun E hE => ?_
 rw [laws_toSender.f] at H
 refine aw_grp1 ?_
 refine wk_start ?_
 refine kb g0 (bxA 0) ?_
 refine kb g0 (alc 1 [.int .i64 0, .int .i64 0, .slice none 0 0, .int .i64 0, .int .i64 0] [.lit (.int .i64 0), .lit (.int .i64 0), .lit (.slice none 0 0), .lit (.int .i64 0), .lit (.int .i64 0)]) ?_
 refine wk_end ?_
 refine ac_next ?_
 refine aw_grp1 ?_
 refine wk_start ?_
 refine kb g0 (alc 2 [.int .i64 0, .int .i64 0, .slice none 0 0, .int .i64 0, .int .i64 0] [.lit (.int .i64 0), .lit (.int .i64 0), .lit (.slice none 0 0), .lit (.int .i64 0), .lit (.int .i64 0)]) ?_
 refine wk_end ?_
 refine ac_next ?_
 refine aw_grp1 ?_
 refine wk_start ?_
 refine kv g0 (faB 0 0) ?_
 refine kv g0 (ldB) ?_
 refine kv g0 (faB 0 0) ?_
 refine ks g0 (stB 1 [.lit (.int .i64 a0_0), .lit (.int .i64 0), .lit (.slice none 0 0), .lit (.int .i64 0), .lit (.int .i64 0)]) ?_
 refine wk_end ?_
 refine ac_next ?_
 refine aw_grp1 ?_
 refine wk_start ?_
 refine kv g0 (faB 1 1) ?_
 refine kv g0 (ldB) ?_
 refine kv g0 (faB 1 1) ?_
 refine ks g0 (stB 1 [.lit (.int .i64 a0_0), .lit (.int .i64 a0_1), .lit (.slice none 0 0), .lit (.int .i64 0), .lit (.int .i64 0)]) ?_
 refine wk_end ?_
 refine ac_next ?_
 refine aw_grp1 ?_
 refine wk_start ?_
 refine kv g0 (faB 2 2) ?_
 refine kv g0 (ldB) ?_
 obtain ⟨t1, A2, H⟩ := of_bind H
 refine kcS1 12 (.row 3) [(3, .row 131 4 (t1.map e131))] g0 (cal (laws_toItemS.ok A2) [3] 9999 .n (hf := Try.func93)) rfl rfl ?_
 refine kv g0 (faB 2 2) ?_
 refine ks g0 (stB 1 [.lit (.int .i64 a0_0), .lit (.int .i64 a0_1), .row 3, .lit (.int .i64 0), .lit (.int .i64 0)]) ?_
 refine wk_end ?_
 refine ac_next ?_
 refine aw_grp1 ?_
 refine wk_start ?_
 refine kv g0 (faB 3 3) ?_
 refine kv g0 (ldB) ?_
 refine kv g0 (faB 3 3) ?_
 refine ks g0 (stB 1 [.lit (.int .i64 a0_0), .lit (.int .i64 a0_1), .row 3, .lit (.int .i64 a0_3), .lit (.int .i64 0)]) ?_
 refine wk_end ?_
 refine ac_next ?_
 refine aw_grp1 ?_
 refine wk_start ?_
 refine kv g0 (faB 4 4) ?_
 refine kv g0 (ldB) ?_
 refine kv g0 (faB 4 4) ?_
 refine ks g0 (stB 1 [.lit (.int .i64 a0_0), .lit (.int .i64 a0_1), .row 3, .lit (.int .i64 a0_3), .lit (.int .i64 a0_4)]) ?_
 refine wk_end ?_
 refine ac_next ?_
 refine aw_grp1 ?_
 refine wk_start ?_
 refine kv g0 (ldBA 5 [.lit (.int .i64 a0_0), .lit (.int .i64 a0_1), .row 3, .lit (.int .i64 a0_3), .lit (.int .i64 a0_4)]) ?_
 refine ks g0 (stB 5 [.lit (.int .i64 a0_0), .lit (.int .i64 a0_1), .row 3, .lit (.int .i64 a0_3), .lit (.int .i64 a0_4)]) ?_
 refine wk_end ?_
 refine ac_next ?_
 refine aw_ret ?_
 obtain rfl := Option.some.inj H
 exact acr hE [.cell 2 62] (rcA 5 .nil) (.one _) [(0, 3)] 9999
/-! laws_toSenderS -/
def laws_toSenderS.l0 : Nat → (List S113) → (List S62) → Int → Option ((List S62))
 | 0, _, _, _ => none
 | k10 + 1, l0, q8, p9 => if p9 < (l0.length : Int) then if 0 ≤ p9 then ((laws_toSender.f k10 ((rd_T113 l0 p9).f0) ((rd_T113 l0 p9).f1) ((rd_T113 l0 p9).f2) ((rd_T113 l0 p9).f3) ((rd_T113 l0 p9).f4)).bind fun t13 => (if p9 < (q8.length : Int) then laws_toSenderS.l0 k10 l0 (q8.set p9.toNat (⟨t13.1, t13.2.1, t13.2.2.1, t13.2.2.2.1, t13.2.2.2.2⟩ : S62)) (wrap64 (p9 + 1)) else none)) else none else some q8
def laws_toSenderS.f (k : Nat) (l0 : List S113) : Option ((List S62)) := if 0 ≤ (l0.length : Int) then (if (l0.length : Int).toNat ≤ 5026338869833 then laws_toSenderS.l0 k l0 (List.replicate (l0.length : Int).toNat z62) 0 else none) else none
theorem laws_toSenderS.ok {k : Nat} {l0 : List S113} {r : (List S62)} (H : laws_toSenderS.f k l0 = some r) : ACalls Try.prog 50 [] [.sl .o 5 (l0.map e113)] [(0, .drow false ds62 62 5 (r.map e62))] (.row 0) := by
 refine acalls (fn := Try.f50) (nt := 23) Try.func50 rfl rfl (Nat.le_of_ble_eq_true rfl) fun E hE => ?_
 rw [laws_toSenderS.f] at H
 refine aw_grp1 ?_
 refine wk_start ?_
 refine kv g0 (asg) ?_
 refine wk_end ?_
 refine ac_next ?_
 refine aw_grp1 ?_
 refine wk_start ?_
 refine kv g0 (mv) ?_
 refine kv g0 (lnS lenE) ?_
 obtain ⟨c1, H⟩ := of_if H
 obtain ⟨c2, H⟩ := of_if H
 refine kb g0 (mksD 0 62 5 56 ds62 [.int .i64 0, .int .i64 0, .slice none 0 0, .int .i64 0, .int .i64 0] (e62 z62) ((List.replicate (l0.length : Int).toNat z62).map e62) c1 (mkb c2 rfl) repE) ?_
 refine kv g0 (asg) ?_
 refine wk_end ?_
 refine ac_next ?_
 refine aw_grp1 ?_
 refine aw_grp1 ?_
 refine wk_start ?_
 refine kv g0 (asg) ?_
 refine wk_end ?_
 refine ac_next ?_
 refine aw_block ?_
 refine ac_g1 (sealD 0 (rfl) cl62) ?_
 refine aw_loop2 (fun (k_ : Nat) (q8 : List S62) (p9 : Int) => k_ ≤ k ∧ laws_toSenderS.l0 k_ l0 q8 p9 = some r) (fun (q8 : List S62) (p9 : Int) => ⟨[(0, .sl .o 5 (l0.map e113)), (3, .row 0), (4, .lit (.int .i64 p9))], [(0, .drow false ds62 62 5 (q8.map e62))]⟩) k (List.replicate (l0.length : Int).toNat z62) 0 ⟨Nat.le_refl _, H⟩ (fun K_ h_ => acw hE [(0, 0)] 9999 h_) (fun _ _ => by intro h_; have h_ := h_.2; rw [laws_toSenderS.l0.eq_1] at h_; cases h_) ?_
 intro k10 q8 p9 hq_ K16 hK17
 have hk10 := hq_.1
 have H := hq_.2
 clear hq_
 rw [laws_toSenderS.l0.eq_2] at H
 refine aw_grp1 ?_
 refine aw_grp1 ?_
 refine wk_start ?_
 refine kv g0 (mv) ?_
 refine kv g0 (mv) ?_
 refine kv g0 (lnS lenE) ?_
 refine kv g0 (lss) ?_
 refine wk_end ?_
 refine ac_next ?_
 by_cases c11 : p9 < (l0.length : Int)
 ·rw [if_pos c11] at H
  refine aw_ifT ?_ (decide_eq_true c11)
  refine aw_skip ?_
  refine ac_next ?_
  refine aw_grp1 ?_
  refine aw_block ?_
  refine wk_start ?_
  refine kv g0 (mv) ?_
  refine kv g0 (mv) ?_
  refine kv g0 (mv) ?_
  refine kv g0 (mv) ?_
  obtain ⟨c12, H⟩ := of_if H
  refine kv g0 (ixS 113 (e113 (rd_T113 l0 p9)) c12 (getE (z := z113) c12 c11)) ?_
  refine kv g0 (ldRA 5 [.lit (.int .i64 ((rd_T113 l0 p9).f0)), .lit (.int .i64 ((rd_T113 l0 p9).f1)), .sl .o 4 (((rd_T113 l0 p9).f2).map e144), .lit (.int .i64 ((rd_T113 l0 p9).f3)), .lit (.int .i64 ((rd_T113 l0 p9).f4))]) ?_
  obtain ⟨t13, A14, H⟩ := of_bind H
  refine kcS1 20 (.agg [.lit (.int .i64 t13.1), .lit (.int .i64 t13.2.1), .row 1, .lit (.int .i64 t13.2.2.2.1), .lit (.int .i64 t13.2.2.2.2)]) [(1, .row 131 4 (t13.2.2.1.map e131))] g0 (cal (laws_toSender.ok A14) [1] 9999 .n (hf := Try.func79)) rfl rfl ?_
  obtain ⟨c15, H⟩ := of_if H
  refine kv g0 (ixD 62 c12 (ltE c15)) ?_
  refine ks g0 (stD 5 ds62 0 5 [.lit (.int .i64 t13.1), .lit (.int .i64 t13.2.1), .row 1, .lit (.int .i64 t13.2.2.2.1), .lit (.int .i64 t13.2.2.2.2)] (.agg [.lit (.int .i64 t13.1), .lit (.int .i64 t13.2.1), .row 1, .lit (.int .i64 t13.2.2.2.1), .lit (.int .i64 t13.2.2.2.2)]) (getE (f := e62) (z := z62) c12 c15) (rfl)) ?_
  refine wk_end ?_
  refine ac_blkN ?_
  refine ac_next ?_
  refine wk_start ?_
  refine kv g0 (mv) ?_
  refine kv g0 (add6) ?_
  refine kv g0 (asg) ?_
  refine wk_end ?_
  refine ac_g2 (pk 0 1 2 (.agg [.lit (.int .i64 t13.1), .lit (.int .i64 t13.2.1), .sl .n 4 (t13.2.2.1.map e131), .lit (.int .i64 t13.2.2.2.1), .lit (.int .i64 t13.2.2.2.2)]) (setXG (f := e62) (X := .agg [.lit (.int .i64 t13.1), .lit (.int .i64 t13.2.1), .row 1, .lit (.int .i64 t13.2.2.2.1), .lit (.int .i64 t13.2.2.2.2)]) c12 c15) (setXX) rfl) ?_
  refine ac_g1 (sealD 0 (setSeal (f := e62) p9.toNat (⟨t13.1, t13.2.1, t13.2.2.1, t13.2.2.2.1, t13.2.2.2.2⟩ : S62)) cl62) ?_
  refine ac_k ?_
  exact acw hE [(0, 0)] 9999 (hK17 k10 (q8.set p9.toNat (⟨t13.1, t13.2.1, t13.2.2.1, t13.2.2.2.1, t13.2.2.2.2⟩ : S62)) (wrap64 (p9 + 1)) (Nat.le_refl _) ⟨by omega, H⟩)
 rw [if_neg c11] at H
 refine aw_ifF ?_ (decide_eq_false c11)
 refine aw_exit ?_
 refine ac_then ?_
 refine ac_then ?_
 refine ac_hit rfl ?_
 refine ac_next ?_
 refine aw_grp1 ?_
 refine wk_start ?_
 refine kv g0 (mv) ?_
 refine kv g0 (asg) ?_
 refine wk_end ?_
 refine ac_next ?_
 refine aw_ret ?_
 obtain rfl := Option.some.inj H
 exact acr hE [.tmp 2] (.tmp .nil) (.one _) [(0, 0)] 9999
/-! laws_toEntry -/
def laws_toEntry.f (a0_0 : Int) (a0_1 : Int) (a0_2 : Int) (a0_3 : Int) (a0_4 : Int) (a0_5 : Int) : Option (Int × Int × Int × Int × Int × Int) := (laws_toItem.f a0_2 a0_3 a0_4 a0_5).bind fun t1 => some (a0_0, a0_1, t1.1, t1.2.1, t1.2.2.1, t1.2.2.2)
theorem laws_toEntry.ok {a0_0 : Int} {a0_1 : Int} {a0_2 : Int} {a0_3 : Int} {a0_4 : Int} {a0_5 : Int} {r : Int × Int × Int × Int × Int × Int} (H : laws_toEntry.f a0_0 a0_1 a0_2 a0_3 a0_4 a0_5 = some r) : ACalls Try.prog 94 [] [.agg [.lit (.int .i64 a0_0), .lit (.int .i64 a0_1), .lit (.int .i64 a0_2), .lit (.int .i64 a0_3), .lit (.int .i64 a0_4), .lit (.int .i64 a0_5)]] [] (.agg [.lit (.int .i64 r.1), .lit (.int .i64 r.2.1), .lit (.int .i64 r.2.2.1), .lit (.int .i64 r.2.2.2.1), .lit (.int .i64 r.2.2.2.2.1), .lit (.int .i64 r.2.2.2.2.2)]) := by
 refine acalls (fn := Try.f94) (nt := 15) Try.func94 rfl rfl (Nat.le_of_ble_eq_true rfl) fun E hE => ?_
 rw [laws_toEntry.f] at H
 refine aw_grp1 ?_
 refine wk_start ?_
 refine kb g0 (bxA 0) ?_
 refine kb g0 (alc 1 [.int .i64 0, .int .i64 0, .int .i64 0, .int .i64 0, .int .i64 0, .int .i64 0] [.lit (.int .i64 0), .lit (.int .i64 0), .lit (.int .i64 0), .lit (.int .i64 0), .lit (.int .i64 0), .lit (.int .i64 0)]) ?_
 refine wk_end ?_
 refine ac_next ?_
 refine aw_grp1 ?_
 refine wk_start ?_
 refine kb g0 (alc 2 [.int .i64 0, .int .i64 0, .int .i64 0, .int .i64 0, .int .i64 0, .int .i64 0] [.lit (.int .i64 0), .lit (.int .i64 0), .lit (.int .i64 0), .lit (.int .i64 0), .lit (.int .i64 0), .lit (.int .i64 0)]) ?_
 refine wk_end ?_
 refine ac_next ?_
 refine aw_grp1 ?_
 refine wk_start ?_
 refine kv g0 (faB 0 0) ?_
 refine kv g0 (ldB) ?_
 refine kv g0 (faB 0 0) ?_
 refine ks g0 (stB 1 [.lit (.int .i64 a0_0), .lit (.int .i64 0), .lit (.int .i64 0), .lit (.int .i64 0), .lit (.int .i64 0), .lit (.int .i64 0)]) ?_
 refine wk_end ?_
 refine ac_next ?_
 refine aw_grp1 ?_
 refine wk_start ?_
 refine kv g0 (faB 1 1) ?_
 refine kv g0 (ldB) ?_
 refine kv g0 (faB 1 1) ?_
 refine ks g0 (stB 1 [.lit (.int .i64 a0_0), .lit (.int .i64 a0_1), .lit (.int .i64 0), .lit (.int .i64 0), .lit (.int .i64 0), .lit (.int .i64 0)]) ?_
 refine wk_end ?_
 refine ac_next ?_
 refine aw_grp1 ?_
 refine wk_start ?_
 refine kv g0 (faB 2 2) ?_
 refine kv g0 (ldBA 4 [.lit (.int .i64 a0_2), .lit (.int .i64 a0_3), .lit (.int .i64 a0_4), .lit (.int .i64 a0_5)]) ?_
 obtain ⟨t1, A2, H⟩ := of_bind H
 refine kcS0 12 (.agg [.lit (.int .i64 t1.1), .lit (.int .i64 t1.2.1), .lit (.int .i64 t1.2.2.1), .lit (.int .i64 t1.2.2.2)]) [] g0 (cal (laws_toItem.ok A2) [] 9999 .n (hf := Try.func99)) rfl rfl ?_
 refine kv g0 (faB 2 2) ?_
 refine ks g0 (stB 4 [.lit (.int .i64 a0_0), .lit (.int .i64 a0_1), .lit (.int .i64 t1.1), .lit (.int .i64 t1.2.1), .lit (.int .i64 t1.2.2.1), .lit (.int .i64 t1.2.2.2)]) ?_
 refine wk_end ?_
 refine ac_next ?_
 refine aw_grp1 ?_
 refine wk_start ?_
 refine kv g0 (ldBA 6 [.lit (.int .i64 a0_0), .lit (.int .i64 a0_1), .lit (.int .i64 t1.1), .lit (.int .i64 t1.2.1), .lit (.int .i64 t1.2.2.1), .lit (.int .i64 t1.2.2.2)]) ?_
 refine ks g0 (stB 6 [.lit (.int .i64 a0_0), .lit (.int .i64 a0_1), .lit (.int .i64 t1.1), .lit (.int .i64 t1.2.1), .lit (.int .i64 t1.2.2.1), .lit (.int .i64 t1.2.2.2)]) ?_
 refine wk_end ?_
 refine ac_next ?_
 refine aw_ret ?_
 obtain rfl := Option.some.inj H
 exact acr hE [.cell 2 133] (rcA 6 .nil) (.one _) [] 9999
/-! laws_toEntryS -/
def laws_toEntryS.l0 : Nat → (List S146) → (List S133) → Int → Option ((List S133))
 | 0, _, _, _ => none
 | k10 + 1, l0, q8, p9 => if p9 < (l0.length : Int) then if 0 ≤ p9 then ((laws_toEntry.f ((rd_T146 l0 p9).f0) ((rd_T146 l0 p9).f1) ((rd_T146 l0 p9).f2.f0) ((rd_T146 l0 p9).f2.f1) ((rd_T146 l0 p9).f2.f2) ((rd_T146 l0 p9).f2.f3)).bind fun t13 => (if p9 < (q8.length : Int) then laws_toEntryS.l0 k10 l0 (q8.set p9.toNat (⟨t13.1, t13.2.1, (⟨t13.2.2.1, t13.2.2.2.1, t13.2.2.2.2.1, t13.2.2.2.2.2⟩ : S131)⟩ : S133)) (wrap64 (p9 + 1)) else none)) else none else some q8
def laws_toEntryS.f (k : Nat) (l0 : List S146) : Option ((List S133)) := if 0 ≤ (l0.length : Int) then (if (l0.length : Int).toNat ≤ 5864062014805 then laws_toEntryS.l0 k l0 (List.replicate (l0.length : Int).toNat z133) 0 else none) else none
theorem laws_toEntryS.ok {k : Nat} {l0 : List S146} {r : (List S133)} (H : laws_toEntryS.f k l0 = some r) : ACalls Try.prog 80 [] [.sl .o 6 (l0.map e146)] [(0, .row 133 6 (r.map e133))] (.row 0) := by
 refine acalls (fn := Try.f80) (nt := 23) Try.func80 rfl rfl (Nat.le_of_ble_eq_true rfl) fun E hE => ?_
 rw [laws_toEntryS.f] at H
 refine aw_grp1 ?_
 refine wk_start ?_
 refine kv g0 (asg) ?_
 refine wk_end ?_
 refine ac_next ?_
 refine aw_grp1 ?_
 refine wk_start ?_
 refine kv g0 (mv) ?_
 refine kv g0 (lnS lenE) ?_
 obtain ⟨c1, H⟩ := of_if H
 obtain ⟨c2, H⟩ := of_if H
 refine kb g0 (mks 0 133 6 48 [.int .i64 0, .int .i64 0, .int .i64 0, .int .i64 0, .int .i64 0, .int .i64 0] (e133 z133) ((List.replicate (l0.length : Int).toNat z133).map e133) c1 (mkb c2 rfl) repE) ?_
 refine kv g0 (asg) ?_
 refine wk_end ?_
 refine ac_next ?_
 refine aw_grp1 ?_
 refine aw_grp1 ?_
 refine wk_start ?_
 refine kv g0 (asg) ?_
 refine wk_end ?_
 refine ac_next ?_
 refine aw_block ?_
 refine aw_loop2 (fun (k_ : Nat) (q8 : List S133) (p9 : Int) => k_ ≤ k ∧ laws_toEntryS.l0 k_ l0 q8 p9 = some r) (fun (q8 : List S133) (p9 : Int) => ⟨[(0, .sl .o 6 (l0.map e146)), (3, .row 0), (4, .lit (.int .i64 p9))], [(0, .row 133 6 (q8.map e133))]⟩) k (List.replicate (l0.length : Int).toNat z133) 0 ⟨Nat.le_refl _, H⟩ (fun K_ h_ => acw hE [(0, 0)] 9999 h_) (fun _ _ => by intro h_; have h_ := h_.2; rw [laws_toEntryS.l0.eq_1] at h_; cases h_) ?_
 intro k10 q8 p9 hq_ K16 hK17
 have hk10 := hq_.1
 have H := hq_.2
 clear hq_
 rw [laws_toEntryS.l0.eq_2] at H
 refine aw_grp1 ?_
 refine aw_grp1 ?_
 refine wk_start ?_
 refine kv g0 (mv) ?_
 refine kv g0 (mv) ?_
 refine kv g0 (lnS lenE) ?_
 refine kv g0 (lss) ?_
 refine wk_end ?_
 refine ac_next ?_
 by_cases c11 : p9 < (l0.length : Int)
 ·rw [if_pos c11] at H
  refine aw_ifT ?_ (decide_eq_true c11)
  refine aw_skip ?_
  refine ac_next ?_
  refine aw_grp1 ?_
  refine aw_block ?_
  refine wk_start ?_
  refine kv g0 (mv) ?_
  refine kv g0 (mv) ?_
  refine kv g0 (mv) ?_
  refine kv g0 (mv) ?_
  obtain ⟨c12, H⟩ := of_if H
  refine kv g0 (ixS 146 (e146 (rd_T146 l0 p9)) c12 (getE (z := z146) c12 c11)) ?_
  refine kv g0 (ldRA 6 [.lit (.int .i64 ((rd_T146 l0 p9).f0)), .lit (.int .i64 ((rd_T146 l0 p9).f1)), .lit (.int .i64 ((rd_T146 l0 p9).f2.f0)), .lit (.int .i64 ((rd_T146 l0 p9).f2.f1)), .lit (.int .i64 ((rd_T146 l0 p9).f2.f2)), .lit (.int .i64 ((rd_T146 l0 p9).f2.f3))]) ?_
  obtain ⟨t13, A14, H⟩ := of_bind H
  refine kcS0 20 (.agg [.lit (.int .i64 t13.1), .lit (.int .i64 t13.2.1), .lit (.int .i64 t13.2.2.1), .lit (.int .i64 t13.2.2.2.1), .lit (.int .i64 t13.2.2.2.2.1), .lit (.int .i64 t13.2.2.2.2.2)]) [] g0 (cal (laws_toEntry.ok A14) [] 9999 .n (hf := Try.func94)) rfl rfl ?_
  obtain ⟨c15, H⟩ := of_if H
  refine kv g0 (ixR 133 c12 (ltE c15)) ?_
  refine ks g0 (stE 6 (e133 (⟨t13.1, t13.2.1, (⟨t13.2.2.1, t13.2.2.2.1, t13.2.2.2.2.1, t13.2.2.2.2.2⟩ : S131)⟩ : S133)) ((q8.set p9.toNat (⟨t13.1, t13.2.1, (⟨t13.2.2.1, t13.2.2.2.1, t13.2.2.2.2.1, t13.2.2.2.2.2⟩ : S131)⟩ : S133)).map e133) (getE (z := z133) c12 c15) setE) ?_
  refine wk_end ?_
  refine ac_blkN ?_
  refine ac_next ?_
  refine wk_start ?_
  refine kv g0 (mv) ?_
  refine kv g0 (add6) ?_
  refine kv g0 (asg) ?_
  refine wk_end ?_
  refine ac_k ?_
  exact acw hE [(0, 0)] 9999 (hK17 k10 (q8.set p9.toNat (⟨t13.1, t13.2.1, (⟨t13.2.2.1, t13.2.2.2.1, t13.2.2.2.2.1, t13.2.2.2.2.2⟩ : S131)⟩ : S133)) (wrap64 (p9 + 1)) (Nat.le_refl _) ⟨by omega, H⟩)
 rw [if_neg c11] at H
 refine aw_ifF ?_ (decide_eq_false c11)
 refine aw_exit ?_
 refine ac_then ?_
 refine ac_then ?_
 refine ac_hit rfl ?_
 refine ac_next ?_
 refine aw_grp1 ?_
 refine wk_start ?_
 refine kv g0 (mv) ?_
 refine kv g0 (asg) ?_
 refine wk_end ?_
 refine ac_next ?_
 refine aw_ret ?_
 obtain rfl := Option.some.inj H
 exact acr hE [.tmp 2] (.tmp .nil) (.one _) [(0, 0)] 9999
/-! laws_toIntS -/
def laws_toIntS.l0 : Nat → (List Int) → (List Int) → Int → Option ((List Int))
 | 0, _, _, _ => none
 | k8 + 1, l0, q6, p7 => if p7 < (l0.length : Int) then if 0 ≤ p7 then (if p7 < (q6.length : Int) then laws_toIntS.l0 k8 l0 (q6.set p7.toNat (rd l0 p7)) (wrap64 (p7 + 1)) else none) else none else some q6
def laws_toIntS.f (k : Nat) (l0 : List Int) : Option ((List Int)) := if 0 ≤ (l0.length : Int) then (if (l0.length : Int).toNat ≤ 35184372088832 then laws_toIntS.l0 k l0 (List.replicate (l0.length : Int).toNat (0 : Int)) 0 else none) else none
theorem laws_toIntS.ok {k : Nat} {l0 : List Int} {r : (List Int)} (H : laws_toIntS.f k l0 = some r) : ACalls Try.prog 53 [] [.sl .o 1 (l0.map (eI .i64))] [(0, .row 3 1 (r.map (eI .i64)))] (.row 0) := by
 refine acalls (fn := Try.f53) (nt := 22) Try.func53 rfl rfl (Nat.le_of_ble_eq_true rfl) fun E hE => ?_
 rw [laws_toIntS.f] at H
 refine aw_grp1 ?_
 refine wk_start ?_
 refine kv g0 (asg) ?_
 refine wk_end ?_
 refine ac_next ?_
 refine aw_grp1 ?_
 refine wk_start ?_
 refine kv g0 (mv) ?_
 refine kv g0 (lnS lenE) ?_
 obtain ⟨c1, H⟩ := of_if H
 obtain ⟨c2, H⟩ := of_if H
 refine kb g0 (mks 0 3 1 8 [.int .i64 0] (eI .i64 (0 : Int)) ((List.replicate (l0.length : Int).toNat (0 : Int)).map (eI .i64)) c1 (mkb c2 rfl) repE) ?_
 refine kv g0 (asg) ?_
 refine wk_end ?_
 refine ac_next ?_
 refine aw_grp1 ?_
 refine aw_grp1 ?_
 refine wk_start ?_
 refine kv g0 (asg) ?_
 refine wk_end ?_
 refine ac_next ?_
 refine aw_block ?_
 refine aw_loop2 (fun (k_ : Nat) (q6 : List Int) (p7 : Int) => k_ ≤ k ∧ laws_toIntS.l0 k_ l0 q6 p7 = some r) (fun (q6 : List Int) (p7 : Int) => ⟨[(0, .sl .o 1 (l0.map (eI .i64))), (3, .row 0), (4, .lit (.int .i64 p7))], [(0, .row 3 1 (q6.map (eI .i64)))]⟩) k (List.replicate (l0.length : Int).toNat (0 : Int)) 0 ⟨Nat.le_refl _, H⟩ (fun K_ h_ => acw hE [(0, 0)] 9999 h_) (fun _ _ => by intro h_; have h_ := h_.2; rw [laws_toIntS.l0.eq_1] at h_; cases h_) ?_
 intro k8 q6 p7 hq_ K12 hK13
 have hk8 := hq_.1
 have H := hq_.2
 clear hq_
 rw [laws_toIntS.l0.eq_2] at H
 refine aw_grp1 ?_
 refine aw_grp1 ?_
 refine wk_start ?_
 refine kv g0 (mv) ?_
 refine kv g0 (mv) ?_
 refine kv g0 (lnS lenE) ?_
 refine kv g0 (lss) ?_
 refine wk_end ?_
 refine ac_next ?_
 by_cases c9 : p7 < (l0.length : Int)
 ·rw [if_pos c9] at H
  refine aw_ifT ?_ (decide_eq_true c9)
  refine aw_skip ?_
  refine ac_next ?_
  refine aw_grp1 ?_
  refine aw_block ?_
  refine wk_start ?_
  refine kv g0 (mv) ?_
  refine kv g0 (mv) ?_
  refine kv g0 (mv) ?_
  refine kv g0 (mv) ?_
  obtain ⟨c10, H⟩ := of_if H
  refine kv g0 (ixS 3 (eI .i64 (rd l0 p7)) c10 (getE (z := (0 : Int)) c10 c9)) ?_
  refine kv g0 (ldR (.lit (.int .i64 (rd l0 p7)))) ?_
  obtain ⟨c11, H⟩ := of_if H
  refine kv g0 (ixR 3 c10 (ltE c11)) ?_
  refine ks g0 (stE 1 (eI .i64 (rd l0 p7)) ((q6.set p7.toNat (rd l0 p7)).map (eI .i64)) (getE (z := (0 : Int)) c10 c11) setE) ?_
  refine wk_end ?_
  refine ac_blkN ?_
  refine ac_next ?_
  refine wk_start ?_
  refine kv g0 (mv) ?_
  refine kv g0 (add6) ?_
  refine kv g0 (asg) ?_
  refine wk_end ?_
  refine ac_k ?_
  exact acw hE [(0, 0)] 9999 (hK13 k8 (q6.set p7.toNat (rd l0 p7)) (wrap64 (p7 + 1)) (Nat.le_refl _) ⟨by omega, H⟩)
 rw [if_neg c9] at H
 refine aw_ifF ?_ (decide_eq_false c9)
 refine aw_exit ?_
 refine ac_then ?_
 refine ac_then ?_
 refine ac_hit rfl ?_
 refine ac_next ?_
 refine aw_grp1 ?_
 refine wk_start ?_
 refine kv g0 (mv) ?_
 refine kv g0 (asg) ?_
 refine wk_end ?_
 refine ac_next ?_
 refine aw_ret ?_
 obtain rfl := Option.some.inj H
 exact acr hE [.tmp 2] (.tmp .nil) (.one _) [(0, 0)] 9999
/-! laws_toEarly -/
def laws_toEarly.f (a0_0 : Int) (a0_1 : Int) (a0_2 : Int) (a0_3 : Int) (a0_4 : Int) (a0_5 : Int) : Option (Int × Int × Int × Int × Int × Int) := (laws_toItem.f a0_2 a0_3 a0_4 a0_5).bind fun t1 => some (a0_0, a0_1, t1.1, t1.2.1, t1.2.2.1, t1.2.2.2)
theorem laws_toEarly.ok {a0_0 : Int} {a0_1 : Int} {a0_2 : Int} {a0_3 : Int} {a0_4 : Int} {a0_5 : Int} {r : Int × Int × Int × Int × Int × Int} (H : laws_toEarly.f a0_0 a0_1 a0_2 a0_3 a0_4 a0_5 = some r) : ACalls Try.prog 95 [] [.agg [.lit (.int .i64 a0_0), .lit (.int .i64 a0_1), .lit (.int .i64 a0_2), .lit (.int .i64 a0_3), .lit (.int .i64 a0_4), .lit (.int .i64 a0_5)]] [] (.agg [.lit (.int .i64 r.1), .lit (.int .i64 r.2.1), .lit (.int .i64 r.2.2.1), .lit (.int .i64 r.2.2.2.1), .lit (.int .i64 r.2.2.2.2.1), .lit (.int .i64 r.2.2.2.2.2)]) := by
 refine acalls (fn := Try.f95) (nt := 15) Try.func95 rfl rfl (Nat.le_of_ble_eq_true rfl) fun E hE => ?_
 rw [laws_toEarly.f] at H
 refine aw_grp1 ?_
 refine wk_start ?_
 refine kb g0 (bxA 0) ?_
 refine kb g0 (alc 1 [.int .i64 0, .int .i64 0, .int .i64 0, .int .i64 0, .int .i64 0, .int .i64 0] [.lit (.int .i64 0), .lit (.int .i64 0), .lit (.int .i64 0), .lit (.int .i64 0), .lit (.int .i64 0), .lit (.int .i64 0)]) ?_
 refine wk_end ?_
 refine ac_next ?_
 refine aw_grp1 ?_
 refine wk_start ?_
 refine kb g0 (alc 2 [.int .i64 0, .int .i64 0, .int .i64 0, .int .i64 0, .int .i64 0, .int .i64 0] [.lit (.int .i64 0), .lit (.int .i64 0), .lit (.int .i64 0), .lit (.int .i64 0), .lit (.int .i64 0), .lit (.int .i64 0)]) ?_
 refine wk_end ?_
 refine ac_next ?_
 refine aw_grp1 ?_
 refine wk_start ?_
 refine kv g0 (faB 0 0) ?_
 refine kv g0 (ldB) ?_
 refine kv g0 (faB 0 0) ?_
 refine ks g0 (stB 1 [.lit (.int .i64 a0_0), .lit (.int .i64 0), .lit (.int .i64 0), .lit (.int .i64 0), .lit (.int .i64 0), .lit (.int .i64 0)]) ?_
 refine wk_end ?_
 refine ac_next ?_
 refine aw_grp1 ?_
 refine wk_start ?_
 refine kv g0 (faB 1 1) ?_
 refine kv g0 (ldB) ?_
 refine kv g0 (faB 1 1) ?_
 refine ks g0 (stB 1 [.lit (.int .i64 a0_0), .lit (.int .i64 a0_1), .lit (.int .i64 0), .lit (.int .i64 0), .lit (.int .i64 0), .lit (.int .i64 0)]) ?_
 refine wk_end ?_
 refine ac_next ?_
 refine aw_grp1 ?_
 refine wk_start ?_
 refine kv g0 (faB 2 2) ?_
 refine kv g0 (ldBA 4 [.lit (.int .i64 a0_2), .lit (.int .i64 a0_3), .lit (.int .i64 a0_4), .lit (.int .i64 a0_5)]) ?_
 obtain ⟨t1, A2, H⟩ := of_bind H
 refine kcS0 12 (.agg [.lit (.int .i64 t1.1), .lit (.int .i64 t1.2.1), .lit (.int .i64 t1.2.2.1), .lit (.int .i64 t1.2.2.2)]) [] g0 (cal (laws_toItem.ok A2) [] 9999 .n (hf := Try.func99)) rfl rfl ?_
 refine kv g0 (faB 2 2) ?_
 refine ks g0 (stB 4 [.lit (.int .i64 a0_0), .lit (.int .i64 a0_1), .lit (.int .i64 t1.1), .lit (.int .i64 t1.2.1), .lit (.int .i64 t1.2.2.1), .lit (.int .i64 t1.2.2.2)]) ?_
 refine wk_end ?_
 refine ac_next ?_
 refine aw_grp1 ?_
 refine wk_start ?_
 refine kv g0 (ldBA 6 [.lit (.int .i64 a0_0), .lit (.int .i64 a0_1), .lit (.int .i64 t1.1), .lit (.int .i64 t1.2.1), .lit (.int .i64 t1.2.2.1), .lit (.int .i64 t1.2.2.2)]) ?_
 refine ks g0 (stB 6 [.lit (.int .i64 a0_0), .lit (.int .i64 a0_1), .lit (.int .i64 t1.1), .lit (.int .i64 t1.2.1), .lit (.int .i64 t1.2.2.1), .lit (.int .i64 t1.2.2.2)]) ?_
 refine wk_end ?_
 refine ac_next ?_
 refine aw_ret ?_
 obtain rfl := Option.some.inj H
 exact acr hE [.cell 2 135] (rcA 6 .nil) (.one _) [] 9999
/-! laws_toEarlyS -/
def laws_toEarlyS.l0 : Nat → (List S148) → (List S135) → Int → Option ((List S135))
 | 0, _, _, _ => none
 | k10 + 1, l0, q8, p9 => if p9 < (l0.length : Int) then if 0 ≤ p9 then ((laws_toEarly.f ((rd_T148 l0 p9).f0) ((rd_T148 l0 p9).f1) ((rd_T148 l0 p9).f2.f0) ((rd_T148 l0 p9).f2.f1) ((rd_T148 l0 p9).f2.f2) ((rd_T148 l0 p9).f2.f3)).bind fun t13 => (if p9 < (q8.length : Int) then laws_toEarlyS.l0 k10 l0 (q8.set p9.toNat (⟨t13.1, t13.2.1, (⟨t13.2.2.1, t13.2.2.2.1, t13.2.2.2.2.1, t13.2.2.2.2.2⟩ : S131)⟩ : S135)) (wrap64 (p9 + 1)) else none)) else none else some q8
def laws_toEarlyS.f (k : Nat) (l0 : List S148) : Option ((List S135)) := if 0 ≤ (l0.length : Int) then (if (l0.length : Int).toNat ≤ 5864062014805 then laws_toEarlyS.l0 k l0 (List.replicate (l0.length : Int).toNat z135) 0 else none) else none
theorem laws_toEarlyS.ok {k : Nat} {l0 : List S148} {r : (List S135)} (H : laws_toEarlyS.f k l0 = some r) : ACalls Try.prog 81 [] [.sl .o 6 (l0.map e148)] [(0, .row 135 6 (r.map e135))] (.row 0) := by
 refine acalls (fn := Try.f81) (nt := 23) Try.func81 rfl rfl (Nat.le_of_ble_eq_true rfl) fun E hE => ?_
 rw [laws_toEarlyS.f] at H
 refine aw_grp1 ?_
 refine wk_start ?_
 refine kv g0 (asg) ?_
 refine wk_end ?_
 refine ac_next ?_
 refine aw_grp1 ?_
 refine wk_start ?_
 refine kv g0 (mv) ?_
 refine kv g0 (lnS lenE) ?_
 obtain ⟨c1, H⟩ := of_if H
 obtain ⟨c2, H⟩ := of_if H
 refine kb g0 (mks 0 135 6 48 [.int .i64 0, .int .i64 0, .int .i64 0, .int .i64 0, .int .i64 0, .int .i64 0] (e135 z135) ((List.replicate (l0.length : Int).toNat z135).map e135) c1 (mkb c2 rfl) repE) ?_
 refine kv g0 (asg) ?_
 refine wk_end ?_
 refine ac_next ?_
 refine aw_grp1 ?_
 refine aw_grp1 ?_
 refine wk_start ?_
 refine kv g0 (asg) ?_
 refine wk_end ?_
 refine ac_next ?_
 refine aw_block ?_
 refine aw_loop2 (fun (k_ : Nat) (q8 : List S135) (p9 : Int) => k_ ≤ k ∧ laws_toEarlyS.l0 k_ l0 q8 p9 = some r) (fun (q8 : List S135) (p9 : Int) => ⟨[(0, .sl .o 6 (l0.map e148)), (3, .row 0), (4, .lit (.int .i64 p9))], [(0, .row 135 6 (q8.map e135))]⟩) k (List.replicate (l0.length : Int).toNat z135) 0 ⟨Nat.le_refl _, H⟩ (fun K_ h_ => acw hE [(0, 0)] 9999 h_) (fun _ _ => by intro h_; have h_ := h_.2; rw [laws_toEarlyS.l0.eq_1] at h_; cases h_) ?_
 intro k10 q8 p9 hq_ K16 hK17
 have hk10 := hq_.1
 have H := hq_.2
 clear hq_
 rw [laws_toEarlyS.l0.eq_2] at H
 refine aw_grp1 ?_
 refine aw_grp1 ?_
 refine wk_start ?_
 refine kv g0 (mv) ?_
 refine kv g0 (mv) ?_
 refine kv g0 (lnS lenE) ?_
 refine kv g0 (lss) ?_
 refine wk_end ?_
 refine ac_next ?_
 by_cases c11 : p9 < (l0.length : Int)
 ·rw [if_pos c11] at H
  refine aw_ifT ?_ (decide_eq_true c11)
  refine aw_skip ?_
  refine ac_next ?_
  refine aw_grp1 ?_
  refine aw_block ?_
  refine wk_start ?_
  refine kv g0 (mv) ?_
  refine kv g0 (mv) ?_
  refine kv g0 (mv) ?_
  refine kv g0 (mv) ?_
  obtain ⟨c12, H⟩ := of_if H
  refine kv g0 (ixS 148 (e148 (rd_T148 l0 p9)) c12 (getE (z := z148) c12 c11)) ?_
  refine kv g0 (ldRA 6 [.lit (.int .i64 ((rd_T148 l0 p9).f0)), .lit (.int .i64 ((rd_T148 l0 p9).f1)), .lit (.int .i64 ((rd_T148 l0 p9).f2.f0)), .lit (.int .i64 ((rd_T148 l0 p9).f2.f1)), .lit (.int .i64 ((rd_T148 l0 p9).f2.f2)), .lit (.int .i64 ((rd_T148 l0 p9).f2.f3))]) ?_
  obtain ⟨t13, A14, H⟩ := of_bind H
  refine kcS0 20 (.agg [.lit (.int .i64 t13.1), .lit (.int .i64 t13.2.1), .lit (.int .i64 t13.2.2.1), .lit (.int .i64 t13.2.2.2.1), .lit (.int .i64 t13.2.2.2.2.1), .lit (.int .i64 t13.2.2.2.2.2)]) [] g0 (cal (laws_toEarly.ok A14) [] 9999 .n (hf := Try.func95)) rfl rfl ?_
  obtain ⟨c15, H⟩ := of_if H
  refine kv g0 (ixR 135 c12 (ltE c15)) ?_
  refine ks g0 (stE 6 (e135 (⟨t13.1, t13.2.1, (⟨t13.2.2.1, t13.2.2.2.1, t13.2.2.2.2.1, t13.2.2.2.2.2⟩ : S131)⟩ : S135)) ((q8.set p9.toNat (⟨t13.1, t13.2.1, (⟨t13.2.2.1, t13.2.2.2.1, t13.2.2.2.2.1, t13.2.2.2.2.2⟩ : S131)⟩ : S135)).map e135) (getE (z := z135) c12 c15) setE) ?_
  refine wk_end ?_
  refine ac_blkN ?_
  refine ac_next ?_
  refine wk_start ?_
  refine kv g0 (mv) ?_
  refine kv g0 (add6) ?_
  refine kv g0 (asg) ?_
  refine wk_end ?_
  refine ac_k ?_
  exact acw hE [(0, 0)] 9999 (hK17 k10 (q8.set p9.toNat (⟨t13.1, t13.2.1, (⟨t13.2.2.1, t13.2.2.2.1, t13.2.2.2.2.1, t13.2.2.2.2.2⟩ : S131)⟩ : S135)) (wrap64 (p9 + 1)) (Nat.le_refl _) ⟨by omega, H⟩)
 rw [if_neg c11] at H
 refine aw_ifF ?_ (decide_eq_false c11)
 refine aw_exit ?_
 refine ac_then ?_
 refine ac_then ?_
 refine ac_hit rfl ?_
 refine ac_next ?_
 refine aw_grp1 ?_
 refine wk_start ?_
 refine kv g0 (mv) ?_
 refine kv g0 (asg) ?_
 refine wk_end ?_
 refine ac_next ?_
 refine aw_ret ?_
 obtain rfl := Option.some.inj H
 exact acr hE [.tmp 2] (.tmp .nil) (.one _) [(0, 0)] 9999
/-! laws_toKeeper -/
def laws_toKeeper.f (k : Nat) (l0_0 : List S146) (l0_1 : List Int) (l0_2 : List S148) (a0_3 : Int) (l0_4 : List Int) : Option ((List S133) × (List Int) × (List S135) × Int × (List Int)) := (laws_toEntryS.f k l0_0).bind fun t1 => (laws_toIntS.f k l0_1).bind fun t3 => (laws_toEarlyS.f k l0_2).bind fun t5 => (laws_toIntS.f k l0_4).bind fun t7 => some (t1, t3, t5, a0_3, t7)
theorem laws_toKeeper.ok {k : Nat} {l0_0 : List S146} {l0_1 : List Int} {l0_2 : List S148} {a0_3 : Int} {l0_4 : List Int} {r : (List S133) × (List Int) × (List S135) × Int × (List Int)} (H : laws_toKeeper.f k l0_0 l0_1 l0_2 a0_3 l0_4 = some r) : ACalls Try.prog 51 [] [.agg [.sl .o 6 (l0_0.map e146), .sl .o 1 (l0_1.map (eI .i64)), .sl .o 6 (l0_2.map e148), .lit (.int .i64 a0_3), .sl .o 1 (l0_4.map (eI .i64))]] [(0, .row 133 6 (r.1.map e133)), (1, .row 3 1 (r.2.1.map (eI .i64))), (2, .row 135 6 (r.2.2.1.map e135)), (3, .row 3 1 (r.2.2.2.2.map (eI .i64)))] (.agg [.row 0, .row 1, .row 2, .lit (.int .i64 r.2.2.2.1), .row 3]) := by
 refine acalls (fn := Try.f51) (nt := 24) Try.func51 rfl rfl (Nat.le_of_ble_eq_true rfl) fun E hE => ?_
 rw [laws_toKeeper.f] at H
 refine aw_grp1 ?_
 refine wk_start ?_
 refine kb g0 (bxA 0) ?_
 refine kb g0 (alc 1 [.slice none 0 0, .slice none 0 0, .slice none 0 0, .int .i64 0, .slice none 0 0] [.lit (.slice none 0 0), .lit (.slice none 0 0), .lit (.slice none 0 0), .lit (.int .i64 0), .lit (.slice none 0 0)]) ?_
 refine wk_end ?_
 refine ac_next ?_
 refine aw_grp1 ?_
 refine wk_start ?_
 refine kb g0 (alc 2 [.slice none 0 0, .slice none 0 0, .slice none 0 0, .int .i64 0, .slice none 0 0] [.lit (.slice none 0 0), .lit (.slice none 0 0), .lit (.slice none 0 0), .lit (.int .i64 0), .lit (.slice none 0 0)]) ?_
 refine wk_end ?_
 refine ac_next ?_
 refine aw_grp1 ?_
 refine wk_start ?_
 refine kv g0 (faB 0 0) ?_
 refine kv g0 (ldB) ?_
 obtain ⟨t1, A2, H⟩ := of_bind H
 refine kcS1 6 (.row 3) [(3, .row 133 6 (t1.map e133))] g0 (cal (laws_toEntryS.ok A2) [3] 9999 .n (hf := Try.func80)) rfl rfl ?_
 refine kv g0 (faB 0 0) ?_
 refine ks g0 (stB 1 [.row 3, .lit (.slice none 0 0), .lit (.slice none 0 0), .lit (.int .i64 0), .lit (.slice none 0 0)]) ?_
 refine wk_end ?_
 refine ac_next ?_
 refine aw_grp1 ?_
 refine wk_start ?_
 refine kv g0 (faB 1 1) ?_
 refine kv g0 (ldB) ?_
 obtain ⟨t3, A4, H⟩ := of_bind H
 refine kcS1 10 (.row 4) [(4, .row 3 1 (t3.map (eI .i64)))] g0 (cal (laws_toIntS.ok A4) [4] 9999 .n (hf := Try.func53)) rfl rfl ?_
 refine kv g0 (faB 1 1) ?_
 refine ks g0 (stB 1 [.row 3, .row 4, .lit (.slice none 0 0), .lit (.int .i64 0), .lit (.slice none 0 0)]) ?_
 refine wk_end ?_
 refine ac_next ?_
 refine aw_grp1 ?_
 refine wk_start ?_
 refine kv g0 (faB 2 2) ?_
 refine kv g0 (ldB) ?_
 obtain ⟨t5, A6, H⟩ := of_bind H
 refine kcS1 14 (.row 5) [(5, .row 135 6 (t5.map e135))] g0 (cal (laws_toEarlyS.ok A6) [5] 9999 .n (hf := Try.func81)) rfl rfl ?_
 refine kv g0 (faB 2 2) ?_
 refine ks g0 (stB 1 [.row 3, .row 4, .row 5, .lit (.int .i64 0), .lit (.slice none 0 0)]) ?_
 refine wk_end ?_
 refine ac_next ?_
 refine aw_grp1 ?_
 refine wk_start ?_
 refine kv g0 (faB 3 3) ?_
 refine kv g0 (ldB) ?_
 refine kv g0 (faB 3 3) ?_
 refine ks g0 (stB 1 [.row 3, .row 4, .row 5, .lit (.int .i64 a0_3), .lit (.slice none 0 0)]) ?_
 refine wk_end ?_
 refine ac_next ?_
 refine aw_grp1 ?_
 refine wk_start ?_
 refine kv g0 (faB 4 4) ?_
 refine kv g0 (ldB) ?_
 obtain ⟨t7, A8, H⟩ := of_bind H
 refine kcS1 21 (.row 6) [(6, .row 3 1 (t7.map (eI .i64)))] g0 (cal (laws_toIntS.ok A8) [6] 9999 .n (hf := Try.func53)) rfl rfl ?_
 refine kv g0 (faB 4 4) ?_
 refine ks g0 (stB 1 [.row 3, .row 4, .row 5, .lit (.int .i64 a0_3), .row 6]) ?_
 refine wk_end ?_
 refine ac_next ?_
 refine aw_grp1 ?_
 refine wk_start ?_
 refine kv g0 (ldBA 5 [.row 3, .row 4, .row 5, .lit (.int .i64 a0_3), .row 6]) ?_
 refine ks g0 (stB 5 [.row 3, .row 4, .row 5, .lit (.int .i64 a0_3), .row 6]) ?_
 refine wk_end ?_
 refine ac_next ?_
 refine aw_ret ?_
 obtain rfl := Option.some.inj H
 exact acr hE [.cell 2 29] (rcA 5 .nil) (.one _) [(0, 3), (1, 4), (2, 5), (3, 6)] 9999
/-! laws_toLetter -/
def laws_toLetter.f (a0_0 : Bool) (a0_1 : ByteArray) (a0_2 : Bool) : Option (Bool × ByteArray × Bool) := some (a0_0, a0_1, a0_2)
theorem laws_toLetter.ok {a0_0 : Bool} {a0_1 : ByteArray} {a0_2 : Bool} {r : Bool × ByteArray × Bool} (H : laws_toLetter.f a0_0 a0_1 a0_2 = some r) : ACalls Try.prog 82 [] [.agg [.lit (.bool a0_0), .lit (.string a0_1), .lit (.bool a0_2)]] [] (.agg [.lit (.bool r.1), .lit (.string r.2.1), .lit (.bool r.2.2)]) := by
 refine acalls (fn := Try.f82) (nt := 14) Try.func82 rfl rfl (Nat.le_of_ble_eq_true rfl) fun E hE => ?_
 rw [laws_toLetter.f] at H
 refine aw_grp1 ?_
 refine wk_start ?_
 refine kb g0 (bxA 0) ?_
 refine kb g0 (alc 1 [.bool false, .string .empty, .bool false] [.lit (.bool false), .lit (.string ByteArray.empty), .lit (.bool false)]) ?_
 refine wk_end ?_
 refine ac_next ?_
 refine aw_grp1 ?_
 refine wk_start ?_
 refine kb g0 (alc 2 [.bool false, .string .empty, .bool false] [.lit (.bool false), .lit (.string ByteArray.empty), .lit (.bool false)]) ?_
 refine wk_end ?_
 refine ac_next ?_
 refine aw_grp1 ?_
 refine wk_start ?_
 refine kv g0 (faB 0 0) ?_
 refine kv g0 (ldB) ?_
 refine kv g0 (faB 0 0) ?_
 refine ks g0 (stB 1 [.lit (.bool a0_0), .lit (.string ByteArray.empty), .lit (.bool false)]) ?_
 refine wk_end ?_
 refine ac_next ?_
 refine aw_grp1 ?_
 refine wk_start ?_
 refine kv g0 (faB 1 1) ?_
 refine kv g0 (ldB) ?_
 refine kv g0 (faB 1 1) ?_
 refine ks g0 (stB 1 [.lit (.bool a0_0), .lit (.string a0_1), .lit (.bool false)]) ?_
 refine wk_end ?_
 refine ac_next ?_
 refine aw_grp1 ?_
 refine wk_start ?_
 refine kv g0 (faB 2 2) ?_
 refine kv g0 (ldB) ?_
 refine kv g0 (faB 2 2) ?_
 refine ks g0 (stB 1 [.lit (.bool a0_0), .lit (.string a0_1), .lit (.bool a0_2)]) ?_
 refine wk_end ?_
 refine ac_next ?_
 refine aw_grp1 ?_
 refine wk_start ?_
 refine kv g0 (ldBA 3 [.lit (.bool a0_0), .lit (.string a0_1), .lit (.bool a0_2)]) ?_
 refine ks g0 (stB 3 [.lit (.bool a0_0), .lit (.string a0_1), .lit (.bool a0_2)]) ?_
 refine wk_end ?_
 refine ac_next ?_
 refine aw_ret ?_
 obtain rfl := Option.some.inj H
 exact acr hE [.cell 2 99] (rcA 3 .nil) (.one _) [] 9999
/-! laws_toLetterS -/
def laws_toLetterS.l0 : Nat → (List S117) → (List S99) → Int → Option ((List S99))
 | 0, _, _, _ => none
 | k10 + 1, l0, q8, p9 => if p9 < (l0.length : Int) then if 0 ≤ p9 then ((laws_toLetter.f ((rd_T117 l0 p9).f0) ((rd_T117 l0 p9).f1) ((rd_T117 l0 p9).f2)).bind fun t13 => (if p9 < (q8.length : Int) then laws_toLetterS.l0 k10 l0 (q8.set p9.toNat (⟨t13.1, t13.2.1, t13.2.2⟩ : S99)) (wrap64 (p9 + 1)) else none)) else none else some q8
def laws_toLetterS.f (k : Nat) (l0 : List S117) : Option ((List S99)) := if 0 ≤ (l0.length : Int) then (if (l0.length : Int).toNat ≤ 8796093022208 then laws_toLetterS.l0 k l0 (List.replicate (l0.length : Int).toNat z99) 0 else none) else none
theorem laws_toLetterS.ok {k : Nat} {l0 : List S117} {r : (List S99)} (H : laws_toLetterS.f k l0 = some r) : ACalls Try.prog 52 [] [.sl .o 3 (l0.map e117)] [(0, .row 99 3 (r.map e99))] (.row 0) := by
 refine acalls (fn := Try.f52) (nt := 23) Try.func52 rfl rfl (Nat.le_of_ble_eq_true rfl) fun E hE => ?_
 rw [laws_toLetterS.f] at H
 refine aw_grp1 ?_
 refine wk_start ?_
 refine kv g0 (asg) ?_
 refine wk_end ?_
 refine ac_next ?_
 refine aw_grp1 ?_
 refine wk_start ?_
 refine kv g0 (mv) ?_
 refine kv g0 (lnS lenE) ?_
 obtain ⟨c1, H⟩ := of_if H
 obtain ⟨c2, H⟩ := of_if H
 refine kb g0 (mks 0 99 3 32 [.bool false, .string .empty, .bool false] (e99 z99) ((List.replicate (l0.length : Int).toNat z99).map e99) c1 (mkb c2 rfl) repE) ?_
 refine kv g0 (asg) ?_
 refine wk_end ?_
 refine ac_next ?_
 refine aw_grp1 ?_
 refine aw_grp1 ?_
 refine wk_start ?_
 refine kv g0 (asg) ?_
 refine wk_end ?_
 refine ac_next ?_
 refine aw_block ?_
 refine aw_loop2 (fun (k_ : Nat) (q8 : List S99) (p9 : Int) => k_ ≤ k ∧ laws_toLetterS.l0 k_ l0 q8 p9 = some r) (fun (q8 : List S99) (p9 : Int) => ⟨[(0, .sl .o 3 (l0.map e117)), (3, .row 0), (4, .lit (.int .i64 p9))], [(0, .row 99 3 (q8.map e99))]⟩) k (List.replicate (l0.length : Int).toNat z99) 0 ⟨Nat.le_refl _, H⟩ (fun K_ h_ => acw hE [(0, 0)] 9999 h_) (fun _ _ => by intro h_; have h_ := h_.2; rw [laws_toLetterS.l0.eq_1] at h_; cases h_) ?_
 intro k10 q8 p9 hq_ K16 hK17
 have hk10 := hq_.1
 have H := hq_.2
 clear hq_
 rw [laws_toLetterS.l0.eq_2] at H
 refine aw_grp1 ?_
 refine aw_grp1 ?_
 refine wk_start ?_
 refine kv g0 (mv) ?_
 refine kv g0 (mv) ?_
 refine kv g0 (lnS lenE) ?_
 refine kv g0 (lss) ?_
 refine wk_end ?_
 refine ac_next ?_
 by_cases c11 : p9 < (l0.length : Int)
 ·rw [if_pos c11] at H
  refine aw_ifT ?_ (decide_eq_true c11)
  refine aw_skip ?_
  refine ac_next ?_
  refine aw_grp1 ?_
  refine aw_block ?_
  refine wk_start ?_
  refine kv g0 (mv) ?_
  refine kv g0 (mv) ?_
  refine kv g0 (mv) ?_
  refine kv g0 (mv) ?_
  obtain ⟨c12, H⟩ := of_if H
  refine kv g0 (ixS 117 (e117 (rd_T117 l0 p9)) c12 (getE (z := z117) c12 c11)) ?_
  refine kv g0 (ldRA 3 [.lit (.bool ((rd_T117 l0 p9).f0)), .lit (.string ((rd_T117 l0 p9).f1)), .lit (.bool ((rd_T117 l0 p9).f2))]) ?_
  obtain ⟨t13, A14, H⟩ := of_bind H
  refine kcS0 20 (.agg [.lit (.bool t13.1), .lit (.string t13.2.1), .lit (.bool t13.2.2)]) [] g0 (cal (laws_toLetter.ok A14) [] 9999 .n (hf := Try.func82)) rfl rfl ?_
  obtain ⟨c15, H⟩ := of_if H
  refine kv g0 (ixR 99 c12 (ltE c15)) ?_
  refine ks g0 (stE 3 (e99 (⟨t13.1, t13.2.1, t13.2.2⟩ : S99)) ((q8.set p9.toNat (⟨t13.1, t13.2.1, t13.2.2⟩ : S99)).map e99) (getE (z := z99) c12 c15) setE) ?_
  refine wk_end ?_
  refine ac_blkN ?_
  refine ac_next ?_
  refine wk_start ?_
  refine kv g0 (mv) ?_
  refine kv g0 (add6) ?_
  refine kv g0 (asg) ?_
  refine wk_end ?_
  refine ac_k ?_
  exact acw hE [(0, 0)] 9999 (hK17 k10 (q8.set p9.toNat (⟨t13.1, t13.2.1, t13.2.2⟩ : S99)) (wrap64 (p9 + 1)) (Nat.le_refl _) ⟨by omega, H⟩)
 rw [if_neg c11] at H
 refine aw_ifF ?_ (decide_eq_false c11)
 refine aw_exit ?_
 refine ac_then ?_
 refine ac_then ?_
 refine ac_hit rfl ?_
 refine ac_next ?_
 refine aw_grp1 ?_
 refine wk_start ?_
 refine kv g0 (mv) ?_
 refine kv g0 (asg) ?_
 refine wk_end ?_
 refine ac_next ?_
 refine aw_ret ?_
 obtain rfl := Option.some.inj H
 exact acr hE [.tmp 2] (.tmp .nil) (.one _) [(0, 0)] 9999
/-! laws_toSeen -/
def laws_toSeen.f (a0_0 : Int) (a0_1 : Int) (a0_2 : Int) (a0_3 : Bool) : Option (Int × Int × Int × Bool) := some (a0_0, a0_1, a0_2, a0_3)
theorem laws_toSeen.ok {a0_0 : Int} {a0_1 : Int} {a0_2 : Int} {a0_3 : Bool} {r : Int × Int × Int × Bool} (H : laws_toSeen.f a0_0 a0_1 a0_2 a0_3 = some r) : ACalls Try.prog 83 [] [.agg [.lit (.int .i64 a0_0), .lit (.int .i64 a0_1), .lit (.int .i64 a0_2), .lit (.bool a0_3)]] [] (.agg [.lit (.int .i64 r.1), .lit (.int .i64 r.2.1), .lit (.int .i64 r.2.2.1), .lit (.bool r.2.2.2)]) := by
 refine acalls (fn := Try.f83) (nt := 17) Try.func83 rfl rfl (Nat.le_of_ble_eq_true rfl) fun E hE => ?_
 rw [laws_toSeen.f] at H
 refine aw_grp1 ?_
 refine wk_start ?_
 refine kb g0 (bxA 0) ?_
 refine kb g0 (alc 1 [.int .i64 0, .int .i64 0, .int .i64 0, .bool false] [.lit (.int .i64 0), .lit (.int .i64 0), .lit (.int .i64 0), .lit (.bool false)]) ?_
 refine wk_end ?_
 refine ac_next ?_
 refine aw_grp1 ?_
 refine wk_start ?_
 refine kb g0 (alc 2 [.int .i64 0, .int .i64 0, .int .i64 0, .bool false] [.lit (.int .i64 0), .lit (.int .i64 0), .lit (.int .i64 0), .lit (.bool false)]) ?_
 refine wk_end ?_
 refine ac_next ?_
 refine aw_grp1 ?_
 refine wk_start ?_
 refine kv g0 (faB 0 0) ?_
 refine kv g0 (ldB) ?_
 refine kv g0 (faB 0 0) ?_
 refine ks g0 (stB 1 [.lit (.int .i64 a0_0), .lit (.int .i64 0), .lit (.int .i64 0), .lit (.bool false)]) ?_
 refine wk_end ?_
 refine ac_next ?_
 refine aw_grp1 ?_
 refine wk_start ?_
 refine kv g0 (faB 1 1) ?_
 refine kv g0 (ldB) ?_
 refine kv g0 (faB 1 1) ?_
 refine ks g0 (stB 1 [.lit (.int .i64 a0_0), .lit (.int .i64 a0_1), .lit (.int .i64 0), .lit (.bool false)]) ?_
 refine wk_end ?_
 refine ac_next ?_
 refine aw_grp1 ?_
 refine wk_start ?_
 refine kv g0 (faB 2 2) ?_
 refine kv g0 (ldB) ?_
 refine kv g0 (faB 2 2) ?_
 refine ks g0 (stB 1 [.lit (.int .i64 a0_0), .lit (.int .i64 a0_1), .lit (.int .i64 a0_2), .lit (.bool false)]) ?_
 refine wk_end ?_
 refine ac_next ?_
 refine aw_grp1 ?_
 refine wk_start ?_
 refine kv g0 (faB 3 3) ?_
 refine kv g0 (ldB) ?_
 refine kv g0 (faB 3 3) ?_
 refine ks g0 (stB 1 [.lit (.int .i64 a0_0), .lit (.int .i64 a0_1), .lit (.int .i64 a0_2), .lit (.bool a0_3)]) ?_
 refine wk_end ?_
 refine ac_next ?_
 refine aw_grp1 ?_
 refine wk_start ?_
 refine kv g0 (ldBA 4 [.lit (.int .i64 a0_0), .lit (.int .i64 a0_1), .lit (.int .i64 a0_2), .lit (.bool a0_3)]) ?_
 refine ks g0 (stB 4 [.lit (.int .i64 a0_0), .lit (.int .i64 a0_1), .lit (.int .i64 a0_2), .lit (.bool a0_3)]) ?_
 refine wk_end ?_
 refine ac_next ?_
 refine aw_ret ?_
 obtain rfl := Option.some.inj H
 exact acr hE [.cell 2 83] (rcA 4 .nil) (.one _) [] 9999
/-! laws_toSeenS -/
def laws_toSeenS.l0 : Nat → (List S125) → (List S83) → Int → Option ((List S83))
 | 0, _, _, _ => none
 | k10 + 1, l0, q8, p9 => if p9 < (l0.length : Int) then if 0 ≤ p9 then ((laws_toSeen.f ((rd_T125 l0 p9).f0) ((rd_T125 l0 p9).f1) ((rd_T125 l0 p9).f2) ((rd_T125 l0 p9).f3)).bind fun t13 => (if p9 < (q8.length : Int) then laws_toSeenS.l0 k10 l0 (q8.set p9.toNat (⟨t13.1, t13.2.1, t13.2.2.1, t13.2.2.2⟩ : S83)) (wrap64 (p9 + 1)) else none)) else none else some q8
def laws_toSeenS.f (k : Nat) (l0 : List S125) : Option ((List S83)) := if 0 ≤ (l0.length : Int) then (if (l0.length : Int).toNat ≤ 8796093022208 then laws_toSeenS.l0 k l0 (List.replicate (l0.length : Int).toNat z83) 0 else none) else none
theorem laws_toSeenS.ok {k : Nat} {l0 : List S125} {r : (List S83)} (H : laws_toSeenS.f k l0 = some r) : ACalls Try.prog 54 [] [.sl .o 4 (l0.map e125)] [(0, .row 83 4 (r.map e83))] (.row 0) := by
 refine acalls (fn := Try.f54) (nt := 23) Try.func54 rfl rfl (Nat.le_of_ble_eq_true rfl) fun E hE => ?_
 rw [laws_toSeenS.f] at H
 refine aw_grp1 ?_
 refine wk_start ?_
 refine kv g0 (asg) ?_
 refine wk_end ?_
 refine ac_next ?_
 refine aw_grp1 ?_
 refine wk_start ?_
 refine kv g0 (mv) ?_
 refine kv g0 (lnS lenE) ?_
 obtain ⟨c1, H⟩ := of_if H
 obtain ⟨c2, H⟩ := of_if H
 refine kb g0 (mks 0 83 4 32 [.int .i64 0, .int .i64 0, .int .i64 0, .bool false] (e83 z83) ((List.replicate (l0.length : Int).toNat z83).map e83) c1 (mkb c2 rfl) repE) ?_
 refine kv g0 (asg) ?_
 refine wk_end ?_
 refine ac_next ?_
 refine aw_grp1 ?_
 refine aw_grp1 ?_
 refine wk_start ?_
 refine kv g0 (asg) ?_
 refine wk_end ?_
 refine ac_next ?_
 refine aw_block ?_
 refine aw_loop2 (fun (k_ : Nat) (q8 : List S83) (p9 : Int) => k_ ≤ k ∧ laws_toSeenS.l0 k_ l0 q8 p9 = some r) (fun (q8 : List S83) (p9 : Int) => ⟨[(0, .sl .o 4 (l0.map e125)), (3, .row 0), (4, .lit (.int .i64 p9))], [(0, .row 83 4 (q8.map e83))]⟩) k (List.replicate (l0.length : Int).toNat z83) 0 ⟨Nat.le_refl _, H⟩ (fun K_ h_ => acw hE [(0, 0)] 9999 h_) (fun _ _ => by intro h_; have h_ := h_.2; rw [laws_toSeenS.l0.eq_1] at h_; cases h_) ?_
 intro k10 q8 p9 hq_ K16 hK17
 have hk10 := hq_.1
 have H := hq_.2
 clear hq_
 rw [laws_toSeenS.l0.eq_2] at H
 refine aw_grp1 ?_
 refine aw_grp1 ?_
 refine wk_start ?_
 refine kv g0 (mv) ?_
 refine kv g0 (mv) ?_
 refine kv g0 (lnS lenE) ?_
 refine kv g0 (lss) ?_
 refine wk_end ?_
 refine ac_next ?_
 by_cases c11 : p9 < (l0.length : Int)
 ·rw [if_pos c11] at H
  refine aw_ifT ?_ (decide_eq_true c11)
  refine aw_skip ?_
  refine ac_next ?_
  refine aw_grp1 ?_
  refine aw_block ?_
  refine wk_start ?_
  refine kv g0 (mv) ?_
  refine kv g0 (mv) ?_
  refine kv g0 (mv) ?_
  refine kv g0 (mv) ?_
  obtain ⟨c12, H⟩ := of_if H
  refine kv g0 (ixS 125 (e125 (rd_T125 l0 p9)) c12 (getE (z := z125) c12 c11)) ?_
  refine kv g0 (ldRA 4 [.lit (.int .i64 ((rd_T125 l0 p9).f0)), .lit (.int .i64 ((rd_T125 l0 p9).f1)), .lit (.int .i64 ((rd_T125 l0 p9).f2)), .lit (.bool ((rd_T125 l0 p9).f3))]) ?_
  obtain ⟨t13, A14, H⟩ := of_bind H
  refine kcS0 20 (.agg [.lit (.int .i64 t13.1), .lit (.int .i64 t13.2.1), .lit (.int .i64 t13.2.2.1), .lit (.bool t13.2.2.2)]) [] g0 (cal (laws_toSeen.ok A14) [] 9999 .n (hf := Try.func83)) rfl rfl ?_
  obtain ⟨c15, H⟩ := of_if H
  refine kv g0 (ixR 83 c12 (ltE c15)) ?_
  refine ks g0 (stE 4 (e83 (⟨t13.1, t13.2.1, t13.2.2.1, t13.2.2.2⟩ : S83)) ((q8.set p9.toNat (⟨t13.1, t13.2.1, t13.2.2.1, t13.2.2.2⟩ : S83)).map e83) (getE (z := z83) c12 c15) setE) ?_
  refine wk_end ?_
  refine ac_blkN ?_
  refine ac_next ?_
  refine wk_start ?_
  refine kv g0 (mv) ?_
  refine kv g0 (add6) ?_
  refine kv g0 (asg) ?_
  refine wk_end ?_
  refine ac_k ?_
  exact acw hE [(0, 0)] 9999 (hK17 k10 (q8.set p9.toNat (⟨t13.1, t13.2.1, t13.2.2.1, t13.2.2.2⟩ : S83)) (wrap64 (p9 + 1)) (Nat.le_refl _) ⟨by omega, H⟩)
 rw [if_neg c11] at H
 refine aw_ifF ?_ (decide_eq_false c11)
 refine aw_exit ?_
 refine ac_then ?_
 refine ac_then ?_
 refine ac_hit rfl ?_
 refine ac_next ?_
 refine aw_grp1 ?_
 refine wk_start ?_
 refine kv g0 (mv) ?_
 refine kv g0 (asg) ?_
 refine wk_end ?_
 refine ac_next ?_
 refine aw_ret ?_
 obtain rfl := Option.some.inj H
 exact acr hE [.tmp 2] (.tmp .nil) (.one _) [(0, 0)] 9999
/-! laws_toWorld -/
def laws_toWorld.f (k : Nat) (l0_0 : List (List (List S154))) (l0_1 : List S110) (l0_2 : List S113) (l0_3 : List S146) (l0_4 : List Int) (l0_5 : List S148) (a0_6 : Int) (l0_7 : List Int) (l0_8 : List S117) (a0_9 : Int) (l0_10 : List Int) (l0_11 : List S125) : Option ((List (List (List S151))) × (List S59) × (List S62) × (List S133) × (List Int) × (List S135) × Int × (List Int) × (List S99) × Int × (List Int) × (List S83)) := (laws_toInsSSS.f k l0_0).bind fun t1 => (laws_toRingS.f k l0_1).bind fun t3 => (laws_toSenderS.f k l0_2).bind fun t5 => (laws_toKeeper.f k l0_3 l0_4 l0_5 a0_6 l0_7).bind fun t7 => (laws_toLetterS.f k l0_8).bind fun t9 => (laws_toIntS.f k l0_10).bind fun t11 => (laws_toSeenS.f k l0_11).bind fun t13 => some (t1, t3, t5, t7.1, t7.2.1, t7.2.2.1, t7.2.2.2.1, t7.2.2.2.2, t9, a0_9, t11, t13)
theorem laws_toWorld.ok {k : Nat} {l0_0 : List (List (List S154))} {l0_1 : List S110} {l0_2 : List S113} {l0_3 : List S146} {l0_4 : List Int} {l0_5 : List S148} {a0_6 : Int} {l0_7 : List Int} {l0_8 : List S117} {a0_9 : Int} {l0_10 : List Int} {l0_11 : List S125} {r : (List (List (List S151))) × (List S59) × (List S62) × (List S133) × (List Int) × (List S135) × Int × (List Int) × (List S99) × Int × (List Int) × (List S83)} (H : laws_toWorld.f k l0_0 l0_1 l0_2 l0_3 l0_4 l0_5 a0_6 l0_7 l0_8 a0_9 l0_10 l0_11 = some r) : ACalls Try.prog 12 [] [.agg [.sl .o 1 (l0_0.map (eL 1 (eL 4 (e154)))), .sl .o 4 (l0_1.map e110), .sl .o 5 (l0_2.map e113), .sl .o 6 (l0_3.map e146), .sl .o 1 (l0_4.map (eI .i64)), .sl .o 6 (l0_5.map e148), .lit (.int .i64 a0_6), .sl .o 1 (l0_7.map (eI .i64)), .sl .o 3 (l0_8.map e117), .lit (.int .i64 a0_9), .sl .o 1 (l0_10.map (eI .i64)), .sl .o 4 (l0_11.map e125)]] [(0, .drow false [.own 127 [.own 151 []]] 56 1 (r.1.map (eL 1 (eL 4 (e151))))), (1, .drow false ds59 59 4 (r.2.1.map e59)), (2, .drow false ds62 62 5 (r.2.2.1.map e62)), (3, .row 133 6 (r.2.2.2.1.map e133)), (4, .row 3 1 (r.2.2.2.2.1.map (eI .i64))), (5, .row 135 6 (r.2.2.2.2.2.1.map e135)), (6, .row 3 1 (r.2.2.2.2.2.2.2.1.map (eI .i64))), (7, .row 99 3 (r.2.2.2.2.2.2.2.2.1.map e99)), (8, .row 3 1 (r.2.2.2.2.2.2.2.2.2.2.1.map (eI .i64))), (9, .row 83 4 (r.2.2.2.2.2.2.2.2.2.2.2.map e83))] (.agg [.row 0, .row 1, .row 2, .row 3, .row 4, .row 5, .lit (.int .i64 r.2.2.2.2.2.2.1), .row 6, .row 7, .lit (.int .i64 r.2.2.2.2.2.2.2.2.2.1), .row 8, .row 9]) := by
 refine acalls (fn := Try.f12) (nt := 36) Try.func12 rfl rfl (Nat.le_of_ble_eq_true rfl) fun E hE => ?_
 rw [laws_toWorld.f] at H
 refine aw_grp1 ?_
 refine wk_start ?_
 refine kb g0 (bxA 0) ?_
 refine kb g0 (alc 1 [.slice none 0 0, .slice none 0 0, .slice none 0 0, .slice none 0 0, .slice none 0 0, .slice none 0 0, .int .i64 0, .slice none 0 0, .slice none 0 0, .int .i64 0, .slice none 0 0, .slice none 0 0] [.lit (.slice none 0 0), .lit (.slice none 0 0), .lit (.slice none 0 0), .lit (.slice none 0 0), .lit (.slice none 0 0), .lit (.slice none 0 0), .lit (.int .i64 0), .lit (.slice none 0 0), .lit (.slice none 0 0), .lit (.int .i64 0), .lit (.slice none 0 0), .lit (.slice none 0 0)]) ?_
 refine wk_end ?_
 refine ac_next ?_
 refine aw_grp1 ?_
 refine wk_start ?_
 refine kb g0 (alc 2 [.slice none 0 0, .slice none 0 0, .slice none 0 0, .slice none 0 0, .slice none 0 0, .slice none 0 0, .int .i64 0, .slice none 0 0, .slice none 0 0, .int .i64 0, .slice none 0 0, .slice none 0 0] [.lit (.slice none 0 0), .lit (.slice none 0 0), .lit (.slice none 0 0), .lit (.slice none 0 0), .lit (.slice none 0 0), .lit (.slice none 0 0), .lit (.int .i64 0), .lit (.slice none 0 0), .lit (.slice none 0 0), .lit (.int .i64 0), .lit (.slice none 0 0), .lit (.slice none 0 0)]) ?_
 refine wk_end ?_
 refine ac_next ?_
 refine aw_grp1 ?_
 refine wk_start ?_
 refine kv g0 (faB 0 0) ?_
 refine kv g0 (ldB) ?_
 obtain ⟨t1, A2, H⟩ := of_bind H
 refine kcS1 6 (.row 3) [(3, .drow false [.own 127 [.own 151 []]] 56 1 (t1.map (eL 1 (eL 4 (e151)))))] g0 (cal (laws_toInsSSS.ok A2) [3] 9999 .n (hf := Try.func48)) rfl rfl ?_
 refine kv g0 (faB 0 0) ?_
 refine ks g0 (stB 1 [.row 3, .lit (.slice none 0 0), .lit (.slice none 0 0), .lit (.slice none 0 0), .lit (.slice none 0 0), .lit (.slice none 0 0), .lit (.int .i64 0), .lit (.slice none 0 0), .lit (.slice none 0 0), .lit (.int .i64 0), .lit (.slice none 0 0), .lit (.slice none 0 0)]) ?_
 refine wk_end ?_
 refine ac_next ?_
 refine aw_grp1 ?_
 refine wk_start ?_
 refine kv g0 (faB 1 1) ?_
 refine kv g0 (ldB) ?_
 obtain ⟨t3, A4, H⟩ := of_bind H
 refine kcS1 10 (.row 4) [(4, .drow false ds59 59 4 (t3.map e59))] g0 (cal (laws_toRingS.ok A4) [4] 9999 .n (hf := Try.func49)) rfl rfl ?_
 refine kv g0 (faB 1 1) ?_
 refine ks g0 (stB 1 [.row 3, .row 4, .lit (.slice none 0 0), .lit (.slice none 0 0), .lit (.slice none 0 0), .lit (.slice none 0 0), .lit (.int .i64 0), .lit (.slice none 0 0), .lit (.slice none 0 0), .lit (.int .i64 0), .lit (.slice none 0 0), .lit (.slice none 0 0)]) ?_
 refine wk_end ?_
 refine ac_next ?_
 refine aw_grp1 ?_
 refine wk_start ?_
 refine kv g0 (faB 2 2) ?_
 refine kv g0 (ldB) ?_
 obtain ⟨t5, A6, H⟩ := of_bind H
 refine kcS1 14 (.row 5) [(5, .drow false ds62 62 5 (t5.map e62))] g0 (cal (laws_toSenderS.ok A6) [5] 9999 .n (hf := Try.func50)) rfl rfl ?_
 refine kv g0 (faB 2 2) ?_
 refine ks g0 (stB 1 [.row 3, .row 4, .row 5, .lit (.slice none 0 0), .lit (.slice none 0 0), .lit (.slice none 0 0), .lit (.int .i64 0), .lit (.slice none 0 0), .lit (.slice none 0 0), .lit (.int .i64 0), .lit (.slice none 0 0), .lit (.slice none 0 0)]) ?_
 refine wk_end ?_
 refine ac_next ?_
 refine aw_grp1 ?_
 refine wk_start ?_
 refine kv g0 (faB 3 3) ?_
 refine kv g0 (ldBA 5 [.sl .o 6 (l0_3.map e146), .sl .o 1 (l0_4.map (eI .i64)), .sl .o 6 (l0_5.map e148), .lit (.int .i64 a0_6), .sl .o 1 (l0_7.map (eI .i64))]) ?_
 obtain ⟨t7, A8, H⟩ := of_bind H
 refine kcS4 18 (.agg [.row 6, .row 7, .row 8, .lit (.int .i64 t7.2.2.2.1), .row 9]) [(6, .row 133 6 (t7.1.map e133)), (7, .row 3 1 (t7.2.1.map (eI .i64))), (8, .row 135 6 (t7.2.2.1.map e135)), (9, .row 3 1 (t7.2.2.2.2.map (eI .i64)))] g0 (cal (laws_toKeeper.ok A8) [6, 7, 8, 9] 9999 .n (hf := Try.func51)) rfl rfl ?_
 refine kv g0 (faB 3 3) ?_
 refine ks g0 (stB 5 [.row 3, .row 4, .row 5, .row 6, .row 7, .row 8, .lit (.int .i64 t7.2.2.2.1), .row 9, .lit (.slice none 0 0), .lit (.int .i64 0), .lit (.slice none 0 0), .lit (.slice none 0 0)]) ?_
 refine wk_end ?_
 refine ac_next ?_
 refine aw_grp1 ?_
 refine wk_start ?_
 refine kv g0 (faB 8 8) ?_
 refine kv g0 (ldB) ?_
 obtain ⟨t9, A10, H⟩ := of_bind H
 refine kcS1 22 (.row 10) [(10, .row 99 3 (t9.map e99))] g0 (cal (laws_toLetterS.ok A10) [10] 9999 .n (hf := Try.func52)) rfl rfl ?_
 refine kv g0 (faB 8 8) ?_
 refine ks g0 (stB 1 [.row 3, .row 4, .row 5, .row 6, .row 7, .row 8, .lit (.int .i64 t7.2.2.2.1), .row 9, .row 10, .lit (.int .i64 0), .lit (.slice none 0 0), .lit (.slice none 0 0)]) ?_
 refine wk_end ?_
 refine ac_next ?_
 refine aw_grp1 ?_
 refine wk_start ?_
 refine kv g0 (faB 9 9) ?_
 refine kv g0 (ldB) ?_
 refine kv g0 (faB 9 9) ?_
 refine ks g0 (stB 1 [.row 3, .row 4, .row 5, .row 6, .row 7, .row 8, .lit (.int .i64 t7.2.2.2.1), .row 9, .row 10, .lit (.int .i64 a0_9), .lit (.slice none 0 0), .lit (.slice none 0 0)]) ?_
 refine wk_end ?_
 refine ac_next ?_
 refine aw_grp1 ?_
 refine wk_start ?_
 refine kv g0 (faB 10 10) ?_
 refine kv g0 (ldB) ?_
 obtain ⟨t11, A12, H⟩ := of_bind H
 refine kcS1 29 (.row 11) [(11, .row 3 1 (t11.map (eI .i64)))] g0 (cal (laws_toIntS.ok A12) [11] 9999 .n (hf := Try.func53)) rfl rfl ?_
 refine kv g0 (faB 10 10) ?_
 refine ks g0 (stB 1 [.row 3, .row 4, .row 5, .row 6, .row 7, .row 8, .lit (.int .i64 t7.2.2.2.1), .row 9, .row 10, .lit (.int .i64 a0_9), .row 11, .lit (.slice none 0 0)]) ?_
 refine wk_end ?_
 refine ac_next ?_
 refine aw_grp1 ?_
 refine wk_start ?_
 refine kv g0 (faB 11 11) ?_
 refine kv g0 (ldB) ?_
 obtain ⟨t13, A14, H⟩ := of_bind H
 refine kcS1 33 (.row 12) [(12, .row 83 4 (t13.map e83))] g0 (cal (laws_toSeenS.ok A14) [12] 9999 .n (hf := Try.func54)) rfl rfl ?_
 refine kv g0 (faB 11 11) ?_
 refine ks g0 (stB 1 [.row 3, .row 4, .row 5, .row 6, .row 7, .row 8, .lit (.int .i64 t7.2.2.2.1), .row 9, .row 10, .lit (.int .i64 a0_9), .row 11, .row 12]) ?_
 refine wk_end ?_
 refine ac_next ?_
 refine aw_grp1 ?_
 refine wk_start ?_
 refine kv g0 (ldBA 12 [.row 3, .row 4, .row 5, .row 6, .row 7, .row 8, .lit (.int .i64 t7.2.2.2.1), .row 9, .row 10, .lit (.int .i64 a0_9), .row 11, .row 12]) ?_
 refine ks g0 (stB 12 [.row 3, .row 4, .row 5, .row 6, .row 7, .row 8, .lit (.int .i64 t7.2.2.2.1), .row 9, .row 10, .lit (.int .i64 a0_9), .row 11, .row 12]) ?_
 refine wk_end ?_
 refine ac_next ?_
 refine aw_ret ?_
 obtain rfl := Option.some.inj H
 exact acr hE [.cell 2 33] (rcA 12 .nil) (.one _) [(0, 3), (1, 4), (2, 5), (3, 6), (4, 7), (5, 8), (6, 9), (7, 10), (8, 11), (9, 12)] 9999
end Go.Proofs.Ytkkglhhkpihmgaa.PFnExactFiledOf
