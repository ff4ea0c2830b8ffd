import Derived.Test.YtlmpaphlnlgelaaPFnWaysShortx0
set_option linter.unusedVariables false
set_option linter.unusedSimpArgs false
set_option maxRecDepth 100000
namespace Go.Proofs.Ytlmpaphlnlgelaa.PFnWaysShort
open Go Go.RowKit Go.Proofs.YtlmpaphlnlgelaaA
/-! laws_big -/
def laws_big.f (l0 : List Int) : Option (Bool) := some (decide ((l0.length : Int) > 1048576))
theorem laws_big.ok {l0 : List Int} {r : Bool} (H : laws_big.f l0 = some r) : ACalls Try.prog 4 [] [.sl .o 1 (l0.map (eI .u8))] [] (.lit (.bool r)) := by
 refine acalls (fn := Try.f4) (nt := 6) Try.func4 rfl rfl (Nat.le_of_ble_eq_true rfl) fun E hE => ?_
 rw [laws_big.f] at H
 refine aw_grp1 ?_
 refine wk_start ?_
 refine kv g0 (asg) ?_
 refine wk_end ?_
 refine ac_next ?_
 refine aw_grp1 ?_
 refine wk_start ?_
 refine kv g0 (mv) ?_
 refine kv g0 (lnS lenE) ?_
 refine kv g0 (gtr) ?_
 refine kv g0 (asg) ?_
 refine wk_end ?_
 refine ac_next ?_
 refine aw_ret ?_
 obtain rfl := Option.some.inj H
 exact acr hE [.tmp 2] (.tmp .nil) (.one _) [] 9999
/-! spec_l01New -/
def spec_l01New.l0 : Nat → (List Int) → Int → Int → Option ((List Int) × Int × Int)
 | 0, _, _, _ => none
 | k5 + 1, l0, p3, p4 => if p4 < (l0.length : Int) then if p4 < 4000 then if 0 ≤ p4 then spec_l01New.l0 k5 l0 (bits .and .i64 (wrap64 ((wrap64 ((wrap64 (p3 * 131)) + (wrap64 (rd l0 p4)))) + 7)) 1073741823) (wrap64 (p4 + 1)) else none else some (l0, 0, p3) else some (l0, 0, p3)
def spec_l01New.f (k : Nat) (l0 : List Int) : Option ((List Int) × Int × Int) := spec_l01New.l0 k l0 (wrap64 (78801 + (l0.length : Int))) 0
theorem spec_l01New.ok {k : Nat} {l0 : List Int} {r : (List Int) × Int × Int} (H : spec_l01New.f k l0 = some r) : ACalls Try.prog 16 [] [.sl .u 1 (l0.map (eI .u8))] [(0, .box 62 [.sl .u 1 (r.1.map (eI .u8)), .lit (.int .i64 r.2.1), .lit (.int .i64 r.2.2)])] (.box 0 0) := by
 refine acalls (fn := Try.f16) (nt := 32) Try.func16 rfl rfl (Nat.le_of_ble_eq_true rfl) fun E hE => ?_
 rw [spec_l01New.f] at H
 refine aw_grp1 ?_
 refine wk_start ?_
 refine kv g0 (asg) ?_
 refine wk_end ?_
 refine ac_next ?_
 refine aw_grp1 ?_
 refine wk_start ?_
 refine kv g0 (mv) ?_
 refine kv g0 (lnS lenE) ?_
 refine kv g0 (add6) ?_
 refine kv g0 (asg) ?_
 refine wk_end ?_
 refine ac_next ?_
 refine aw_grp1 ?_
 refine aw_grp1 ?_
 refine wk_start ?_
 refine kv g0 (asg) ?_
 refine wk_end ?_
 refine ac_next ?_
 refine aw_block ?_
 refine aw_loop2 (fun (k_ : Nat) (p3 : Int) (p4 : Int) => k_ ≤ k ∧ spec_l01New.l0 k_ l0 p3 p4 = some r) (fun (p3 : Int) (p4 : Int) => ⟨[(0, .sl .u 1 (l0.map (eI .u8))), (3, .lit (.int .i64 p3)), (4, .lit (.int .i64 p4))], []⟩) k (wrap64 (78801 + (l0.length : Int))) 0 ⟨Nat.le_refl _, H⟩ (fun K_ h_ => acw hE [] 9999 h_) (fun _ _ => by intro h_; have h_ := h_.2; rw [spec_l01New.l0.eq_1] at h_; cases h_) ?_
 intro k5 p3 p4 hq_ K9 hK10
 have hk5 := hq_.1
 have H := hq_.2
 clear hq_
 rw [spec_l01New.l0.eq_2] at H
 refine aw_grp1 ?_
 refine aw_grp1 ?_
 refine wk_start ?_
 refine kv g0 (mv) ?_
 refine kv g0 (mv) ?_
 refine kv g0 (lnS lenE) ?_
 refine kv g0 (lss) ?_
 refine kv g0 (mv) ?_
 by_cases c6 : p4 < (l0.length : Int)
 ·rw [if_pos c6] at H
  refine kv (g1 (decide_eq_true c6)) (mv) ?_
  refine kv (g1 (decide_eq_true c6)) (lss) ?_
  refine kv g0 (pkT (decide_eq_true c6)) ?_
  refine wk_end ?_
  refine ac_next ?_
  by_cases c7 : p4 < 4000
  ·rw [if_pos c7] at H
   refine aw_ifT ?_ (decide_eq_true c7)
   refine aw_skip ?_
   refine ac_next ?_
   refine aw_grp1 ?_
   refine aw_block ?_
   refine wk_start ?_
   refine kv g0 (mv) ?_
   refine kv g0 (mul6) ?_
   refine kv g0 (mv) ?_
   refine kv g0 (mv) ?_
   obtain ⟨c8, H⟩ := of_if H
   refine kv g0 (ixS 5 (eI .u8 (rd l0 p4)) c8 (getE (z := (0 : Int)) c8 c6)) ?_
   refine kv g0 (ldR (.lit (.int .u8 (rd l0 p4)))) ?_
   refine kv g0 (cnv6) ?_
   refine kv g0 (add6) ?_
   refine kv g0 (add6) ?_
   refine kv g0 (band) ?_
   refine kv g0 (asg) ?_
   refine wk_end ?_
   refine ac_blkN ?_
   refine ac_next ?_
   refine wk_start ?_
   refine kv g0 (mv) ?_
   refine kv g0 (add6) ?_
   refine kv g0 (asg) ?_
   refine wk_end ?_
   refine ac_k ?_
   exact acw hE [] 9999 (hK10 k5 (bits .and .i64 (wrap64 ((wrap64 ((wrap64 (p3 * 131)) + (wrap64 (rd l0 p4)))) + 7)) 1073741823) (wrap64 (p4 + 1)) (Nat.le_refl _) ⟨by omega, H⟩)
  rw [if_neg c7] at H
  refine aw_ifF ?_ (decide_eq_false c7)
  refine aw_exit ?_
  refine ac_then ?_
  refine ac_then ?_
  refine ac_hit rfl ?_
  refine ac_next ?_
  refine aw_grp1 ?_
  refine wk_start ?_
  refine kv g0 (mv) ?_
  refine kv g0 (mv) ?_
  refine kv g0 (bld [(0, 1), (1, 1), (2, 1)] [.slice none 0 0, .int .i64 0, .int .i64 0] [.sl .u 1 (l0.map (eI .u8)), .lit (.int .i64 0), .lit (.int .i64 p3)]) ?_
  refine kb g0 (bxA 0) ?_
  refine kv g0 (asg) ?_
  refine wk_end ?_
  refine ac_next ?_
  refine aw_ret ?_
  obtain rfl := Option.some.inj H
  exact acr hE [.tmp 2] (.tmp .nil) (.one _) [(0, 0)] 9999
 rw [if_neg c6] at H
 refine kx (hT (decide_eq_false c6)) ?_
 refine kx (hT (decide_eq_false c6)) ?_
 refine kv g0 (pkF (decide_eq_false c6)) ?_
 refine wk_end ?_
 refine ac_next ?_
 refine aw_ifF ?_ rfl
 refine aw_exit ?_
 refine ac_then ?_
 refine ac_then ?_
 refine ac_hit rfl ?_
 refine ac_next ?_
 refine aw_grp1 ?_
 refine wk_start ?_
 refine kv g0 (mv) ?_
 refine kv g0 (mv) ?_
 refine kv g0 (bld [(0, 1), (1, 1), (2, 1)] [.slice none 0 0, .int .i64 0, .int .i64 0] [.sl .u 1 (l0.map (eI .u8)), .lit (.int .i64 0), .lit (.int .i64 p3)]) ?_
 refine kb g0 (bxA 1) ?_
 refine kv g0 (asg) ?_
 refine wk_end ?_
 refine ac_next ?_
 refine aw_ret ?_
 obtain rfl := Option.some.inj H
 exact acr hE [.tmp 2] (.tmp .nil) (.one _) [(0, 1)] 9999
/-! spec_l01Byte -/
def spec_l01Byte.f (l0_0 : List Int) (a0_1 : Int) (a0_2 : Int) : Option (Int × (List Int) × Int × Int) := if a0_1 < (l0_0.length : Int) then (if 0 ≤ a0_1 then some (bits .and .i64 (wrap64 ((bits .and .i64 (bits .xor .i64 ((wrap64 ((wrap64 (a0_2 * 6364136223846793005)) + 1442695040888963407)).fdiv (2 ^ 33)) ((wrap64 ((wrap64 (a0_2 * 6364136223846793005)) + 1442695040888963407)).fdiv (2 ^ 45))) 255) + (wrap64 (rd l0_0 a0_1)))) 255, l0_0, wrap64 (a0_1 + 1), wrap64 ((wrap64 (a0_2 * 6364136223846793005)) + 1442695040888963407)) else none) else some (bits .and .i64 (bits .xor .i64 ((wrap64 ((wrap64 (a0_2 * 6364136223846793005)) + 1442695040888963407)).fdiv (2 ^ 33)) ((wrap64 ((wrap64 (a0_2 * 6364136223846793005)) + 1442695040888963407)).fdiv (2 ^ 45))) 255, l0_0, a0_1, wrap64 ((wrap64 (a0_2 * 6364136223846793005)) + 1442695040888963407))
theorem spec_l01Byte.ok {l0_0 : List Int} {a0_1 : Int} {a0_2 : Int} {r : Int × (List Int) × Int × Int} (H : spec_l01Byte.f l0_0 a0_1 a0_2 = some r) : ACalls Try.prog 57 [(0, .box 62 [.sl .u 1 (l0_0.map (eI .u8)), .lit (.int .i64 a0_1), .lit (.int .i64 a0_2)])] [.box 0 0] [(0, .box 62 [.sl .u 1 (r.2.1.map (eI .u8)), .lit (.int .i64 r.2.2.1), .lit (.int .i64 r.2.2.2)])] (.lit (.int .i64 r.1)) := by
 refine acalls (fn := Try.f57) (nt := 58) Try.func57 rfl rfl (Nat.le_of_ble_eq_true rfl) fun E hE => ?_
 rw [spec_l01Byte.f] at H
 refine aw_grp1 ?_
 refine wk_start ?_
 refine kv g0 (asg) ?_
 refine wk_end ?_
 refine ac_next ?_
 refine aw_grp1 ?_
 refine wk_start ?_
 refine kv g0 (mv) ?_
 refine kv g0 (mv) ?_
 refine kv g0 (nilB) ?_
 refine kv g0 (faB 2 2) ?_
 refine kv g0 (ldB) ?_
 refine kv g0 (mul6) ?_
 refine kv g0 (add6) ?_
 refine kv g0 (nilB) ?_
 refine kv g0 (faB 2 2) ?_
 refine ks g0 (stB 1 [.sl .u 1 (l0_0.map (eI .u8)), .lit (.int .i64 a0_1), .lit (.int .i64 (wrap64 ((wrap64 (a0_2 * 6364136223846793005)) + 1442695040888963407)))]) ?_
 refine wk_end ?_
 refine ac_next ?_
 refine aw_grp1 ?_
 refine wk_start ?_
 refine kv g0 (mv) ?_
 refine kv g0 (nilB) ?_
 refine kv g0 (faB 2 2) ?_
 refine kv g0 (ldB) ?_
 refine kv g0 (shr (by decide : (0 : Int) ≤ 33)) ?_
 refine kv g0 (mv) ?_
 refine kv g0 (nilB) ?_
 refine kv g0 (faB 2 2) ?_
 refine kv g0 (ldB) ?_
 refine kv g0 (shr (by decide : (0 : Int) ≤ 45)) ?_
 refine kv g0 (bxor) ?_
 refine kv g0 (band) ?_
 refine kv g0 (asg) ?_
 refine wk_end_draw hM (by kernel_rfl) ?_
 refine ac_next ?_
 refine aw_grp1 ?_
 refine aw_grp1 ?_
 refine wk_start ?_
 refine kv g0 (mv) ?_
 refine kv g0 (nilB) ?_
 refine kv g0 (faB 1 1) ?_
 refine kv g0 (ldB) ?_
 refine kv g0 (mv) ?_
 refine kv g0 (nilB) ?_
 refine kv g0 (faB 0 0) ?_
 refine kv g0 (ldB) ?_
 refine kv g0 (lnS lenE) ?_
 refine kv g0 (lss) ?_
 refine wk_end_draw hM (by kernel_rfl) ?_
 refine ac_next ?_
 by_cases c1 : a0_1 < (l0_0.length : Int)
 ·rw [if_pos c1] at H
  refine aw_ifT ?_ (decide_eq_true c1)
  refine aw_grp1 ?_
  refine wk_start ?_
  refine kv g0 (mv) ?_
  refine kv g0 (mv) ?_
  refine kv g0 (nilB) ?_
  refine kv g0 (faB 0 0) ?_
  refine kv g0 (ldB) ?_
  refine kv g0 (mv) ?_
  refine kv g0 (nilB) ?_
  refine kv g0 (faB 1 1) ?_
  refine kv g0 (ldB) ?_
  obtain ⟨c2, H⟩ := of_if H
  refine kv g0 (ixS 5 (eI .u8 (rd l0_0 a0_1)) c2 (getE (z := (0 : Int)) c2 c1)) ?_
  refine kv g0 (ldR (.lit (.int .u8 (rd l0_0 a0_1)))) ?_
  refine kv g0 (cnv6) ?_
  refine kv g0 (add6) ?_
  refine kv g0 (band) ?_
  refine kv g0 (asg) ?_
  refine wk_end_draw hM (by kernel_rfl) ?_
  refine ac_next ?_
  refine wk_start ?_
  refine kv g0 (mv) ?_
  refine kv g0 (mv) ?_
  refine kv g0 (nilB) ?_
  refine kv g0 (faB 1 1) ?_
  refine kv g0 (ldB) ?_
  refine kv g0 (add6) ?_
  refine kv g0 (nilB) ?_
  refine kv g0 (faB 1 1) ?_
  refine ks g0 (stB 1 [.sl .u 1 (l0_0.map (eI .u8)), .lit (.int .i64 (wrap64 (a0_1 + 1))), .lit (.int .i64 (wrap64 ((wrap64 (a0_2 * 6364136223846793005)) + 1442695040888963407)))]) ?_
  refine wk_end ?_
  refine ac_next ?_
  refine aw_grp1 ?_
  refine wk_start ?_
  refine kv g0 (mv) ?_
  refine kv g0 (asg) ?_
  refine wk_end ?_
  refine ac_next ?_
  refine aw_ret ?_
  obtain rfl := Option.some.inj H
  exact acr hE [.tmp 2] (.tmp .nil) (.one _) [(0, 0)] 9999
 rw [if_neg c1] at H
 refine aw_ifF ?_ (decide_eq_false c1)
 refine aw_skip ?_
 refine ac_next ?_
 refine aw_grp1 ?_
 refine wk_start ?_
 refine kv g0 (mv) ?_
 refine kv g0 (asg) ?_
 refine wk_end ?_
 refine ac_next ?_
 refine aw_ret ?_
 obtain rfl := Option.some.inj H
 exact acr hE [.tmp 2] (.tmp .nil) (.one _) [(0, 0)] 9999
/-! spec_l01Below -/
def spec_l01Below.f (l0_0 : List Int) (a0_1 : Int) (a0_2 : Int) (a1 : Int) : Option (Int × (List Int) × Int × Int) := if a1 ≤ 0 then some (0, l0_0, a0_1, a0_2) else if a1 ≤ 256 then ((spec_l01Byte.f l0_0 a0_1 a0_2).bind fun t3 => (if a1 ≠ 0 then some (t3.1.tmod a1, t3.2.1, t3.2.2.1, t3.2.2.2) else none)) else (spec_l01Byte.f l0_0 a0_1 a0_2).bind fun t6 => (spec_l01Byte.f t6.2.1 t6.2.2.1 t6.2.2.2).bind fun t8 => (spec_l01Byte.f t8.2.1 t8.2.2.1 t8.2.2.2).bind fun t10 => (spec_l01Byte.f t10.2.1 t10.2.2.1 t10.2.2.2).bind fun t12 => if a1 ≠ 0 then some ((wrap64 ((wrap64 ((wrap64 ((wrap64 (t6.1 * 16777216)) + (wrap64 (t8.1 * 65536)))) + (wrap64 (t10.1 * 256)))) + t12.1)).tmod a1, t12.2.1, t12.2.2.1, t12.2.2.2) else none
theorem spec_l01Below.ok {l0_0 : List Int} {a0_1 : Int} {a0_2 : Int} {a1 : Int} {r : Int × (List Int) × Int × Int} (H : spec_l01Below.f l0_0 a0_1 a0_2 a1 = some r) : ACalls Try.prog 33 [(0, .box 62 [.sl .u 1 (l0_0.map (eI .u8)), .lit (.int .i64 a0_1), .lit (.int .i64 a0_2)])] [.box 0 0, .lit (.int .i64 a1)] [(0, .box 62 [.sl .u 1 (r.2.1.map (eI .u8)), .lit (.int .i64 r.2.2.1), .lit (.int .i64 r.2.2.2)])] (.lit (.int .i64 r.1)) := by
 refine acalls (fn := Try.f33) (nt := 37) Try.func33 rfl rfl (Nat.le_of_ble_eq_true rfl) fun E hE => ?_
 rw [spec_l01Below.f] at H
 refine aw_grp1 ?_
 refine wk_start ?_
 refine kv g0 (asg) ?_
 refine wk_end ?_
 refine ac_next ?_
 refine aw_grp1 ?_
 refine aw_grp1 ?_
 refine wk_start ?_
 refine kv g0 (mv) ?_
 refine kv g0 (leq) ?_
 refine wk_end ?_
 refine ac_next ?_
 by_cases c1 : a1 ≤ 0
 ·rw [if_pos c1] at H
  refine aw_ifT ?_ (decide_eq_true c1)
  refine aw_grp1 ?_
  refine wk_start ?_
  refine kv g0 (asg) ?_
  refine wk_end ?_
  refine ac_next ?_
  refine aw_ret ?_
  refine ac_thenR ?_
  obtain rfl := Option.some.inj H
  exact acr hE [.tmp 4] (.tmp .nil) (.one _) [(0, 0)] 9999
 rw [if_neg c1] at H
 refine aw_ifF ?_ (decide_eq_false c1)
 refine aw_skip ?_
 refine ac_next ?_
 refine aw_grp1 ?_
 refine aw_grp1 ?_
 refine wk_start ?_
 refine kv g0 (mv) ?_
 refine kv g0 (leq) ?_
 refine wk_end ?_
 refine ac_next ?_
 by_cases c2 : a1 ≤ 256
 ·rw [if_pos c2] at H
  refine aw_ifT ?_ (decide_eq_true c2)
  refine aw_grp1 ?_
  refine wk_start ?_
  refine kv g0 (mv) ?_
  obtain ⟨t3, A4, H⟩ := of_bind H
  refine kcS1 14 (.lit (.int .i64 t3.1)) [(0, .box 62 [.sl .u 1 (t3.2.1.map (eI .u8)), .lit (.int .i64 t3.2.2.1), .lit (.int .i64 t3.2.2.2)])] g0 (cal (spec_l01Byte.ok A4) [0] 9999 .u (hf := Try.func57)) rfl rfl ?_
  refine kv g0 (mv) ?_
  obtain ⟨c5, H⟩ := of_if H
  refine kv g0 (rem c5) ?_
  refine kv g0 (asg) ?_
  refine wk_end ?_
  refine ac_next ?_
  refine aw_ret ?_
  refine ac_thenR ?_
  obtain rfl := Option.some.inj H
  exact acr hE [.tmp 4] (.tmp .nil) (.one _) [(0, 0)] 9999
 rw [if_neg c2] at H
 refine aw_ifF ?_ (decide_eq_false c2)
 refine aw_skip ?_
 refine ac_next ?_
 refine aw_grp1 ?_
 refine wk_start ?_
 refine kv g0 (mv) ?_
 obtain ⟨t6, A7, H⟩ := of_bind H
 refine kcS1 18 (.lit (.int .i64 t6.1)) [(0, .box 62 [.sl .u 1 (t6.2.1.map (eI .u8)), .lit (.int .i64 t6.2.2.1), .lit (.int .i64 t6.2.2.2)])] g0 (cal (spec_l01Byte.ok A7) [0] 9999 .u (hf := Try.func57)) rfl rfl ?_
 refine kv g0 (asg) ?_
 refine wk_end ?_
 refine ac_next ?_
 refine aw_grp1 ?_
 refine wk_start ?_
 refine kv g0 (mv) ?_
 obtain ⟨t8, A9, H⟩ := of_bind H
 refine kcS1 20 (.lit (.int .i64 t8.1)) [(0, .box 62 [.sl .u 1 (t8.2.1.map (eI .u8)), .lit (.int .i64 t8.2.2.1), .lit (.int .i64 t8.2.2.2)])] g0 (cal (spec_l01Byte.ok A9) [0] 9999 .u (hf := Try.func57)) rfl rfl ?_
 refine kv g0 (asg) ?_
 refine wk_end ?_
 refine ac_next ?_
 refine aw_grp1 ?_
 refine wk_start ?_
 refine kv g0 (mv) ?_
 obtain ⟨t10, A11, H⟩ := of_bind H
 refine kcS1 22 (.lit (.int .i64 t10.1)) [(0, .box 62 [.sl .u 1 (t10.2.1.map (eI .u8)), .lit (.int .i64 t10.2.2.1), .lit (.int .i64 t10.2.2.2)])] g0 (cal (spec_l01Byte.ok A11) [0] 9999 .u (hf := Try.func57)) rfl rfl ?_
 refine kv g0 (asg) ?_
 refine wk_end ?_
 refine ac_next ?_
 refine aw_grp1 ?_
 refine wk_start ?_
 refine kv g0 (mv) ?_
 obtain ⟨t12, A13, H⟩ := of_bind H
 refine kcS1 24 (.lit (.int .i64 t12.1)) [(0, .box 62 [.sl .u 1 (t12.2.1.map (eI .u8)), .lit (.int .i64 t12.2.2.1), .lit (.int .i64 t12.2.2.2)])] g0 (cal (spec_l01Byte.ok A13) [0] 9999 .u (hf := Try.func57)) rfl rfl ?_
 refine kv g0 (asg) ?_
 refine wk_end ?_
 refine ac_next ?_
 refine aw_grp1 ?_
 refine wk_start ?_
 refine kv g0 (mv) ?_
 refine kv g0 (mul6) ?_
 refine kv g0 (mv) ?_
 refine kv g0 (mul6) ?_
 refine kv g0 (add6) ?_
 refine kv g0 (mv) ?_
 refine kv g0 (mul6) ?_
 refine kv g0 (add6) ?_
 refine kv g0 (mv) ?_
 refine kv g0 (add6) ?_
 refine kv g0 (mv) ?_
 obtain ⟨c14, H⟩ := of_if H
 refine kv g0 (rem c14) ?_
 refine kv g0 (asg) ?_
 refine wk_end ?_
 refine ac_next ?_
 refine aw_ret ?_
 obtain rfl := Option.some.inj H
 exact acr hE [.tmp 4] (.tmp .nil) (.one _) [(0, 0)] 9999
/-! spec_l01PickInt -/
def spec_l01PickInt.f (l0_0 : List Int) (a0_1 : Int) (a0_2 : Int) (l1 : List Int) : Option (Int × (List Int) × Int × Int) := (spec_l01Below.f l0_0 a0_1 a0_2 (l1.length : Int)).bind fun t1 => (if 0 ≤ t1.1 then (if t1.1 < (l1.length : Int) then some ((rd l1 t1.1), t1.2.1, t1.2.2.1, t1.2.2.2) else none) else none)
theorem spec_l01PickInt.ok {l0_0 : List Int} {a0_1 : Int} {a0_2 : Int} {l1 : List Int} {r : Int × (List Int) × Int × Int} (H : spec_l01PickInt.f l0_0 a0_1 a0_2 l1 = some r) : ACalls Try.prog 32 [(0, .box 62 [.sl .u 1 (l0_0.map (eI .u8)), .lit (.int .i64 a0_1), .lit (.int .i64 a0_2)])] [.box 0 0, .sl .o 1 (l1.map (eI .i64))] [(0, .box 62 [.sl .u 1 (r.2.1.map (eI .u8)), .lit (.int .i64 r.2.2.1), .lit (.int .i64 r.2.2.2)])] (.lit (.int .i64 r.1)) := by
 refine acalls (fn := Try.f32) (nt := 12) Try.func32 rfl rfl (Nat.le_of_ble_eq_true rfl) fun E hE => ?_
 rw [spec_l01PickInt.f] at H
 refine aw_grp1 ?_
 refine wk_start ?_
 refine kv g0 (asg) ?_
 refine wk_end ?_
 refine ac_next ?_
 refine aw_grp1 ?_
 refine wk_start ?_
 refine kv g0 (mv) ?_
 refine kv g0 (mv) ?_
 refine kv g0 (mv) ?_
 refine kv g0 (lnS lenE) ?_
 obtain ⟨t1, A2, H⟩ := of_bind H
 refine kcS1 9 (.lit (.int .i64 t1.1)) [(0, .box 62 [.sl .u 1 (t1.2.1.map (eI .u8)), .lit (.int .i64 t1.2.2.1), .lit (.int .i64 t1.2.2.2)])] g0 (cal (spec_l01Below.ok A2) [0] 9999 .u (hf := Try.func33)) rfl rfl ?_
 obtain ⟨c3, H⟩ := of_if H
 obtain ⟨c4, H⟩ := of_if H
 refine kv g0 (ixS 3 (eI .i64 (rd l1 t1.1)) c3 (getE (z := (0 : Int)) c3 c4)) ?_
 refine kv g0 (ldR (.lit (.int .i64 (rd l1 t1.1)))) ?_
 refine kv g0 (asg) ?_
 refine wk_end ?_
 refine ac_next ?_
 refine aw_ret ?_
 obtain rfl := Option.some.inj H
 exact acr hE [.tmp 4] (.tmp .nil) (.one _) [(0, 0)] 9999
/-! spec_l04Half -/
def spec_l04Half.f (l0_0 : List Int) (a0_1 : Int) (a0_2 : Int) : Option (Int × (List Int) × Int × Int) := (spec_l01Below.f l0_0 a0_1 a0_2 12).bind fun t1 => ((spec_l01PickInt.f t1.2.1 t1.2.2.1 t1.2.2.2 ([0, 1, 2, 3, 5, 7, 255, 4294967295, 2147483648, t1.1] : List Int)).bind fun t3 => some (t3.1, t3.2.1, t3.2.2.1, t3.2.2.2))
theorem spec_l04Half.ok {l0_0 : List Int} {a0_1 : Int} {a0_2 : Int} {r : Int × (List Int) × Int × Int} (H : spec_l04Half.f l0_0 a0_1 a0_2 = some r) : ACalls Try.prog 59 [(0, .box 62 [.sl .u 1 (l0_0.map (eI .u8)), .lit (.int .i64 a0_1), .lit (.int .i64 a0_2)])] [.box 0 0] [(0, .box 62 [.sl .u 1 (r.2.1.map (eI .u8)), .lit (.int .i64 r.2.2.1), .lit (.int .i64 r.2.2.2)])] (.lit (.int .i64 r.1)) := by
 refine acalls (fn := Try.f59) (nt := 8) Try.func59 rfl rfl (Nat.le_of_ble_eq_true rfl) fun E hE => ?_
 rw [spec_l04Half.f] at H
 refine aw_grp1 ?_
 refine wk_start ?_
 refine kv g0 (asg) ?_
 refine wk_end ?_
 refine ac_next ?_
 refine aw_grp1 ?_
 refine wk_start ?_
 refine kv g0 (mv) ?_
 refine kv g0 (mv) ?_
 obtain ⟨t1, A2, H⟩ := of_bind H
 refine kcS1 5 (.lit (.int .i64 t1.1)) [(0, .box 62 [.sl .u 1 (t1.2.1.map (eI .u8)), .lit (.int .i64 t1.2.2.1), .lit (.int .i64 t1.2.2.2)])] g0 (cal (spec_l01Below.ok A2) [0] 9999 .u (hf := Try.func33)) rfl rfl ?_
 refine kb g0 (bsl 1 3 1 [.int .i64 0] (([0, 1, 2, 3, 5, 7, 255, 4294967295, 2147483648, t1.1] : List Int).map (eI .i64))) ?_
 obtain ⟨t3, A4, H⟩ := of_bind H
 refine kcS1 7 (.lit (.int .i64 t3.1)) [(0, .box 62 [.sl .u 1 (t3.2.1.map (eI .u8)), .lit (.int .i64 t3.2.2.1), .lit (.int .i64 t3.2.2.2)])] g0 (cal (spec_l01PickInt.ok A4) [0] 9999 .u (hf := Try.func32)) rfl rfl ?_
 refine kv g0 (asg) ?_
 refine wk_end ?_
 refine ac_next ?_
 refine aw_ret ?_
 obtain rfl := Option.some.inj H
 exact acr hE [.tmp 2] (.tmp .nil) (.one _) [(0, 0)] 9999
/-! spec_l01Once -/
def spec_l01Once.f (l0_0 : List Int) (a0_1 : Int) (a0_2 : Int) (a1 : Int) : Option (Bool × (List Int) × Int × Int) := (spec_l01Below.f l0_0 a0_1 a0_2 a1).bind fun t1 => some (t1.1 == 0, t1.2.1, t1.2.2.1, t1.2.2.2)
theorem spec_l01Once.ok {l0_0 : List Int} {a0_1 : Int} {a0_2 : Int} {a1 : Int} {r : Bool × (List Int) × Int × Int} (H : spec_l01Once.f l0_0 a0_1 a0_2 a1 = some r) : ACalls Try.prog 60 [(0, .box 62 [.sl .u 1 (l0_0.map (eI .u8)), .lit (.int .i64 a0_1), .lit (.int .i64 a0_2)])] [.box 0 0, .lit (.int .i64 a1)] [(0, .box 62 [.sl .u 1 (r.2.1.map (eI .u8)), .lit (.int .i64 r.2.2.1), .lit (.int .i64 r.2.2.2)])] (.lit (.bool r.1)) := by
 refine acalls (fn := Try.f60) (nt := 9) Try.func60 rfl rfl (Nat.le_of_ble_eq_true rfl) fun E hE => ?_
 rw [spec_l01Once.f] at H
 refine aw_grp1 ?_
 refine wk_start ?_
 refine kv g0 (asg) ?_
 refine wk_end ?_
 refine ac_next ?_
 refine aw_grp1 ?_
 refine wk_start ?_
 refine kv g0 (mv) ?_
 refine kv g0 (mv) ?_
 obtain ⟨t1, A2, H⟩ := of_bind H
 refine kcS1 7 (.lit (.int .i64 t1.1)) [(0, .box 62 [.sl .u 1 (t1.2.1.map (eI .u8)), .lit (.int .i64 t1.2.2.1), .lit (.int .i64 t1.2.2.2)])] g0 (cal (spec_l01Below.ok A2) [0] 9999 .u (hf := Try.func33)) rfl rfl ?_
 refine kv g0 (eql) ?_
 refine kv g0 (asg) ?_
 refine wk_end ?_
 refine ac_next ?_
 refine aw_ret ?_
 obtain rfl := Option.some.inj H
 exact acr hE [.tmp 4] (.tmp .nil) (.one _) [(0, 0)] 9999
/-! spec_l04Wide -/
def spec_l04Wide.f (l0_0 : List Int) (a0_1 : Int) (a0_2 : Int) : Option (Int × Int × (List Int) × Int × Int) := (spec_l04Half.f l0_0 a0_1 a0_2).bind fun t1 => (spec_l01Once.f t1.2.1 t1.2.2.1 t1.2.2.2 3).bind fun t3 => if t3.1 = true then ((spec_l04Half.f t3.2.1 t3.2.2.1 t3.2.2.2).bind fun t6 => some (t6.1, t1.1, t6.2.1, t6.2.2.1, t6.2.2.2)) else some (0, t1.1, t3.2.1, t3.2.2.1, t3.2.2.2)
theorem spec_l04Wide.ok {l0_0 : List Int} {a0_1 : Int} {a0_2 : Int} {r : Int × Int × (List Int) × Int × Int} (H : spec_l04Wide.f l0_0 a0_1 a0_2 = some r) : ACalls Try.prog 35 [(0, .box 62 [.sl .u 1 (l0_0.map (eI .u8)), .lit (.int .i64 a0_1), .lit (.int .i64 a0_2)])] [.box 0 0] [(0, .box 62 [.sl .u 1 (r.2.2.1.map (eI .u8)), .lit (.int .i64 r.2.2.2.1), .lit (.int .i64 r.2.2.2.2)])] (.agg [.lit (.int .i64 r.1), .lit (.int .i64 r.2.1)]) := by
 refine acalls (fn := Try.f35) (nt := 13) Try.func35 rfl rfl (Nat.le_of_ble_eq_true rfl) fun E hE => ?_
 rw [spec_l04Wide.f] at H
 refine aw_grp1 ?_
 refine wk_start ?_
 refine kb g0 (alc 1 [.int .i64 0, .int .i64 0] [.lit (.int .i64 0), .lit (.int .i64 0)]) ?_
 refine wk_end ?_
 refine ac_next ?_
 refine aw_grp1 ?_
 refine wk_start ?_
 refine kv g0 (mv) ?_
 obtain ⟨t1, A2, H⟩ := of_bind H
 refine kcS1 5 (.lit (.int .i64 t1.1)) [(0, .box 62 [.sl .u 1 (t1.2.1.map (eI .u8)), .lit (.int .i64 t1.2.2.1), .lit (.int .i64 t1.2.2.2)])] g0 (cal (spec_l04Half.ok A2) [0] 9999 .u (hf := Try.func59)) rfl rfl ?_
 refine kv g0 (bld [(0, 1), (1, 1)] [.int .i64 0, .int .i64 0] [.lit (.int .i64 0), .lit (.int .i64 t1.1)]) ?_
 refine kb g0 (alc 2 [.int .i64 0, .int .i64 0] [.lit (.int .i64 0), .lit (.int .i64 0)]) ?_
 refine ks g0 (stB 2 [.lit (.int .i64 0), .lit (.int .i64 t1.1)]) ?_
 refine wk_end ?_
 refine ac_next ?_
 refine aw_grp1 ?_
 refine aw_grp1 ?_
 refine wk_start ?_
 refine kv g0 (mv) ?_
 obtain ⟨t3, A4, H⟩ := of_bind H
 refine kcS1 8 (.lit (.bool t3.1)) [(0, .box 62 [.sl .u 1 (t3.2.1.map (eI .u8)), .lit (.int .i64 t3.2.2.1), .lit (.int .i64 t3.2.2.2)])] g0 (cal (spec_l01Once.ok A4) [0] 9999 .u (hf := Try.func60)) rfl rfl ?_
 refine wk_end ?_
 refine ac_next ?_
 by_cases c5 : t3.1 = true
 ·rw [if_pos c5] at H
  refine aw_ifT ?_ c5
  refine wk_start ?_
  refine kv g0 (mv) ?_
  obtain ⟨t6, A7, H⟩ := of_bind H
  refine kcS1 10 (.lit (.int .i64 t6.1)) [(0, .box 62 [.sl .u 1 (t6.2.1.map (eI .u8)), .lit (.int .i64 t6.2.2.1), .lit (.int .i64 t6.2.2.2)])] g0 (cal (spec_l04Half.ok A7) [0] 9999 .u (hf := Try.func59)) rfl rfl ?_
  refine kv g0 (faB 0 0) ?_
  refine ks g0 (stB 1 [.lit (.int .i64 t6.1), .lit (.int .i64 t1.1)]) ?_
  refine wk_end ?_
  refine ac_next ?_
  refine aw_grp1 ?_
  refine wk_start ?_
  refine kv g0 (ldBA 2 [.lit (.int .i64 t6.1), .lit (.int .i64 t1.1)]) ?_
  refine ks g0 (stB 2 [.lit (.int .i64 t6.1), .lit (.int .i64 t1.1)]) ?_
  refine wk_end ?_
  refine ac_next ?_
  refine aw_ret ?_
  obtain rfl := Option.some.inj H
  exact acr hE [.cell 2 70] (rcA 2 .nil) (.one _) [(0, 0)] 9999
 rw [if_neg c5] at H
 refine aw_ifF ?_ (bF c5)
 refine aw_skip ?_
 refine ac_next ?_
 refine aw_grp1 ?_
 refine wk_start ?_
 refine kv g0 (ldBA 2 [.lit (.int .i64 0), .lit (.int .i64 t1.1)]) ?_
 refine ks g0 (stB 2 [.lit (.int .i64 0), .lit (.int .i64 t1.1)]) ?_
 refine wk_end ?_
 refine ac_next ?_
 refine aw_ret ?_
 obtain rfl := Option.some.inj H
 exact acr hE [.cell 2 70] (rcA 2 .nil) (.one _) [(0, 0)] 9999
/-! spec_l09Cond -/
def spec_l09Cond.f (l0_0 : List Int) (a0_1 : Int) (a0_2 : Int) : Option (Int × Int × Int × Int × Int × Int × (List Int) × Int × Int) := (spec_l01Below.f l0_0 a0_1 a0_2 3).bind fun t1 => ((spec_l01Below.f t1.2.1 t1.2.2.1 t1.2.2.2 6).bind fun t3 => ((spec_l04Wide.f t3.2.1 t3.2.2.1 t3.2.2.2).bind fun t5 => (spec_l01Once.f t5.2.2.1 t5.2.2.2.1 t5.2.2.2.2 3).bind fun t7 => if t7.1 = true then ((spec_l04Wide.f t7.2.1 t7.2.2.1 t7.2.2.2).bind fun t10 => some (t1.1, t10.1, t10.2.1, wrap64 (1 + t3.1), t5.1, t5.2.1, t10.2.2.1, t10.2.2.2.1, t10.2.2.2.2)) else some (t1.1, 4294967295, 4294967295, wrap64 (1 + t3.1), t5.1, t5.2.1, t7.2.1, t7.2.2.1, t7.2.2.2)))
theorem spec_l09Cond.ok {l0_0 : List Int} {a0_1 : Int} {a0_2 : Int} {r : Int × Int × Int × Int × Int × Int × (List Int) × Int × Int} (H : spec_l09Cond.f l0_0 a0_1 a0_2 = some r) : ACalls Try.prog 58 [(0, .box 62 [.sl .u 1 (l0_0.map (eI .u8)), .lit (.int .i64 a0_1), .lit (.int .i64 a0_2)])] [.box 0 0] [(0, .box 62 [.sl .u 1 (r.2.2.2.2.2.2.1.map (eI .u8)), .lit (.int .i64 r.2.2.2.2.2.2.2.1), .lit (.int .i64 r.2.2.2.2.2.2.2.2)])] (.agg [.lit (.int .i64 r.1), .lit (.int .i64 r.2.1), .lit (.int .i64 r.2.2.1), .lit (.int .i64 r.2.2.2.1), .lit (.int .i64 r.2.2.2.2.1), .lit (.int .i64 r.2.2.2.2.2.1)]) := by
 refine acalls (fn := Try.f58) (nt := 19) Try.func58 rfl rfl (Nat.le_of_ble_eq_true rfl) fun E hE => ?_
 rw [spec_l09Cond.f] at H
 refine aw_grp1 ?_
 refine wk_start ?_
 refine kb g0 (alc 1 [.int .i64 0, .int .i64 0, .int .i64 0, .int .i64 0, .int .i64 0, .int .i64 0] [.lit (.int .i64 0), .lit (.int .i64 0), .lit (.int .i64 0), .lit (.int .i64 0), .lit (.int .i64 0), .lit (.int .i64 0)]) ?_
 refine wk_end ?_
 refine ac_next ?_
 refine aw_grp1 ?_
 refine wk_start ?_
 refine kv g0 (mv) ?_
 obtain ⟨t1, A2, H⟩ := of_bind H
 refine kcS1 5 (.lit (.int .i64 t1.1)) [(0, .box 62 [.sl .u 1 (t1.2.1.map (eI .u8)), .lit (.int .i64 t1.2.2.1), .lit (.int .i64 t1.2.2.2)])] g0 (cal (spec_l01Below.ok A2) [0] 9999 .u (hf := Try.func33)) rfl rfl ?_
 refine kv g0 (mv) ?_
 obtain ⟨t3, A4, H⟩ := of_bind H
 refine kcS1 7 (.lit (.int .i64 t3.1)) [(0, .box 62 [.sl .u 1 (t3.2.1.map (eI .u8)), .lit (.int .i64 t3.2.2.1), .lit (.int .i64 t3.2.2.2)])] g0 (cal (spec_l01Below.ok A4) [0] 9999 .u (hf := Try.func33)) rfl rfl ?_
 refine kv g0 (add6) ?_
 refine kv g0 (mv) ?_
 obtain ⟨t5, A6, H⟩ := of_bind H
 refine kcS1 10 (.agg [.lit (.int .i64 t5.1), .lit (.int .i64 t5.2.1)]) [(0, .box 62 [.sl .u 1 (t5.2.2.1.map (eI .u8)), .lit (.int .i64 t5.2.2.2.1), .lit (.int .i64 t5.2.2.2.2)])] g0 (cal (spec_l04Wide.ok A6) [0] 9999 .u (hf := Try.func35)) rfl rfl ?_
 refine kv g0 (bld [(0, 1), (1, 1)] [.int .i64 0, .int .i64 0] [.lit (.int .i64 4294967295), .lit (.int .i64 4294967295)]) ?_
 refine kv g0 (bld [(0, 1), (1, 2), (3, 1), (4, 2)] [.int .i64 0, .int .i64 0, .int .i64 0, .int .i64 0, .int .i64 0, .int .i64 0] [.lit (.int .i64 t1.1), .lit (.int .i64 4294967295), .lit (.int .i64 4294967295), .lit (.int .i64 (wrap64 (1 + t3.1))), .lit (.int .i64 t5.1), .lit (.int .i64 t5.2.1)]) ?_
 refine kb g0 (alc 2 [.int .i64 0, .int .i64 0, .int .i64 0, .int .i64 0, .int .i64 0, .int .i64 0] [.lit (.int .i64 0), .lit (.int .i64 0), .lit (.int .i64 0), .lit (.int .i64 0), .lit (.int .i64 0), .lit (.int .i64 0)]) ?_
 refine ks g0 (stB 6 [.lit (.int .i64 t1.1), .lit (.int .i64 4294967295), .lit (.int .i64 4294967295), .lit (.int .i64 (wrap64 (1 + t3.1))), .lit (.int .i64 t5.1), .lit (.int .i64 t5.2.1)]) ?_
 refine wk_end ?_
 refine ac_next ?_
 refine aw_grp1 ?_
 refine aw_grp1 ?_
 refine wk_start ?_
 refine kv g0 (mv) ?_
 obtain ⟨t7, A8, H⟩ := of_bind H
 refine kcS1 14 (.lit (.bool t7.1)) [(0, .box 62 [.sl .u 1 (t7.2.1.map (eI .u8)), .lit (.int .i64 t7.2.2.1), .lit (.int .i64 t7.2.2.2)])] g0 (cal (spec_l01Once.ok A8) [0] 9999 .u (hf := Try.func60)) rfl rfl ?_
 refine wk_end ?_
 refine ac_next ?_
 by_cases c9 : t7.1 = true
 ·rw [if_pos c9] at H
  refine aw_ifT ?_ c9
  refine wk_start ?_
  refine kv g0 (mv) ?_
  obtain ⟨t10, A11, H⟩ := of_bind H
  refine kcS1 16 (.agg [.lit (.int .i64 t10.1), .lit (.int .i64 t10.2.1)]) [(0, .box 62 [.sl .u 1 (t10.2.2.1.map (eI .u8)), .lit (.int .i64 t10.2.2.2.1), .lit (.int .i64 t10.2.2.2.2)])] g0 (cal (spec_l04Wide.ok A11) [0] 9999 .u (hf := Try.func35)) rfl rfl ?_
  refine kv g0 (faB 1 1) ?_
  refine ks g0 (stB 2 [.lit (.int .i64 t1.1), .lit (.int .i64 t10.1), .lit (.int .i64 t10.2.1), .lit (.int .i64 (wrap64 (1 + t3.1))), .lit (.int .i64 t5.1), .lit (.int .i64 t5.2.1)]) ?_
  refine wk_end ?_
  refine ac_next ?_
  refine aw_grp1 ?_
  refine wk_start ?_
  refine kv g0 (ldBA 6 [.lit (.int .i64 t1.1), .lit (.int .i64 t10.1), .lit (.int .i64 t10.2.1), .lit (.int .i64 (wrap64 (1 + t3.1))), .lit (.int .i64 t5.1), .lit (.int .i64 t5.2.1)]) ?_
  refine ks g0 (stB 6 [.lit (.int .i64 t1.1), .lit (.int .i64 t10.1), .lit (.int .i64 t10.2.1), .lit (.int .i64 (wrap64 (1 + t3.1))), .lit (.int .i64 t5.1), .lit (.int .i64 t5.2.1)]) ?_
  refine wk_end ?_
  refine ac_next ?_
  refine aw_ret ?_
  obtain rfl := Option.some.inj H
  exact acr hE [.cell 2 94] (rcA 6 .nil) (.one _) [(0, 0)] 9999
 rw [if_neg c9] at H
 refine aw_ifF ?_ (bF c9)
 refine aw_skip ?_
 refine ac_next ?_
 refine aw_grp1 ?_
 refine wk_start ?_
 refine kv g0 (ldBA 6 [.lit (.int .i64 t1.1), .lit (.int .i64 4294967295), .lit (.int .i64 4294967295), .lit (.int .i64 (wrap64 (1 + t3.1))), .lit (.int .i64 t5.1), .lit (.int .i64 t5.2.1)]) ?_
 refine ks g0 (stB 6 [.lit (.int .i64 t1.1), .lit (.int .i64 4294967295), .lit (.int .i64 4294967295), .lit (.int .i64 (wrap64 (1 + t3.1))), .lit (.int .i64 t5.1), .lit (.int .i64 t5.2.1)]) ?_
 refine wk_end ?_
 refine ac_next ?_
 refine aw_ret ?_
 obtain rfl := Option.some.inj H
 exact acr hE [.cell 2 94] (rcA 6 .nil) (.one _) [(0, 0)] 9999
/-! spec_l09Made -/
mutual
def spec_l09Made.l0 : Nat → (Int × (List Int) × Int × Int) → Int → (Int × (List Int) × Int × Int) → (List Int) → Int → Int → (List Int) → Int → Int → Option ((List Int) × (List S94) × Int × Int × (List Int) × Int × Int)
 | 0, _, _, _, _, _, _, _, _, _ => none
 | k24 + 1, t1, p9, t11, q18, p19, p20, q21, p22, p23 => if p23 < (wrap64 (t11.1 - 1)) then (spec_l01Below.f q18 p19 p20 3).bind fun t26 => if q21.length + ([wrap64 ((wrap64 ((wrap64 (p22 + 1)) + t26.1)) - 1)] : List Int).length < 17592186044416 then spec_l09Made.l0 k24 t1 p9 t11 t26.2.1 t26.2.2.1 t26.2.2.2 (q21 ++ ([wrap64 ((wrap64 ((wrap64 (p22 + 1)) + t26.1)) - 1)] : List Int)) (wrap64 ((wrap64 (p22 + 1)) + t26.1)) (wrap64 (p23 + 1)) else none else spec_l09Made.l1 k24 t1 p9 q21 q18 p19 p20 ([]) 0
def spec_l09Made.l1 : Nat → (Int × (List Int) × Int × Int) → Int → (List Int) → (List Int) → Int → Int → (List S94) → Int → Option ((List Int) × (List S94) × Int × Int × (List Int) × Int × Int)
 | 0, _, _, _, _, _, _, _, _ => none
 | k43 + 1, t1, p9, q21, q38, p39, p40, q41, p42 => (spec_l01Below.f q38 p39 p40 3).bind fun t44 => if p42 < t44.1 then (spec_l09Cond.f t44.2.1 t44.2.2.1 t44.2.2.2).bind fun t47 => (if q41.length + ([(⟨t47.1, (⟨t47.2.1, t47.2.2.1⟩ : S70), t47.2.2.2.1, (⟨t47.2.2.2.2.1, t47.2.2.2.2.2.1⟩ : S70)⟩ : S94)] : List S94).length < 2932031007402 then spec_l09Made.l1 k43 t1 p9 q21 t47.2.2.2.2.2.2.1 t47.2.2.2.2.2.2.2.1 t47.2.2.2.2.2.2.2.2 (q41 ++ ([(⟨t47.1, (⟨t47.2.1, t47.2.2.1⟩ : S70), t47.2.2.2.1, (⟨t47.2.2.2.2.1, t47.2.2.2.2.2.1⟩ : S70)⟩ : S94)] : List S94)) (wrap64 (p42 + 1)) else none) else some (q21, q41, t1.1, p9, t44.2.1, t44.2.2.1, t44.2.2.2)
def spec_l09Made.j0 : Nat → (Int × (List Int) × Int × Int) → (List Int) → Int → Int → Int → Option ((List Int) × (List S94) × Int × Int × (List Int) × Int × Int)
 | 0, _, _, _, _, _ => none
 | k10 + 1, t1, q6, p7, p8, p9 => (spec_l01Below.f q6 p7 p8 4).bind fun t11 => spec_l09Made.l0 k10 t1 p9 t11 t11.2.1 t11.2.2.1 t11.2.2.2 ([]) 0 0
end
def spec_l09Made.f (k : Nat) (l0_0 : List Int) (a0_1 : Int) (a0_2 : Int) : Option ((List Int) × (List S94) × Int × Int × (List Int) × Int × Int) := (spec_l01PickInt.f l0_0 a0_1 a0_2 ([0, 1, 2, 3, 4, 4, 5] : List Int)).bind fun t1 => if t1.1 = 2 then ((spec_l01PickInt.f t1.2.1 t1.2.2.1 t1.2.2.2 ([1, 13, 65535] : List Int)).bind fun t4 => spec_l09Made.j0 k t1 t4.2.1 t4.2.2.1 t4.2.2.2 t4.1) else spec_l09Made.j0 k t1 t1.2.1 t1.2.2.1 t1.2.2.2 0
theorem spec_l09Made.ok {k : Nat} {l0_0 : List Int} {a0_1 : Int} {a0_2 : Int} {r : (List Int) × (List S94) × Int × Int × (List Int) × Int × Int} (H : spec_l09Made.f k l0_0 a0_1 a0_2 = some r) : ACalls Try.prog 34 [(0, .box 62 [.sl .u 1 (l0_0.map (eI .u8)), .lit (.int .i64 a0_1), .lit (.int .i64 a0_2)])] [.box 0 0] [(0, .box 62 [.sl .u 1 (r.2.2.2.2.1.map (eI .u8)), .lit (.int .i64 r.2.2.2.2.2.1), .lit (.int .i64 r.2.2.2.2.2.2)]), (1, .row 3 1 (r.1.map (eI .i64))), (2, .row 94 6 (r.2.1.map e94))] (.agg [.row 1, .row 2, .lit (.int .i64 r.2.2.1), .lit (.int .i64 r.2.2.2.1)]) := by
 refine acalls (fn := Try.f34) (nt := 53) Try.func34 rfl rfl (Nat.le_of_ble_eq_true rfl) fun E hE => ?_
 rw [spec_l09Made.f] at H
 refine aw_grp1 ?_
 refine wk_start ?_
 refine kb g0 (alc 1 [.slice none 0 0, .slice none 0 0, .int .i64 0, .int .i64 0] [.lit (.slice none 0 0), .lit (.slice none 0 0), .lit (.int .i64 0), .lit (.int .i64 0)]) ?_
 refine wk_end ?_
 refine ac_next ?_
 refine aw_grp1 ?_
 refine wk_start ?_
 refine kv g0 (mv) ?_
 refine kb g0 (bsl 2 3 1 [.int .i64 0] (([0, 1, 2, 3, 4, 4, 5] : List Int).map (eI .i64))) ?_
 obtain ⟨t1, A2, H⟩ := of_bind H
 refine kcS1 10 (.lit (.int .i64 t1.1)) [(0, .box 62 [.sl .u 1 (t1.2.1.map (eI .u8)), .lit (.int .i64 t1.2.2.1), .lit (.int .i64 t1.2.2.2)])] g0 (cal (spec_l01PickInt.ok A2) [0] 9999 .u (hf := Try.func32)) rfl rfl ?_
 refine kv g0 (bld [(0, 1), (1, 1), (2, 1), (3, 1)] [.slice none 0 0, .slice none 0 0, .int .i64 0, .int .i64 0] [.lit (.slice none 0 0), .lit (.slice none 0 0), .lit (.int .i64 t1.1), .lit (.int .i64 0)]) ?_
 refine kb g0 (alc 3 [.slice none 0 0, .slice none 0 0, .int .i64 0, .int .i64 0] [.lit (.slice none 0 0), .lit (.slice none 0 0), .lit (.int .i64 0), .lit (.int .i64 0)]) ?_
 refine ks g0 (stB 4 [.lit (.slice none 0 0), .lit (.slice none 0 0), .lit (.int .i64 t1.1), .lit (.int .i64 0)]) ?_
 refine wk_end ?_
 refine ac_next ?_
 refine aw_cut1 (J := fun K_ => ∀ (k_ : Nat) (q6 : List Int) (p7 : Int) (p8 : Int) (p9 : Int), k_ ≤ k → spec_l09Made.j0 k_ t1 q6 p7 p8 p9 = some r → ACont E 53 ⟨[(0, .box 0 0), (2, .box 1 0), (3, .box 3 0)], [(0, .box 62 [.sl .u 1 (q6.map (eI .u8)), .lit (.int .i64 p7), .lit (.int .i64 p8)]), (1, .box 67 [.lit (.slice none 0 0), .lit (.slice none 0 0), .lit (.int .i64 0), .lit (.int .i64 0)]), (3, .box 67 [.lit (.slice none 0 0), .lit (.slice none 0 0), .lit (.int .i64 t1.1), .lit (.int .i64 p9)])]⟩ K_) ?_ ?_
 ·intro K_ hJ52
  refine aw_grp1 ?_
  refine wk_start ?_
  refine kv g0 (faB 2 2) ?_
  refine kv g0 (ldB) ?_
  refine kv g0 (eql) ?_
  refine wk_end ?_
  refine ac_next ?_
  by_cases c3 : t1.1 = 2
  ·rw [if_pos c3] at H
   refine aw_ifT ?_ (eT c3)
   refine wk_start ?_
   refine kv g0 (mv) ?_
   refine kb g0 (bsl 4 3 1 [.int .i64 0] (([1, 13, 65535] : List Int).map (eI .i64))) ?_
   obtain ⟨t4, A5, H⟩ := of_bind H
   refine kcS1 17 (.lit (.int .i64 t4.1)) [(0, .box 62 [.sl .u 1 (t4.2.1.map (eI .u8)), .lit (.int .i64 t4.2.2.1), .lit (.int .i64 t4.2.2.2)])] g0 (cal (spec_l01PickInt.ok A5) [0] 9999 .u (hf := Try.func32)) rfl rfl ?_
   refine kv g0 (faB 3 3) ?_
   refine ks g0 (stB 1 [.lit (.slice none 0 0), .lit (.slice none 0 0), .lit (.int .i64 t1.1), .lit (.int .i64 t4.1)]) ?_
   refine wk_end ?_
   refine ac_k ?_
   exact acw hE [(0, 0), (1, 1), (3, 3)] 9999 (hJ52 k t4.2.1 t4.2.2.1 t4.2.2.2 t4.1 (Nat.le_refl _) H)
  rw [if_neg c3] at H
  refine aw_ifF ?_ (eF c3)
  refine aw_skip ?_
  refine ac_k ?_
  exact acw hE [(0, 0), (1, 1), (3, 3)] 9999 (hJ52 k t1.2.1 t1.2.2.1 t1.2.2.2 0 (Nat.le_refl _) H)
 intro k_ q6 p7 p8 p9 hk_ H
 rcases k_ with _ | k10
 ·rw [spec_l09Made.j0.eq_1] at H; cases H
 have hk10 : k10 ≤ k := by omega
 clear hk_
 rw [spec_l09Made.j0.eq_2] at H
 refine aw_grp1 ?_
 refine wk_start ?_
 refine kv g0 (mv) ?_
 obtain ⟨t11, A12, H⟩ := of_bind H
 refine kcS1 20 (.lit (.int .i64 t11.1)) [(0, .box 62 [.sl .u 1 (t11.2.1.map (eI .u8)), .lit (.int .i64 t11.2.2.1), .lit (.int .i64 t11.2.2.2)])] g0 (cal (spec_l01Below.ok A12) [0] 9999 .u (hf := Try.func33)) rfl rfl ?_
 refine kv g0 (sub6) ?_
 refine kv g0 (asg) ?_
 refine wk_end ?_
 refine ac_next ?_
 refine aw_grp1 ?_
 refine wk_start ?_
 refine kv g0 (asg) ?_
 refine wk_end ?_
 refine ac_next ?_
 refine aw_grp1 ?_
 refine aw_grp1 ?_
 refine wk_start ?_
 refine kv g0 (asg) ?_
 refine wk_end ?_
 refine ac_next ?_
 refine aw_block ?_
 refine ac_nilB 3 0 7 3 1 [.row 7, .lit (.slice none 0 0), .lit (.int .i64 t1.1), .lit (.int .i64 p9)] ?_
 refine aw_loop6 (fun (k_ : Nat) (q18 : List Int) (p19 : Int) (p20 : Int) (q21 : List Int) (p22 : Int) (p23 : Int) => k_ ≤ k10 ∧ spec_l09Made.l0 k_ t1 p9 t11 q18 p19 p20 q21 p22 p23 = some r) (fun (q18 : List Int) (p19 : Int) (p20 : Int) (q21 : List Int) (p22 : Int) (p23 : Int) => ⟨[(0, .box 0 0), (2, .box 1 0), (3, .box 3 0), (4, .lit (.int .i64 (wrap64 (t11.1 - 1)))), (5, .lit (.int .i64 p22)), (6, .lit (.int .i64 p23))], [(0, .box 62 [.sl .u 1 (q18.map (eI .u8)), .lit (.int .i64 p19), .lit (.int .i64 p20)]), (1, .box 67 [.lit (.slice none 0 0), .lit (.slice none 0 0), .lit (.int .i64 0), .lit (.int .i64 0)]), (3, .box 67 [.row 7, .lit (.slice none 0 0), .lit (.int .i64 t1.1), .lit (.int .i64 p9)]), (7, .row 3 1 (q21.map (eI .i64)))]⟩) k10 t11.2.1 t11.2.2.1 t11.2.2.2 ([]) 0 0 ⟨Nat.le_refl _, H⟩ (fun K_ h_ => acw hE [(0, 0), (1, 1), (3, 3), (7, 7)] 9999 h_) (fun _ _ _ _ _ _ => by intro h_; have h_ := h_.2; rw [spec_l09Made.l0.eq_1] at h_; cases h_) ?_
 intro k24 q18 p19 p20 q21 p22 p23 hq_ K29 hK30
 have hk24 := hq_.1
 have H := hq_.2
 clear hq_
 rw [spec_l09Made.l0.eq_2] at H
 refine aw_grp1 ?_
 refine aw_grp1 ?_
 refine wk_start ?_
 refine kv g0 (mv) ?_
 refine kv g0 (mv) ?_
 refine kv g0 (lss) ?_
 refine wk_end ?_
 refine ac_next ?_
 by_cases c25 : p23 < (wrap64 (t11.1 - 1))
 ·rw [if_pos c25] at H
  refine aw_ifT ?_ (decide_eq_true c25)
  refine aw_skip ?_
  refine ac_next ?_
  refine aw_grp1 ?_
  refine aw_block ?_
  refine aw_grp1 ?_
  refine wk_start ?_
  refine kv g0 (mv) ?_
  refine kv g0 (add6) ?_
  refine kv g0 (mv) ?_
  obtain ⟨t26, A27, H⟩ := of_bind H
  refine kcS1 30 (.lit (.int .i64 t26.1)) [(0, .box 62 [.sl .u 1 (t26.2.1.map (eI .u8)), .lit (.int .i64 t26.2.2.1), .lit (.int .i64 t26.2.2.2)])] g0 (cal (spec_l01Below.ok A27) [0] 9999 .u (hf := Try.func33)) rfl rfl ?_
  refine kv g0 (add6) ?_
  refine kv g0 (asg) ?_
  refine wk_end ?_
  refine ac_next ?_
  refine wk_start ?_
  refine kv g0 (faB 0 0) ?_
  refine kv g0 (ldB) ?_
  refine kv g0 (mv) ?_
  refine kv g0 (sub6) ?_
  refine kb g0 (bsl 8 3 1 [.int .i64 0] (([wrap64 ((wrap64 ((wrap64 (p22 + 1)) + t26.1)) - 1)] : List Int).map (eI .i64))) ?_
  obtain ⟨c28, H⟩ := of_if H
  refine kc g0 (apR 9 3 1 8 [.int .i64 0] ((q21 ++ ([wrap64 ((wrap64 ((wrap64 (p22 + 1)) + t26.1)) - 1)] : List Int)).map (eI .i64)) (.row rfl) (apb c28 rfl) appE) ?_
  refine kv g0 (faB 0 0) ?_
  refine ks g0 (stB 1 [.row 9, .lit (.slice none 0 0), .lit (.int .i64 t1.1), .lit (.int .i64 p9)]) ?_
  refine wk_end ?_
  refine ac_blkN ?_
  refine ac_next ?_
  refine wk_start ?_
  refine kv g0 (mv) ?_
  refine kv g0 (add6) ?_
  refine kv g0 (asg) ?_
  refine wk_end ?_
  refine ac_k ?_
  exact acw hE [(0, 0), (1, 1), (3, 3), (7, 9)] 9999 (hK30 k24 t26.2.1 t26.2.2.1 t26.2.2.2 (q21 ++ ([wrap64 ((wrap64 ((wrap64 (p22 + 1)) + t26.1)) - 1)] : List Int)) (wrap64 ((wrap64 (p22 + 1)) + t26.1)) (wrap64 (p23 + 1)) (Nat.le_refl _) ⟨by omega, H⟩)
 rw [if_neg c25] at H
 refine aw_ifF ?_ (decide_eq_false c25)
 refine aw_exit ?_
 refine ac_then ?_
 refine ac_then ?_
 refine ac_hit rfl ?_
 refine ac_next ?_
 refine aw_grp1 ?_
 refine aw_grp1 ?_
 refine wk_start ?_
 refine kv g0 (asg) ?_
 refine wk_end ?_
 refine ac_next ?_
 refine aw_block ?_
 refine ac_nilB 3 1 12 94 6 [.row 7, .row 12, .lit (.int .i64 t1.1), .lit (.int .i64 p9)] ?_
 refine aw_loop5 (fun (k_ : Nat) (q38 : List Int) (p39 : Int) (p40 : Int) (q41 : List S94) (p42 : Int) => k_ ≤ k24 ∧ spec_l09Made.l1 k_ t1 p9 q21 q38 p39 p40 q41 p42 = some r) (fun (q38 : List Int) (p39 : Int) (p40 : Int) (q41 : List S94) (p42 : Int) => ⟨[(0, .box 0 0), (2, .box 1 0), (3, .box 3 0), (7, .lit (.int .i64 p42))], [(0, .box 62 [.sl .u 1 (q38.map (eI .u8)), .lit (.int .i64 p39), .lit (.int .i64 p40)]), (1, .box 67 [.lit (.slice none 0 0), .lit (.slice none 0 0), .lit (.int .i64 0), .lit (.int .i64 0)]), (3, .box 67 [.row 7, .row 12, .lit (.int .i64 t1.1), .lit (.int .i64 p9)]), (7, .row 3 1 (q21.map (eI .i64))), (12, .row 94 6 (q41.map e94))]⟩) k24 q18 p19 p20 ([]) 0 ⟨Nat.le_refl _, H⟩ (fun K_ h_ => acw hE [(0, 0), (1, 1), (3, 3), (7, 7), (12, 12)] 9999 h_) (fun _ _ _ _ _ => by intro h_; have h_ := h_.2; rw [spec_l09Made.l1.eq_1] at h_; cases h_) ?_
 intro k43 q38 p39 p40 q41 p42 hq_ K50 hK51
 have hk43 := hq_.1
 have H := hq_.2
 clear hq_
 rw [spec_l09Made.l1.eq_2] at H
 refine aw_grp1 ?_
 refine aw_grp1 ?_
 refine wk_start ?_
 refine kv g0 (mv) ?_
 refine kv g0 (mv) ?_
 obtain ⟨t44, A45, H⟩ := of_bind H
 refine kcS1 41 (.lit (.int .i64 t44.1)) [(0, .box 62 [.sl .u 1 (t44.2.1.map (eI .u8)), .lit (.int .i64 t44.2.2.1), .lit (.int .i64 t44.2.2.2)])] g0 (cal (spec_l01Below.ok A45) [0] 9999 .u (hf := Try.func33)) rfl rfl ?_
 refine kv g0 (lss) ?_
 refine wk_end ?_
 refine ac_next ?_
 by_cases c46 : p42 < t44.1
 ·rw [if_pos c46] at H
  refine aw_ifT ?_ (decide_eq_true c46)
  refine aw_skip ?_
  refine ac_next ?_
  refine aw_grp1 ?_
  refine aw_block ?_
  refine wk_start ?_
  refine kv g0 (faB 1 1) ?_
  refine kv g0 (ldB) ?_
  refine kv g0 (mv) ?_
  obtain ⟨t47, A48, H⟩ := of_bind H
  refine kcS1 48 (.agg [.lit (.int .i64 t47.1), .lit (.int .i64 t47.2.1), .lit (.int .i64 t47.2.2.1), .lit (.int .i64 t47.2.2.2.1), .lit (.int .i64 t47.2.2.2.2.1), .lit (.int .i64 t47.2.2.2.2.2.1)]) [(0, .box 62 [.sl .u 1 (t47.2.2.2.2.2.2.1.map (eI .u8)), .lit (.int .i64 t47.2.2.2.2.2.2.2.1), .lit (.int .i64 t47.2.2.2.2.2.2.2.2)])] g0 (cal (spec_l09Cond.ok A48) [0] 9999 .u (hf := Try.func58)) rfl rfl ?_
  refine kb g0 (bsl 13 94 6 [.int .i64 0, .int .i64 0, .int .i64 0, .int .i64 0, .int .i64 0, .int .i64 0] (([(⟨t47.1, (⟨t47.2.1, t47.2.2.1⟩ : S70), t47.2.2.2.1, (⟨t47.2.2.2.2.1, t47.2.2.2.2.2.1⟩ : S70)⟩ : S94)] : List S94).map e94)) ?_
  obtain ⟨c49, H⟩ := of_if H
  refine kc g0 (apR 14 94 6 48 [.int .i64 0, .int .i64 0, .int .i64 0, .int .i64 0, .int .i64 0, .int .i64 0] ((q41 ++ ([(⟨t47.1, (⟨t47.2.1, t47.2.2.1⟩ : S70), t47.2.2.2.1, (⟨t47.2.2.2.2.1, t47.2.2.2.2.2.1⟩ : S70)⟩ : S94)] : List S94)).map e94) (.row rfl) (apb c49 rfl) appE) ?_
  refine kv g0 (faB 1 1) ?_
  refine ks g0 (stB 1 [.row 7, .row 14, .lit (.int .i64 t1.1), .lit (.int .i64 p9)]) ?_
  refine wk_end_draw hM (by kernel_rfl) ?_
  refine ac_blkN ?_
  refine ac_next ?_
  refine wk_start ?_
  refine kv g0 (mv) ?_
  refine kv g0 (add6) ?_
  refine kv g0 (asg) ?_
  refine wk_end ?_
  refine ac_k ?_
  exact acw hE [(0, 0), (1, 1), (3, 3), (7, 7), (12, 14)] 9999 (hK51 k43 t47.2.2.2.2.2.2.1 t47.2.2.2.2.2.2.2.1 t47.2.2.2.2.2.2.2.2 (q41 ++ ([(⟨t47.1, (⟨t47.2.1, t47.2.2.1⟩ : S70), t47.2.2.2.1, (⟨t47.2.2.2.2.1, t47.2.2.2.2.2.1⟩ : S70)⟩ : S94)] : List S94)) (wrap64 (p42 + 1)) (Nat.le_refl _) ⟨by omega, H⟩)
 rw [if_neg c46] at H
 refine aw_ifF ?_ (decide_eq_false c46)
 refine aw_exit ?_
 refine ac_then ?_
 refine ac_then ?_
 refine ac_hit rfl ?_
 refine ac_next ?_
 refine aw_grp1 ?_
 refine wk_start ?_
 refine kv g0 (ldBA 4 [.row 7, .row 12, .lit (.int .i64 t1.1), .lit (.int .i64 p9)]) ?_
 refine ks g0 (stB 4 [.row 7, .row 12, .lit (.int .i64 t1.1), .lit (.int .i64 p9)]) ?_
 refine wk_end ?_
 refine ac_next ?_
 refine aw_ret ?_
 obtain rfl := Option.some.inj H
 exact acr hE [.cell 2 67] (rcA 4 .nil) (.one _) [(0, 0), (1, 7), (2, 12)] 9999
/-! spec_l09Policy -/
mutual
def spec_l09Policy.l0 : Nat → (Int × (List Int) × Int × Int) → Int → (List Int) → Int → Int → (List S67) → Int → Option (Int × Int × Int × (List S67) × (List Int) × Int × Int)
 | 0, _, _, _, _, _, _, _ => none
 | k18 + 1, t1, p4, q13, p14, p15, q16, p17 => (spec_l01Below.f q13 p14 p15 5).bind fun t19 => if p17 < t19.1 then (spec_l09Made.f k18 t19.2.1 t19.2.2.1 t19.2.2.2).bind fun t22 => (if q16.length + ([(⟨t22.1, t22.2.1, t22.2.2.1, t22.2.2.2.1⟩ : S67)] : List S67).length < 2199023255552 then spec_l09Policy.l0 k18 t1 p4 t22.2.2.2.2.1 t22.2.2.2.2.2.1 t22.2.2.2.2.2.2 (q16 ++ ([(⟨t22.1, t22.2.1, t22.2.2.1, t22.2.2.2.1⟩ : S67)] : List S67)) (wrap64 (p17 + 1)) else none) else some (62, t1.1, p4, q16, t19.2.1, t19.2.2.1, t19.2.2.2)
def spec_l09Policy.j0 : Nat → (Int × (List Int) × Int × Int) → Int → Option (Int × Int × Int × (List S67) × (List Int) × Int × Int)
 | 0, _, _ => none
 | k5 + 1, t1, p4 => spec_l09Policy.l0 k5 t1 p4 t1.2.1 t1.2.2.1 t1.2.2.2 ([]) 0
end
def spec_l09Policy.f (k : Nat) (l0_0 : List Int) (a0_1 : Int) (a0_2 : Int) : Option (Int × Int × Int × (List S67) × (List Int) × Int × Int) := (spec_l01PickInt.f l0_0 a0_1 a0_2 ([5, 4, 0, 2] : List Int)).bind fun t1 => if t1.1 = 2 then spec_l09Policy.j0 k t1 1 else spec_l09Policy.j0 k t1 0
theorem spec_l09Policy.ok {k : Nat} {l0_0 : List Int} {a0_1 : Int} {a0_2 : Int} {r : Int × Int × Int × (List S67) × (List Int) × Int × Int} (H : spec_l09Policy.f k l0_0 a0_1 a0_2 = some r) : ACalls Try.prog 17 [(0, .box 62 [.sl .u 1 (l0_0.map (eI .u8)), .lit (.int .i64 a0_1), .lit (.int .i64 a0_2)])] [.box 0 0] [(0, .box 62 [.sl .u 1 (r.2.2.2.2.1.map (eI .u8)), .lit (.int .i64 r.2.2.2.2.2.1), .lit (.int .i64 r.2.2.2.2.2.2)]), (1, .row 67 4 (r.2.2.2.1.map e67))] (.agg [.lit (.int .i64 r.1), .lit (.int .i64 r.2.1), .lit (.int .i64 r.2.2.1), .row 1]) := by
 refine acalls (fn := Try.f17) (nt := 27) Try.func17 rfl rfl (Nat.le_of_ble_eq_true rfl) fun E hE => ?_
 rw [spec_l09Policy.f] at H
 refine aw_grp1 ?_
 refine wk_start ?_
 refine kb g0 (alc 1 [.int .i64 0, .int .i64 0, .int .i64 0, .slice none 0 0] [.lit (.int .i64 0), .lit (.int .i64 0), .lit (.int .i64 0), .lit (.slice none 0 0)]) ?_
 refine wk_end ?_
 refine ac_next ?_
 refine aw_grp1 ?_
 refine wk_start ?_
 refine kv g0 (mv) ?_
 refine kb g0 (bsl 2 3 1 [.int .i64 0] (([5, 4, 0, 2] : List Int).map (eI .i64))) ?_
 obtain ⟨t1, A2, H⟩ := of_bind H
 refine kcS1 7 (.lit (.int .i64 t1.1)) [(0, .box 62 [.sl .u 1 (t1.2.1.map (eI .u8)), .lit (.int .i64 t1.2.2.1), .lit (.int .i64 t1.2.2.2)])] g0 (cal (spec_l01PickInt.ok A2) [0] 9999 .u (hf := Try.func32)) rfl rfl ?_
 refine kv g0 (bld [(0, 1), (1, 1), (2, 1), (3, 1)] [.int .i64 0, .int .i64 0, .int .i64 0, .slice none 0 0] [.lit (.int .i64 62), .lit (.int .i64 t1.1), .lit (.int .i64 0), .lit (.slice none 0 0)]) ?_
 refine kb g0 (alc 3 [.int .i64 0, .int .i64 0, .int .i64 0, .slice none 0 0] [.lit (.int .i64 0), .lit (.int .i64 0), .lit (.int .i64 0), .lit (.slice none 0 0)]) ?_
 refine ks g0 (stB 4 [.lit (.int .i64 62), .lit (.int .i64 t1.1), .lit (.int .i64 0), .lit (.slice none 0 0)]) ?_
 refine wk_end ?_
 refine ac_next ?_
 refine aw_cut1 (J := fun K_ => ∀ (k_ : Nat) (p4 : Int), k_ ≤ k → spec_l09Policy.j0 k_ t1 p4 = some r → ACont E 27 ⟨[(0, .box 0 0), (2, .box 1 0), (3, .box 3 0)], [(0, .box 62 [.sl .u 1 (t1.2.1.map (eI .u8)), .lit (.int .i64 t1.2.2.1), .lit (.int .i64 t1.2.2.2)]), (1, .box 26 [.lit (.int .i64 0), .lit (.int .i64 0), .lit (.int .i64 0), .lit (.slice none 0 0)]), (3, .box 26 [.lit (.int .i64 62), .lit (.int .i64 t1.1), .lit (.int .i64 p4), .lit (.slice none 0 0)])]⟩ K_) ?_ ?_
 ·intro K_ hJ27
  refine aw_grp1 ?_
  refine wk_start ?_
  refine kv g0 (faB 1 1) ?_
  refine kv g0 (ldB) ?_
  refine kv g0 (eql) ?_
  refine wk_end ?_
  refine ac_next ?_
  by_cases c3 : t1.1 = 2
  ·rw [if_pos c3] at H
   refine aw_ifT ?_ (eT c3)
   refine wk_start ?_
   refine kv g0 (faB 2 2) ?_
   refine ks g0 (stB 1 [.lit (.int .i64 62), .lit (.int .i64 t1.1), .lit (.int .i64 1), .lit (.slice none 0 0)]) ?_
   refine wk_end ?_
   refine ac_k ?_
   exact acw hE [(0, 0), (1, 1), (3, 3)] 9999 (hJ27 k 1 (Nat.le_refl _) H)
  rw [if_neg c3] at H
  refine aw_ifF ?_ (eF c3)
  refine aw_skip ?_
  refine ac_k ?_
  exact acw hE [(0, 0), (1, 1), (3, 3)] 9999 (hJ27 k 0 (Nat.le_refl _) H)
 intro k_ p4 hk_ H
 rcases k_ with _ | k5
 ·rw [spec_l09Policy.j0.eq_1] at H; cases H
 have hk5 : k5 ≤ k := by omega
 clear hk_
 rw [spec_l09Policy.j0.eq_2] at H
 refine aw_grp1 ?_
 refine aw_grp1 ?_
 refine wk_start ?_
 refine kv g0 (asg) ?_
 refine wk_end ?_
 refine ac_next ?_
 refine aw_block ?_
 refine ac_nilB 3 3 6 67 4 [.lit (.int .i64 62), .lit (.int .i64 t1.1), .lit (.int .i64 p4), .row 6] ?_
 refine aw_loop5 (fun (k_ : Nat) (q13 : List Int) (p14 : Int) (p15 : Int) (q16 : List S67) (p17 : Int) => k_ ≤ k5 ∧ spec_l09Policy.l0 k_ t1 p4 q13 p14 p15 q16 p17 = some r) (fun (q13 : List Int) (p14 : Int) (p15 : Int) (q16 : List S67) (p17 : Int) => ⟨[(0, .box 0 0), (2, .box 1 0), (3, .box 3 0), (4, .lit (.int .i64 p17))], [(0, .box 62 [.sl .u 1 (q13.map (eI .u8)), .lit (.int .i64 p14), .lit (.int .i64 p15)]), (1, .box 26 [.lit (.int .i64 0), .lit (.int .i64 0), .lit (.int .i64 0), .lit (.slice none 0 0)]), (3, .box 26 [.lit (.int .i64 62), .lit (.int .i64 t1.1), .lit (.int .i64 p4), .row 6]), (6, .row 67 4 (q16.map e67))]⟩) k5 t1.2.1 t1.2.2.1 t1.2.2.2 ([]) 0 ⟨Nat.le_refl _, H⟩ (fun K_ h_ => acw hE [(0, 0), (1, 1), (3, 3), (6, 6)] 9999 h_) (fun _ _ _ _ _ => by intro h_; have h_ := h_.2; rw [spec_l09Policy.l0.eq_1] at h_; cases h_) ?_
 intro k18 q13 p14 p15 q16 p17 hq_ K25 hK26
 have hk18 := hq_.1
 have H := hq_.2
 clear hq_
 rw [spec_l09Policy.l0.eq_2] at H
 refine aw_grp1 ?_
 refine aw_grp1 ?_
 refine wk_start ?_
 refine kv g0 (mv) ?_
 refine kv g0 (mv) ?_
 obtain ⟨t19, A20, H⟩ := of_bind H
 refine kcS1 15 (.lit (.int .i64 t19.1)) [(0, .box 62 [.sl .u 1 (t19.2.1.map (eI .u8)), .lit (.int .i64 t19.2.2.1), .lit (.int .i64 t19.2.2.2)])] g0 (cal (spec_l01Below.ok A20) [0] 9999 .u (hf := Try.func33)) rfl rfl ?_
 refine kv g0 (lss) ?_
 refine wk_end ?_
 refine ac_next ?_
 by_cases c21 : p17 < t19.1
 ·rw [if_pos c21] at H
  refine aw_ifT ?_ (decide_eq_true c21)
  refine aw_skip ?_
  refine ac_next ?_
  refine aw_grp1 ?_
  refine aw_block ?_
  refine wk_start ?_
  refine kv g0 (faB 3 3) ?_
  refine kv g0 (ldB) ?_
  refine kv g0 (mv) ?_
  obtain ⟨t22, A23, H⟩ := of_bind H
  refine kcS1 22 (.agg [.sl .n 1 (t22.1.map (eI .i64)), .sl .n 6 (t22.2.1.map e94), .lit (.int .i64 t22.2.2.1), .lit (.int .i64 t22.2.2.2.1)]) [(0, .box 62 [.sl .u 1 (t22.2.2.2.2.1.map (eI .u8)), .lit (.int .i64 t22.2.2.2.2.2.1), .lit (.int .i64 t22.2.2.2.2.2.2)])] g0 (cal ((spec_l09Made.ok A23).frzP (L := [.box 62 [.sl .u 1 (t22.2.2.2.2.1.map (eI .u8)), .lit (.int .i64 t22.2.2.2.2.2.1), .lit (.int .i64 t22.2.2.2.2.2.2)]]) (M := [.row 3 1 (t22.1.map (eI .i64)), .row 94 6 (t22.2.1.map e94)]) (.agg [.sl .n 1 (t22.1.map (eI .i64)), .sl .n 6 (t22.2.1.map e94), .lit (.int .i64 t22.2.2.1), .lit (.int .i64 t22.2.2.2.1)]) rfl rfl) [0] 9999 .u (hf := Try.func34)) rfl rfl ?_
  refine kb g0 (bsl 7 67 4 [.slice none 0 0, .slice none 0 0, .int .i64 0, .int .i64 0] (([(⟨t22.1, t22.2.1, t22.2.2.1, t22.2.2.2.1⟩ : S67)] : List S67).map e67)) ?_
  obtain ⟨c24, H⟩ := of_if H
  refine kc g0 (apR 8 67 4 64 [.slice none 0 0, .slice none 0 0, .int .i64 0, .int .i64 0] ((q16 ++ ([(⟨t22.1, t22.2.1, t22.2.2.1, t22.2.2.2.1⟩ : S67)] : List S67)).map e67) (.row rfl) (apb c24 rfl) appE) ?_
  refine kv g0 (faB 3 3) ?_
  refine ks g0 (stB 1 [.lit (.int .i64 62), .lit (.int .i64 t1.1), .lit (.int .i64 p4), .row 8]) ?_
  refine wk_end_draw hM (by kernel_rfl) ?_
  refine ac_blkN ?_
  refine ac_next ?_
  refine wk_start ?_
  refine kv g0 (mv) ?_
  refine kv g0 (add6) ?_
  refine kv g0 (asg) ?_
  refine wk_end ?_
  refine ac_k ?_
  exact acw hE [(0, 0), (1, 1), (3, 3), (6, 8)] 9999 (hK26 k18 t22.2.2.2.2.1 t22.2.2.2.2.2.1 t22.2.2.2.2.2.2 (q16 ++ ([(⟨t22.1, t22.2.1, t22.2.2.1, t22.2.2.2.1⟩ : S67)] : List S67)) (wrap64 (p17 + 1)) (Nat.le_refl _) ⟨by omega, H⟩)
 rw [if_neg c21] at H
 refine aw_ifF ?_ (decide_eq_false c21)
 refine aw_exit ?_
 refine ac_then ?_
 refine ac_then ?_
 refine ac_hit rfl ?_
 refine ac_next ?_
 refine aw_grp1 ?_
 refine wk_start ?_
 refine kv g0 (ldBA 4 [.lit (.int .i64 62), .lit (.int .i64 t1.1), .lit (.int .i64 p4), .row 6]) ?_
 refine ks g0 (stB 4 [.lit (.int .i64 62), .lit (.int .i64 t1.1), .lit (.int .i64 p4), .row 6]) ?_
 refine wk_end ?_
 refine ac_next ?_
 refine aw_ret ?_
 obtain rfl := Option.some.inj H
 exact acr hE [.cell 2 26] (rcA 4 .nil) (.one _) [(0, 0), (1, 6)] 9999
/-! spec_l04Call -/
def spec_l04Call.l0 : Nat → (Int × (List Int) × Int × Int) → (Int × (List Int) × Int × Int) → (List Int) → Int → Int → (List S70) → Int → Option (Int × Int × (List S70) × (List Int) × Int × Int)
 | 0, _, _, _, _, _, _, _ => none
 | k14 + 1, t1, t3, q9, p10, p11, q12, p13 => if p13 < 3 then (spec_l04Wide.f q9 p10 p11).bind fun t16 => if q12.length + ([(⟨t16.1, t16.2.1⟩ : S70)] : List S70).length < 8796093022208 then spec_l04Call.l0 k14 t1 t3 t16.2.2.1 t16.2.2.2.1 t16.2.2.2.2 (q12 ++ ([(⟨t16.1, t16.2.1⟩ : S70)] : List S70)) (wrap64 (p13 + 1)) else none else some (t1.1, t3.1, q12, q9, p10, p11)
def spec_l04Call.f (k : Nat) (l0_0 : List Int) (a0_1 : Int) (a0_2 : Int) : Option (Int × Int × (List S70) × (List Int) × Int × Int) := (spec_l01PickInt.f l0_0 a0_1 a0_2 ([62, 62, 62, 62, 3] : List Int)).bind fun t1 => ((spec_l01PickInt.f t1.2.1 t1.2.2.1 t1.2.2.2 ([0, 1, 2, 3, 4, 6, 9, 11, 4294967295, 77] : List Int)).bind fun t3 => spec_l04Call.l0 k t1 t3 t3.2.1 t3.2.2.1 t3.2.2.2 ([]) 0)
theorem spec_l04Call.ok {k : Nat} {l0_0 : List Int} {a0_1 : Int} {a0_2 : Int} {r : Int × Int × (List S70) × (List Int) × Int × Int} (H : spec_l04Call.f k l0_0 a0_1 a0_2 = some r) : ACalls Try.prog 18 [(0, .box 62 [.sl .u 1 (l0_0.map (eI .u8)), .lit (.int .i64 a0_1), .lit (.int .i64 a0_2)])] [.box 0 0] [(0, .box 62 [.sl .u 1 (r.2.2.2.1.map (eI .u8)), .lit (.int .i64 r.2.2.2.2.1), .lit (.int .i64 r.2.2.2.2.2)]), (1, .row 70 2 (r.2.2.1.map e70))] (.agg [.lit (.int .i64 r.1), .lit (.int .i64 r.2.1), .row 1]) := by
 refine acalls (fn := Try.f18) (nt := 26) Try.func18 rfl rfl (Nat.le_of_ble_eq_true rfl) fun E hE => ?_
 rw [spec_l04Call.f] at H
 refine aw_grp1 ?_
 refine wk_start ?_
 refine kb g0 (alc 1 [.int .i64 0, .int .i64 0, .slice none 0 0] [.lit (.int .i64 0), .lit (.int .i64 0), .lit (.slice none 0 0)]) ?_
 refine wk_end ?_
 refine ac_next ?_
 refine aw_grp1 ?_
 refine wk_start ?_
 refine kv g0 (mv) ?_
 refine kb g0 (bsl 2 3 1 [.int .i64 0] (([62, 62, 62, 62, 3] : List Int).map (eI .i64))) ?_
 obtain ⟨t1, A2, H⟩ := of_bind H
 refine kcS1 8 (.lit (.int .i64 t1.1)) [(0, .box 62 [.sl .u 1 (t1.2.1.map (eI .u8)), .lit (.int .i64 t1.2.2.1), .lit (.int .i64 t1.2.2.2)])] g0 (cal (spec_l01PickInt.ok A2) [0] 9999 .u (hf := Try.func32)) rfl rfl ?_
 refine kv g0 (mv) ?_
 refine kb g0 (bsl 3 3 1 [.int .i64 0] (([0, 1, 2, 3, 4, 6, 9, 11, 4294967295, 77] : List Int).map (eI .i64))) ?_
 obtain ⟨t3, A4, H⟩ := of_bind H
 refine kcS1 11 (.lit (.int .i64 t3.1)) [(0, .box 62 [.sl .u 1 (t3.2.1.map (eI .u8)), .lit (.int .i64 t3.2.2.1), .lit (.int .i64 t3.2.2.2)])] g0 (cal (spec_l01PickInt.ok A4) [0] 9999 .u (hf := Try.func32)) rfl rfl ?_
 refine kv g0 (bld [(0, 1), (1, 1), (2, 1)] [.int .i64 0, .int .i64 0, .slice none 0 0] [.lit (.int .i64 t1.1), .lit (.int .i64 t3.1), .lit (.slice none 0 0)]) ?_
 refine kb g0 (alc 4 [.int .i64 0, .int .i64 0, .slice none 0 0] [.lit (.int .i64 0), .lit (.int .i64 0), .lit (.slice none 0 0)]) ?_
 refine ks g0 (stB 3 [.lit (.int .i64 t1.1), .lit (.int .i64 t3.1), .lit (.slice none 0 0)]) ?_
 refine wk_end ?_
 refine ac_next ?_
 refine aw_grp1 ?_
 refine aw_grp1 ?_
 refine wk_start ?_
 refine kv g0 (asg) ?_
 refine wk_end ?_
 refine ac_next ?_
 refine aw_block ?_
 refine ac_nilB 4 2 8 70 2 [.lit (.int .i64 t1.1), .lit (.int .i64 t3.1), .row 8] ?_
 refine aw_loop5 (fun (k_ : Nat) (q9 : List Int) (p10 : Int) (p11 : Int) (q12 : List S70) (p13 : Int) => k_ ≤ k ∧ spec_l04Call.l0 k_ t1 t3 q9 p10 p11 q12 p13 = some r) (fun (q9 : List Int) (p10 : Int) (p11 : Int) (q12 : List S70) (p13 : Int) => ⟨[(0, .box 0 0), (2, .box 1 0), (3, .box 4 0), (4, .lit (.int .i64 p13))], [(0, .box 62 [.sl .u 1 (q9.map (eI .u8)), .lit (.int .i64 p10), .lit (.int .i64 p11)]), (1, .box 29 [.lit (.int .i64 0), .lit (.int .i64 0), .lit (.slice none 0 0)]), (4, .box 29 [.lit (.int .i64 t1.1), .lit (.int .i64 t3.1), .row 8]), (8, .row 70 2 (q12.map e70))]⟩) k t3.2.1 t3.2.2.1 t3.2.2.2 ([]) 0 ⟨Nat.le_refl _, H⟩ (fun K_ h_ => acw hE [(0, 0), (1, 1), (4, 4), (8, 8)] 9999 h_) (fun _ _ _ _ _ => by intro h_; have h_ := h_.2; rw [spec_l04Call.l0.eq_1] at h_; cases h_) ?_
 intro k14 q9 p10 p11 q12 p13 hq_ K19 hK20
 have hk14 := hq_.1
 have H := hq_.2
 clear hq_
 rw [spec_l04Call.l0.eq_2] at H
 refine aw_grp1 ?_
 refine aw_grp1 ?_
 refine wk_start ?_
 refine kv g0 (mv) ?_
 refine kv g0 (lss) ?_
 refine wk_end ?_
 refine ac_next ?_
 by_cases c15 : p13 < 3
 ·rw [if_pos c15] at H
  refine aw_ifT ?_ (decide_eq_true c15)
  refine aw_skip ?_
  refine ac_next ?_
  refine aw_grp1 ?_
  refine aw_block ?_
  refine aw_grp1 ?_
  refine wk_start ?_
  refine kv g0 (mv) ?_
  obtain ⟨t16, A17, H⟩ := of_bind H
  refine kcS1 18 (.agg [.lit (.int .i64 t16.1), .lit (.int .i64 t16.2.1)]) [(0, .box 62 [.sl .u 1 (t16.2.2.1.map (eI .u8)), .lit (.int .i64 t16.2.2.2.1), .lit (.int .i64 t16.2.2.2.2)])] g0 (cal (spec_l04Wide.ok A17) [0] 9999 .u (hf := Try.func35)) rfl rfl ?_
  refine kb g0 (alc 9 [.int .i64 0, .int .i64 0] [.lit (.int .i64 0), .lit (.int .i64 0)]) ?_
  refine ks g0 (stB 2 [.lit (.int .i64 t16.1), .lit (.int .i64 t16.2.1)]) ?_
  refine wk_end ?_
  refine ac_next ?_
  refine wk_start ?_
  refine kv g0 (faB 2 2) ?_
  refine kv g0 (ldB) ?_
  refine kv g0 (ldBA 2 [.lit (.int .i64 t16.1), .lit (.int .i64 t16.2.1)]) ?_
  refine kb g0 (bsl 10 70 2 [.int .i64 0, .int .i64 0] (([(⟨t16.1, t16.2.1⟩ : S70)] : List S70).map e70)) ?_
  obtain ⟨c18, H⟩ := of_if H
  refine kc g0 (apR 11 70 2 16 [.int .i64 0, .int .i64 0] ((q12 ++ ([(⟨t16.1, t16.2.1⟩ : S70)] : List S70)).map e70) (.row rfl) (apb c18 rfl) appE) ?_
  refine kv g0 (faB 2 2) ?_
  refine ks g0 (stB 1 [.lit (.int .i64 t1.1), .lit (.int .i64 t3.1), .row 11]) ?_
  refine wk_end ?_
  refine ac_blkN ?_
  refine ac_next ?_
  refine wk_start ?_
  refine kv g0 (mv) ?_
  refine kv g0 (add6) ?_
  refine kv g0 (asg) ?_
  refine wk_end ?_
  refine ac_k ?_
  exact acw hE [(0, 0), (1, 1), (4, 4), (8, 11)] 9999 (hK20 k14 t16.2.2.1 t16.2.2.2.1 t16.2.2.2.2 (q12 ++ ([(⟨t16.1, t16.2.1⟩ : S70)] : List S70)) (wrap64 (p13 + 1)) (Nat.le_refl _) ⟨by omega, H⟩)
 rw [if_neg c15] at H
 refine aw_ifF ?_ (decide_eq_false c15)
 refine aw_exit ?_
 refine ac_then ?_
 refine ac_then ?_
 refine ac_hit rfl ?_
 refine ac_next ?_
 refine aw_grp1 ?_
 refine wk_start ?_
 refine kv g0 (ldBA 3 [.lit (.int .i64 t1.1), .lit (.int .i64 t3.1), .row 8]) ?_
 refine ks g0 (stB 3 [.lit (.int .i64 t1.1), .lit (.int .i64 t3.1), .row 8]) ?_
 refine wk_end ?_
 refine ac_next ?_
 refine aw_ret ?_
 obtain rfl := Option.some.inj H
 exact acr hE [.cell 2 29] (rcA 3 .nil) (.one _) [(0, 0), (1, 8)] 9999
/-! spec_DrawPolicy -/
def spec_DrawPolicy.f (k : Nat) (l0 : List Int) : Option (Int × Int × Int × (List S67) × Int × Int × (List S70)) := (spec_l01New.f k l0).bind fun t1 => (spec_l09Policy.f k t1.1 t1.2.1 t1.2.2).bind fun t3 => (spec_l04Call.f k t3.2.2.2.2.1 t3.2.2.2.2.2.1 t3.2.2.2.2.2.2).bind fun t5 => some (t3.1, t3.2.1, t3.2.2.1, t3.2.2.2.1, t5.1, t5.2.1, t5.2.2.1)
theorem spec_DrawPolicy.ok {k : Nat} {l0 : List Int} {r : Int × Int × Int × (List S67) × Int × Int × (List S70)} (H : spec_DrawPolicy.f k l0 = some r) : ACalls Try.prog 5 [] [.sl .o 1 (l0.map (eI .u8))] [(0, .row 67 4 (r.2.2.2.1.map e67)), (1, .row 70 2 (r.2.2.2.2.2.2.map e70))] (.tup [.agg [.lit (.int .i64 r.1), .lit (.int .i64 r.2.1), .lit (.int .i64 r.2.2.1), .row 0], .agg [.lit (.int .i64 r.2.2.2.2.1), .lit (.int .i64 r.2.2.2.2.2.1), .row 1]]) := by
 refine acalls (fn := Try.f5) (nt := 13) Try.func5 rfl rfl (Nat.le_of_ble_eq_true rfl) fun E hE => ?_
 rw [spec_DrawPolicy.f] at H
 refine aw_grp1 ?_
 refine wk_start ?_
 refine kb g0 (alc 0 [.int .i64 0, .int .i64 0, .int .i64 0, .slice none 0 0] [.lit (.int .i64 0), .lit (.int .i64 0), .lit (.int .i64 0), .lit (.slice none 0 0)]) ?_
 refine kb g0 (alc 1 [.int .i64 0, .int .i64 0, .slice none 0 0] [.lit (.int .i64 0), .lit (.int .i64 0), .lit (.slice none 0 0)]) ?_
 refine wk_end ?_
 refine ac_next ?_
 refine aw_grp1 ?_
 refine wk_start ?_
 refine kv g0 (mv) ?_
 obtain ⟨t1, A2, H⟩ := of_bind H
 refine kcS1 7 (.box 2 0) [(2, .box 62 [.sl .o 1 (t1.1.map (eI .u8)), .lit (.int .i64 t1.2.1), .lit (.int .i64 t1.2.2)])] g0 (cal (spec_l01New.ok A2) [2] 9999 .o (hf := Try.func16)) rfl rfl ?_
 refine kv g0 (asg) ?_
 refine wk_end ?_
 refine ac_next ?_
 refine aw_grp1 ?_
 refine wk_start ?_
 refine kv g0 (mv) ?_
 obtain ⟨t3, A4, H⟩ := of_bind H
 refine kcS2 9 (.agg [.lit (.int .i64 t3.1), .lit (.int .i64 t3.2.1), .lit (.int .i64 t3.2.2.1), .row 3]) [(2, .box 62 [.sl .o 1 (t3.2.2.2.2.1.map (eI .u8)), .lit (.int .i64 t3.2.2.2.2.2.1), .lit (.int .i64 t3.2.2.2.2.2.2)]), (3, .row 67 4 (t3.2.2.2.1.map e67))] g0 (cal (spec_l09Policy.ok A4) [2, 3] 9999 .o (hf := Try.func17)) rfl rfl ?_
 refine kb g0 (alc 4 [.int .i64 0, .int .i64 0, .int .i64 0, .slice none 0 0] [.lit (.int .i64 0), .lit (.int .i64 0), .lit (.int .i64 0), .lit (.slice none 0 0)]) ?_
 refine ks g0 (stB 4 [.lit (.int .i64 t3.1), .lit (.int .i64 t3.2.1), .lit (.int .i64 t3.2.2.1), .row 3]) ?_
 refine wk_end ?_
 refine ac_next ?_
 refine aw_grp1 ?_
 refine wk_start ?_
 refine kv g0 (ldBA 4 [.lit (.int .i64 t3.1), .lit (.int .i64 t3.2.1), .lit (.int .i64 t3.2.2.1), .row 3]) ?_
 refine kv g0 (mv) ?_
 obtain ⟨t5, A6, H⟩ := of_bind H
 refine kcS2 12 (.agg [.lit (.int .i64 t5.1), .lit (.int .i64 t5.2.1), .row 5]) [(2, .box 62 [.sl .o 1 (t5.2.2.2.1.map (eI .u8)), .lit (.int .i64 t5.2.2.2.2.1), .lit (.int .i64 t5.2.2.2.2.2)]), (5, .row 70 2 (t5.2.2.1.map e70))] g0 (cal (spec_l04Call.ok A6) [2, 5] 9999 .o (hf := Try.func18)) rfl rfl ?_
 refine ks g0 (stB 4 [.lit (.int .i64 t3.1), .lit (.int .i64 t3.2.1), .lit (.int .i64 t3.2.2.1), .row 3]) ?_
 refine ks g0 (stB 3 [.lit (.int .i64 t5.1), .lit (.int .i64 t5.2.1), .row 5]) ?_
 refine wk_end_draw hM (by kernel_rfl) ?_
 refine ac_next ?_
 refine aw_ret ?_
 obtain rfl := Option.some.inj H
 exact acr hE [.cell 2 26, .cell 3 29] (rcA 4 (rcA 3 .nil)) (.many _ _ _) [(0, 3), (1, 5)] 9999
/-! spec_l01In -/
def spec_l01In.f (a0 : Int) (a1 : Int) (a2 : Int) : Option (Bool) := if a0 ≥ a1 then some (decide (a0 ≤ a2)) else some false
theorem spec_l01In.ok {a0 : Int} {a1 : Int} {a2 : Int} {r : Bool} (H : spec_l01In.f a0 a1 a2 = some r) : ACalls Try.prog 22 [] [.lit (.int .i64 a0), .lit (.int .i64 a1), .lit (.int .i64 a2)] [] (.lit (.bool r)) := by
 refine acalls (fn := Try.f22) (nt := 15) Try.func22 rfl rfl (Nat.le_of_ble_eq_true rfl) fun E hE => ?_
 rw [spec_l01In.f] at H
 refine aw_grp1 ?_
 refine wk_start ?_
 refine kv g0 (asg) ?_
 refine wk_end ?_
 refine ac_next ?_
 refine aw_grp1 ?_
 refine wk_start ?_
 refine kv g0 (mv) ?_
 refine kv g0 (mv) ?_
 refine kv g0 (geq) ?_
 refine kv g0 (mv) ?_
 by_cases c1 : a0 ≥ a1
 ·rw [if_pos c1] at H
  refine kv (g1 (decide_eq_true c1)) (mv) ?_
  refine kv (g1 (decide_eq_true c1)) (mv) ?_
  refine kv (g1 (decide_eq_true c1)) (leq) ?_
  refine kv g0 (pkT (decide_eq_true c1)) ?_
  refine kv g0 (asg) ?_
  refine wk_end ?_
  refine ac_next ?_
  refine aw_ret ?_
  obtain rfl := Option.some.inj H
  exact acr hE [.tmp 6] (.tmp .nil) (.one _) [] 9999
 rw [if_neg c1] at H
 refine kx (hT (decide_eq_false c1)) ?_
 refine kx (hT (decide_eq_false c1)) ?_
 refine kx (hT (decide_eq_false c1)) ?_
 refine kv g0 (pkF (decide_eq_false c1)) ?_
 refine kv g0 (asg) ?_
 refine wk_end ?_
 refine ac_next ?_
 refine aw_ret ?_
 obtain rfl := Option.some.inj H
 exact acr hE [.tmp 6] (.tmp .nil) (.one _) [] 9999
/-! spec_HalfOk -/
def spec_HalfOk.f (a0 : Int) : Option (Bool) := (spec_l01In.f a0 0 4294967295).bind fun t1 => some t1
theorem spec_HalfOk.ok {a0 : Int} {r : Bool} (H : spec_HalfOk.f a0 = some r) : ACalls Try.prog 37 [] [.lit (.int .i64 a0)] [] (.lit (.bool r)) := by
 refine acalls (fn := Try.f37) (nt := 5) Try.func37 rfl rfl (Nat.le_of_ble_eq_true rfl) fun E hE => ?_
 rw [spec_HalfOk.f] at H
 refine aw_grp1 ?_
 refine wk_start ?_
 refine kv g0 (asg) ?_
 refine wk_end ?_
 refine ac_next ?_
 refine aw_grp1 ?_
 refine wk_start ?_
 refine kv g0 (mv) ?_
 obtain ⟨t1, A2, H⟩ := of_bind H
 refine kcS0 4 (.lit (.bool t1)) [] g0 (cal (spec_l01In.ok A2) [] 9999 .n (hf := Try.func22)) rfl rfl ?_
 refine kv g0 (asg) ?_
 refine wk_end ?_
 refine ac_next ?_
 refine aw_ret ?_
 obtain rfl := Option.some.inj H
 exact acr hE [.tmp 2] (.tmp .nil) (.one _) [] 9999
/-! spec_WideOk -/
def spec_WideOk.f (a0_0 : Int) (a0_1 : Int) : Option (Bool) := (spec_HalfOk.f a0_0).bind fun t1 => (if t1 = true then ((spec_HalfOk.f a0_1).bind fun t4 => some t4) else some false)
theorem spec_WideOk.ok {a0_0 : Int} {a0_1 : Int} {r : Bool} (H : spec_WideOk.f a0_0 a0_1 = some r) : ACalls Try.prog 73 [] [.agg [.lit (.int .i64 a0_0), .lit (.int .i64 a0_1)]] [] (.lit (.bool r)) := by
 refine acalls (fn := Try.f73) (nt := 11) Try.func73 rfl rfl (Nat.le_of_ble_eq_true rfl) fun E hE => ?_
 rw [spec_WideOk.f] at H
 refine aw_grp1 ?_
 refine wk_start ?_
 refine kb g0 (bxA 0) ?_
 refine kv g0 (asg) ?_
 refine wk_end ?_
 refine ac_next ?_
 refine aw_grp1 ?_
 refine wk_start ?_
 refine kv g0 (faB 0 0) ?_
 refine kv g0 (ldB) ?_
 obtain ⟨t1, A2, H⟩ := of_bind H
 refine kcS0 5 (.lit (.bool t1)) [] g0 (cal (spec_HalfOk.ok A2) [] 9999 .n (hf := Try.func37)) rfl rfl ?_
 refine kv g0 (mv) ?_
 by_cases c3 : t1 = true
 ·rw [if_pos c3] at H
  refine kv (g1 c3) (faB 1 1) ?_
  refine kv (g1 c3) (ldB) ?_
  obtain ⟨t4, A5, H⟩ := of_bind H
  refine kcS0 9 (.lit (.bool t4)) [] (g1 c3) (cal (spec_HalfOk.ok A5) [] 9999 .n (hf := Try.func37)) rfl rfl ?_
  refine kv g0 (pkT c3) ?_
  refine kv g0 (asg) ?_
  refine wk_end ?_
  refine ac_next ?_
  refine aw_ret ?_
  obtain rfl := Option.some.inj H
  exact acr hE [.tmp 2] (.tmp .nil) (.one _) [] 9999
 rw [if_neg c3] at H
 refine kx (hT (bF c3)) ?_
 refine kx (hT (bF c3)) ?_
 refine kx (hT (bF c3)) ?_
 refine kv g0 (pkF (bF c3)) ?_
 refine kv g0 (asg) ?_
 refine wk_end ?_
 refine ac_next ?_
 refine aw_ret ?_
 obtain rfl := Option.some.inj H
 exact acr hE [.tmp 2] (.tmp .nil) (.one _) [] 9999
/-! spec_CondOk -/
def spec_CondOk.f (a0_0 : Int) (a0_1 : Int) (a0_2 : Int) (a0_3 : Int) (a0_4 : Int) (a0_5 : Int) : Option (Bool) := (spec_l01In.f a0_0 0 2).bind fun t1 => (if t1 = true then ((spec_WideOk.f a0_1 a0_2).bind fun t4 => (if t4 = true then ((spec_WideOk.f a0_4 a0_5).bind fun t7 => (if t7 = true then ((spec_l01In.f a0_3 1 6).bind fun t10 => some t10) else some false)) else some false)) else some false)
theorem spec_CondOk.ok {a0_0 : Int} {a0_1 : Int} {a0_2 : Int} {a0_3 : Int} {a0_4 : Int} {a0_5 : Int} {r : Bool} (H : spec_CondOk.f a0_0 a0_1 a0_2 a0_3 a0_4 a0_5 = some r) : ACalls Try.prog 61 [] [.agg [.lit (.int .i64 a0_0), .lit (.int .i64 a0_1), .lit (.int .i64 a0_2), .lit (.int .i64 a0_3), .lit (.int .i64 a0_4), .lit (.int .i64 a0_5)]] [] (.lit (.bool r)) := by
 refine acalls (fn := Try.f61) (nt := 21) Try.func61 rfl rfl (Nat.le_of_ble_eq_true rfl) fun E hE => ?_
 rw [spec_CondOk.f] at H
 refine aw_grp1 ?_
 refine wk_start ?_
 refine kb g0 (bxA 0) ?_
 refine kv g0 (asg) ?_
 refine wk_end ?_
 refine ac_next ?_
 refine aw_grp1 ?_
 refine wk_start ?_
 refine kv g0 (faB 0 0) ?_
 refine kv g0 (ldB) ?_
 obtain ⟨t1, A2, H⟩ := of_bind H
 refine kcS0 5 (.lit (.bool t1)) [] g0 (cal (spec_l01In.ok A2) [] 9999 .n (hf := Try.func22)) rfl rfl ?_
 refine kv g0 (mv) ?_
 by_cases c3 : t1 = true
 ·rw [if_pos c3] at H
  refine kv (g1 c3) (faB 1 1) ?_
  refine kv (g1 c3) (ldBA 2 [.lit (.int .i64 a0_1), .lit (.int .i64 a0_2)]) ?_
  obtain ⟨t4, A5, H⟩ := of_bind H
  refine kcS0 9 (.lit (.bool t4)) [] (g1 c3) (cal (spec_WideOk.ok A5) [] 9999 .n (hf := Try.func73)) rfl rfl ?_
  refine kv g0 (pkT c3) ?_
  refine kv g0 (mv) ?_
  by_cases c6 : t4 = true
  ·rw [if_pos c6] at H
   refine kv (g1 c6) (faB 4 4) ?_
   refine kv (g1 c6) (ldBA 2 [.lit (.int .i64 a0_4), .lit (.int .i64 a0_5)]) ?_
   obtain ⟨t7, A8, H⟩ := of_bind H
   refine kcS0 14 (.lit (.bool t7)) [] (g1 c6) (cal (spec_WideOk.ok A8) [] 9999 .n (hf := Try.func73)) rfl rfl ?_
   refine kv g0 (pkT c6) ?_
   refine kv g0 (mv) ?_
   by_cases c9 : t7 = true
   ·rw [if_pos c9] at H
    refine kv (g1 c9) (faB 3 3) ?_
    refine kv (g1 c9) (ldB) ?_
    obtain ⟨t10, A11, H⟩ := of_bind H
    refine kcS0 19 (.lit (.bool t10)) [] (g1 c9) (cal (spec_l01In.ok A11) [] 9999 .n (hf := Try.func22)) rfl rfl ?_
    refine kv g0 (pkT c9) ?_
    refine kv g0 (asg) ?_
    refine wk_end ?_
    refine ac_next ?_
    refine aw_ret ?_
    obtain rfl := Option.some.inj H
    exact acr hE [.tmp 2] (.tmp .nil) (.one _) [] 9999
   rw [if_neg c9] at H
   refine kx (hT (bF c9)) ?_
   refine kx (hT (bF c9)) ?_
   refine kx (hT (bF c9)) ?_
   refine kv g0 (pkF (bF c9)) ?_
   refine kv g0 (asg) ?_
   refine wk_end ?_
   refine ac_next ?_
   refine aw_ret ?_
   obtain rfl := Option.some.inj H
   exact acr hE [.tmp 2] (.tmp .nil) (.one _) [] 9999
  rw [if_neg c6] at H
  refine kx (hT (bF c6)) ?_
  refine kx (hT (bF c6)) ?_
  refine kx (hT (bF c6)) ?_
  refine kv g0 (pkF (bF c6)) ?_
  refine kv g0 (mv) ?_
  refine kx (hT rfl) ?_
  refine kx (hT rfl) ?_
  refine kx (hT rfl) ?_
  refine kv g0 (pkF rfl) ?_
  refine kv g0 (asg) ?_
  refine wk_end ?_
  refine ac_next ?_
  refine aw_ret ?_
  obtain rfl := Option.some.inj H
  exact acr hE [.tmp 2] (.tmp .nil) (.one _) [] 9999
 rw [if_neg c3] at H
 refine kx (hT (bF c3)) ?_
 refine kx (hT (bF c3)) ?_
 refine kx (hT (bF c3)) ?_
 refine kv g0 (pkF (bF c3)) ?_
 refine kv g0 (mv) ?_
 refine kx (hT rfl) ?_
 refine kx (hT rfl) ?_
 refine kx (hT rfl) ?_
 refine kv g0 (pkF rfl) ?_
 refine kv g0 (mv) ?_
 refine kx (hT rfl) ?_
 refine kx (hT rfl) ?_
 refine kx (hT rfl) ?_
 refine kv g0 (pkF rfl) ?_
 refine kv g0 (asg) ?_
 refine wk_end ?_
 refine ac_next ?_
 refine aw_ret ?_
 obtain rfl := Option.some.inj H
 exact acr hE [.tmp 2] (.tmp .nil) (.one _) [] 9999
/-! spec_l09Act -/
def spec_l09Act.f (a0 : Int) (a1 : Int) : Option (Bool) := (spec_l01In.f a0 0 5).bind fun t1 => (if t1 = true then ((spec_l01In.f a1 0 65535).bind fun t4 => some t4) else some false)
theorem spec_l09Act.ok {a0 : Int} {a1 : Int} {r : Bool} (H : spec_l09Act.f a0 a1 = some r) : ACalls Try.prog 38 [] [.lit (.int .i64 a0), .lit (.int .i64 a1)] [] (.lit (.bool r)) := by
 refine acalls (fn := Try.f38) (nt := 11) Try.func38 rfl rfl (Nat.le_of_ble_eq_true rfl) fun E hE => ?_
 rw [spec_l09Act.f] at H
 refine aw_grp1 ?_
 refine wk_start ?_
 refine kv g0 (asg) ?_
 refine wk_end ?_
 refine ac_next ?_
 refine aw_grp1 ?_
 refine wk_start ?_
 refine kv g0 (mv) ?_
 obtain ⟨t1, A2, H⟩ := of_bind H
 refine kcS0 6 (.lit (.bool t1)) [] g0 (cal (spec_l01In.ok A2) [] 9999 .n (hf := Try.func22)) rfl rfl ?_
 refine kv g0 (mv) ?_
 by_cases c3 : t1 = true
 ·rw [if_pos c3] at H
  refine kv (g1 c3) (mv) ?_
  obtain ⟨t4, A5, H⟩ := of_bind H
  refine kcS0 9 (.lit (.bool t4)) [] (g1 c3) (cal (spec_l01In.ok A5) [] 9999 .n (hf := Try.func22)) rfl rfl ?_
  refine kv g0 (pkT c3) ?_
  refine kv g0 (asg) ?_
  refine wk_end ?_
  refine ac_next ?_
  refine aw_ret ?_
  obtain rfl := Option.some.inj H
  exact acr hE [.tmp 4] (.tmp .nil) (.one _) [] 9999
 rw [if_neg c3] at H
 refine kx (hT (bF c3)) ?_
 refine kx (hT (bF c3)) ?_
 refine kv g0 (pkF (bF c3)) ?_
 refine kv g0 (asg) ?_
 refine wk_end ?_
 refine ac_next ?_
 refine aw_ret ?_
 obtain rfl := Option.some.inj H
 exact acr hE [.tmp 4] (.tmp .nil) (.one _) [] 9999
/-! spec_l09Rule -/
mutual
def spec_l09Rule.l0 : Nat → (List Int) → (List S94) → Int → Int → Int → Option (Bool)
 | 0, _, _, _, _, _ => none
 | k7 + 1, l0_0, l0_1, a0_2, a0_3, p6 => if p6 < (l0_0.length : Int) then if 0 ≤ p6 then ((spec_HalfOk.f (rd l0_0 p6)).bind fun t10 => (if t10 = true then (if p6 > 0 then (if 0 ≤ (wrap64 (p6 - 1)) then (if (wrap64 (p6 - 1)) < (l0_0.length : Int) then if (rd l0_0 (wrap64 (p6 - 1))) ≥ (rd l0_0 p6) then some false else spec_l09Rule.l0 k7 l0_0 l0_1 a0_2 a0_3 (wrap64 (p6 + 1)) else none) else none) else spec_l09Rule.l0 k7 l0_0 l0_1 a0_2 a0_3 (wrap64 (p6 + 1))) else some false)) else none else spec_l09Rule.l1 k7 l0_0 l0_1 a0_2 a0_3 0
def spec_l09Rule.l1 : Nat → (List Int) → (List S94) → Int → Int → Int → Option (Bool)
 | 0, _, _, _, _, _ => none
 | k25 + 1, l0_0, l0_1, a0_2, a0_3, p24 => if p24 < (l0_1.length : Int) then if 0 ≤ p24 then ((spec_CondOk.f ((rd_T94 l0_1 p24).f0) ((rd_T94 l0_1 p24).f1.f0) ((rd_T94 l0_1 p24).f1.f1) ((rd_T94 l0_1 p24).f2) ((rd_T94 l0_1 p24).f3.f0) ((rd_T94 l0_1 p24).f3.f1)).bind fun t28 => if t28 = true then spec_l09Rule.l1 k25 l0_0 l0_1 a0_2 a0_3 (wrap64 (p24 + 1)) else some false) else none else if (l0_0.length : Int) ≤ 4 then (if (l0_1.length : Int) ≤ 3 then ((spec_l09Act.f a0_2 a0_3).bind fun t35 => some t35) else some false) else some false
end
def spec_l09Rule.f (k : Nat) (l0_0 : List Int) (l0_1 : List S94) (a0_2 : Int) (a0_3 : Int) : Option (Bool) := spec_l09Rule.l0 k l0_0 l0_1 a0_2 a0_3 0
theorem spec_l09Rule.ok {k : Nat} {l0_0 : List Int} {l0_1 : List S94} {a0_2 : Int} {a0_3 : Int} {r : Bool} (H : spec_l09Rule.f k l0_0 l0_1 a0_2 a0_3 = some r) : ACalls Try.prog 36 [] [.agg [.sl .o 1 (l0_0.map (eI .i64)), .sl .o 6 (l0_1.map e94), .lit (.int .i64 a0_2), .lit (.int .i64 a0_3)]] [] (.lit (.bool r)) := by
 refine acalls (fn := Try.f36) (nt := 68) Try.func36 rfl rfl (Nat.le_of_ble_eq_true rfl) fun E hE => ?_
 rw [spec_l09Rule.f] at H
 refine aw_grp1 ?_
 refine wk_start ?_
 refine kb g0 (bxA 0) ?_
 refine kv g0 (asg) ?_
 refine wk_end ?_
 refine ac_next ?_
 refine aw_grp1 ?_
 refine aw_grp1 ?_
 refine wk_start ?_
 refine kv g0 (asg) ?_
 refine wk_end ?_
 refine ac_next ?_
 refine aw_block ?_
 refine aw_loop1 (fun (k_ : Nat) (p6 : Int) => k_ ≤ k ∧ spec_l09Rule.l0 k_ l0_0 l0_1 a0_2 a0_3 p6 = some r) (fun (p6 : Int) => ⟨[(1, .box 0 0), (3, .lit (.int .i64 p6))], [(0, .box 67 [.sl .o 1 (l0_0.map (eI .i64)), .sl .o 6 (l0_1.map e94), .lit (.int .i64 a0_2), .lit (.int .i64 a0_3)])]⟩) k 0 ⟨Nat.le_refl _, H⟩ (fun K_ h_ => acw hE [(0, 0)] 9999 h_) (fun _ => by intro h_; have h_ := h_.2; rw [spec_l09Rule.l0.eq_1] at h_; cases h_) ?_
 intro k7 p6 hq_ K17 hK18
 have hk7 := hq_.1
 have H := hq_.2
 clear hq_
 rw [spec_l09Rule.l0.eq_2] at H
 refine aw_grp1 ?_
 refine aw_grp1 ?_
 refine wk_start ?_
 refine kv g0 (mv) ?_
 refine kv g0 (faB 0 0) ?_
 refine kv g0 (ldB) ?_
 refine kv g0 (lnS lenE) ?_
 refine kv g0 (lss) ?_
 refine wk_end ?_
 refine ac_next ?_
 by_cases c8 : p6 < (l0_0.length : Int)
 ·rw [if_pos c8] at H
  refine aw_ifT ?_ (decide_eq_true c8)
  refine aw_skip ?_
  refine ac_next ?_
  refine aw_grp1 ?_
  refine aw_block ?_
  refine aw_grp1 ?_
  refine wk_start ?_
  refine kv g0 (faB 0 0) ?_
  refine kv g0 (ldB) ?_
  refine kv g0 (mv) ?_
  obtain ⟨c9, H⟩ := of_if H
  refine kv g0 (ixS 3 (eI .i64 (rd l0_0 p6)) c9 (getE (z := (0 : Int)) c9 c8)) ?_
  refine kv g0 (ldR (.lit (.int .i64 (rd l0_0 p6)))) ?_
  obtain ⟨t10, A11, H⟩ := of_bind H
  refine kcS0 17 (.lit (.bool t10)) [] g0 (cal (spec_HalfOk.ok A11) [] 9999 .n (hf := Try.func37)) rfl rfl ?_
  refine kv g0 (not_) ?_
  refine kv g0 (mv) ?_
  by_cases c12 : t10 = true
  ·rw [if_pos c12] at H
   refine kv (g1 (nF c12)) (mv) ?_
   refine kv (g1 (nF c12)) (gtr) ?_
   refine kv (g1 (nF c12)) (mv) ?_
   by_cases c13 : p6 > 0
   ·rw [if_pos c13] at H
    refine kv (g1 (decide_eq_true c13)) (faB 0 0) ?_
    refine kv (g1 (decide_eq_true c13)) (ldB) ?_
    refine kv (g1 (decide_eq_true c13)) (mv) ?_
    refine kv (g1 (decide_eq_true c13)) (sub6) ?_
    obtain ⟨c14, H⟩ := of_if H
    obtain ⟨c15, H⟩ := of_if H
    refine kv (g1 (decide_eq_true c13)) (ixS 3 (eI .i64 (rd l0_0 (wrap64 (p6 - 1)))) c14 (getE (z := (0 : Int)) c14 c15)) ?_
    refine kv (g1 (decide_eq_true c13)) (ldR (.lit (.int .i64 (rd l0_0 (wrap64 (p6 - 1)))))) ?_
    refine kv (g1 (decide_eq_true c13)) (faB 0 0) ?_
    refine kv (g1 (decide_eq_true c13)) (ldB) ?_
    refine kv (g1 (decide_eq_true c13)) (mv) ?_
    refine kv (g1 (decide_eq_true c13)) (ixS 3 (eI .i64 (rd l0_0 p6)) c9 (getE (z := (0 : Int)) c9 c8)) ?_
    refine kv (g1 (decide_eq_true c13)) (ldR (.lit (.int .i64 (rd l0_0 p6)))) ?_
    refine kv (g1 (decide_eq_true c13)) (geq) ?_
    refine kv (g1 (nF c12)) (pkT (decide_eq_true c13)) ?_
    refine kv g0 (pkF (nF c12)) ?_
    refine wk_end_draw hM (by kernel_rfl) ?_
    refine ac_next ?_
    by_cases c16 : (rd l0_0 (wrap64 (p6 - 1))) ≥ (rd l0_0 p6)
    ·rw [if_pos c16] at H
     refine aw_ifT ?_ (decide_eq_true c16)
     refine aw_grp1 ?_
     refine wk_start ?_
     refine kv g0 (asg) ?_
     refine wk_end ?_
     refine ac_next ?_
     refine aw_ret ?_
     refine ac_blkR ?_
     refine ac_thenR ?_
     refine ac_thenR ?_
     refine ac_blkR ?_
     refine ac_thenR ?_
     obtain rfl := Option.some.inj H
     exact acr hE [.tmp 2] (.tmp .nil) (.one _) [] 9999
    rw [if_neg c16] at H
    refine aw_ifF ?_ (decide_eq_false c16)
    refine aw_skip ?_
    refine ac_blkN ?_
    refine ac_next ?_
    refine wk_start ?_
    refine kv g0 (mv) ?_
    refine kv g0 (add6) ?_
    refine kv g0 (asg) ?_
    refine wk_end ?_
    refine ac_k ?_
    exact acw hE [(0, 0)] 9999 (hK18 k7 (wrap64 (p6 + 1)) (Nat.le_refl _) ⟨by omega, H⟩)
   rw [if_neg c13] at H
   refine kx (hT (decide_eq_false c13)) ?_
   refine kx (hT (decide_eq_false c13)) ?_
   refine kx (hT (decide_eq_false c13)) ?_
   refine kx (hT (decide_eq_false c13)) ?_
   refine kx (hT (decide_eq_false c13)) ?_
   refine kx (hT (decide_eq_false c13)) ?_
   refine kx (hT (decide_eq_false c13)) ?_
   refine kx (hT (decide_eq_false c13)) ?_
   refine kx (hT (decide_eq_false c13)) ?_
   refine kx (hT (decide_eq_false c13)) ?_
   refine kx (hT (decide_eq_false c13)) ?_
   refine kx (hT (decide_eq_false c13)) ?_
   refine kv (g1 (nF c12)) (pkF (decide_eq_false c13)) ?_
   refine kv g0 (pkF (nF c12)) ?_
   refine wk_end_draw hM (by kernel_rfl) ?_
   refine ac_next ?_
   refine aw_ifF ?_ rfl
   refine aw_skip ?_
   refine ac_blkN ?_
   refine ac_next ?_
   refine wk_start ?_
   refine kv g0 (mv) ?_
   refine kv g0 (add6) ?_
   refine kv g0 (asg) ?_
   refine wk_end ?_
   refine ac_k ?_
   exact acw hE [(0, 0)] 9999 (hK18 k7 (wrap64 (p6 + 1)) (Nat.le_refl _) ⟨by omega, H⟩)
  rw [if_neg c12] at H
  refine kx (hF (nT (bF c12))) ?_
  refine kx (hF (nT (bF c12))) ?_
  refine ku (neT (hF (nT (bF c12)))) ?_
  refine ku neU ?_
  refine ku neU ?_
  refine ku neU ?_
  refine ku neU ?_
  refine ku neU ?_
  refine ku neU ?_
  refine ku neU ?_
  refine ku neU ?_
  refine ku neU ?_
  refine ku neU ?_
  refine ku neU ?_
  refine ku neU ?_
  refine kx (hF (nT (bF c12))) ?_
  refine kv g0 (pkT (nT (bF c12))) ?_
  refine wk_end_draw hM (by kernel_rfl) ?_
  refine ac_next ?_
  refine aw_ifT ?_ rfl
  refine aw_grp1 ?_
  refine wk_start ?_
  refine kv g0 (asg) ?_
  refine wk_end ?_
  refine ac_next ?_
  refine aw_ret ?_
  refine ac_blkR ?_
  refine ac_thenR ?_
  refine ac_thenR ?_
  refine ac_blkR ?_
  refine ac_thenR ?_
  obtain rfl := Option.some.inj H
  exact acr hE [.tmp 2] (.tmp .nil) (.one _) [] 9999
 rw [if_neg c8] at H
 refine aw_ifF ?_ (decide_eq_false c8)
 refine aw_exit ?_
 refine ac_then ?_
 refine ac_then ?_
 refine ac_hit rfl ?_
 refine ac_next ?_
 refine aw_grp1 ?_
 refine aw_grp1 ?_
 refine wk_start ?_
 refine kv g0 (asg) ?_
 refine wk_end ?_
 refine ac_next ?_
 refine aw_block ?_
 refine aw_loop1 (fun (k_ : Nat) (p24 : Int) => k_ ≤ k7 ∧ spec_l09Rule.l1 k_ l0_0 l0_1 a0_2 a0_3 p24 = some r) (fun (p24 : Int) => ⟨[(1, .box 0 0), (4, .lit (.int .i64 p24))], [(0, .box 67 [.sl .o 1 (l0_0.map (eI .i64)), .sl .o 6 (l0_1.map e94), .lit (.int .i64 a0_2), .lit (.int .i64 a0_3)])]⟩) k7 0 ⟨Nat.le_refl _, H⟩ (fun K_ h_ => acw hE [(0, 0)] 9999 h_) (fun _ => by intro h_; have h_ := h_.2; rw [spec_l09Rule.l1.eq_1] at h_; cases h_) ?_
 intro k25 p24 hq_ K31 hK32
 have hk25 := hq_.1
 have H := hq_.2
 clear hq_
 rw [spec_l09Rule.l1.eq_2] at H
 refine aw_grp1 ?_
 refine aw_grp1 ?_
 refine wk_start ?_
 refine kv g0 (mv) ?_
 refine kv g0 (faB 1 1) ?_
 refine kv g0 (ldB) ?_
 refine kv g0 (lnS lenE) ?_
 refine kv g0 (lss) ?_
 refine wk_end ?_
 refine ac_next ?_
 by_cases c26 : p24 < (l0_1.length : Int)
 ·rw [if_pos c26] at H
  refine aw_ifT ?_ (decide_eq_true c26)
  refine aw_skip ?_
  refine ac_next ?_
  refine aw_grp1 ?_
  refine aw_block ?_
  refine aw_grp1 ?_
  refine wk_start ?_
  refine kv g0 (faB 1 1) ?_
  refine kv g0 (ldB) ?_
  refine kv g0 (mv) ?_
  obtain ⟨c27, H⟩ := of_if H
  refine kv g0 (ixS 94 (e94 (rd_T94 l0_1 p24)) c27 (getE (z := z94) c27 c26)) ?_
  refine kv g0 (ldRA 6 [.lit (.int .i64 ((rd_T94 l0_1 p24).f0)), .lit (.int .i64 ((rd_T94 l0_1 p24).f1.f0)), .lit (.int .i64 ((rd_T94 l0_1 p24).f1.f1)), .lit (.int .i64 ((rd_T94 l0_1 p24).f2)), .lit (.int .i64 ((rd_T94 l0_1 p24).f3.f0)), .lit (.int .i64 ((rd_T94 l0_1 p24).f3.f1))]) ?_
  obtain ⟨t28, A29, H⟩ := of_bind H
  refine kcS0 49 (.lit (.bool t28)) [] g0 (cal (spec_CondOk.ok A29) [] 9999 .n (hf := Try.func61)) rfl rfl ?_
  refine kv g0 (not_) ?_
  refine wk_end ?_
  refine ac_next ?_
  by_cases c30 : t28 = true
  ·rw [if_pos c30] at H
   refine aw_ifF ?_ (nF c30)
   refine aw_skip ?_
   refine ac_blkN ?_
   refine ac_next ?_
   refine wk_start ?_
   refine kv g0 (mv) ?_
   refine kv g0 (add6) ?_
   refine kv g0 (asg) ?_
   refine wk_end ?_
   refine ac_k ?_
   exact acw hE [(0, 0)] 9999 (hK32 k25 (wrap64 (p24 + 1)) (Nat.le_refl _) ⟨by omega, H⟩)
  rw [if_neg c30] at H
  refine aw_ifT ?_ (nT (bF c30))
  refine aw_grp1 ?_
  refine wk_start ?_
  refine kv g0 (asg) ?_
  refine wk_end ?_
  refine ac_next ?_
  refine aw_ret ?_
  refine ac_blkR ?_
  refine ac_thenR ?_
  refine ac_thenR ?_
  refine ac_blkR ?_
  refine ac_thenR ?_
  obtain rfl := Option.some.inj H
  exact acr hE [.tmp 2] (.tmp .nil) (.one _) [] 9999
 rw [if_neg c26] at H
 refine aw_ifF ?_ (decide_eq_false c26)
 refine aw_exit ?_
 refine ac_then ?_
 refine ac_then ?_
 refine ac_hit rfl ?_
 refine ac_next ?_
 refine aw_grp1 ?_
 refine wk_start ?_
 refine kv g0 (faB 0 0) ?_
 refine kv g0 (ldB) ?_
 refine kv g0 (lnS lenE) ?_
 refine kv g0 (leq) ?_
 refine kv g0 (mv) ?_
 by_cases c33 : (l0_0.length : Int) ≤ 4
 ·rw [if_pos c33] at H
  refine kv (g1 (decide_eq_true c33)) (faB 1 1) ?_
  refine kv (g1 (decide_eq_true c33)) (ldB) ?_
  refine kv (g1 (decide_eq_true c33)) (lnS lenE) ?_
  refine kv (g1 (decide_eq_true c33)) (leq) ?_
  refine kv g0 (pkT (decide_eq_true c33)) ?_
  refine kv g0 (mv) ?_
  by_cases c34 : (l0_1.length : Int) ≤ 3
  ·rw [if_pos c34] at H
   refine kv (g1 (decide_eq_true c34)) (faB 2 2) ?_
   refine kv (g1 (decide_eq_true c34)) (ldB) ?_
   refine kv (g1 (decide_eq_true c34)) (faB 3 3) ?_
   refine kv (g1 (decide_eq_true c34)) (ldB) ?_
   obtain ⟨t35, A36, H⟩ := of_bind H
   refine kcS0 66 (.lit (.bool t35)) [] (g1 (decide_eq_true c34)) (cal (spec_l09Act.ok A36) [] 9999 .n (hf := Try.func38)) rfl rfl ?_
   refine kv g0 (pkT (decide_eq_true c34)) ?_
   refine kv g0 (asg) ?_
   refine wk_end ?_
   refine ac_next ?_
   refine aw_ret ?_
   obtain rfl := Option.some.inj H
   exact acr hE [.tmp 2] (.tmp .nil) (.one _) [] 9999
  rw [if_neg c34] at H
  refine kx (hT (decide_eq_false c34)) ?_
  refine kx (hT (decide_eq_false c34)) ?_
  refine kx (hT (decide_eq_false c34)) ?_
  refine kx (hT (decide_eq_false c34)) ?_
  refine kx (hT (decide_eq_false c34)) ?_
  refine kv g0 (pkF (decide_eq_false c34)) ?_
  refine kv g0 (asg) ?_
  refine wk_end ?_
  refine ac_next ?_
  refine aw_ret ?_
  obtain rfl := Option.some.inj H
  exact acr hE [.tmp 2] (.tmp .nil) (.one _) [] 9999
 rw [if_neg c33] at H
 refine kx (hT (decide_eq_false c33)) ?_
 refine kx (hT (decide_eq_false c33)) ?_
 refine kx (hT (decide_eq_false c33)) ?_
 refine kx (hT (decide_eq_false c33)) ?_
 refine kv g0 (pkF (decide_eq_false c33)) ?_
 refine kv g0 (mv) ?_
 refine kx (hT rfl) ?_
 refine kx (hT rfl) ?_
 refine kx (hT rfl) ?_
 refine kx (hT rfl) ?_
 refine kx (hT rfl) ?_
 refine kv g0 (pkF rfl) ?_
 refine kv g0 (asg) ?_
 refine wk_end ?_
 refine ac_next ?_
 refine aw_ret ?_
 obtain rfl := Option.some.inj H
 exact acr hE [.tmp 2] (.tmp .nil) (.one _) [] 9999
/-! spec_PolicyOk -/
def spec_PolicyOk.l0 : Nat → Int → Int → Int → (List S67) → Int → Option (Bool)
 | 0, _, _, _, _, _ => none
 | k7 + 1, a0_0, a0_1, a0_2, l0_3, p6 => if p6 < (l0_3.length : Int) then if 0 ≤ p6 then ((spec_l09Rule.f k7 ((rd_T67 l0_3 p6).f0) ((rd_T67 l0_3 p6).f1) ((rd_T67 l0_3 p6).f2) ((rd_T67 l0_3 p6).f3)).bind fun t10 => if t10 = true then spec_PolicyOk.l0 k7 a0_0 a0_1 a0_2 l0_3 (wrap64 (p6 + 1)) else some false) else none else (spec_HalfOk.f a0_0).bind fun t15 => (if t15 = true then ((spec_l09Act.f a0_1 a0_2).bind fun t18 => (if t18 = true then some (decide ((l0_3.length : Int) ≤ 10)) else some false)) else some false)
def spec_PolicyOk.f (k : Nat) (a0_0 : Int) (a0_1 : Int) (a0_2 : Int) (l0_3 : List S67) : Option (Bool) := spec_PolicyOk.l0 k a0_0 a0_1 a0_2 l0_3 0
theorem spec_PolicyOk.ok {k : Nat} {a0_0 : Int} {a0_1 : Int} {a0_2 : Int} {l0_3 : List S67} {r : Bool} (H : spec_PolicyOk.f k a0_0 a0_1 a0_2 l0_3 = some r) : ACalls Try.prog 19 [] [.agg [.lit (.int .i64 a0_0), .lit (.int .i64 a0_1), .lit (.int .i64 a0_2), .sl .o 4 (l0_3.map e67)]] [] (.lit (.bool r)) := by
 refine acalls (fn := Try.f19) (nt := 34) Try.func19 rfl rfl (Nat.le_of_ble_eq_true rfl) fun E hE => ?_
 rw [spec_PolicyOk.f] at H
 refine aw_grp1 ?_
 refine wk_start ?_
 refine kb g0 (bxA 0) ?_
 refine kv g0 (asg) ?_
 refine wk_end ?_
 refine ac_next ?_
 refine aw_grp1 ?_
 refine aw_grp1 ?_
 refine wk_start ?_
 refine kv g0 (asg) ?_
 refine wk_end ?_
 refine ac_next ?_
 refine aw_block ?_
 refine aw_loop1 (fun (k_ : Nat) (p6 : Int) => k_ ≤ k ∧ spec_PolicyOk.l0 k_ a0_0 a0_1 a0_2 l0_3 p6 = some r) (fun (p6 : Int) => ⟨[(1, .box 0 0), (3, .lit (.int .i64 p6))], [(0, .box 26 [.lit (.int .i64 a0_0), .lit (.int .i64 a0_1), .lit (.int .i64 a0_2), .sl .o 4 (l0_3.map e67)])]⟩) k 0 ⟨Nat.le_refl _, H⟩ (fun K_ h_ => acw hE [(0, 0)] 9999 h_) (fun _ => by intro h_; have h_ := h_.2; rw [spec_PolicyOk.l0.eq_1] at h_; cases h_) ?_
 intro k7 p6 hq_ K13 hK14
 have hk7 := hq_.1
 have H := hq_.2
 clear hq_
 rw [spec_PolicyOk.l0.eq_2] at H
 refine aw_grp1 ?_
 refine aw_grp1 ?_
 refine wk_start ?_
 refine kv g0 (mv) ?_
 refine kv g0 (faB 3 3) ?_
 refine kv g0 (ldB) ?_
 refine kv g0 (lnS lenE) ?_
 refine kv g0 (lss) ?_
 refine wk_end ?_
 refine ac_next ?_
 by_cases c8 : p6 < (l0_3.length : Int)
 ·rw [if_pos c8] at H
  refine aw_ifT ?_ (decide_eq_true c8)
  refine aw_skip ?_
  refine ac_next ?_
  refine aw_grp1 ?_
  refine aw_block ?_
  refine aw_grp1 ?_
  refine wk_start ?_
  refine kv g0 (faB 3 3) ?_
  refine kv g0 (ldB) ?_
  refine kv g0 (mv) ?_
  obtain ⟨c9, H⟩ := of_if H
  refine kv g0 (ixS 67 (e67 (rd_T67 l0_3 p6)) c9 (getE (z := z67) c9 c8)) ?_
  refine kv g0 (ldRA 4 [.sl .o 1 (((rd_T67 l0_3 p6).f0).map (eI .i64)), .sl .o 6 (((rd_T67 l0_3 p6).f1).map e94), .lit (.int .i64 ((rd_T67 l0_3 p6).f2)), .lit (.int .i64 ((rd_T67 l0_3 p6).f3))]) ?_
  obtain ⟨t10, A11, H⟩ := of_bind H
  refine kcS0 16 (.lit (.bool t10)) [] g0 (cal (spec_l09Rule.ok A11) [] 9999 .n (hf := Try.func36)) rfl rfl ?_
  refine kv g0 (not_) ?_
  refine wk_end ?_
  refine ac_next ?_
  by_cases c12 : t10 = true
  ·rw [if_pos c12] at H
   refine aw_ifF ?_ (nF c12)
   refine aw_skip ?_
   refine ac_blkN ?_
   refine ac_next ?_
   refine wk_start ?_
   refine kv g0 (mv) ?_
   refine kv g0 (add6) ?_
   refine kv g0 (asg) ?_
   refine wk_end ?_
   refine ac_k ?_
   exact acw hE [(0, 0)] 9999 (hK14 k7 (wrap64 (p6 + 1)) (Nat.le_refl _) ⟨by omega, H⟩)
  rw [if_neg c12] at H
  refine aw_ifT ?_ (nT (bF c12))
  refine aw_grp1 ?_
  refine wk_start ?_
  refine kv g0 (asg) ?_
  refine wk_end ?_
  refine ac_next ?_
  refine aw_ret ?_
  refine ac_blkR ?_
  refine ac_thenR ?_
  refine ac_thenR ?_
  refine ac_blkR ?_
  refine ac_thenR ?_
  obtain rfl := Option.some.inj H
  exact acr hE [.tmp 2] (.tmp .nil) (.one _) [] 9999
 rw [if_neg c8] at H
 refine aw_ifF ?_ (decide_eq_false c8)
 refine aw_exit ?_
 refine ac_then ?_
 refine ac_then ?_
 refine ac_hit rfl ?_
 refine ac_next ?_
 refine aw_grp1 ?_
 refine wk_start ?_
 refine kv g0 (faB 0 0) ?_
 refine kv g0 (ldB) ?_
 obtain ⟨t15, A16, H⟩ := of_bind H
 refine kcS0 20 (.lit (.bool t15)) [] g0 (cal (spec_HalfOk.ok A16) [] 9999 .n (hf := Try.func37)) rfl rfl ?_
 refine kv g0 (mv) ?_
 by_cases c17 : t15 = true
 ·rw [if_pos c17] at H
  refine kv (g1 c17) (faB 1 1) ?_
  refine kv (g1 c17) (ldB) ?_
  refine kv (g1 c17) (faB 2 2) ?_
  refine kv (g1 c17) (ldB) ?_
  obtain ⟨t18, A19, H⟩ := of_bind H
  refine kcS0 26 (.lit (.bool t18)) [] (g1 c17) (cal (spec_l09Act.ok A19) [] 9999 .n (hf := Try.func38)) rfl rfl ?_
  refine kv g0 (pkT c17) ?_
  refine kv g0 (mv) ?_
  by_cases c20 : t18 = true
  ·rw [if_pos c20] at H
   refine kv (g1 c20) (faB 3 3) ?_
   refine kv (g1 c20) (ldB) ?_
   refine kv (g1 c20) (lnS lenE) ?_
   refine kv (g1 c20) (leq) ?_
   refine kv g0 (pkT c20) ?_
   refine kv g0 (asg) ?_
   refine wk_end ?_
   refine ac_next ?_
   refine aw_ret ?_
   obtain rfl := Option.some.inj H
   exact acr hE [.tmp 2] (.tmp .nil) (.one _) [] 9999
  rw [if_neg c20] at H
  refine kx (hT (bF c20)) ?_
  refine kx (hT (bF c20)) ?_
  refine kx (hT (bF c20)) ?_
  refine kx (hT (bF c20)) ?_
  refine kv g0 (pkF (bF c20)) ?_
  refine kv g0 (asg) ?_
  refine wk_end ?_
  refine ac_next ?_
  refine aw_ret ?_
  obtain rfl := Option.some.inj H
  exact acr hE [.tmp 2] (.tmp .nil) (.one _) [] 9999
 rw [if_neg c17] at H
 refine kx (hT (bF c17)) ?_
 refine kx (hT (bF c17)) ?_
 refine kx (hT (bF c17)) ?_
 refine kx (hT (bF c17)) ?_
 refine kx (hT (bF c17)) ?_
 refine kv g0 (pkF (bF c17)) ?_
 refine kv g0 (mv) ?_
 refine kx (hT rfl) ?_
 refine kx (hT rfl) ?_
 refine kx (hT rfl) ?_
 refine kx (hT rfl) ?_
 refine kv g0 (pkF rfl) ?_
 refine kv g0 (asg) ?_
 refine wk_end ?_
 refine ac_next ?_
 refine aw_ret ?_
 obtain rfl := Option.some.inj H
 exact acr hE [.tmp 2] (.tmp .nil) (.one _) [] 9999
/-! spec_l11Word -/
def spec_l11Word.f (a0 : Int) (a1 : Int) : Option (ByteArray × Int × Int × Int × Int × ByteArray × ByteArray) := some (ByteArray.empty, a0, a1, 0, 0, ByteArray.empty, ByteArray.empty)
theorem spec_l11Word.ok {a0 : Int} {a1 : Int} {r : ByteArray × Int × Int × Int × Int × ByteArray × ByteArray} (H : spec_l11Word.f a0 a1 = some r) : ACalls Try.prog 39 [] [.lit (.int .i64 a0), .lit (.int .i64 a1)] [] (.agg [.lit (.string r.1), .lit (.int .i64 r.2.1), .lit (.int .i64 r.2.2.1), .lit (.int .i64 r.2.2.2.1), .lit (.int .i64 r.2.2.2.2.1), .lit (.string r.2.2.2.2.2.1), .lit (.string r.2.2.2.2.2.2)]) := by
 refine acalls (fn := Try.f39) (nt := 9) Try.func39 rfl rfl (Nat.le_of_ble_eq_true rfl) fun E hE => ?_
 rw [spec_l11Word.f] at H
 refine aw_grp1 ?_
 refine wk_start ?_
 refine kb g0 (alc 0 [.string .empty, .int .i64 0, .int .i64 0, .int .i64 0, .int .i64 0, .string .empty, .string .empty] [.lit (.string ByteArray.empty), .lit (.int .i64 0), .lit (.int .i64 0), .lit (.int .i64 0), .lit (.int .i64 0), .lit (.string ByteArray.empty), .lit (.string ByteArray.empty)]) ?_
 refine wk_end ?_
 refine ac_next ?_
 refine aw_grp1 ?_
 refine wk_start ?_
 refine kv g0 (mv) ?_
 refine kv g0 (mv) ?_
 refine kv g0 (bld [(0, 1), (1, 1), (2, 1), (3, 1)] [.int .i64 0, .int .i64 0, .int .i64 0, .int .i64 0] [.lit (.int .i64 a0), .lit (.int .i64 a1), .lit (.int .i64 0), .lit (.int .i64 0)]) ?_
 refine kv g0 (bld [(0, 1), (1, 4), (5, 1), (6, 1)] [.string .empty, .int .i64 0, .int .i64 0, .int .i64 0, .int .i64 0, .string .empty, .string .empty] [.lit (.string ByteArray.empty), .lit (.int .i64 a0), .lit (.int .i64 a1), .lit (.int .i64 0), .lit (.int .i64 0), .lit (.string ByteArray.empty), .lit (.string ByteArray.empty)]) ?_
 refine ks g0 (stB 7 [.lit (.string ByteArray.empty), .lit (.int .i64 a0), .lit (.int .i64 a1), .lit (.int .i64 0), .lit (.int .i64 0), .lit (.string ByteArray.empty), .lit (.string ByteArray.empty)]) ?_
 refine wk_end ?_
 refine ac_next ?_
 refine aw_ret ?_
 obtain rfl := Option.some.inj H
 exact acr hE [.cell 4 76] (rcA 7 .nil) (.one _) [] 9999
/-! spec_l11Asks -/
def spec_l11Asks.f (a0 : Int) (a1 : Int) (a2 : ByteArray) (a3 : ByteArray) : Option (ByteArray × Int × Int × Int × Int × ByteArray × ByteArray) := some (ByteArray.empty, a0, a1, 0, 0, a2, a3)
theorem spec_l11Asks.ok {a0 : Int} {a1 : Int} {a2 : ByteArray} {a3 : ByteArray} {r : ByteArray × Int × Int × Int × Int × ByteArray × ByteArray} (H : spec_l11Asks.f a0 a1 a2 a3 = some r) : ACalls Try.prog 40 [] [.lit (.int .i64 a0), .lit (.int .i64 a1), .lit (.string a2), .lit (.string a3)] [] (.agg [.lit (.string r.1), .lit (.int .i64 r.2.1), .lit (.int .i64 r.2.2.1), .lit (.int .i64 r.2.2.2.1), .lit (.int .i64 r.2.2.2.2.1), .lit (.string r.2.2.2.2.2.1), .lit (.string r.2.2.2.2.2.2)]) := by
 refine acalls (fn := Try.f40) (nt := 15) Try.func40 rfl rfl (Nat.le_of_ble_eq_true rfl) fun E hE => ?_
 rw [spec_l11Asks.f] at H
 refine aw_grp1 ?_
 refine wk_start ?_
 refine kb g0 (alc 0 [.string .empty, .int .i64 0, .int .i64 0, .int .i64 0, .int .i64 0, .string .empty, .string .empty] [.lit (.string ByteArray.empty), .lit (.int .i64 0), .lit (.int .i64 0), .lit (.int .i64 0), .lit (.int .i64 0), .lit (.string ByteArray.empty), .lit (.string ByteArray.empty)]) ?_
 refine wk_end ?_
 refine ac_next ?_
 refine aw_grp1 ?_
 refine wk_start ?_
 refine kv g0 (mv) ?_
 refine kv g0 (mv) ?_
 refine kv g0 (bld [(0, 1), (1, 1), (2, 1), (3, 1)] [.int .i64 0, .int .i64 0, .int .i64 0, .int .i64 0] [.lit (.int .i64 a0), .lit (.int .i64 a1), .lit (.int .i64 0), .lit (.int .i64 0)]) ?_
 refine kv g0 (mv) ?_
 refine kv g0 (mv) ?_
 refine kv g0 (bld [(0, 1), (1, 4), (5, 1), (6, 1)] [.string .empty, .int .i64 0, .int .i64 0, .int .i64 0, .int .i64 0, .string .empty, .string .empty] [.lit (.string ByteArray.empty), .lit (.int .i64 a0), .lit (.int .i64 a1), .lit (.int .i64 0), .lit (.int .i64 0), .lit (.string a2), .lit (.string a3)]) ?_
 refine ks g0 (stB 7 [.lit (.string ByteArray.empty), .lit (.int .i64 a0), .lit (.int .i64 a1), .lit (.int .i64 0), .lit (.int .i64 0), .lit (.string a2), .lit (.string a3)]) ?_
 refine wk_end ?_
 refine ac_next ?_
 refine aw_ret ?_
 obtain rfl := Option.some.inj H
 exact acr hE [.cell 8 76] (rcA 7 .nil) (.one _) [] 9999
/-! spec_l09In -/
def spec_l09In.l0 : Nat → (List Int) → Int → Int → Option (Bool)
 | 0, _, _, _ => none
 | k5 + 1, l0, a1, p4 => if p4 < (l0.length : Int) then if 0 ≤ p4 then if (rd l0 p4) = a1 then some true else spec_l09In.l0 k5 l0 a1 (wrap64 (p4 + 1)) else none else some false
def spec_l09In.f (k : Nat) (l0 : List Int) (a1 : Int) : Option (Bool) := spec_l09In.l0 k l0 a1 0
theorem spec_l09In.ok {k : Nat} {l0 : List Int} {a1 : Int} {r : Bool} (H : spec_l09In.f k l0 a1 = some r) : ACalls Try.prog 55 [] [.sl .o 1 (l0.map (eI .i64)), .lit (.int .i64 a1)] [] (.lit (.bool r)) := by
 refine acalls (fn := Try.f55) (nt := 18) Try.func55 rfl rfl (Nat.le_of_ble_eq_true rfl) fun E hE => ?_
 rw [spec_l09In.f] at H
 refine aw_grp1 ?_
 refine wk_start ?_
 refine kv g0 (asg) ?_
 refine wk_end ?_
 refine ac_next ?_
 refine aw_grp1 ?_
 refine aw_grp1 ?_
 refine wk_start ?_
 refine kv g0 (asg) ?_
 refine wk_end ?_
 refine ac_next ?_
 refine aw_block ?_
 refine aw_loop1 (fun (k_ : Nat) (p4 : Int) => k_ ≤ k ∧ spec_l09In.l0 k_ l0 a1 p4 = some r) (fun (p4 : Int) => ⟨[(0, .sl .o 1 (l0.map (eI .i64))), (1, .lit (.int .i64 a1)), (5, .lit (.int .i64 p4))], []⟩) k 0 ⟨Nat.le_refl _, H⟩ (fun K_ h_ => acw hE [] 9999 h_) (fun _ => by intro h_; have h_ := h_.2; rw [spec_l09In.l0.eq_1] at h_; cases h_) ?_
 intro k5 p4 hq_ K9 hK10
 have hk5 := hq_.1
 have H := hq_.2
 clear hq_
 rw [spec_l09In.l0.eq_2] at H
 refine aw_grp1 ?_
 refine aw_grp1 ?_
 refine wk_start ?_
 refine kv g0 (mv) ?_
 refine kv g0 (mv) ?_
 refine kv g0 (lnS lenE) ?_
 refine kv g0 (lss) ?_
 refine wk_end ?_
 refine ac_next ?_
 by_cases c6 : p4 < (l0.length : Int)
 ·rw [if_pos c6] at H
  refine aw_ifT ?_ (decide_eq_true c6)
  refine aw_skip ?_
  refine ac_next ?_
  refine aw_grp1 ?_
  refine aw_block ?_
  refine aw_grp1 ?_
  refine wk_start ?_
  refine kv g0 (mv) ?_
  refine kv g0 (mv) ?_
  obtain ⟨c7, H⟩ := of_if H
  refine kv g0 (ixS 3 (eI .i64 (rd l0 p4)) c7 (getE (z := (0 : Int)) c7 c6)) ?_
  refine kv g0 (ldR (.lit (.int .i64 (rd l0 p4)))) ?_
  refine kv g0 (mv) ?_
  refine kv g0 (eql) ?_
  refine wk_end ?_
  refine ac_next ?_
  by_cases c8 : (rd l0 p4) = a1
  ·rw [if_pos c8] at H
   refine aw_ifT ?_ (eT c8)
   refine aw_grp1 ?_
   refine wk_start ?_
   refine kv g0 (asg) ?_
   refine wk_end ?_
   refine ac_next ?_
   refine aw_ret ?_
   refine ac_blkR ?_
   refine ac_thenR ?_
   refine ac_thenR ?_
   refine ac_blkR ?_
   refine ac_thenR ?_
   obtain rfl := Option.some.inj H
   exact acr hE [.tmp 4] (.tmp .nil) (.one _) [] 9999
  rw [if_neg c8] at H
  refine aw_ifF ?_ (eF c8)
  refine aw_skip ?_
  refine ac_blkN ?_
  refine ac_next ?_
  refine wk_start ?_
  refine kv g0 (mv) ?_
  refine kv g0 (add6) ?_
  refine kv g0 (asg) ?_
  refine wk_end ?_
  refine ac_k ?_
  exact acw hE [] 9999 (hK10 k5 (wrap64 (p4 + 1)) (Nat.le_refl _) ⟨by omega, H⟩)
 rw [if_neg c6] at H
 refine aw_ifF ?_ (decide_eq_false c6)
 refine aw_exit ?_
 refine ac_then ?_
 refine ac_then ?_
 refine ac_hit rfl ?_
 refine ac_next ?_
 refine aw_grp1 ?_
 refine wk_start ?_
 refine kv g0 (asg) ?_
 refine wk_end ?_
 refine ac_next ?_
 refine aw_ret ?_
 obtain rfl := Option.some.inj H
 exact acr hE [.tmp 4] (.tmp .nil) (.one _) [] 9999
/-! spec_l10Put -/
mutual
def spec_l10Put.l0 : Nat → (List Int) → Int → (List Int) → Int → Option ((List Int))
 | 0, _, _, _, _ => none
 | k10 + 1, l0, a1, q8, p9 => if p9 < (l0.length : Int) then if 0 ≤ p9 then if (rd l0 p9) < a1 then (if q8.length + ([(rd l0 p9)] : List Int).length < 17592186044416 then spec_l10Put.l0 k10 l0 a1 (q8 ++ ([(rd l0 p9)] : List Int)) (wrap64 (p9 + 1)) else none) else spec_l10Put.l0 k10 l0 a1 q8 (wrap64 (p9 + 1)) else none else if q8.length + ([a1] : List Int).length < 17592186044416 then spec_l10Put.l1 k10 l0 a1 (q8 ++ ([a1] : List Int)) 0 else none
def spec_l10Put.l1 : Nat → (List Int) → Int → (List Int) → Int → Option ((List Int))
 | 0, _, _, _, _ => none
 | k24 + 1, l0, a1, q22, p23 => if p23 < (l0.length : Int) then if 0 ≤ p23 then if (rd l0 p23) > a1 then (if q22.length + ([(rd l0 p23)] : List Int).length < 17592186044416 then spec_l10Put.l1 k24 l0 a1 (q22 ++ ([(rd l0 p23)] : List Int)) (wrap64 (p23 + 1)) else none) else spec_l10Put.l1 k24 l0 a1 q22 (wrap64 (p23 + 1)) else none else some q22
end
def spec_l10Put.f (k : Nat) (l0 : List Int) (a1 : Int) : Option ((List Int)) := (spec_l09In.f k l0 a1).bind fun t1 => if t1 = true then some l0 else spec_l10Put.l0 k l0 a1 ([] : List Int) 0
theorem spec_l10Put.ok {k : Nat} {l0 : List Int} {a1 : Int} {r : (List Int)} (H : spec_l10Put.f k l0 a1 = some r) : ACalls Try.prog 63 [(0, .row 3 1 (l0.map (eI .i64)))] [.row 0, .lit (.int .i64 a1)] [(0, .gone), (1, .row 3 1 (r.map (eI .i64)))] (.row 1) := by
 refine acalls (fn := Try.f63) (nt := 56) Try.func63 rfl rfl (Nat.le_of_ble_eq_true rfl) fun E hE => ?_
 rw [spec_l10Put.f] at H
 refine aw_grp1 ?_
 refine wk_start ?_
 refine kv g0 (asg) ?_
 refine wk_end ?_
 refine ac_next ?_
 refine aw_grp1 ?_
 refine aw_grp1 ?_
 refine wk_start ?_
 refine kv g0 (mv) ?_
 refine kv g0 (mv) ?_
 obtain ⟨t1, A2, H⟩ := of_bind H
 refine kcS0 10 (.lit (.bool t1)) [] g0 (cal (spec_l09In.ok A2) [] 9999 .n (hf := Try.func55)) rfl rfl ?_
 refine wk_end ?_
 refine ac_next ?_
 by_cases c3 : t1 = true
 ·rw [if_pos c3] at H
  refine aw_ifT ?_ c3
  refine aw_grp1 ?_
  refine wk_start ?_
  refine kv g0 (mv) ?_
  refine kv g0 (asg) ?_
  refine wk_end ?_
  refine ac_next ?_
  refine aw_ret ?_
  refine ac_thenR ?_
  refine ac_rs 4 l0.length ?_ (List.length_map ..)
  refine ac_pre 4 8 (l0.map (eI .i64)) ?_ takeL
  obtain rfl := Option.some.inj H
  exact acr hE [.tmp 4] (.tmp .nil) (.one _) [(0, 0), (1, 8)] 9999
 rw [if_neg c3] at H
 refine aw_ifF ?_ (bF c3)
 refine aw_skip ?_
 refine ac_next ?_
 refine aw_grp1 ?_
 refine wk_start ?_
 refine kb g0 (bsl 1 3 1 [.int .i64 0] (([] : List Int).map (eI .i64))) ?_
 refine kv g0 (asg) ?_
 refine wk_end ?_
 refine ac_next ?_
 refine aw_grp1 ?_
 refine aw_grp1 ?_
 refine wk_start ?_
 refine kv g0 (asg) ?_
 refine wk_end ?_
 refine ac_next ?_
 refine aw_block ?_
 refine aw_loop2 (fun (k_ : Nat) (q8 : List Int) (p9 : Int) => k_ ≤ k ∧ spec_l10Put.l0 k_ l0 a1 q8 p9 = some r) (fun (q8 : List Int) (p9 : Int) => ⟨[(0, .row 0), (1, .lit (.int .i64 a1)), (5, .row 1), (6, .lit (.int .i64 p9))], [(0, .row 3 1 (l0.map (eI .i64))), (1, .row 3 1 (q8.map (eI .i64)))]⟩) k ([] : List Int) 0 ⟨Nat.le_refl _, H⟩ (fun K_ h_ => acw hE [(0, 0), (1, 1)] 9999 h_) (fun _ _ => by intro h_; have h_ := h_.2; rw [spec_l10Put.l0.eq_1] at h_; cases h_) ?_
 intro k10 q8 p9 hq_ K15 hK16
 have hk10 := hq_.1
 have H := hq_.2
 clear hq_
 rw [spec_l10Put.l0.eq_2] at H
 refine aw_grp1 ?_
 refine aw_grp1 ?_
 refine wk_start ?_
 refine kv g0 (mv) ?_
 refine kv g0 (mv) ?_
 refine kv g0 (lnR lenE) ?_
 refine kv g0 (lss) ?_
 refine wk_end ?_
 refine ac_next ?_
 by_cases c11 : p9 < (l0.length : Int)
 ·rw [if_pos c11] at H
  refine aw_ifT ?_ (decide_eq_true c11)
  refine aw_skip ?_
  refine ac_next ?_
  refine aw_grp1 ?_
  refine aw_block ?_
  refine aw_grp1 ?_
  refine wk_start ?_
  refine kv g0 (mv) ?_
  refine kv g0 (mv) ?_
  obtain ⟨c12, H⟩ := of_if H
  refine kv g0 (ixR 3 c12 (ltE c11)) ?_
  refine kv g0 (ldE (eI .i64 (rd l0 p9)) (.lit (.int .i64 (rd l0 p9))) (getE (z := (0 : Int)) c12 c11)) ?_
  refine kv g0 (mv) ?_
  refine kv g0 (lss) ?_
  refine wk_end ?_
  refine ac_next ?_
  by_cases c13 : (rd l0 p9) < a1
  ·rw [if_pos c13] at H
   refine aw_ifT ?_ (decide_eq_true c13)
   refine wk_start ?_
   refine kv g0 (mv) ?_
   refine kv g0 (mv) ?_
   refine kv g0 (mv) ?_
   refine kv g0 (ixR 3 c12 (ltE c11)) ?_
   refine kv g0 (ldE (eI .i64 (rd l0 p9)) (.lit (.int .i64 (rd l0 p9))) (getE (z := (0 : Int)) c12 c11)) ?_
   refine kb g0 (bsl 2 3 1 [.int .i64 0] (([(rd l0 p9)] : List Int).map (eI .i64))) ?_
   obtain ⟨c14, H⟩ := of_if H
   refine kc g0 (apR 3 3 1 8 [.int .i64 0] ((q8 ++ ([(rd l0 p9)] : List Int)).map (eI .i64)) (.row rfl) (apb c14 rfl) appE) ?_
   refine kv g0 (asg) ?_
   refine wk_end ?_
   refine ac_blkN ?_
   refine ac_next ?_
   refine wk_start ?_
   refine kv g0 (mv) ?_
   refine kv g0 (add6) ?_
   refine kv g0 (asg) ?_
   refine wk_end ?_
   refine ac_k ?_
   exact acw hE [(0, 0), (1, 3)] 9999 (hK16 k10 (q8 ++ ([(rd l0 p9)] : List Int)) (wrap64 (p9 + 1)) (Nat.le_refl _) ⟨by omega, H⟩)
  rw [if_neg c13] at H
  refine aw_ifF ?_ (decide_eq_false c13)
  refine aw_skip ?_
  refine ac_blkN ?_
  refine ac_next ?_
  refine wk_start ?_
  refine kv g0 (mv) ?_
  refine kv g0 (add6) ?_
  refine kv g0 (asg) ?_
  refine wk_end ?_
  refine ac_k ?_
  exact acw hE [(0, 0), (1, 1)] 9999 (hK16 k10 q8 (wrap64 (p9 + 1)) (Nat.le_refl _) ⟨by omega, H⟩)
 rw [if_neg c11] at H
 refine aw_ifF ?_ (decide_eq_false c11)
 refine aw_exit ?_
 refine ac_then ?_
 refine ac_then ?_
 refine ac_hit rfl ?_
 refine ac_next ?_
 refine aw_grp1 ?_
 refine wk_start ?_
 refine kv g0 (mv) ?_
 refine kv g0 (mv) ?_
 refine kb g0 (bsl 4 3 1 [.int .i64 0] (([a1] : List Int).map (eI .i64))) ?_
 obtain ⟨c17, H⟩ := of_if H
 refine kc g0 (apR 5 3 1 8 [.int .i64 0] ((q8 ++ ([a1] : List Int)).map (eI .i64)) (.row rfl) (apb c17 rfl) appE) ?_
 refine kv g0 (asg) ?_
 refine wk_end ?_
 refine ac_next ?_
 refine aw_grp1 ?_
 refine aw_grp1 ?_
 refine wk_start ?_
 refine kv g0 (asg) ?_
 refine wk_end ?_
 refine ac_next ?_
 refine aw_block ?_
 refine aw_loop2 (fun (k_ : Nat) (q22 : List Int) (p23 : Int) => k_ ≤ k10 ∧ spec_l10Put.l1 k_ l0 a1 q22 p23 = some r) (fun (q22 : List Int) (p23 : Int) => ⟨[(0, .row 0), (1, .lit (.int .i64 a1)), (5, .row 5), (7, .lit (.int .i64 p23))], [(0, .row 3 1 (l0.map (eI .i64))), (5, .row 3 1 (q22.map (eI .i64)))]⟩) k10 (q8 ++ ([a1] : List Int)) 0 ⟨Nat.le_refl _, H⟩ (fun K_ h_ => acw hE [(0, 0), (5, 5)] 9999 h_) (fun _ _ => by intro h_; have h_ := h_.2; rw [spec_l10Put.l1.eq_1] at h_; cases h_) ?_
 intro k24 q22 p23 hq_ K29 hK30
 have hk24 := hq_.1
 have H := hq_.2
 clear hq_
 rw [spec_l10Put.l1.eq_2] at H
 refine aw_grp1 ?_
 refine aw_grp1 ?_
 refine wk_start ?_
 refine kv g0 (mv) ?_
 refine kv g0 (mv) ?_
 refine kv g0 (lnR lenE) ?_
 refine kv g0 (lss) ?_
 refine wk_end ?_
 refine ac_next ?_
 by_cases c25 : p23 < (l0.length : Int)
 ·rw [if_pos c25] at H
  refine aw_ifT ?_ (decide_eq_true c25)
  refine aw_skip ?_
  refine ac_next ?_
  refine aw_grp1 ?_
  refine aw_block ?_
  refine aw_grp1 ?_
  refine wk_start ?_
  refine kv g0 (mv) ?_
  refine kv g0 (mv) ?_
  obtain ⟨c26, H⟩ := of_if H
  refine kv g0 (ixR 3 c26 (ltE c25)) ?_
  refine kv g0 (ldE (eI .i64 (rd l0 p23)) (.lit (.int .i64 (rd l0 p23))) (getE (z := (0 : Int)) c26 c25)) ?_
  refine kv g0 (mv) ?_
  refine kv g0 (gtr) ?_
  refine wk_end ?_
  refine ac_next ?_
  by_cases c27 : (rd l0 p23) > a1
  ·rw [if_pos c27] at H
   refine aw_ifT ?_ (decide_eq_true c27)
   refine wk_start ?_
   refine kv g0 (mv) ?_
   refine kv g0 (mv) ?_
   refine kv g0 (mv) ?_
   refine kv g0 (ixR 3 c26 (ltE c25)) ?_
   refine kv g0 (ldE (eI .i64 (rd l0 p23)) (.lit (.int .i64 (rd l0 p23))) (getE (z := (0 : Int)) c26 c25)) ?_
   refine kb g0 (bsl 6 3 1 [.int .i64 0] (([(rd l0 p23)] : List Int).map (eI .i64))) ?_
   obtain ⟨c28, H⟩ := of_if H
   refine kc g0 (apR 7 3 1 8 [.int .i64 0] ((q22 ++ ([(rd l0 p23)] : List Int)).map (eI .i64)) (.row rfl) (apb c28 rfl) appE) ?_
   refine kv g0 (asg) ?_
   refine wk_end ?_
   refine ac_blkN ?_
   refine ac_next ?_
   refine wk_start ?_
   refine kv g0 (mv) ?_
   refine kv g0 (add6) ?_
   refine kv g0 (asg) ?_
   refine wk_end ?_
   refine ac_k ?_
   exact acw hE [(0, 0), (5, 7)] 9999 (hK30 k24 (q22 ++ ([(rd l0 p23)] : List Int)) (wrap64 (p23 + 1)) (Nat.le_refl _) ⟨by omega, H⟩)
  rw [if_neg c27] at H
  refine aw_ifF ?_ (decide_eq_false c27)
  refine aw_skip ?_
  refine ac_blkN ?_
  refine ac_next ?_
  refine wk_start ?_
  refine kv g0 (mv) ?_
  refine kv g0 (add6) ?_
  refine kv g0 (asg) ?_
  refine wk_end ?_
  refine ac_k ?_
  exact acw hE [(0, 0), (5, 5)] 9999 (hK30 k24 q22 (wrap64 (p23 + 1)) (Nat.le_refl _) ⟨by omega, H⟩)
 rw [if_neg c25] at H
 refine aw_ifF ?_ (decide_eq_false c25)
 refine aw_exit ?_
 refine ac_then ?_
 refine ac_then ?_
 refine ac_hit rfl ?_
 refine ac_next ?_
 refine aw_grp1 ?_
 refine wk_start ?_
 refine kv g0 (mv) ?_
 refine kv g0 (asg) ?_
 refine wk_end ?_
 refine ac_next ?_
 refine aw_ret ?_
 refine ac_g1 (gh_drop 0) ?_
 obtain rfl := Option.some.inj H
 exact acr hE [.tmp 4] (.tmp .nil) (.one _) [(0, 0), (1, 5)] 9999
/-! spec_NumsOf -/
mutual
def spec_NumsOf.l0 : Nat → Int → Int → Int → (List S67) → Int → (List Int) → Int → Option ((List Int))
 | 0, _, _, _, _, _, _, _ => none
 | k27 + 1, a0_0, a0_1, a0_2, l0_3, p17, q25, p26 => if 0 ≤ p17 then if p26 < (((rd_T67 l0_3 p17).f0).length : Int) then if 0 ≤ p26 then ((spec_l10Put.f k27 q25 (rd ((rd_T67 l0_3 p17).f0) p26)).bind fun t31 => spec_NumsOf.l0 k27 a0_0 a0_1 a0_2 l0_3 p17 t31 (wrap64 (p26 + 1))) else none else spec_NumsOf.l1 k27 a0_0 a0_1 a0_2 l0_3 q25 (wrap64 (p17 + 1)) else none
def spec_NumsOf.l1 : Nat → Int → Int → Int → (List S67) → (List Int) → Int → Option ((List Int))
 | 0, _, _, _, _, _, _ => none
 | k18 + 1, a0_0, a0_1, a0_2, l0_3, q16, p17 => if p17 < (l0_3.length : Int) then spec_NumsOf.l0 k18 a0_0 a0_1 a0_2 l0_3 p17 q16 0 else some q16
end
def spec_NumsOf.f (k : Nat) (a0_0 : Int) (a0_1 : Int) (a0_2 : Int) (l0_3 : List S67) : Option ((List Int)) := spec_NumsOf.l1 k a0_0 a0_1 a0_2 l0_3 ([] : List Int) 0
theorem spec_NumsOf.ok {k : Nat} {a0_0 : Int} {a0_1 : Int} {a0_2 : Int} {l0_3 : List S67} {r : (List Int)} (H : spec_NumsOf.f k a0_0 a0_1 a0_2 l0_3 = some r) : ACalls Try.prog 42 [] [.agg [.lit (.int .i64 a0_0), .lit (.int .i64 a0_1), .lit (.int .i64 a0_2), .sl .o 4 (l0_3.map e67)]] [(0, .row 3 1 (r.map (eI .i64)))] (.row 0) := by
 refine acalls (fn := Try.f42) (nt := 37) Try.func42 rfl rfl (Nat.le_of_ble_eq_true rfl) fun E hE => ?_
 rw [spec_NumsOf.f] at H
 refine aw_grp1 ?_
 refine wk_start ?_
 refine kb g0 (bxA 0) ?_
 refine kv g0 (asg) ?_
 refine wk_end ?_
 refine ac_next ?_
 refine aw_grp1 ?_
 refine wk_start ?_
 refine kb g0 (bsl 1 3 1 [.int .i64 0] (([] : List Int).map (eI .i64))) ?_
 refine kv g0 (asg) ?_
 refine wk_end ?_
 refine ac_next ?_
 refine aw_grp1 ?_
 refine aw_grp1 ?_
 refine wk_start ?_
 refine kv g0 (asg) ?_
 refine wk_end ?_
 refine ac_next ?_
 refine aw_block ?_
 refine aw_loop2 (fun (k_ : Nat) (q16 : List Int) (p17 : Int) => k_ ≤ k ∧ spec_NumsOf.l1 k_ a0_0 a0_1 a0_2 l0_3 q16 p17 = some r) (fun (q16 : List Int) (p17 : Int) => ⟨[(1, .box 0 0), (3, .row 1), (4, .lit (.int .i64 p17))], [(0, .box 26 [.lit (.int .i64 a0_0), .lit (.int .i64 a0_1), .lit (.int .i64 a0_2), .sl .o 4 (l0_3.map e67)]), (1, .row 3 1 (q16.map (eI .i64)))]⟩) k ([] : List Int) 0 ⟨Nat.le_refl _, H⟩ (fun K_ h_ => acw hE [(0, 0), (1, 1)] 9999 h_) (fun _ _ => by intro h_; have h_ := h_.2; rw [spec_NumsOf.l1.eq_1] at h_; cases h_) ?_
 intro k18 q16 p17 hq_ K35 hK36
 have hk18 := hq_.1
 have H := hq_.2
 clear hq_
 rw [spec_NumsOf.l1.eq_2] at H
 refine aw_grp1 ?_
 refine aw_grp1 ?_
 refine wk_start ?_
 refine kv g0 (mv) ?_
 refine kv g0 (faB 3 3) ?_
 refine kv g0 (ldB) ?_
 refine kv g0 (lnS lenE) ?_
 refine kv g0 (lss) ?_
 refine wk_end ?_
 refine ac_next ?_
 by_cases c19 : p17 < (l0_3.length : Int)
 ·rw [if_pos c19] at H
  refine aw_ifT ?_ (decide_eq_true c19)
  refine aw_skip ?_
  refine ac_next ?_
  refine aw_grp1 ?_
  refine aw_block ?_
  refine aw_grp1 ?_
  refine wk_start ?_
  refine kv g0 (asg) ?_
  refine wk_end ?_
  refine ac_next ?_
  refine aw_block ?_
  refine aw_loop2 (fun (k_ : Nat) (q25 : List Int) (p26 : Int) => k_ ≤ k18 ∧ spec_NumsOf.l0 k_ a0_0 a0_1 a0_2 l0_3 p17 q25 p26 = some r) (fun (q25 : List Int) (p26 : Int) => ⟨[(1, .box 0 0), (3, .row 1), (4, .lit (.int .i64 p17)), (5, .lit (.int .i64 p26))], [(0, .box 26 [.lit (.int .i64 a0_0), .lit (.int .i64 a0_1), .lit (.int .i64 a0_2), .sl .o 4 (l0_3.map e67)]), (1, .row 3 1 (q25.map (eI .i64)))]⟩) k18 q16 0 ⟨Nat.le_refl _, H⟩ (fun K_ h_ => acw hE [(0, 0), (1, 1)] 9999 h_) (fun _ _ => by intro h_; have h_ := h_.2; rw [spec_NumsOf.l0.eq_1] at h_; cases h_) ?_
  intro k27 q25 p26 hq_ K33 hK34
  have hk27 := hq_.1
  have H := hq_.2
  clear hq_
  rw [spec_NumsOf.l0.eq_2] at H
  refine aw_grp1 ?_
  refine aw_grp1 ?_
  refine wk_start ?_
  refine kv g0 (mv) ?_
  refine kv g0 (faB 3 3) ?_
  refine kv g0 (ldB) ?_
  refine kv g0 (mv) ?_
  obtain ⟨c28, H⟩ := of_if H
  refine kv g0 (ixS 67 (e67 (rd_T67 l0_3 p17)) c28 (getE (z := z67) c28 c19)) ?_
  refine kv g0 (faR 0 0) ?_
  refine kv g0 (ldR (.sl .o 1 (((rd_T67 l0_3 p17).f0).map (eI .i64)))) ?_
  refine kv g0 (lnS lenE) ?_
  refine kv g0 (lss) ?_
  refine wk_end ?_
  refine ac_next ?_
  by_cases c29 : p26 < (((rd_T67 l0_3 p17).f0).length : Int)
  ·rw [if_pos c29] at H
   refine aw_ifT ?_ (decide_eq_true c29)
   refine aw_skip ?_
   refine ac_next ?_
   refine aw_grp1 ?_
   refine aw_block ?_
   refine wk_start ?_
   refine kv g0 (mv) ?_
   refine kv g0 (faB 3 3) ?_
   refine kv g0 (ldB) ?_
   refine kv g0 (mv) ?_
   refine kv g0 (ixS 67 (e67 (rd_T67 l0_3 p17)) c28 (getE (z := z67) c28 c19)) ?_
   refine kv g0 (faR 0 0) ?_
   refine kv g0 (ldR (.sl .o 1 (((rd_T67 l0_3 p17).f0).map (eI .i64)))) ?_
   refine kv g0 (mv) ?_
   obtain ⟨c30, H⟩ := of_if H
   refine kv g0 (ixS 3 (eI .i64 (rd ((rd_T67 l0_3 p17).f0) p26)) c30 (getE (z := (0 : Int)) c30 c29)) ?_
   refine kv g0 (ldR (.lit (.int .i64 (rd ((rd_T67 l0_3 p17).f0) p26)))) ?_
   obtain ⟨t31, A32, H⟩ := of_bind H
   refine kcS2 35 (.row 2) [(1, .gone), (2, .row 3 1 (t31.map (eI .i64)))] g0 (cal (spec_l10Put.ok A32) [1, 2] 9999 .n (hf := Try.func63)) rfl rfl ?_
   refine kv g0 (asg) ?_
   refine wk_end ?_
   refine ac_blkN ?_
   refine ac_next ?_
   refine wk_start ?_
   refine kv g0 (mv) ?_
   refine kv g0 (add6) ?_
   refine kv g0 (asg) ?_
   refine wk_end ?_
   refine ac_k ?_
   exact acw hE [(0, 0), (1, 2)] 9999 (hK34 k27 t31 (wrap64 (p26 + 1)) (Nat.le_refl _) ⟨by omega, H⟩)
  rw [if_neg c29] at H
  refine aw_ifF ?_ (decide_eq_false c29)
  refine aw_exit ?_
  refine ac_then ?_
  refine ac_then ?_
  refine ac_hit rfl ?_
  refine ac_blkN ?_
  refine ac_next ?_
  refine wk_start ?_
  refine kv g0 (mv) ?_
  refine kv g0 (add6) ?_
  refine kv g0 (asg) ?_
  refine wk_end ?_
  refine ac_k ?_
  exact acw hE [(0, 0), (1, 1)] 9999 (hK36 k27 q25 (wrap64 (p17 + 1)) (by omega) ⟨by omega, H⟩)
 rw [if_neg c19] at H
 refine aw_ifF ?_ (decide_eq_false c19)
 refine aw_exit ?_
 refine ac_then ?_
 refine ac_then ?_
 refine ac_hit rfl ?_
 refine ac_next ?_
 refine aw_grp1 ?_
 refine wk_start ?_
 refine kv g0 (mv) ?_
 refine kv g0 (asg) ?_
 refine wk_end ?_
 refine ac_next ?_
 refine aw_ret ?_
 obtain rfl := Option.some.inj H
 exact acr hE [.tmp 2] (.tmp .nil) (.one _) [(0, 1)] 9999
/-! spec_l01Figure -/
def spec_l01Figure.f (a0 : Int) : Option (Int) := if a0 < 10 then some (IntKind.u8.wrap (wrap64 (48 + a0))) else some (IntKind.u8.wrap (wrap64 ((wrap64 (97 + a0)) - 10)))
theorem spec_l01Figure.ok {a0 : Int} {r : Int} (H : spec_l01Figure.f a0 = some r) : ACalls Try.prog 96 [] [.lit (.int .i64 a0)] [] (.lit (.int .u8 r)) := by
 refine acalls (fn := Try.f96) (nt := 12) Try.func96 rfl rfl (Nat.le_of_ble_eq_true rfl) fun E hE => ?_
 rw [spec_l01Figure.f] at H
 refine aw_grp1 ?_
 refine wk_start ?_
 refine kv g0 (asg) ?_
 refine wk_end ?_
 refine ac_next ?_
 refine aw_grp1 ?_
 refine aw_grp1 ?_
 refine wk_start ?_
 refine kv g0 (mv) ?_
 refine kv g0 (lss) ?_
 refine wk_end ?_
 refine ac_next ?_
 by_cases c1 : a0 < 10
 ·rw [if_pos c1] at H
  refine aw_ifT ?_ (decide_eq_true c1)
  refine aw_grp1 ?_
  refine wk_start ?_
  refine kv g0 (mv) ?_
  refine kv g0 (add6) ?_
  refine kv g0 (cnv .u8) ?_
  refine kv g0 (asg) ?_
  refine wk_end ?_
  refine ac_next ?_
  refine aw_ret ?_
  refine ac_thenR ?_
  obtain rfl := Option.some.inj H
  exact acr hE [.tmp 2] (.tmp .nil) (.one _) [] 9999
 rw [if_neg c1] at H
 refine aw_ifF ?_ (decide_eq_false c1)
 refine aw_skip ?_
 refine ac_next ?_
 refine aw_grp1 ?_
 refine wk_start ?_
 refine kv g0 (mv) ?_
 refine kv g0 (add6) ?_
 refine kv g0 (sub6) ?_
 refine kv g0 (cnv .u8) ?_
 refine kv g0 (asg) ?_
 refine wk_end ?_
 refine ac_next ?_
 refine aw_ret ?_
 obtain rfl := Option.some.inj H
 exact acr hE [.tmp 2] (.tmp .nil) (.one _) [] 9999
/-! spec_Decimal -/
mutual
def spec_Decimal.j0 : Nat → Int → Int → ByteArray → Int → Option (ByteArray)
 | 0, _, _, _, _ => none
 | k16 + 1, a0, p10, p11, p15 => (spec_l01Figure.f p15).bind fun t17 => (if (strOfNums ([t17] : List Int)).size + p11.size ≤ 9223372036854775807 then spec_Decimal.l0 k16 a0 (wrap64 (p10.tdiv 10)) ((strOfNums ([t17] : List Int)) ++ p11) else none)
def spec_Decimal.l0 : Nat → Int → Int → ByteArray → Option (ByteArray)
 | 0, _, _, _ => none
 | k12 + 1, a0, p10, p11 => if p10 = 0 then if a0 < 0 then (if (⟨#[45]⟩ : ByteArray).size + p11.size ≤ 9223372036854775807 then some ((⟨#[45]⟩ : ByteArray) ++ p11) else none) else some p11 else if (p10.tmod 10) < 0 then spec_Decimal.j0 k12 a0 p10 p11 (wrap64 (0 - (p10.tmod 10))) else spec_Decimal.j0 k12 a0 p10 p11 (p10.tmod 10)
end
def spec_Decimal.f (k : Nat) (a0 : Int) : Option (ByteArray) := if a0 = 0 then some (⟨#[48]⟩ : ByteArray) else spec_Decimal.l0 k a0 a0 ByteArray.empty
theorem spec_Decimal.ok {k : Nat} {a0 : Int} {r : ByteArray} (H : spec_Decimal.f k a0 = some r) : ACalls Try.prog 88 [] [.lit (.int .i64 a0)] [] (.lit (.string r)) := by
 refine acalls (fn := Try.f88) (nt := 30) Try.func88 rfl rfl (Nat.le_of_ble_eq_true rfl) fun E hE => ?_
 rw [spec_Decimal.f] at H
 refine aw_grp1 ?_
 refine wk_start ?_
 refine kv g0 (asg) ?_
 refine wk_end ?_
 refine ac_next ?_
 refine aw_grp1 ?_
 refine aw_grp1 ?_
 refine wk_start ?_
 refine kv g0 (mv) ?_
 refine kv g0 (eql) ?_
 refine wk_end ?_
 refine ac_next ?_
 by_cases c1 : a0 = 0
 ·rw [if_pos c1] at H
  refine aw_ifT ?_ (eT c1)
  refine aw_grp1 ?_
  refine wk_start ?_
  refine kv g0 (asg) ?_
  refine wk_end ?_
  refine ac_next ?_
  refine aw_ret ?_
  refine ac_thenR ?_
  obtain rfl := Option.some.inj H
  exact acr hE [.tmp 2] (.tmp .nil) (.one _) [] 9999
 rw [if_neg c1] at H
 refine aw_ifF ?_ (eF c1)
 refine aw_skip ?_
 refine ac_next ?_
 refine aw_grp1 ?_
 refine wk_start ?_
 refine kv g0 (mv) ?_
 refine kv g0 (lss) ?_
 refine kv g0 (asg) ?_
 refine wk_end ?_
 refine ac_next ?_
 refine aw_grp1 ?_
 refine wk_start ?_
 refine kv g0 (asg) ?_
 refine wk_end ?_
 refine ac_next ?_
 refine aw_grp1 ?_
 refine aw_block ?_
 refine aw_loop2 (fun (k_ : Nat) (p10 : Int) (p11 : ByteArray) => k_ ≤ k ∧ spec_Decimal.l0 k_ a0 p10 p11 = some r) (fun (p10 : Int) (p11 : ByteArray) => ⟨[(0, .lit (.int .i64 p10)), (3, .lit (.bool (decide (a0 < 0)))), (4, .lit (.string p11))], []⟩) k a0 ByteArray.empty ⟨Nat.le_refl _, H⟩ (fun K_ h_ => acw hE [] 9999 h_) (fun _ _ => by intro h_; have h_ := h_.2; rw [spec_Decimal.l0.eq_1] at h_; cases h_) ?_
 intro k12 p10 p11 hq_ K21 hK22
 have hk12 := hq_.1
 have H := hq_.2
 clear hq_
 rw [spec_Decimal.l0.eq_2] at H
 refine aw_grp1 ?_
 refine aw_grp1 ?_
 refine wk_start ?_
 refine kv g0 (mv) ?_
 refine kv g0 (neq) ?_
 refine wk_end ?_
 refine ac_next ?_
 by_cases c13 : p10 = 0
 ·rw [if_pos c13] at H
  refine aw_ifF ?_ (eM c13)
  refine aw_exit ?_
  refine ac_then ?_
  refine ac_then ?_
  refine ac_hit rfl ?_
  refine ac_next ?_
  refine aw_grp1 ?_
  refine aw_grp1 ?_
  refine wk_start ?_
  refine kv g0 (mv) ?_
  refine wk_end ?_
  refine ac_next ?_
  by_cases c23 : a0 < 0
  ·rw [if_pos c23] at H
   refine aw_ifT ?_ (decide_eq_true c23)
   refine aw_grp1 ?_
   refine wk_start ?_
   refine kv g0 (mv) ?_
   obtain ⟨c24, H⟩ := of_if H
   refine kv g0 (cat c24) ?_
   refine kv g0 (asg) ?_
   refine wk_end ?_
   refine ac_next ?_
   refine aw_ret ?_
   refine ac_thenR ?_
   obtain rfl := Option.some.inj H
   exact acr hE [.tmp 2] (.tmp .nil) (.one _) [] 9999
  rw [if_neg c23] at H
  refine aw_ifF ?_ (decide_eq_false c23)
  refine aw_skip ?_
  refine ac_next ?_
  refine aw_grp1 ?_
  refine wk_start ?_
  refine kv g0 (mv) ?_
  refine kv g0 (asg) ?_
  refine wk_end ?_
  refine ac_next ?_
  refine aw_ret ?_
  obtain rfl := Option.some.inj H
  exact acr hE [.tmp 2] (.tmp .nil) (.one _) [] 9999
 rw [if_neg c13] at H
 refine aw_ifT ?_ (eN c13)
 refine aw_skip ?_
 refine ac_next ?_
 refine aw_block ?_
 refine aw_grp1 ?_
 refine wk_start ?_
 refine kv g0 (mv) ?_
 refine kv g0 (rem (by decide : (10 : Int) ≠ 0)) ?_
 refine kv g0 (asg) ?_
 refine wk_end ?_
 refine ac_next ?_
 refine aw_cut1 (J := fun K_ => ∀ (k_ : Nat) (p15 : Int), k_ ≤ k12 → spec_Decimal.j0 k_ a0 p10 p11 p15 = some r → ACont E 30 ⟨[(0, .lit (.int .i64 p10)), (3, .lit (.bool (decide (a0 < 0)))), (4, .lit (.string p11)), (5, .lit (.int .i64 p15))], []⟩ K_) ?_ ?_
 ·intro K_ hJ20
  refine aw_grp1 ?_
  refine wk_start ?_
  refine kv g0 (mv) ?_
  refine kv g0 (lss) ?_
  refine wk_end ?_
  refine ac_next ?_
  by_cases c14 : (p10.tmod 10) < 0
  ·rw [if_pos c14] at H
   refine aw_ifT ?_ (decide_eq_true c14)
   refine wk_start ?_
   refine kv g0 (mv) ?_
   refine kv g0 (neg6) ?_
   refine kv g0 (asg) ?_
   refine wk_end ?_
   refine ac_k ?_
   exact acw hE [] 9999 (hJ20 k12 (wrap64 (0 - (p10.tmod 10))) (Nat.le_refl _) H)
  rw [if_neg c14] at H
  refine aw_ifF ?_ (decide_eq_false c14)
  refine aw_skip ?_
  refine ac_k ?_
  exact acw hE [] 9999 (hJ20 k12 (p10.tmod 10) (Nat.le_refl _) H)
 intro k_ p15 hk_ H
 rcases k_ with _ | k16
 ·rw [spec_Decimal.j0.eq_1] at H; cases H
 have hk16 : k16 ≤ k12 := by omega
 clear hk_
 rw [spec_Decimal.j0.eq_2] at H
 refine aw_grp1 ?_
 refine wk_start ?_
 refine kv g0 (mv) ?_
 obtain ⟨t17, A18, H⟩ := of_bind H
 refine kcS0 19 (.lit (.int .u8 t17)) [] g0 (cal (spec_l01Figure.ok A18) [] 9999 .n (hf := Try.func96)) rfl rfl ?_
 refine kb g0 (bsl 0 5 1 [.int .u8 0] (([t17] : List Int).map (eI .u8))) ?_
 refine kv g0 (cvB (.row rfl)) ?_
 refine kv g0 (mv) ?_
 obtain ⟨c19, H⟩ := of_if H
 refine kv g0 (cat c19) ?_
 refine kv g0 (asg) ?_
 refine wk_end ?_
 refine ac_next ?_
 refine wk_start ?_
 refine kv g0 (mv) ?_
 refine kv g0 (quo6 (by decide : (10 : Int) ≠ 0)) ?_
 refine kv g0 (asg) ?_
 refine wk_end ?_
 refine ac_blkN ?_
 refine ac_k ?_
 exact acw hE [] 9999 (hK22 k16 (wrap64 (p10.tdiv 10)) ((strOfNums ([t17] : List Int)) ++ p11) (by omega) ⟨by omega, H⟩)
/-! spec_l12Half -/
def spec_l12Half.f (a0_0 : Int) (a0_1 : Int) (a0_2 : Int) (a0_3 : Int) (a0_4 : Int) (a0_5 : Int) (a1 : Bool) : Option ((List S76)) := if a1 = true then ((spec_l11Word.f 1 (wrap64 (3 + (wrap64 (2 * a0_0))))).bind fun t2 => ((spec_l11Word.f 2 a0_1).bind fun t4 => some ([(⟨t2.1, (⟨t2.2.1, t2.2.2.1, t2.2.2.2.1, t2.2.2.2.2.1⟩ : S55), t2.2.2.2.2.2.1, t2.2.2.2.2.2.2⟩ : S76), (⟨t4.1, (⟨t4.2.1, t4.2.2.1, t4.2.2.2.1, t4.2.2.2.2.1⟩ : S55), t4.2.2.2.2.2.1, t4.2.2.2.2.2.2⟩ : S76)] : List S76))) else (spec_l11Word.f 1 (wrap64 (2 + (wrap64 (2 * a0_0))))).bind fun t6 => ((spec_l11Word.f 2 a0_2).bind fun t8 => some ([(⟨t6.1, (⟨t6.2.1, t6.2.2.1, t6.2.2.2.1, t6.2.2.2.2.1⟩ : S55), t6.2.2.2.2.2.1, t6.2.2.2.2.2.2⟩ : S76), (⟨t8.1, (⟨t8.2.1, t8.2.2.1, t8.2.2.2.1, t8.2.2.2.2.1⟩ : S55), t8.2.2.2.2.2.1, t8.2.2.2.2.2.2⟩ : S76)] : List S76))
theorem spec_l12Half.ok {a0_0 : Int} {a0_1 : Int} {a0_2 : Int} {a0_3 : Int} {a0_4 : Int} {a0_5 : Int} {a1 : Bool} {r : (List S76)} (H : spec_l12Half.f a0_0 a0_1 a0_2 a0_3 a0_4 a0_5 a1 = some r) : ACalls Try.prog 100 [] [.agg [.lit (.int .i64 a0_0), .lit (.int .i64 a0_1), .lit (.int .i64 a0_2), .lit (.int .i64 a0_3), .lit (.int .i64 a0_4), .lit (.int .i64 a0_5)], .lit (.bool a1)] [(0, .row 76 7 (r.map e76))] (.row 0) := by
 refine acalls (fn := Try.f100) (nt := 26) Try.func100 rfl rfl (Nat.le_of_ble_eq_true rfl) fun E hE => ?_
 rw [spec_l12Half.f] at H
 refine aw_grp1 ?_
 refine wk_start ?_
 refine kb g0 (bxA 0) ?_
 refine kv g0 (asg) ?_
 refine wk_end ?_
 refine ac_next ?_
 refine aw_grp1 ?_
 refine aw_grp1 ?_
 refine wk_start ?_
 refine kv g0 (mv) ?_
 refine wk_end ?_
 refine ac_next ?_
 by_cases c1 : a1 = true
 ·rw [if_pos c1] at H
  refine aw_ifT ?_ c1
  refine aw_grp1 ?_
  refine wk_start ?_
  refine kv g0 (faB 0 0) ?_
  refine kv g0 (ldB) ?_
  refine kv g0 (mul6) ?_
  refine kv g0 (add6) ?_
  obtain ⟨t2, A3, H⟩ := of_bind H
  refine kcS0 10 (.agg [.lit (.string t2.1), .lit (.int .i64 t2.2.1), .lit (.int .i64 t2.2.2.1), .lit (.int .i64 t2.2.2.2.1), .lit (.int .i64 t2.2.2.2.2.1), .lit (.string t2.2.2.2.2.2.1), .lit (.string t2.2.2.2.2.2.2)]) [] g0 (cal (spec_l11Word.ok A3) [] 9999 .n (hf := Try.func39)) rfl rfl ?_
  refine kv g0 (faB 1 1) ?_
  refine kv g0 (faB 0 1) ?_
  refine kv g0 (ldB) ?_
  obtain ⟨t4, A5, H⟩ := of_bind H
  refine kcS0 14 (.agg [.lit (.string t4.1), .lit (.int .i64 t4.2.1), .lit (.int .i64 t4.2.2.1), .lit (.int .i64 t4.2.2.2.1), .lit (.int .i64 t4.2.2.2.2.1), .lit (.string t4.2.2.2.2.2.1), .lit (.string t4.2.2.2.2.2.2)]) [] g0 (cal (spec_l11Word.ok A5) [] 9999 .n (hf := Try.func39)) rfl rfl ?_
  refine kb g0 (bsl 1 76 7 [.string .empty, .int .i64 0, .int .i64 0, .int .i64 0, .int .i64 0, .string .empty, .string .empty] (([(⟨t2.1, (⟨t2.2.1, t2.2.2.1, t2.2.2.2.1, t2.2.2.2.2.1⟩ : S55), t2.2.2.2.2.2.1, t2.2.2.2.2.2.2⟩ : S76), (⟨t4.1, (⟨t4.2.1, t4.2.2.1, t4.2.2.2.1, t4.2.2.2.2.1⟩ : S55), t4.2.2.2.2.2.1, t4.2.2.2.2.2.2⟩ : S76)] : List S76).map e76)) ?_
  refine kv g0 (asg) ?_
  refine wk_end_draw hM (by kernel_rfl) ?_
  refine ac_next ?_
  refine aw_ret ?_
  refine ac_thenR ?_
  obtain rfl := Option.some.inj H
  exact acr hE [.tmp 4] (.tmp .nil) (.one _) [(0, 1)] 9999
 rw [if_neg c1] at H
 refine aw_ifF ?_ (bF c1)
 refine aw_skip ?_
 refine ac_next ?_
 refine aw_grp1 ?_
 refine wk_start ?_
 refine kv g0 (faB 0 0) ?_
 refine kv g0 (ldB) ?_
 refine kv g0 (mul6) ?_
 refine kv g0 (add6) ?_
 obtain ⟨t6, A7, H⟩ := of_bind H
 refine kcS0 20 (.agg [.lit (.string t6.1), .lit (.int .i64 t6.2.1), .lit (.int .i64 t6.2.2.1), .lit (.int .i64 t6.2.2.2.1), .lit (.int .i64 t6.2.2.2.2.1), .lit (.string t6.2.2.2.2.2.1), .lit (.string t6.2.2.2.2.2.2)]) [] g0 (cal (spec_l11Word.ok A7) [] 9999 .n (hf := Try.func39)) rfl rfl ?_
 refine kv g0 (faB 1 1) ?_
 refine kv g0 (faB 1 2) ?_
 refine kv g0 (ldB) ?_
 obtain ⟨t8, A9, H⟩ := of_bind H
 refine kcS0 24 (.agg [.lit (.string t8.1), .lit (.int .i64 t8.2.1), .lit (.int .i64 t8.2.2.1), .lit (.int .i64 t8.2.2.2.1), .lit (.int .i64 t8.2.2.2.2.1), .lit (.string t8.2.2.2.2.2.1), .lit (.string t8.2.2.2.2.2.2)]) [] g0 (cal (spec_l11Word.ok A9) [] 9999 .n (hf := Try.func39)) rfl rfl ?_
 refine kb g0 (bsl 2 76 7 [.string .empty, .int .i64 0, .int .i64 0, .int .i64 0, .int .i64 0, .string .empty, .string .empty] (([(⟨t6.1, (⟨t6.2.1, t6.2.2.1, t6.2.2.2.1, t6.2.2.2.2.1⟩ : S55), t6.2.2.2.2.2.1, t6.2.2.2.2.2.2⟩ : S76), (⟨t8.1, (⟨t8.2.1, t8.2.2.1, t8.2.2.2.1, t8.2.2.2.2.1⟩ : S55), t8.2.2.2.2.2.1, t8.2.2.2.2.2.2⟩ : S76)] : List S76).map e76)) ?_
 refine kv g0 (asg) ?_
 refine wk_end_draw hM (by kernel_rfl) ?_
 refine ac_next ?_
 refine aw_ret ?_
 obtain rfl := Option.some.inj H
 exact acr hE [.tmp 4] (.tmp .nil) (.one _) [(0, 2)] 9999
/-! spec_l12Same -/
def spec_l12Same.f (a0_0 : Int) (a0_1 : Int) (a0_2 : Int) (a0_3 : Int) (a0_4 : Int) (a0_5 : Int) (a1 : ByteArray) (a2 : ByteArray) (a3 : ByteArray) : Option ((List S76)) := (spec_l12Half.f a0_0 a0_1 a0_2 a0_3 a0_4 a0_5 true).bind fun t1 => (if a1.size + (⟨#[97]⟩ : ByteArray).size ≤ 9223372036854775807 then ((spec_l11Asks.f 3 a0_4 (a1 ++ (⟨#[97]⟩ : ByteArray)) a3).bind fun t4 => (if t1.length + ([(⟨t4.1, (⟨t4.2.1, t4.2.2.1, t4.2.2.2.1, t4.2.2.2.2.1⟩ : S55), t4.2.2.2.2.2.1, t4.2.2.2.2.2.2⟩ : S76), (⟨a1 ++ (⟨#[97]⟩ : ByteArray), (⟨0, 0, 0, 0⟩ : S55), ByteArray.empty, ByteArray.empty⟩ : S76)] : List S76).length < 1759218604441 then (spec_l12Half.f a0_0 a0_1 a0_2 a0_3 a0_4 a0_5 false).bind fun t7 => (if (t1 ++ ([(⟨t4.1, (⟨t4.2.1, t4.2.2.1, t4.2.2.2.1, t4.2.2.2.2.1⟩ : S55), t4.2.2.2.2.2.1, t4.2.2.2.2.2.2⟩ : S76), (⟨a1 ++ (⟨#[97]⟩ : ByteArray), (⟨0, 0, 0, 0⟩ : S55), ByteArray.empty, ByteArray.empty⟩ : S76)] : List S76)).length + t7.length < 1759218604441 then (spec_l11Asks.f 3 a0_5 a2 a3).bind fun t10 => (if ((t1 ++ ([(⟨t4.1, (⟨t4.2.1, t4.2.2.1, t4.2.2.2.1, t4.2.2.2.2.1⟩ : S55), t4.2.2.2.2.2.1, t4.2.2.2.2.2.2⟩ : S76), (⟨a1 ++ (⟨#[97]⟩ : ByteArray), (⟨0, 0, 0, 0⟩ : S55), ByteArray.empty, ByteArray.empty⟩ : S76)] : List S76)) ++ t7).length + ([(⟨t10.1, (⟨t10.2.1, t10.2.2.1, t10.2.2.2.1, t10.2.2.2.2.1⟩ : S55), t10.2.2.2.2.2.1, t10.2.2.2.2.2.2⟩ : S76)] : List S76).length < 1759218604441 then some (((t1 ++ ([(⟨t4.1, (⟨t4.2.1, t4.2.2.1, t4.2.2.2.1, t4.2.2.2.2.1⟩ : S55), t4.2.2.2.2.2.1, t4.2.2.2.2.2.2⟩ : S76), (⟨a1 ++ (⟨#[97]⟩ : ByteArray), (⟨0, 0, 0, 0⟩ : S55), ByteArray.empty, ByteArray.empty⟩ : S76)] : List S76)) ++ t7) ++ ([(⟨t10.1, (⟨t10.2.1, t10.2.2.1, t10.2.2.2.1, t10.2.2.2.2.1⟩ : S55), t10.2.2.2.2.2.1, t10.2.2.2.2.2.2⟩ : S76)] : List S76)) else none) else none) else none)) else none)
theorem spec_l12Same.ok {a0_0 : Int} {a0_1 : Int} {a0_2 : Int} {a0_3 : Int} {a0_4 : Int} {a0_5 : Int} {a1 : ByteArray} {a2 : ByteArray} {a3 : ByteArray} {r : (List S76)} (H : spec_l12Same.f a0_0 a0_1 a0_2 a0_3 a0_4 a0_5 a1 a2 a3 = some r) : ACalls Try.prog 97 [] [.agg [.lit (.int .i64 a0_0), .lit (.int .i64 a0_1), .lit (.int .i64 a0_2), .lit (.int .i64 a0_3), .lit (.int .i64 a0_4), .lit (.int .i64 a0_5)], .lit (.string a1), .lit (.string a2), .lit (.string a3)] [(0, .row 76 7 (r.map e76))] (.row 0) := by
 refine acalls (fn := Try.f97) (nt := 37) Try.func97 rfl rfl (Nat.le_of_ble_eq_true rfl) fun E hE => ?_
 rw [spec_l12Same.f] at H
 refine aw_grp1 ?_
 refine wk_start ?_
 refine kb g0 (bxA 0) ?_
 refine kv g0 (asg) ?_
 refine wk_end ?_
 refine ac_next ?_
 refine aw_grp1 ?_
 refine wk_start ?_
 refine kv g0 (ldBA 6 [.lit (.int .i64 a0_0), .lit (.int .i64 a0_1), .lit (.int .i64 a0_2), .lit (.int .i64 a0_3), .lit (.int .i64 a0_4), .lit (.int .i64 a0_5)]) ?_
 obtain ⟨t1, A2, H⟩ := of_bind H
 refine kcS1 11 (.row 1) [(1, .row 76 7 (t1.map e76))] g0 (cal (spec_l12Half.ok A2) [1] 9999 .n (hf := Try.func100)) rfl rfl ?_
 refine kv g0 (faB 4 4) ?_
 refine kv g0 (faB 0 4) ?_
 refine kv g0 (ldB) ?_
 refine kv g0 (mv) ?_
 obtain ⟨c3, H⟩ := of_if H
 refine kv g0 (cat c3) ?_
 refine kv g0 (mv) ?_
 obtain ⟨t4, A5, H⟩ := of_bind H
 refine kcS0 18 (.agg [.lit (.string t4.1), .lit (.int .i64 t4.2.1), .lit (.int .i64 t4.2.2.1), .lit (.int .i64 t4.2.2.2.1), .lit (.int .i64 t4.2.2.2.2.1), .lit (.string t4.2.2.2.2.2.1), .lit (.string t4.2.2.2.2.2.2)]) [] g0 (cal (spec_l11Asks.ok A5) [] 9999 .n (hf := Try.func40)) rfl rfl ?_
 refine kv g0 (mv) ?_
 refine kv g0 (cat c3) ?_
 refine kv g0 (bld [(0, 1), (1, 4), (5, 1), (6, 1)] [.string .empty, .int .i64 0, .int .i64 0, .int .i64 0, .int .i64 0, .string .empty, .string .empty] [.lit (.string (a1 ++ (⟨#[97]⟩ : ByteArray))), .lit (.int .i64 0), .lit (.int .i64 0), .lit (.int .i64 0), .lit (.int .i64 0), .lit (.string ByteArray.empty), .lit (.string ByteArray.empty)]) ?_
 refine kb g0 (bsl 2 76 7 [.string .empty, .int .i64 0, .int .i64 0, .int .i64 0, .int .i64 0, .string .empty, .string .empty] (([(⟨t4.1, (⟨t4.2.1, t4.2.2.1, t4.2.2.2.1, t4.2.2.2.2.1⟩ : S55), t4.2.2.2.2.2.1, t4.2.2.2.2.2.2⟩ : S76), (⟨a1 ++ (⟨#[97]⟩ : ByteArray), (⟨0, 0, 0, 0⟩ : S55), ByteArray.empty, ByteArray.empty⟩ : S76)] : List S76).map e76)) ?_
 obtain ⟨c6, H⟩ := of_if H
 refine kc g0 (apR 3 76 7 80 [.string .empty, .int .i64 0, .int .i64 0, .int .i64 0, .int .i64 0, .string .empty, .string .empty] ((t1 ++ ([(⟨t4.1, (⟨t4.2.1, t4.2.2.1, t4.2.2.2.1, t4.2.2.2.2.1⟩ : S55), t4.2.2.2.2.2.1, t4.2.2.2.2.2.2⟩ : S76), (⟨a1 ++ (⟨#[97]⟩ : ByteArray), (⟨0, 0, 0, 0⟩ : S55), ByteArray.empty, ByteArray.empty⟩ : S76)] : List S76)).map e76) (.row rfl) (apb c6 rfl) appE) ?_
 refine kv g0 (asg) ?_
 refine wk_end_draw hM (by kernel_rfl) ?_
 refine ac_next ?_
 refine aw_grp1 ?_
 refine wk_start ?_
 refine kv g0 (mv) ?_
 refine kv g0 (ldBA 6 [.lit (.int .i64 a0_0), .lit (.int .i64 a0_1), .lit (.int .i64 a0_2), .lit (.int .i64 a0_3), .lit (.int .i64 a0_4), .lit (.int .i64 a0_5)]) ?_
 obtain ⟨t7, A8, H⟩ := of_bind H
 refine kcS1 26 (.row 4) [(4, .row 76 7 (t7.map e76))] g0 (cal (spec_l12Half.ok A8) [4] 9999 .n (hf := Try.func100)) rfl rfl ?_
 obtain ⟨c9, H⟩ := of_if H
 refine kc g0 (apR 5 76 7 80 [.string .empty, .int .i64 0, .int .i64 0, .int .i64 0, .int .i64 0, .string .empty, .string .empty] (((t1 ++ ([(⟨t4.1, (⟨t4.2.1, t4.2.2.1, t4.2.2.2.1, t4.2.2.2.2.1⟩ : S55), t4.2.2.2.2.2.1, t4.2.2.2.2.2.2⟩ : S76), (⟨a1 ++ (⟨#[97]⟩ : ByteArray), (⟨0, 0, 0, 0⟩ : S55), ByteArray.empty, ByteArray.empty⟩ : S76)] : List S76)) ++ t7).map e76) (.row rfl) (apb c9 rfl) appE) ?_
 refine kv g0 (asg) ?_
 refine wk_end ?_
 refine ac_next ?_
 refine aw_grp1 ?_
 refine wk_start ?_
 refine kv g0 (mv) ?_
 refine kv g0 (faB 4 4) ?_
 refine kv g0 (faB 1 5) ?_
 refine kv g0 (ldB) ?_
 refine kv g0 (mv) ?_
 refine kv g0 (mv) ?_
 obtain ⟨t10, A11, H⟩ := of_bind H
 refine kcS0 34 (.agg [.lit (.string t10.1), .lit (.int .i64 t10.2.1), .lit (.int .i64 t10.2.2.1), .lit (.int .i64 t10.2.2.2.1), .lit (.int .i64 t10.2.2.2.2.1), .lit (.string t10.2.2.2.2.2.1), .lit (.string t10.2.2.2.2.2.2)]) [] g0 (cal (spec_l11Asks.ok A11) [] 9999 .n (hf := Try.func40)) rfl rfl ?_
 refine kb g0 (bsl 6 76 7 [.string .empty, .int .i64 0, .int .i64 0, .int .i64 0, .int .i64 0, .string .empty, .string .empty] (([(⟨t10.1, (⟨t10.2.1, t10.2.2.1, t10.2.2.2.1, t10.2.2.2.2.1⟩ : S55), t10.2.2.2.2.2.1, t10.2.2.2.2.2.2⟩ : S76)] : List S76).map e76)) ?_
 obtain ⟨c12, H⟩ := of_if H
 refine kc g0 (apR 7 76 7 80 [.string .empty, .int .i64 0, .int .i64 0, .int .i64 0, .int .i64 0, .string .empty, .string .empty] ((((t1 ++ ([(⟨t4.1, (⟨t4.2.1, t4.2.2.1, t4.2.2.2.1, t4.2.2.2.2.1⟩ : S55), t4.2.2.2.2.2.1, t4.2.2.2.2.2.2⟩ : S76), (⟨a1 ++ (⟨#[97]⟩ : ByteArray), (⟨0, 0, 0, 0⟩ : S55), ByteArray.empty, ByteArray.empty⟩ : S76)] : List S76)) ++ t7) ++ ([(⟨t10.1, (⟨t10.2.1, t10.2.2.1, t10.2.2.2.1, t10.2.2.2.2.1⟩ : S55), t10.2.2.2.2.2.1, t10.2.2.2.2.2.2⟩ : S76)] : List S76)).map e76) (.row rfl) (apb c12 rfl) appE) ?_
 refine kv g0 (asg) ?_
 refine wk_end ?_
 refine ac_next ?_
 refine aw_ret ?_
 obtain rfl := Option.some.inj H
 exact acr hE [.tmp 8] (.tmp .nil) (.one _) [(0, 7)] 9999
end Go.Proofs.Ytlmpaphlnlgelaa.PFnWaysShort
