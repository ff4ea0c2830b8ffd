import Derived.Test.YthfflkfpmebbbaaPFnWaysx0
set_option linter.unusedVariables false
set_option linter.unusedSimpArgs false
set_option maxRecDepth 100000
namespace Go.Proofs.Ythfflkfpmebbbaa.PFnWays
open Go Go.RowKit Go.Proofs.YthfflkfpmebbbaaA
/-! laws_big -/
def laws_big.f (l0 : List Int) : Option (Bool) := some (decide ((l0.length : Int) > 1048576))
theorem laws_big.ok {l0 : List Int} {r : Bool} (H : laws_big.f l0 = some r) : ACalls Try.prog 18 [] [.sl .o 1 (l0.map (eI .u8))] [] (.lit (.bool r)) := by
 refine acalls (fn := Try.f18) (nt := 6) Try.func18 rfl rfl (Nat.le_of_ble_eq_true rfl) fun E hE => ?_
 rw [laws_big.f] at H
 refine aw_grp1 ?_
 refine wk_start ?_
 refine kv g0 (asg) ?_
 refine wk_end ?_
 refine ac_next ?_
 refine aw_grp1 ?_
 refine wk_start ?_
 refine kv g0 (mv) ?_
 refine kv g0 (lnS lenE) ?_
 refine kv g0 (gtr) ?_
 refine kv g0 (asg) ?_
 refine wk_end ?_
 refine ac_next ?_
 refine aw_ret ?_
 obtain rfl := Option.some.inj H
 exact acr hE [.tmp 2] (.tmp .nil) (.one _) [] 9999
/-! spec_l01New -/
def spec_l01New.l0 : Nat → (List Int) → Int → Int → Option ((List Int) × Int × Int)
 | 0, _, _, _ => none
 | k5 + 1, l0, p3, p4 => if p4 < (l0.length : Int) then if p4 < 4000 then if 0 ≤ p4 then spec_l01New.l0 k5 l0 (bits .and .i64 (wrap64 ((wrap64 ((wrap64 (p3 * 131)) + (wrap64 (rd l0 p4)))) + 7)) 1073741823) (wrap64 (p4 + 1)) else none else some (l0, 0, p3) else some (l0, 0, p3)
def spec_l01New.f (k : Nat) (l0 : List Int) : Option ((List Int) × Int × Int) := spec_l01New.l0 k l0 (wrap64 (78801 + (l0.length : Int))) 0
theorem spec_l01New.ok {k : Nat} {l0 : List Int} {r : (List Int) × Int × Int} (H : spec_l01New.f k l0 = some r) : ACalls Try.prog 38 [] [.sl .u 1 (l0.map (eI .u8))] [(0, .box 92 [.sl .u 1 (r.1.map (eI .u8)), .lit (.int .i64 r.2.1), .lit (.int .i64 r.2.2)])] (.box 0 0) := by
 refine acalls (fn := Try.f38) (nt := 32) Try.func38 rfl rfl (Nat.le_of_ble_eq_true rfl) fun E hE => ?_
 rw [spec_l01New.f] at H
 refine aw_grp1 ?_
 refine wk_start ?_
 refine kv g0 (asg) ?_
 refine wk_end ?_
 refine ac_next ?_
 refine aw_grp1 ?_
 refine wk_start ?_
 refine kv g0 (mv) ?_
 refine kv g0 (lnS lenE) ?_
 refine kv g0 (add6) ?_
 refine kv g0 (asg) ?_
 refine wk_end ?_
 refine ac_next ?_
 refine aw_grp1 ?_
 refine aw_grp1 ?_
 refine wk_start ?_
 refine kv g0 (asg) ?_
 refine wk_end ?_
 refine ac_next ?_
 refine aw_block ?_
 refine aw_loop2 (fun (k_ : Nat) (p3 : Int) (p4 : Int) => k_ ≤ k ∧ spec_l01New.l0 k_ l0 p3 p4 = some r) (fun (p3 : Int) (p4 : Int) => ⟨[(0, .sl .u 1 (l0.map (eI .u8))), (3, .lit (.int .i64 p3)), (4, .lit (.int .i64 p4))], []⟩) k (wrap64 (78801 + (l0.length : Int))) 0 ⟨Nat.le_refl _, H⟩ (fun K_ h_ => acw hE [] 9999 h_) (fun _ _ => by intro h_; have h_ := h_.2; rw [spec_l01New.l0.eq_1] at h_; cases h_) ?_
 intro k5 p3 p4 hq_ K9 hK10
 have hk5 := hq_.1
 have H := hq_.2
 clear hq_
 rw [spec_l01New.l0.eq_2] at H
 refine aw_grp1 ?_
 refine aw_grp1 ?_
 refine wk_start ?_
 refine kv g0 (mv) ?_
 refine kv g0 (mv) ?_
 refine kv g0 (lnS lenE) ?_
 refine kv g0 (lss) ?_
 refine kv g0 (mv) ?_
 by_cases c6 : p4 < (l0.length : Int)
 ·rw [if_pos c6] at H
  refine kv (g1 (decide_eq_true c6)) (mv) ?_
  refine kv (g1 (decide_eq_true c6)) (lss) ?_
  refine kv g0 (pkT (decide_eq_true c6)) ?_
  refine wk_end ?_
  refine ac_next ?_
  by_cases c7 : p4 < 4000
  ·rw [if_pos c7] at H
   refine aw_ifT ?_ (decide_eq_true c7)
   refine aw_skip ?_
   refine ac_next ?_
   refine aw_grp1 ?_
   refine aw_block ?_
   refine wk_start ?_
   refine kv g0 (mv) ?_
   refine kv g0 (mul6) ?_
   refine kv g0 (mv) ?_
   refine kv g0 (mv) ?_
   obtain ⟨c8, H⟩ := of_if H
   refine kv g0 (ixS 5 (eI .u8 (rd l0 p4)) c8 (getE (z := (0 : Int)) c8 c6)) ?_
   refine kv g0 (ldR (.lit (.int .u8 (rd l0 p4)))) ?_
   refine kv g0 (cnv6) ?_
   refine kv g0 (add6) ?_
   refine kv g0 (add6) ?_
   refine kv g0 (band) ?_
   refine kv g0 (asg) ?_
   refine wk_end ?_
   refine ac_blkN ?_
   refine ac_next ?_
   refine wk_start ?_
   refine kv g0 (mv) ?_
   refine kv g0 (add6) ?_
   refine kv g0 (asg) ?_
   refine wk_end ?_
   refine ac_k ?_
   exact acw hE [] 9999 (hK10 k5 (bits .and .i64 (wrap64 ((wrap64 ((wrap64 (p3 * 131)) + (wrap64 (rd l0 p4)))) + 7)) 1073741823) (wrap64 (p4 + 1)) (Nat.le_refl _) ⟨by omega, H⟩)
  rw [if_neg c7] at H
  refine aw_ifF ?_ (decide_eq_false c7)
  refine aw_exit ?_
  refine ac_then ?_
  refine ac_then ?_
  refine ac_hit rfl ?_
  refine ac_next ?_
  refine aw_grp1 ?_
  refine wk_start ?_
  refine kv g0 (mv) ?_
  refine kv g0 (mv) ?_
  refine kv g0 (bld [(0, 1), (1, 1), (2, 1)] [.slice none 0 0, .int .i64 0, .int .i64 0] [.sl .u 1 (l0.map (eI .u8)), .lit (.int .i64 0), .lit (.int .i64 p3)]) ?_
  refine kb g0 (bxA 0) ?_
  refine kv g0 (asg) ?_
  refine wk_end ?_
  refine ac_next ?_
  refine aw_ret ?_
  obtain rfl := Option.some.inj H
  exact acr hE [.tmp 2] (.tmp .nil) (.one _) [(0, 0)] 9999
 rw [if_neg c6] at H
 refine kx (hT (decide_eq_false c6)) ?_
 refine kx (hT (decide_eq_false c6)) ?_
 refine kv g0 (pkF (decide_eq_false c6)) ?_
 refine wk_end ?_
 refine ac_next ?_
 refine aw_ifF ?_ rfl
 refine aw_exit ?_
 refine ac_then ?_
 refine ac_then ?_
 refine ac_hit rfl ?_
 refine ac_next ?_
 refine aw_grp1 ?_
 refine wk_start ?_
 refine kv g0 (mv) ?_
 refine kv g0 (mv) ?_
 refine kv g0 (bld [(0, 1), (1, 1), (2, 1)] [.slice none 0 0, .int .i64 0, .int .i64 0] [.sl .u 1 (l0.map (eI .u8)), .lit (.int .i64 0), .lit (.int .i64 p3)]) ?_
 refine kb g0 (bxA 1) ?_
 refine kv g0 (asg) ?_
 refine wk_end ?_
 refine ac_next ?_
 refine aw_ret ?_
 obtain rfl := Option.some.inj H
 exact acr hE [.tmp 2] (.tmp .nil) (.one _) [(0, 1)] 9999
/-! spec_l01Byte -/
def spec_l01Byte.f (l0_0 : List Int) (a0_1 : Int) (a0_2 : Int) : Option (Int × (List Int) × Int × Int) := if a0_1 < (l0_0.length : Int) then (if 0 ≤ a0_1 then some (bits .and .i64 (wrap64 ((bits .and .i64 (bits .xor .i64 ((wrap64 ((wrap64 (a0_2 * 6364136223846793005)) + 1442695040888963407)).fdiv (2 ^ 33)) ((wrap64 ((wrap64 (a0_2 * 6364136223846793005)) + 1442695040888963407)).fdiv (2 ^ 45))) 255) + (wrap64 (rd l0_0 a0_1)))) 255, l0_0, wrap64 (a0_1 + 1), wrap64 ((wrap64 (a0_2 * 6364136223846793005)) + 1442695040888963407)) else none) else some (bits .and .i64 (bits .xor .i64 ((wrap64 ((wrap64 (a0_2 * 6364136223846793005)) + 1442695040888963407)).fdiv (2 ^ 33)) ((wrap64 ((wrap64 (a0_2 * 6364136223846793005)) + 1442695040888963407)).fdiv (2 ^ 45))) 255, l0_0, a0_1, wrap64 ((wrap64 (a0_2 * 6364136223846793005)) + 1442695040888963407))
theorem spec_l01Byte.ok {l0_0 : List Int} {a0_1 : Int} {a0_2 : Int} {r : Int × (List Int) × Int × Int} (H : spec_l01Byte.f l0_0 a0_1 a0_2 = some r) : ACalls Try.prog 88 [(0, .box 92 [.sl .u 1 (l0_0.map (eI .u8)), .lit (.int .i64 a0_1), .lit (.int .i64 a0_2)])] [.box 0 0] [(0, .box 92 [.sl .u 1 (r.2.1.map (eI .u8)), .lit (.int .i64 r.2.2.1), .lit (.int .i64 r.2.2.2)])] (.lit (.int .i64 r.1)) := by
 refine acalls (fn := Try.f88) (nt := 58) Try.func88 rfl rfl (Nat.le_of_ble_eq_true rfl) fun E hE => ?_
 rw [spec_l01Byte.f] at H
 refine aw_grp1 ?_
 refine wk_start ?_
 refine kv g0 (asg) ?_
 refine wk_end ?_
 refine ac_next ?_
 refine aw_grp1 ?_
 refine wk_start ?_
 refine kv g0 (mv) ?_
 refine kv g0 (mv) ?_
 refine kv g0 (nilB) ?_
 refine kv g0 (faB 2 2) ?_
 refine kv g0 (ldB) ?_
 refine kv g0 (mul6) ?_
 refine kv g0 (add6) ?_
 refine kv g0 (nilB) ?_
 refine kv g0 (faB 2 2) ?_
 refine ks g0 (stB 1 [.sl .u 1 (l0_0.map (eI .u8)), .lit (.int .i64 a0_1), .lit (.int .i64 (wrap64 ((wrap64 (a0_2 * 6364136223846793005)) + 1442695040888963407)))]) ?_
 refine wk_end ?_
 refine ac_next ?_
 refine aw_grp1 ?_
 refine wk_start ?_
 refine kv g0 (mv) ?_
 refine kv g0 (nilB) ?_
 refine kv g0 (faB 2 2) ?_
 refine kv g0 (ldB) ?_
 refine kv g0 (shr (by decide : (0 : Int) ≤ 33)) ?_
 refine kv g0 (mv) ?_
 refine kv g0 (nilB) ?_
 refine kv g0 (faB 2 2) ?_
 refine kv g0 (ldB) ?_
 refine kv g0 (shr (by decide : (0 : Int) ≤ 45)) ?_
 refine kv g0 (bxor) ?_
 refine kv g0 (band) ?_
 refine kv g0 (asg) ?_
 refine wk_end_draw hM (by kernel_rfl) ?_
 refine ac_next ?_
 refine aw_grp1 ?_
 refine aw_grp1 ?_
 refine wk_start ?_
 refine kv g0 (mv) ?_
 refine kv g0 (nilB) ?_
 refine kv g0 (faB 1 1) ?_
 refine kv g0 (ldB) ?_
 refine kv g0 (mv) ?_
 refine kv g0 (nilB) ?_
 refine kv g0 (faB 0 0) ?_
 refine kv g0 (ldB) ?_
 refine kv g0 (lnS lenE) ?_
 refine kv g0 (lss) ?_
 refine wk_end_draw hM (by kernel_rfl) ?_
 refine ac_next ?_
 by_cases c1 : a0_1 < (l0_0.length : Int)
 ·rw [if_pos c1] at H
  refine aw_ifT ?_ (decide_eq_true c1)
  refine aw_grp1 ?_
  refine wk_start ?_
  refine kv g0 (mv) ?_
  refine kv g0 (mv) ?_
  refine kv g0 (nilB) ?_
  refine kv g0 (faB 0 0) ?_
  refine kv g0 (ldB) ?_
  refine kv g0 (mv) ?_
  refine kv g0 (nilB) ?_
  refine kv g0 (faB 1 1) ?_
  refine kv g0 (ldB) ?_
  obtain ⟨c2, H⟩ := of_if H
  refine kv g0 (ixS 5 (eI .u8 (rd l0_0 a0_1)) c2 (getE (z := (0 : Int)) c2 c1)) ?_
  refine kv g0 (ldR (.lit (.int .u8 (rd l0_0 a0_1)))) ?_
  refine kv g0 (cnv6) ?_
  refine kv g0 (add6) ?_
  refine kv g0 (band) ?_
  refine kv g0 (asg) ?_
  refine wk_end_draw hM (by kernel_rfl) ?_
  refine ac_next ?_
  refine wk_start ?_
  refine kv g0 (mv) ?_
  refine kv g0 (mv) ?_
  refine kv g0 (nilB) ?_
  refine kv g0 (faB 1 1) ?_
  refine kv g0 (ldB) ?_
  refine kv g0 (add6) ?_
  refine kv g0 (nilB) ?_
  refine kv g0 (faB 1 1) ?_
  refine ks g0 (stB 1 [.sl .u 1 (l0_0.map (eI .u8)), .lit (.int .i64 (wrap64 (a0_1 + 1))), .lit (.int .i64 (wrap64 ((wrap64 (a0_2 * 6364136223846793005)) + 1442695040888963407)))]) ?_
  refine wk_end ?_
  refine ac_next ?_
  refine aw_grp1 ?_
  refine wk_start ?_
  refine kv g0 (mv) ?_
  refine kv g0 (asg) ?_
  refine wk_end ?_
  refine ac_next ?_
  refine aw_ret ?_
  obtain rfl := Option.some.inj H
  exact acr hE [.tmp 2] (.tmp .nil) (.one _) [(0, 0)] 9999
 rw [if_neg c1] at H
 refine aw_ifF ?_ (decide_eq_false c1)
 refine aw_skip ?_
 refine ac_next ?_
 refine aw_grp1 ?_
 refine wk_start ?_
 refine kv g0 (mv) ?_
 refine kv g0 (asg) ?_
 refine wk_end ?_
 refine ac_next ?_
 refine aw_ret ?_
 obtain rfl := Option.some.inj H
 exact acr hE [.tmp 2] (.tmp .nil) (.one _) [(0, 0)] 9999
/-! spec_l01Below -/
def spec_l01Below.f (l0_0 : List Int) (a0_1 : Int) (a0_2 : Int) (a1 : Int) : Option (Int × (List Int) × Int × Int) := if a1 ≤ 0 then some (0, l0_0, a0_1, a0_2) else if a1 ≤ 256 then ((spec_l01Byte.f l0_0 a0_1 a0_2).bind fun t3 => (if a1 ≠ 0 then some (t3.1.tmod a1, t3.2.1, t3.2.2.1, t3.2.2.2) else none)) else (spec_l01Byte.f l0_0 a0_1 a0_2).bind fun t6 => (spec_l01Byte.f t6.2.1 t6.2.2.1 t6.2.2.2).bind fun t8 => (spec_l01Byte.f t8.2.1 t8.2.2.1 t8.2.2.2).bind fun t10 => (spec_l01Byte.f t10.2.1 t10.2.2.1 t10.2.2.2).bind fun t12 => if a1 ≠ 0 then some ((wrap64 ((wrap64 ((wrap64 ((wrap64 (t6.1 * 16777216)) + (wrap64 (t8.1 * 65536)))) + (wrap64 (t10.1 * 256)))) + t12.1)).tmod a1, t12.2.1, t12.2.2.1, t12.2.2.2) else none
theorem spec_l01Below.ok {l0_0 : List Int} {a0_1 : Int} {a0_2 : Int} {a1 : Int} {r : Int × (List Int) × Int × Int} (H : spec_l01Below.f l0_0 a0_1 a0_2 a1 = some r) : ACalls Try.prog 67 [(0, .box 92 [.sl .u 1 (l0_0.map (eI .u8)), .lit (.int .i64 a0_1), .lit (.int .i64 a0_2)])] [.box 0 0, .lit (.int .i64 a1)] [(0, .box 92 [.sl .u 1 (r.2.1.map (eI .u8)), .lit (.int .i64 r.2.2.1), .lit (.int .i64 r.2.2.2)])] (.lit (.int .i64 r.1)) := by
 refine acalls (fn := Try.f67) (nt := 37) Try.func67 rfl rfl (Nat.le_of_ble_eq_true rfl) fun E hE => ?_
 rw [spec_l01Below.f] at H
 refine aw_grp1 ?_
 refine wk_start ?_
 refine kv g0 (asg) ?_
 refine wk_end ?_
 refine ac_next ?_
 refine aw_grp1 ?_
 refine aw_grp1 ?_
 refine wk_start ?_
 refine kv g0 (mv) ?_
 refine kv g0 (leq) ?_
 refine wk_end ?_
 refine ac_next ?_
 by_cases c1 : a1 ≤ 0
 ·rw [if_pos c1] at H
  refine aw_ifT ?_ (decide_eq_true c1)
  refine aw_grp1 ?_
  refine wk_start ?_
  refine kv g0 (asg) ?_
  refine wk_end ?_
  refine ac_next ?_
  refine aw_ret ?_
  refine ac_thenR ?_
  obtain rfl := Option.some.inj H
  exact acr hE [.tmp 4] (.tmp .nil) (.one _) [(0, 0)] 9999
 rw [if_neg c1] at H
 refine aw_ifF ?_ (decide_eq_false c1)
 refine aw_skip ?_
 refine ac_next ?_
 refine aw_grp1 ?_
 refine aw_grp1 ?_
 refine wk_start ?_
 refine kv g0 (mv) ?_
 refine kv g0 (leq) ?_
 refine wk_end ?_
 refine ac_next ?_
 by_cases c2 : a1 ≤ 256
 ·rw [if_pos c2] at H
  refine aw_ifT ?_ (decide_eq_true c2)
  refine aw_grp1 ?_
  refine wk_start ?_
  refine kv g0 (mv) ?_
  obtain ⟨t3, A4, H⟩ := of_bind H
  refine kcS1 14 (.lit (.int .i64 t3.1)) [(0, .box 92 [.sl .u 1 (t3.2.1.map (eI .u8)), .lit (.int .i64 t3.2.2.1), .lit (.int .i64 t3.2.2.2)])] g0 (cal (spec_l01Byte.ok A4) [0] 9999 .u (hf := Try.func88)) rfl rfl ?_
  refine kv g0 (mv) ?_
  obtain ⟨c5, H⟩ := of_if H
  refine kv g0 (rem c5) ?_
  refine kv g0 (asg) ?_
  refine wk_end ?_
  refine ac_next ?_
  refine aw_ret ?_
  refine ac_thenR ?_
  obtain rfl := Option.some.inj H
  exact acr hE [.tmp 4] (.tmp .nil) (.one _) [(0, 0)] 9999
 rw [if_neg c2] at H
 refine aw_ifF ?_ (decide_eq_false c2)
 refine aw_skip ?_
 refine ac_next ?_
 refine aw_grp1 ?_
 refine wk_start ?_
 refine kv g0 (mv) ?_
 obtain ⟨t6, A7, H⟩ := of_bind H
 refine kcS1 18 (.lit (.int .i64 t6.1)) [(0, .box 92 [.sl .u 1 (t6.2.1.map (eI .u8)), .lit (.int .i64 t6.2.2.1), .lit (.int .i64 t6.2.2.2)])] g0 (cal (spec_l01Byte.ok A7) [0] 9999 .u (hf := Try.func88)) rfl rfl ?_
 refine kv g0 (asg) ?_
 refine wk_end ?_
 refine ac_next ?_
 refine aw_grp1 ?_
 refine wk_start ?_
 refine kv g0 (mv) ?_
 obtain ⟨t8, A9, H⟩ := of_bind H
 refine kcS1 20 (.lit (.int .i64 t8.1)) [(0, .box 92 [.sl .u 1 (t8.2.1.map (eI .u8)), .lit (.int .i64 t8.2.2.1), .lit (.int .i64 t8.2.2.2)])] g0 (cal (spec_l01Byte.ok A9) [0] 9999 .u (hf := Try.func88)) rfl rfl ?_
 refine kv g0 (asg) ?_
 refine wk_end ?_
 refine ac_next ?_
 refine aw_grp1 ?_
 refine wk_start ?_
 refine kv g0 (mv) ?_
 obtain ⟨t10, A11, H⟩ := of_bind H
 refine kcS1 22 (.lit (.int .i64 t10.1)) [(0, .box 92 [.sl .u 1 (t10.2.1.map (eI .u8)), .lit (.int .i64 t10.2.2.1), .lit (.int .i64 t10.2.2.2)])] g0 (cal (spec_l01Byte.ok A11) [0] 9999 .u (hf := Try.func88)) rfl rfl ?_
 refine kv g0 (asg) ?_
 refine wk_end ?_
 refine ac_next ?_
 refine aw_grp1 ?_
 refine wk_start ?_
 refine kv g0 (mv) ?_
 obtain ⟨t12, A13, H⟩ := of_bind H
 refine kcS1 24 (.lit (.int .i64 t12.1)) [(0, .box 92 [.sl .u 1 (t12.2.1.map (eI .u8)), .lit (.int .i64 t12.2.2.1), .lit (.int .i64 t12.2.2.2)])] g0 (cal (spec_l01Byte.ok A13) [0] 9999 .u (hf := Try.func88)) rfl rfl ?_
 refine kv g0 (asg) ?_
 refine wk_end ?_
 refine ac_next ?_
 refine aw_grp1 ?_
 refine wk_start ?_
 refine kv g0 (mv) ?_
 refine kv g0 (mul6) ?_
 refine kv g0 (mv) ?_
 refine kv g0 (mul6) ?_
 refine kv g0 (add6) ?_
 refine kv g0 (mv) ?_
 refine kv g0 (mul6) ?_
 refine kv g0 (add6) ?_
 refine kv g0 (mv) ?_
 refine kv g0 (add6) ?_
 refine kv g0 (mv) ?_
 obtain ⟨c14, H⟩ := of_if H
 refine kv g0 (rem c14) ?_
 refine kv g0 (asg) ?_
 refine wk_end ?_
 refine ac_next ?_
 refine aw_ret ?_
 obtain rfl := Option.some.inj H
 exact acr hE [.tmp 4] (.tmp .nil) (.one _) [(0, 0)] 9999
/-! spec_l01PickInt -/
def spec_l01PickInt.f (l0_0 : List Int) (a0_1 : Int) (a0_2 : Int) (l1 : List Int) : Option (Int × (List Int) × Int × Int) := (spec_l01Below.f l0_0 a0_1 a0_2 (l1.length : Int)).bind fun t1 => (if 0 ≤ t1.1 then (if t1.1 < (l1.length : Int) then some ((rd l1 t1.1), t1.2.1, t1.2.2.1, t1.2.2.2) else none) else none)
theorem spec_l01PickInt.ok {l0_0 : List Int} {a0_1 : Int} {a0_2 : Int} {l1 : List Int} {r : Int × (List Int) × Int × Int} (H : spec_l01PickInt.f l0_0 a0_1 a0_2 l1 = some r) : ACalls Try.prog 71 [(0, .box 92 [.sl .u 1 (l0_0.map (eI .u8)), .lit (.int .i64 a0_1), .lit (.int .i64 a0_2)])] [.box 0 0, .sl .o 1 (l1.map (eI .i64))] [(0, .box 92 [.sl .u 1 (r.2.1.map (eI .u8)), .lit (.int .i64 r.2.2.1), .lit (.int .i64 r.2.2.2)])] (.lit (.int .i64 r.1)) := by
 refine acalls (fn := Try.f71) (nt := 12) Try.func71 rfl rfl (Nat.le_of_ble_eq_true rfl) fun E hE => ?_
 rw [spec_l01PickInt.f] at H
 refine aw_grp1 ?_
 refine wk_start ?_
 refine kv g0 (asg) ?_
 refine wk_end ?_
 refine ac_next ?_
 refine aw_grp1 ?_
 refine wk_start ?_
 refine kv g0 (mv) ?_
 refine kv g0 (mv) ?_
 refine kv g0 (mv) ?_
 refine kv g0 (lnS lenE) ?_
 obtain ⟨t1, A2, H⟩ := of_bind H
 refine kcS1 9 (.lit (.int .i64 t1.1)) [(0, .box 92 [.sl .u 1 (t1.2.1.map (eI .u8)), .lit (.int .i64 t1.2.2.1), .lit (.int .i64 t1.2.2.2)])] g0 (cal (spec_l01Below.ok A2) [0] 9999 .u (hf := Try.func67)) rfl rfl ?_
 obtain ⟨c3, H⟩ := of_if H
 obtain ⟨c4, H⟩ := of_if H
 refine kv g0 (ixS 3 (eI .i64 (rd l1 t1.1)) c3 (getE (z := (0 : Int)) c3 c4)) ?_
 refine kv g0 (ldR (.lit (.int .i64 (rd l1 t1.1)))) ?_
 refine kv g0 (asg) ?_
 refine wk_end ?_
 refine ac_next ?_
 refine aw_ret ?_
 obtain rfl := Option.some.inj H
 exact acr hE [.tmp 4] (.tmp .nil) (.one _) [(0, 0)] 9999
/-! spec_l04Half -/
def spec_l04Half.f (l0_0 : List Int) (a0_1 : Int) (a0_2 : Int) : Option (Int × (List Int) × Int × Int) := (spec_l01Below.f l0_0 a0_1 a0_2 12).bind fun t1 => ((spec_l01PickInt.f t1.2.1 t1.2.2.1 t1.2.2.2 ([0, 1, 2, 3, 5, 7, 255, 4294967295, 2147483648, t1.1] : List Int)).bind fun t3 => some (t3.1, t3.2.1, t3.2.2.1, t3.2.2.2))
theorem spec_l04Half.ok {l0_0 : List Int} {a0_1 : Int} {a0_2 : Int} {r : Int × (List Int) × Int × Int} (H : spec_l04Half.f l0_0 a0_1 a0_2 = some r) : ACalls Try.prog 89 [(0, .box 92 [.sl .u 1 (l0_0.map (eI .u8)), .lit (.int .i64 a0_1), .lit (.int .i64 a0_2)])] [.box 0 0] [(0, .box 92 [.sl .u 1 (r.2.1.map (eI .u8)), .lit (.int .i64 r.2.2.1), .lit (.int .i64 r.2.2.2)])] (.lit (.int .i64 r.1)) := by
 refine acalls (fn := Try.f89) (nt := 8) Try.func89 rfl rfl (Nat.le_of_ble_eq_true rfl) fun E hE => ?_
 rw [spec_l04Half.f] at H
 refine aw_grp1 ?_
 refine wk_start ?_
 refine kv g0 (asg) ?_
 refine wk_end ?_
 refine ac_next ?_
 refine aw_grp1 ?_
 refine wk_start ?_
 refine kv g0 (mv) ?_
 refine kv g0 (mv) ?_
 obtain ⟨t1, A2, H⟩ := of_bind H
 refine kcS1 5 (.lit (.int .i64 t1.1)) [(0, .box 92 [.sl .u 1 (t1.2.1.map (eI .u8)), .lit (.int .i64 t1.2.2.1), .lit (.int .i64 t1.2.2.2)])] g0 (cal (spec_l01Below.ok A2) [0] 9999 .u (hf := Try.func67)) rfl rfl ?_
 refine kb g0 (bsl 1 3 1 [.int .i64 0] (([0, 1, 2, 3, 5, 7, 255, 4294967295, 2147483648, t1.1] : List Int).map (eI .i64))) ?_
 obtain ⟨t3, A4, H⟩ := of_bind H
 refine kcS1 7 (.lit (.int .i64 t3.1)) [(0, .box 92 [.sl .u 1 (t3.2.1.map (eI .u8)), .lit (.int .i64 t3.2.2.1), .lit (.int .i64 t3.2.2.2)])] g0 (cal (spec_l01PickInt.ok A4) [0] 9999 .u (hf := Try.func71)) rfl rfl ?_
 refine kv g0 (asg) ?_
 refine wk_end ?_
 refine ac_next ?_
 refine aw_ret ?_
 obtain rfl := Option.some.inj H
 exact acr hE [.tmp 2] (.tmp .nil) (.one _) [(0, 0)] 9999
/-! spec_l01In -/
def spec_l01In.f (a0 : Int) (a1 : Int) (a2 : Int) : Option (Bool) := if a0 ≥ a1 then some (decide (a0 ≤ a2)) else some false
theorem spec_l01In.ok {a0 : Int} {a1 : Int} {a2 : Int} {r : Bool} (H : spec_l01In.f a0 a1 a2 = some r) : ACalls Try.prog 40 [] [.lit (.int .i64 a0), .lit (.int .i64 a1), .lit (.int .i64 a2)] [] (.lit (.bool r)) := by
 refine acalls (fn := Try.f40) (nt := 15) Try.func40 rfl rfl (Nat.le_of_ble_eq_true rfl) fun E hE => ?_
 rw [spec_l01In.f] at H
 refine aw_grp1 ?_
 refine wk_start ?_
 refine kv g0 (asg) ?_
 refine wk_end ?_
 refine ac_next ?_
 refine aw_grp1 ?_
 refine wk_start ?_
 refine kv g0 (mv) ?_
 refine kv g0 (mv) ?_
 refine kv g0 (geq) ?_
 refine kv g0 (mv) ?_
 by_cases c1 : a0 ≥ a1
 ·rw [if_pos c1] at H
  refine kv (g1 (decide_eq_true c1)) (mv) ?_
  refine kv (g1 (decide_eq_true c1)) (mv) ?_
  refine kv (g1 (decide_eq_true c1)) (leq) ?_
  refine kv g0 (pkT (decide_eq_true c1)) ?_
  refine kv g0 (asg) ?_
  refine wk_end ?_
  refine ac_next ?_
  refine aw_ret ?_
  obtain rfl := Option.some.inj H
  exact acr hE [.tmp 6] (.tmp .nil) (.one _) [] 9999
 rw [if_neg c1] at H
 refine kx (hT (decide_eq_false c1)) ?_
 refine kx (hT (decide_eq_false c1)) ?_
 refine kx (hT (decide_eq_false c1)) ?_
 refine kv g0 (pkF (decide_eq_false c1)) ?_
 refine kv g0 (asg) ?_
 refine wk_end ?_
 refine ac_next ?_
 refine aw_ret ?_
 obtain rfl := Option.some.inj H
 exact acr hE [.tmp 6] (.tmp .nil) (.one _) [] 9999
/-! spec_ResultOf -/
def spec_ResultOf.f (a0 : Int) (a1 : Int) : Option (Int) := (spec_l01In.f a0 0 5).bind fun t1 => (if t1 = true then ((spec_l01In.f a1 0 65535).bind fun t4 => if t4 = true then some (wrap64 ((wrap64 (65536 * a0)) + a1)) else some 0) else some 0)
theorem spec_ResultOf.ok {a0 : Int} {a1 : Int} {r : Int} (H : spec_ResultOf.f a0 a1 = some r) : ACalls Try.prog 70 [] [.lit (.int .i64 a0), .lit (.int .i64 a1)] [] (.lit (.int .i64 r)) := by
 refine acalls (fn := Try.f70) (nt := 17) Try.func70 rfl rfl (Nat.le_of_ble_eq_true rfl) fun E hE => ?_
 rw [spec_ResultOf.f] at H
 refine aw_grp1 ?_
 refine wk_start ?_
 refine kv g0 (asg) ?_
 refine wk_end ?_
 refine ac_next ?_
 refine aw_grp1 ?_
 refine aw_grp1 ?_
 refine wk_start ?_
 refine kv g0 (mv) ?_
 obtain ⟨t1, A2, H⟩ := of_bind H
 refine kcS0 6 (.lit (.bool t1)) [] g0 (cal (spec_l01In.ok A2) [] 9999 .n (hf := Try.func40)) rfl rfl ?_
 refine kv g0 (not_) ?_
 refine kv g0 (mv) ?_
 by_cases c3 : t1 = true
 ·rw [if_pos c3] at H
  refine kv (g1 (nF c3)) (mv) ?_
  obtain ⟨t4, A5, H⟩ := of_bind H
  refine kcS0 10 (.lit (.bool t4)) [] (g1 (nF c3)) (cal (spec_l01In.ok A5) [] 9999 .n (hf := Try.func40)) rfl rfl ?_
  refine kv (g1 (nF c3)) (not_) ?_
  refine kv g0 (pkF (nF c3)) ?_
  refine wk_end ?_
  refine ac_next ?_
  by_cases c6 : t4 = true
  ·rw [if_pos c6] at H
   refine aw_ifF ?_ (nF c6)
   refine aw_skip ?_
   refine ac_next ?_
   refine aw_grp1 ?_
   refine wk_start ?_
   refine kv g0 (mv) ?_
   refine kv g0 (mul6) ?_
   refine kv g0 (mv) ?_
   refine kv g0 (add6) ?_
   refine kv g0 (asg) ?_
   refine wk_end ?_
   refine ac_next ?_
   refine aw_ret ?_
   obtain rfl := Option.some.inj H
   exact acr hE [.tmp 4] (.tmp .nil) (.one _) [] 9999
  rw [if_neg c6] at H
  refine aw_ifT ?_ (nT (bF c6))
  refine aw_grp1 ?_
  refine wk_start ?_
  refine kv g0 (asg) ?_
  refine wk_end ?_
  refine ac_next ?_
  refine aw_ret ?_
  refine ac_thenR ?_
  obtain rfl := Option.some.inj H
  exact acr hE [.tmp 4] (.tmp .nil) (.one _) [] 9999
 rw [if_neg c3] at H
 refine kx (hF (nT (bF c3))) ?_
 refine kx (hF (nT (bF c3))) ?_
 refine kx (hF (nT (bF c3))) ?_
 refine kv g0 (pkT (nT (bF c3))) ?_
 refine wk_end ?_
 refine ac_next ?_
 refine aw_ifT ?_ rfl
 refine aw_grp1 ?_
 refine wk_start ?_
 refine kv g0 (asg) ?_
 refine wk_end ?_
 refine ac_next ?_
 refine aw_ret ?_
 refine ac_thenR ?_
 obtain rfl := Option.some.inj H
 exact acr hE [.tmp 4] (.tmp .nil) (.one _) [] 9999
/-! spec_l06Ins -/
mutual
def spec_l06Ins.j0 : Nat → (Int × (List Int) × Int × Int) → (Int × (List Int) × Int × Int) → Bool → Option (Int × Int × Int × Int × (List Int) × Int × Int)
 | 0, _, _, _ => none
 | k15 + 1, t1, t3, p14 => if p14 = true then ((spec_l01Below.f t3.2.1 t3.2.2.1 t3.2.2.2 4).bind fun t17 => (spec_l01Below.f t17.2.1 t17.2.2.1 t17.2.2.2 4).bind fun t19 => spec_l06Ins.j1 k15 t1 t19.2.1 t19.2.2.1 t19.2.2.2 t3.1 t17.1 t19.1) else if (wrap64 (1 + t1.1)) = 8 then ((spec_l01Below.f t3.2.1 t3.2.2.1 t3.2.2.2 6).bind fun t22 => ((spec_l01Below.f t22.2.1 t22.2.2.1 t22.2.2.2 5).bind fun t24 => ((spec_ResultOf.f t22.1 t24.1).bind fun t26 => spec_l06Ins.j1 k15 t1 t24.2.1 t24.2.2.1 t24.2.2.2 t26 0 0))) else spec_l06Ins.j1 k15 t1 t3.2.1 t3.2.2.1 t3.2.2.2 t3.1 0 0
def spec_l06Ins.j1 : Nat → (Int × (List Int) × Int × Int) → (List Int) → Int → Int → Int → Int → Int → Option (Int × Int × Int × Int × (List Int) × Int × Int)
 | 0, _, _, _, _, _, _, _ => none
 | k35 + 1, t1, q29, p30, p31, p32, p33, p34 => some (wrap64 (1 + t1.1), p32, p33, p34, q29, p30, p31)
end
def spec_l06Ins.f (k : Nat) (l0_0 : List Int) (a0_1 : Int) (a0_2 : Int) : Option (Int × Int × Int × Int × (List Int) × Int × Int) := (spec_l01Below.f l0_0 a0_1 a0_2 8).bind fun t1 => ((spec_l04Half.f t1.2.1 t1.2.2.1 t1.2.2.2).bind fun t3 => if (wrap64 (1 + t1.1)) = 1 then ((spec_l01Below.f t3.2.1 t3.2.2.1 t3.2.2.2 8).bind fun t6 => spec_l06Ins.j1 k t1 t6.2.1 t6.2.2.1 t6.2.2.2 t6.1 0 0) else if (wrap64 (1 + t1.1)) = 7 then ((spec_l01Below.f t3.2.1 t3.2.2.1 t3.2.2.2 4).bind fun t9 => spec_l06Ins.j1 k t1 t9.2.1 t9.2.2.1 t9.2.2.2 t9.1 0 0) else if (wrap64 (1 + t1.1)) = 3 then spec_l06Ins.j0 k t1 t3 ((wrap64 (1 + t1.1)) == 3) else if (wrap64 (1 + t1.1)) = 4 then spec_l06Ins.j0 k t1 t3 ((wrap64 (1 + t1.1)) == 4) else if (wrap64 (1 + t1.1)) = 5 then spec_l06Ins.j0 k t1 t3 ((wrap64 (1 + t1.1)) == 5) else spec_l06Ins.j0 k t1 t3 ((wrap64 (1 + t1.1)) == 6))
theorem spec_l06Ins.ok {k : Nat} {l0_0 : List Int} {a0_1 : Int} {a0_2 : Int} {r : Int × Int × Int × Int × (List Int) × Int × Int} (H : spec_l06Ins.f k l0_0 a0_1 a0_2 = some r) : ACalls Try.prog 68 [(0, .box 92 [.sl .u 1 (l0_0.map (eI .u8)), .lit (.int .i64 a0_1), .lit (.int .i64 a0_2)])] [.box 0 0] [(0, .box 92 [.sl .u 1 (r.2.2.2.2.1.map (eI .u8)), .lit (.int .i64 r.2.2.2.2.2.1), .lit (.int .i64 r.2.2.2.2.2.2)])] (.agg [.lit (.int .i64 r.1), .lit (.int .i64 r.2.1), .lit (.int .i64 r.2.2.1), .lit (.int .i64 r.2.2.2.1)]) := by
 refine acalls (fn := Try.f68) (nt := 42) Try.func68 rfl rfl (Nat.le_of_ble_eq_true rfl) fun E hE => ?_
 rw [spec_l06Ins.f] at H
 refine aw_grp1 ?_
 refine wk_start ?_
 refine kb g0 (alc 1 [.int .i64 0, .int .i64 0, .int .i64 0, .int .i64 0] [.lit (.int .i64 0), .lit (.int .i64 0), .lit (.int .i64 0), .lit (.int .i64 0)]) ?_
 refine wk_end ?_
 refine ac_next ?_
 refine aw_grp1 ?_
 refine wk_start ?_
 refine kv g0 (mv) ?_
 obtain ⟨t1, A2, H⟩ := of_bind H
 refine kcS1 5 (.lit (.int .i64 t1.1)) [(0, .box 92 [.sl .u 1 (t1.2.1.map (eI .u8)), .lit (.int .i64 t1.2.2.1), .lit (.int .i64 t1.2.2.2)])] g0 (cal (spec_l01Below.ok A2) [0] 9999 .u (hf := Try.func67)) rfl rfl ?_
 refine kv g0 (add6) ?_
 refine kv g0 (mv) ?_
 obtain ⟨t3, A4, H⟩ := of_bind H
 refine kcS1 8 (.lit (.int .i64 t3.1)) [(0, .box 92 [.sl .u 1 (t3.2.1.map (eI .u8)), .lit (.int .i64 t3.2.2.1), .lit (.int .i64 t3.2.2.2)])] g0 (cal (spec_l04Half.ok A4) [0] 9999 .u (hf := Try.func89)) rfl rfl ?_
 refine kv g0 (bld [(0, 1), (1, 1), (2, 1), (3, 1)] [.int .i64 0, .int .i64 0, .int .i64 0, .int .i64 0] [.lit (.int .i64 (wrap64 (1 + t1.1))), .lit (.int .i64 t3.1), .lit (.int .i64 0), .lit (.int .i64 0)]) ?_
 refine kb g0 (alc 2 [.int .i64 0, .int .i64 0, .int .i64 0, .int .i64 0] [.lit (.int .i64 0), .lit (.int .i64 0), .lit (.int .i64 0), .lit (.int .i64 0)]) ?_
 refine ks g0 (stB 4 [.lit (.int .i64 (wrap64 (1 + t1.1))), .lit (.int .i64 t3.1), .lit (.int .i64 0), .lit (.int .i64 0)]) ?_
 refine wk_end ?_
 refine ac_next ?_
 refine aw_cut1 (J := fun K_ => ∀ (k_ : Nat) (q29 : List Int) (p30 : Int) (p31 : Int) (p32 : Int) (p33 : Int) (p34 : Int), k_ ≤ k → spec_l06Ins.j1 k_ t1 q29 p30 p31 p32 p33 p34 = some r → ACont E 42 ⟨[(2, .box 1 0), (3, .box 2 0)], [(0, .box 92 [.sl .u 1 (q29.map (eI .u8)), .lit (.int .i64 p30), .lit (.int .i64 p31)]), (1, .box 46 [.lit (.int .i64 0), .lit (.int .i64 0), .lit (.int .i64 0), .lit (.int .i64 0)]), (2, .box 46 [.lit (.int .i64 (wrap64 (1 + t1.1))), .lit (.int .i64 p32), .lit (.int .i64 p33), .lit (.int .i64 p34)])]⟩ K_) ?_ ?_
 ·intro K_ hJ36
  refine aw_grp1 ?_
  refine wk_start ?_
  refine kv g0 (faB 0 0) ?_
  refine kv g0 (ldB) ?_
  refine wk_end ?_
  refine ac_next ?_
  refine aw_block ?_
  refine aw_grp1 ?_
  refine wk_start ?_
  refine kv g0 (eql) ?_
  refine kv g0 (asg) ?_
  refine wk_end ?_
  refine ac_next ?_
  by_cases c5 : (wrap64 (1 + t1.1)) = 1
  ·rw [if_pos c5] at H
   refine aw_ifT ?_ (eT c5)
   refine wk_start ?_
   refine kv g0 (mv) ?_
   obtain ⟨t6, A7, H⟩ := of_bind H
   refine kcS1 15 (.lit (.int .i64 t6.1)) [(0, .box 92 [.sl .u 1 (t6.2.1.map (eI .u8)), .lit (.int .i64 t6.2.2.1), .lit (.int .i64 t6.2.2.2)])] g0 (cal (spec_l01Below.ok A7) [0] 9999 .u (hf := Try.func67)) rfl rfl ?_
   refine kv g0 (faB 1 1) ?_
   refine ks g0 (stB 1 [.lit (.int .i64 (wrap64 (1 + t1.1))), .lit (.int .i64 t6.1), .lit (.int .i64 0), .lit (.int .i64 0)]) ?_
   refine wk_end ?_
   refine ac_blkN ?_
   refine ac_k ?_
   exact acw hE [(0, 0), (1, 1), (2, 2)] 9999 (hJ36 k t6.2.1 t6.2.2.1 t6.2.2.2 t6.1 0 0 (Nat.le_refl _) H)
  rw [if_neg c5] at H
  refine aw_ifF ?_ (eF c5)
  refine aw_grp1 ?_
  refine wk_start ?_
  refine kv g0 (eql) ?_
  refine kv g0 (asg) ?_
  refine wk_end ?_
  refine ac_next ?_
  by_cases c8 : (wrap64 (1 + t1.1)) = 7
  ·rw [if_pos c8] at H
   refine aw_ifT ?_ (eT c8)
   refine wk_start ?_
   refine kv g0 (mv) ?_
   obtain ⟨t9, A10, H⟩ := of_bind H
   refine kcS1 20 (.lit (.int .i64 t9.1)) [(0, .box 92 [.sl .u 1 (t9.2.1.map (eI .u8)), .lit (.int .i64 t9.2.2.1), .lit (.int .i64 t9.2.2.2)])] g0 (cal (spec_l01Below.ok A10) [0] 9999 .u (hf := Try.func67)) rfl rfl ?_
   refine kv g0 (faB 1 1) ?_
   refine ks g0 (stB 1 [.lit (.int .i64 (wrap64 (1 + t1.1))), .lit (.int .i64 t9.1), .lit (.int .i64 0), .lit (.int .i64 0)]) ?_
   refine wk_end ?_
   refine ac_blkN ?_
   refine ac_k ?_
   exact acw hE [(0, 0), (1, 1), (2, 2)] 9999 (hJ36 k t9.2.1 t9.2.2.1 t9.2.2.2 t9.1 0 0 (Nat.le_refl _) H)
  rw [if_neg c8] at H
  refine aw_ifF ?_ (eF c8)
  refine aw_cut1 (J := fun K_ => ∀ (k_ : Nat) (p14 : Bool), k_ ≤ k → spec_l06Ins.j0 k_ t1 t3 p14 = some r → ACont E 42 ⟨[(0, .box 0 0), (2, .box 1 0), (3, .box 2 0), (11, .lit (.int .i64 (wrap64 (1 + t1.1)))), (22, .lit (.bool p14))], [(0, .box 92 [.sl .u 1 (t3.2.1.map (eI .u8)), .lit (.int .i64 t3.2.2.1), .lit (.int .i64 t3.2.2.2)]), (1, .box 46 [.lit (.int .i64 0), .lit (.int .i64 0), .lit (.int .i64 0), .lit (.int .i64 0)]), (2, .box 46 [.lit (.int .i64 (wrap64 (1 + t1.1))), .lit (.int .i64 t3.1), .lit (.int .i64 0), .lit (.int .i64 0)])]⟩ K_) ?_ ?_
  ·intro K_ hJ28
   refine aw_grp1 ?_
   refine wk_start ?_
   refine kv g0 (eql) ?_
   refine kv g0 (asg) ?_
   refine wk_end ?_
   refine ac_next ?_
   by_cases c11 : (wrap64 (1 + t1.1)) = 3
   ·rw [if_pos c11] at H
    refine aw_ifT ?_ (eT c11)
    refine aw_skip ?_
    refine ac_k ?_
    exact acw hE [(0, 0), (1, 1), (2, 2)] 9999 (hJ28 k ((wrap64 (1 + t1.1)) == 3) (Nat.le_refl _) H)
   rw [if_neg c11] at H
   refine aw_ifF ?_ (eF c11)
   refine aw_grp1 ?_
   refine wk_start ?_
   refine kv g0 (eql) ?_
   refine kv g0 (asg) ?_
   refine wk_end ?_
   refine ac_next ?_
   by_cases c12 : (wrap64 (1 + t1.1)) = 4
   ·rw [if_pos c12] at H
    refine aw_ifT ?_ (eT c12)
    refine aw_skip ?_
    refine ac_k ?_
    exact acw hE [(0, 0), (1, 1), (2, 2)] 9999 (hJ28 k ((wrap64 (1 + t1.1)) == 4) (Nat.le_refl _) H)
   rw [if_neg c12] at H
   refine aw_ifF ?_ (eF c12)
   refine aw_grp1 ?_
   refine wk_start ?_
   refine kv g0 (eql) ?_
   refine kv g0 (asg) ?_
   refine wk_end ?_
   refine ac_next ?_
   by_cases c13 : (wrap64 (1 + t1.1)) = 5
   ·rw [if_pos c13] at H
    refine aw_ifT ?_ (eT c13)
    refine aw_skip ?_
    refine ac_k ?_
    exact acw hE [(0, 0), (1, 1), (2, 2)] 9999 (hJ28 k ((wrap64 (1 + t1.1)) == 5) (Nat.le_refl _) H)
   rw [if_neg c13] at H
   refine aw_ifF ?_ (eF c13)
   refine wk_start ?_
   refine kv g0 (eql) ?_
   refine kv g0 (asg) ?_
   refine wk_end ?_
   refine ac_k ?_
   exact acw hE [(0, 0), (1, 1), (2, 2)] 9999 (hJ28 k ((wrap64 (1 + t1.1)) == 6) (Nat.le_refl _) H)
  intro k_ p14 hk_ H
  rcases k_ with _ | k15
  ·rw [spec_l06Ins.j0.eq_1] at H; cases H
  have hk15 : k15 ≤ k := by omega
  clear hk_
  rw [spec_l06Ins.j0.eq_2] at H
  by_cases c16 : p14 = true
  ·rw [if_pos c16] at H
   refine aw_ifT ?_ c16
   refine aw_grp1 ?_
   refine wk_start ?_
   refine kv g0 (mv) ?_
   obtain ⟨t17, A18, H⟩ := of_bind H
   refine kcS1 28 (.lit (.int .i64 t17.1)) [(0, .box 92 [.sl .u 1 (t17.2.1.map (eI .u8)), .lit (.int .i64 t17.2.2.1), .lit (.int .i64 t17.2.2.2)])] g0 (cal (spec_l01Below.ok A18) [0] 9999 .u (hf := Try.func67)) rfl rfl ?_
   refine kv g0 (faB 2 2) ?_
   refine ks g0 (stB 1 [.lit (.int .i64 (wrap64 (1 + t1.1))), .lit (.int .i64 t3.1), .lit (.int .i64 t17.1), .lit (.int .i64 0)]) ?_
   refine wk_end ?_
   refine ac_next ?_
   refine wk_start ?_
   refine kv g0 (mv) ?_
   obtain ⟨t19, A20, H⟩ := of_bind H
   refine kcS1 31 (.lit (.int .i64 t19.1)) [(0, .box 92 [.sl .u 1 (t19.2.1.map (eI .u8)), .lit (.int .i64 t19.2.2.1), .lit (.int .i64 t19.2.2.2)])] g0 (cal (spec_l01Below.ok A20) [0] 9999 .u (hf := Try.func67)) rfl rfl ?_
   refine kv g0 (faB 3 3) ?_
   refine ks g0 (stB 1 [.lit (.int .i64 (wrap64 (1 + t1.1))), .lit (.int .i64 t3.1), .lit (.int .i64 t17.1), .lit (.int .i64 t19.1)]) ?_
   refine wk_end ?_
   refine ac_blkN ?_
   refine ac_k ?_
   exact acw hE [(0, 0), (1, 1), (2, 2)] 9999 (hJ36 k15 t19.2.1 t19.2.2.1 t19.2.2.2 t3.1 t17.1 t19.1 (by omega) H)
  rw [if_neg c16] at H
  refine aw_ifF ?_ (bF c16)
  refine aw_grp1 ?_
  refine wk_start ?_
  refine kv g0 (eql) ?_
  refine kv g0 (asg) ?_
  refine wk_end ?_
  refine ac_next ?_
  by_cases c21 : (wrap64 (1 + t1.1)) = 8
  ·rw [if_pos c21] at H
   refine aw_ifT ?_ (eT c21)
   refine wk_start ?_
   refine kv g0 (mv) ?_
   obtain ⟨t22, A23, H⟩ := of_bind H
   refine kcS1 36 (.lit (.int .i64 t22.1)) [(0, .box 92 [.sl .u 1 (t22.2.1.map (eI .u8)), .lit (.int .i64 t22.2.2.1), .lit (.int .i64 t22.2.2.2)])] g0 (cal (spec_l01Below.ok A23) [0] 9999 .u (hf := Try.func67)) rfl rfl ?_
   refine kv g0 (mv) ?_
   obtain ⟨t24, A25, H⟩ := of_bind H
   refine kcS1 38 (.lit (.int .i64 t24.1)) [(0, .box 92 [.sl .u 1 (t24.2.1.map (eI .u8)), .lit (.int .i64 t24.2.2.1), .lit (.int .i64 t24.2.2.2)])] g0 (cal (spec_l01Below.ok A25) [0] 9999 .u (hf := Try.func67)) rfl rfl ?_
   obtain ⟨t26, A27, H⟩ := of_bind H
   refine kcS0 39 (.lit (.int .i64 t26)) [] g0 (cal (spec_ResultOf.ok A27) [] 9999 .n (hf := Try.func70)) rfl rfl ?_
   refine kv g0 (faB 1 1) ?_
   refine ks g0 (stB 1 [.lit (.int .i64 (wrap64 (1 + t1.1))), .lit (.int .i64 t26), .lit (.int .i64 0), .lit (.int .i64 0)]) ?_
   refine wk_end ?_
   refine ac_blkN ?_
   refine ac_k ?_
   exact acw hE [(0, 0), (1, 1), (2, 2)] 9999 (hJ36 k15 t24.2.1 t24.2.2.1 t24.2.2.2 t26 0 0 (by omega) H)
  rw [if_neg c21] at H
  refine aw_ifF ?_ (eF c21)
  refine aw_skip ?_
  refine ac_blkN ?_
  refine ac_k ?_
  exact acw hE [(0, 0), (1, 1), (2, 2)] 9999 (hJ36 k15 t3.2.1 t3.2.2.1 t3.2.2.2 t3.1 0 0 (by omega) H)
 intro k_ q29 p30 p31 p32 p33 p34 hk_ H
 rcases k_ with _ | k35
 ·rw [spec_l06Ins.j1.eq_1] at H; cases H
 have hk35 : k35 ≤ k := by omega
 clear hk_
 rw [spec_l06Ins.j1.eq_2] at H
 refine aw_grp1 ?_
 refine wk_start ?_
 refine kv g0 (ldBA 4 [.lit (.int .i64 (wrap64 (1 + t1.1))), .lit (.int .i64 p32), .lit (.int .i64 p33), .lit (.int .i64 p34)]) ?_
 refine ks g0 (stB 4 [.lit (.int .i64 (wrap64 (1 + t1.1))), .lit (.int .i64 p32), .lit (.int .i64 p33), .lit (.int .i64 p34)]) ?_
 refine wk_end ?_
 refine ac_next ?_
 refine aw_ret ?_
 obtain rfl := Option.some.inj H
 exact acr hE [.cell 2 46] (rcA 4 .nil) (.one _) [(0, 0)] 9999
/-! spec_l06Ask -/
def spec_l06Ask.f (a0 : Int) : Option (Bool) := (spec_l01In.f a0 3 6).bind fun t1 => some t1
theorem spec_l06Ask.ok {a0 : Int} {r : Bool} (H : spec_l06Ask.f a0 = some r) : ACalls Try.prog 69 [] [.lit (.int .i64 a0)] [] (.lit (.bool r)) := by
 refine acalls (fn := Try.f69) (nt := 5) Try.func69 rfl rfl (Nat.le_of_ble_eq_true rfl) fun E hE => ?_
 rw [spec_l06Ask.f] at H
 refine aw_grp1 ?_
 refine wk_start ?_
 refine kv g0 (asg) ?_
 refine wk_end ?_
 refine ac_next ?_
 refine aw_grp1 ?_
 refine wk_start ?_
 refine kv g0 (mv) ?_
 obtain ⟨t1, A2, H⟩ := of_bind H
 refine kcS0 4 (.lit (.bool t1)) [] g0 (cal (spec_l01In.ok A2) [] 9999 .n (hf := Try.func40)) rfl rfl ?_
 refine kv g0 (asg) ?_
 refine wk_end ?_
 refine ac_next ?_
 refine aw_ret ?_
 obtain rfl := Option.some.inj H
 exact acr hE [.tmp 2] (.tmp .nil) (.one _) [] 9999
/-! spec_l06Program -/
mutual
def spec_l06Program.j0 : Nat → (Int × (List Int) × Int × Int) → (List S46) → Int → (Int × Int × Int × Int × (List Int) × Int × Int) → Int → Option ((List S46) × (List Int) × Int × Int)
 | 0, _, _, _, _, _ => none
 | k30 + 1, t1, q21, p22, t25, p29 => (spec_l06Ask.f t25.1).bind fun t31 => if t31 = true then (if (wrap64 ((wrap64 (1 + t1.1)) - p22)) ≠ 0 then if q21.length + ([(⟨t25.1, p29, t25.2.2.1.tmod (wrap64 ((wrap64 (1 + t1.1)) - p22)), t25.2.2.2.1.tmod (wrap64 ((wrap64 (1 + t1.1)) - p22))⟩ : S46)] : List S46).length < 4398046511104 then spec_l06Program.l0 k30 t1 t25.2.2.2.2.1 t25.2.2.2.2.2.1 t25.2.2.2.2.2.2 (q21 ++ ([(⟨t25.1, p29, t25.2.2.1.tmod (wrap64 ((wrap64 (1 + t1.1)) - p22)), t25.2.2.2.1.tmod (wrap64 ((wrap64 (1 + t1.1)) - p22))⟩ : S46)] : List S46)) (wrap64 (p22 + 1)) else none else none) else if q21.length + ([(⟨t25.1, p29, t25.2.2.1, t25.2.2.2.1⟩ : S46)] : List S46).length < 4398046511104 then spec_l06Program.l0 k30 t1 t25.2.2.2.2.1 t25.2.2.2.2.2.1 t25.2.2.2.2.2.2 (q21 ++ ([(⟨t25.1, p29, t25.2.2.1, t25.2.2.2.1⟩ : S46)] : List S46)) (wrap64 (p22 + 1)) else none
def spec_l06Program.l0 : Nat → (Int × (List Int) × Int × Int) → (List Int) → Int → Int → (List S46) → Int → Option ((List S46) × (List Int) × Int × Int)
 | 0, _, _, _, _, _, _ => none
 | k23 + 1, t1, q18, p19, p20, q21, p22 => if p22 < (wrap64 (1 + t1.1)) then (spec_l06Ins.f k23 q18 p19 p20).bind fun t25 => if t25.1 = 7 then (if (wrap64 ((wrap64 (1 + t1.1)) - p22)) ≠ 0 then spec_l06Program.j0 k23 t1 q21 p22 t25 (t25.2.1.tmod (wrap64 ((wrap64 (1 + t1.1)) - p22))) else none) else spec_l06Program.j0 k23 t1 q21 p22 t25 t25.2.1 else (spec_l01Below.f q18 p19 p20 6).bind fun t40 => ((spec_l01Below.f t40.2.1 t40.2.2.1 t40.2.2.2 5).bind fun t42 => ((spec_ResultOf.f t40.1 t42.1).bind fun t44 => (if q21.length + ([(⟨8, t44, 0, 0⟩ : S46)] : List S46).length < 4398046511104 then some (q21 ++ ([(⟨8, t44, 0, 0⟩ : S46)] : List S46), t42.2.1, t42.2.2.1, t42.2.2.2) else none)))
end
def spec_l06Program.f (k : Nat) (l0_0 : List Int) (a0_1 : Int) (a0_2 : Int) : Option ((List S46) × (List Int) × Int × Int) := (spec_l01Below.f l0_0 a0_1 a0_2 12).bind fun t1 => spec_l06Program.l0 k t1 t1.2.1 t1.2.2.1 t1.2.2.2 ([] : List S46) 0
theorem spec_l06Program.ok {k : Nat} {l0_0 : List Int} {a0_1 : Int} {a0_2 : Int} {r : (List S46) × (List Int) × Int × Int} (H : spec_l06Program.f k l0_0 a0_1 a0_2 = some r) : ACalls Try.prog 37 [(0, .box 92 [.sl .u 1 (l0_0.map (eI .u8)), .lit (.int .i64 a0_1), .lit (.int .i64 a0_2)])] [.box 0 0] [(0, .box 92 [.sl .u 1 (r.2.1.map (eI .u8)), .lit (.int .i64 r.2.2.1), .lit (.int .i64 r.2.2.2)]), (1, .row 46 4 (r.1.map e46))] (.row 1) := by
 refine acalls (fn := Try.f37) (nt := 56) Try.func37 rfl rfl (Nat.le_of_ble_eq_true rfl) fun E hE => ?_
 rw [spec_l06Program.f] at H
 refine aw_grp1 ?_
 refine wk_start ?_
 refine kv g0 (asg) ?_
 refine wk_end ?_
 refine ac_next ?_
 refine aw_grp1 ?_
 refine wk_start ?_
 refine kb g0 (bsl 1 46 4 [.int .i64 0, .int .i64 0, .int .i64 0, .int .i64 0] (([] : List S46).map e46)) ?_
 refine kv g0 (asg) ?_
 refine wk_end ?_
 refine ac_next ?_
 refine aw_grp1 ?_
 refine wk_start ?_
 refine kv g0 (mv) ?_
 obtain ⟨t1, A2, H⟩ := of_bind H
 refine kcS1 10 (.lit (.int .i64 t1.1)) [(0, .box 92 [.sl .u 1 (t1.2.1.map (eI .u8)), .lit (.int .i64 t1.2.2.1), .lit (.int .i64 t1.2.2.2)])] g0 (cal (spec_l01Below.ok A2) [0] 9999 .u (hf := Try.func67)) rfl rfl ?_
 refine kv g0 (add6) ?_
 refine kv g0 (asg) ?_
 refine wk_end ?_
 refine ac_next ?_
 refine aw_grp1 ?_
 refine aw_grp1 ?_
 refine wk_start ?_
 refine kv g0 (asg) ?_
 refine wk_end ?_
 refine ac_next ?_
 refine aw_block ?_
 refine aw_loop5 (fun (k_ : Nat) (q18 : List Int) (p19 : Int) (p20 : Int) (q21 : List S46) (p22 : Int) => k_ ≤ k ∧ spec_l06Program.l0 k_ t1 q18 p19 p20 q21 p22 = some r) (fun (q18 : List Int) (p19 : Int) (p20 : Int) (q21 : List S46) (p22 : Int) => ⟨[(0, .box 0 0), (3, .row 1), (4, .lit (.int .i64 (wrap64 (1 + t1.1)))), (5, .lit (.int .i64 p22))], [(0, .box 92 [.sl .u 1 (q18.map (eI .u8)), .lit (.int .i64 p19), .lit (.int .i64 p20)]), (1, .row 46 4 (q21.map e46))]⟩) k t1.2.1 t1.2.2.1 t1.2.2.2 ([] : List S46) 0 ⟨Nat.le_refl _, H⟩ (fun K_ h_ => acw hE [(0, 0), (1, 1)] 9999 h_) (fun _ _ _ _ _ => by intro h_; have h_ := h_.2; rw [spec_l06Program.l0.eq_1] at h_; cases h_) ?_
 intro k23 q18 p19 p20 q21 p22 hq_ K38 hK39
 have hk23 := hq_.1
 have H := hq_.2
 clear hq_
 rw [spec_l06Program.l0.eq_2] at H
 refine aw_grp1 ?_
 refine aw_grp1 ?_
 refine wk_start ?_
 refine kv g0 (mv) ?_
 refine kv g0 (mv) ?_
 refine kv g0 (lss) ?_
 refine wk_end ?_
 refine ac_next ?_
 by_cases c24 : p22 < (wrap64 (1 + t1.1))
 ·rw [if_pos c24] at H
  refine aw_ifT ?_ (decide_eq_true c24)
  refine aw_skip ?_
  refine ac_next ?_
  refine aw_grp1 ?_
  refine aw_block ?_
  refine aw_grp1 ?_
  refine wk_start ?_
  refine kv g0 (mv) ?_
  obtain ⟨t25, A26, H⟩ := of_bind H
  refine kcS1 18 (.agg [.lit (.int .i64 t25.1), .lit (.int .i64 t25.2.1), .lit (.int .i64 t25.2.2.1), .lit (.int .i64 t25.2.2.2.1)]) [(0, .box 92 [.sl .u 1 (t25.2.2.2.2.1.map (eI .u8)), .lit (.int .i64 t25.2.2.2.2.2.1), .lit (.int .i64 t25.2.2.2.2.2.2)])] g0 (cal (spec_l06Ins.ok A26) [0] 9999 .u (hf := Try.func68)) rfl rfl ?_
  refine kb g0 (alc 2 [.int .i64 0, .int .i64 0, .int .i64 0, .int .i64 0] [.lit (.int .i64 0), .lit (.int .i64 0), .lit (.int .i64 0), .lit (.int .i64 0)]) ?_
  refine ks g0 (stB 4 [.lit (.int .i64 t25.1), .lit (.int .i64 t25.2.1), .lit (.int .i64 t25.2.2.1), .lit (.int .i64 t25.2.2.2.1)]) ?_
  refine wk_end ?_
  refine ac_next ?_
  refine aw_grp1 ?_
  refine wk_start ?_
  refine kv g0 (mv) ?_
  refine kv g0 (mv) ?_
  refine kv g0 (sub6) ?_
  refine kv g0 (asg) ?_
  refine wk_end ?_
  refine ac_next ?_
  refine aw_cut1 (J := fun K_ => ∀ (k_ : Nat) (p29 : Int), k_ ≤ k23 → spec_l06Program.j0 k_ t1 q21 p22 t25 p29 = some r → ACont E 56 ⟨[(0, .box 0 0), (3, .row 1), (4, .lit (.int .i64 (wrap64 (1 + t1.1)))), (5, .lit (.int .i64 p22)), (6, .box 2 0), (7, .lit (.int .i64 (wrap64 ((wrap64 (1 + t1.1)) - p22))))], [(0, .box 92 [.sl .u 1 (t25.2.2.2.2.1.map (eI .u8)), .lit (.int .i64 t25.2.2.2.2.2.1), .lit (.int .i64 t25.2.2.2.2.2.2)]), (1, .row 46 4 (q21.map e46)), (2, .box 46 [.lit (.int .i64 t25.1), .lit (.int .i64 p29), .lit (.int .i64 t25.2.2.1), .lit (.int .i64 t25.2.2.2.1)])]⟩ K_) ?_ ?_
  ·intro K_ hJ37
   refine aw_grp1 ?_
   refine wk_start ?_
   refine kv g0 (faB 0 0) ?_
   refine kv g0 (ldB) ?_
   refine kv g0 (eql) ?_
   refine wk_end ?_
   refine ac_next ?_
   by_cases c27 : t25.1 = 7
   ·rw [if_pos c27] at H
    refine aw_ifT ?_ (eT c27)
    refine wk_start ?_
    refine kv g0 (faB 1 1) ?_
    refine kv g0 (ldB) ?_
    refine kv g0 (mv) ?_
    obtain ⟨c28, H⟩ := of_if H
    refine kv g0 (rem c28) ?_
    refine kv g0 (faB 1 1) ?_
    refine ks g0 (stB 1 [.lit (.int .i64 t25.1), .lit (.int .i64 (t25.2.1.tmod (wrap64 ((wrap64 (1 + t1.1)) - p22)))), .lit (.int .i64 t25.2.2.1), .lit (.int .i64 t25.2.2.2.1)]) ?_
    refine wk_end ?_
    refine ac_k ?_
    exact acw hE [(0, 0), (1, 1), (2, 2)] 9999 (hJ37 k23 (t25.2.1.tmod (wrap64 ((wrap64 (1 + t1.1)) - p22))) (Nat.le_refl _) H)
   rw [if_neg c27] at H
   refine aw_ifF ?_ (eF c27)
   refine aw_skip ?_
   refine ac_k ?_
   exact acw hE [(0, 0), (1, 1), (2, 2)] 9999 (hJ37 k23 t25.2.1 (Nat.le_refl _) H)
  intro k_ p29 hk_ H
  rcases k_ with _ | k30
  ·rw [spec_l06Program.j0.eq_1] at H; cases H
  have hk30 : k30 ≤ k23 := by omega
  clear hk_
  rw [spec_l06Program.j0.eq_2] at H
  refine aw_grp1 ?_
  refine aw_grp1 ?_
  refine wk_start ?_
  refine kv g0 (faB 0 0) ?_
  refine kv g0 (ldB) ?_
  obtain ⟨t31, A32, H⟩ := of_bind H
  refine kcS0 32 (.lit (.bool t31)) [] g0 (cal (spec_l06Ask.ok A32) [] 9999 .n (hf := Try.func69)) rfl rfl ?_
  refine wk_end ?_
  refine ac_next ?_
  by_cases c33 : t31 = true
  ·rw [if_pos c33] at H
   refine aw_ifT ?_ c33
   refine aw_grp1 ?_
   refine wk_start ?_
   refine kv g0 (faB 2 2) ?_
   refine kv g0 (ldB) ?_
   refine kv g0 (mv) ?_
   obtain ⟨c34, H⟩ := of_if H
   refine kv g0 (rem c34) ?_
   refine kv g0 (faB 2 2) ?_
   refine ks g0 (stB 1 [.lit (.int .i64 t25.1), .lit (.int .i64 p29), .lit (.int .i64 (t25.2.2.1.tmod (wrap64 ((wrap64 (1 + t1.1)) - p22)))), .lit (.int .i64 t25.2.2.2.1)]) ?_
   refine wk_end ?_
   refine ac_next ?_
   refine wk_start ?_
   refine kv g0 (faB 3 3) ?_
   refine kv g0 (ldB) ?_
   refine kv g0 (mv) ?_
   refine kv g0 (rem c34) ?_
   refine kv g0 (faB 3 3) ?_
   refine ks g0 (stB 1 [.lit (.int .i64 t25.1), .lit (.int .i64 p29), .lit (.int .i64 (t25.2.2.1.tmod (wrap64 ((wrap64 (1 + t1.1)) - p22)))), .lit (.int .i64 (t25.2.2.2.1.tmod (wrap64 ((wrap64 (1 + t1.1)) - p22))))]) ?_
   refine wk_end ?_
   refine ac_next ?_
   refine wk_start ?_
   refine kv g0 (mv) ?_
   refine kv g0 (ldBA 4 [.lit (.int .i64 t25.1), .lit (.int .i64 p29), .lit (.int .i64 (t25.2.2.1.tmod (wrap64 ((wrap64 (1 + t1.1)) - p22)))), .lit (.int .i64 (t25.2.2.2.1.tmod (wrap64 ((wrap64 (1 + t1.1)) - p22))))]) ?_
   refine kb g0 (bsl 3 46 4 [.int .i64 0, .int .i64 0, .int .i64 0, .int .i64 0] (([(⟨t25.1, p29, t25.2.2.1.tmod (wrap64 ((wrap64 (1 + t1.1)) - p22)), t25.2.2.2.1.tmod (wrap64 ((wrap64 (1 + t1.1)) - p22))⟩ : S46)] : List S46).map e46)) ?_
   obtain ⟨c35, H⟩ := of_if H
   refine kc g0 (apR 4 46 4 32 [.int .i64 0, .int .i64 0, .int .i64 0, .int .i64 0] ((q21 ++ ([(⟨t25.1, p29, t25.2.2.1.tmod (wrap64 ((wrap64 (1 + t1.1)) - p22)), t25.2.2.2.1.tmod (wrap64 ((wrap64 (1 + t1.1)) - p22))⟩ : S46)] : List S46)).map e46) (.row rfl) (apb c35 rfl) appE) ?_
   refine kv g0 (asg) ?_
   refine wk_end ?_
   refine ac_blkN ?_
   refine ac_next ?_
   refine wk_start ?_
   refine kv g0 (mv) ?_
   refine kv g0 (add6) ?_
   refine kv g0 (asg) ?_
   refine wk_end ?_
   refine ac_k ?_
   exact acw hE [(0, 0), (1, 4)] 9999 (hK39 k30 t25.2.2.2.2.1 t25.2.2.2.2.2.1 t25.2.2.2.2.2.2 (q21 ++ ([(⟨t25.1, p29, t25.2.2.1.tmod (wrap64 ((wrap64 (1 + t1.1)) - p22)), t25.2.2.2.1.tmod (wrap64 ((wrap64 (1 + t1.1)) - p22))⟩ : S46)] : List S46)) (wrap64 (p22 + 1)) (by omega) ⟨by omega, H⟩)
  rw [if_neg c33] at H
  refine aw_ifF ?_ (bF c33)
  refine aw_skip ?_
  refine ac_next ?_
  refine wk_start ?_
  refine kv g0 (mv) ?_
  refine kv g0 (ldBA 4 [.lit (.int .i64 t25.1), .lit (.int .i64 p29), .lit (.int .i64 t25.2.2.1), .lit (.int .i64 t25.2.2.2.1)]) ?_
  refine kb g0 (bsl 5 46 4 [.int .i64 0, .int .i64 0, .int .i64 0, .int .i64 0] (([(⟨t25.1, p29, t25.2.2.1, t25.2.2.2.1⟩ : S46)] : List S46).map e46)) ?_
  obtain ⟨c36, H⟩ := of_if H
  refine kc g0 (apR 6 46 4 32 [.int .i64 0, .int .i64 0, .int .i64 0, .int .i64 0] ((q21 ++ ([(⟨t25.1, p29, t25.2.2.1, t25.2.2.2.1⟩ : S46)] : List S46)).map e46) (.row rfl) (apb c36 rfl) appE) ?_
  refine kv g0 (asg) ?_
  refine wk_end ?_
  refine ac_blkN ?_
  refine ac_next ?_
  refine wk_start ?_
  refine kv g0 (mv) ?_
  refine kv g0 (add6) ?_
  refine kv g0 (asg) ?_
  refine wk_end ?_
  refine ac_k ?_
  exact acw hE [(0, 0), (1, 6)] 9999 (hK39 k30 t25.2.2.2.2.1 t25.2.2.2.2.2.1 t25.2.2.2.2.2.2 (q21 ++ ([(⟨t25.1, p29, t25.2.2.1, t25.2.2.2.1⟩ : S46)] : List S46)) (wrap64 (p22 + 1)) (by omega) ⟨by omega, H⟩)
 rw [if_neg c24] at H
 refine aw_ifF ?_ (decide_eq_false c24)
 refine aw_exit ?_
 refine ac_then ?_
 refine ac_then ?_
 refine ac_hit rfl ?_
 refine ac_next ?_
 refine aw_grp1 ?_
 refine wk_start ?_
 refine kv g0 (mv) ?_
 refine kv g0 (mv) ?_
 obtain ⟨t40, A41, H⟩ := of_bind H
 refine kcS1 49 (.lit (.int .i64 t40.1)) [(0, .box 92 [.sl .u 1 (t40.2.1.map (eI .u8)), .lit (.int .i64 t40.2.2.1), .lit (.int .i64 t40.2.2.2)])] g0 (cal (spec_l01Below.ok A41) [0] 9999 .u (hf := Try.func67)) rfl rfl ?_
 refine kv g0 (mv) ?_
 obtain ⟨t42, A43, H⟩ := of_bind H
 refine kcS1 51 (.lit (.int .i64 t42.1)) [(0, .box 92 [.sl .u 1 (t42.2.1.map (eI .u8)), .lit (.int .i64 t42.2.2.1), .lit (.int .i64 t42.2.2.2)])] g0 (cal (spec_l01Below.ok A43) [0] 9999 .u (hf := Try.func67)) rfl rfl ?_
 obtain ⟨t44, A45, H⟩ := of_bind H
 refine kcS0 52 (.lit (.int .i64 t44)) [] g0 (cal (spec_ResultOf.ok A45) [] 9999 .n (hf := Try.func70)) rfl rfl ?_
 refine kv g0 (bld [(0, 1), (1, 1), (2, 1), (3, 1)] [.int .i64 0, .int .i64 0, .int .i64 0, .int .i64 0] [.lit (.int .i64 8), .lit (.int .i64 t44), .lit (.int .i64 0), .lit (.int .i64 0)]) ?_
 refine kb g0 (bsl 7 46 4 [.int .i64 0, .int .i64 0, .int .i64 0, .int .i64 0] (([(⟨8, t44, 0, 0⟩ : S46)] : List S46).map e46)) ?_
 obtain ⟨c46, H⟩ := of_if H
 refine kc g0 (apR 8 46 4 32 [.int .i64 0, .int .i64 0, .int .i64 0, .int .i64 0] ((q21 ++ ([(⟨8, t44, 0, 0⟩ : S46)] : List S46)).map e46) (.row rfl) (apb c46 rfl) appE) ?_
 refine kv g0 (asg) ?_
 refine wk_end ?_
 refine ac_next ?_
 refine aw_ret ?_
 obtain rfl := Option.some.inj H
 exact acr hE [.tmp 2] (.tmp .nil) (.one _) [(0, 0), (1, 8)] 9999
/-! spec_DrawProgram -/
def spec_DrawProgram.f (k : Nat) (l0 : List Int) : Option ((List S46)) := (spec_l01New.f k l0).bind fun t1 => ((spec_l06Program.f k t1.1 t1.2.1 t1.2.2).bind fun t3 => some t3.1)
theorem spec_DrawProgram.ok {k : Nat} {l0 : List Int} {r : (List S46)} (H : spec_DrawProgram.f k l0 = some r) : ACalls Try.prog 19 [] [.sl .o 1 (l0.map (eI .u8))] [(0, .row 46 4 (r.map e46))] (.row 0) := by
 refine acalls (fn := Try.f19) (nt := 6) Try.func19 rfl rfl (Nat.le_of_ble_eq_true rfl) fun E hE => ?_
 rw [spec_DrawProgram.f] at H
 refine aw_grp1 ?_
 refine wk_start ?_
 refine kv g0 (asg) ?_
 refine wk_end ?_
 refine ac_next ?_
 refine aw_grp1 ?_
 refine wk_start ?_
 refine kv g0 (mv) ?_
 obtain ⟨t1, A2, H⟩ := of_bind H
 refine kcS1 4 (.box 0 0) [(0, .box 92 [.sl .o 1 (t1.1.map (eI .u8)), .lit (.int .i64 t1.2.1), .lit (.int .i64 t1.2.2)])] g0 (cal (spec_l01New.ok A2) [0] 9999 .o (hf := Try.func38)) rfl rfl ?_
 obtain ⟨t3, A4, H⟩ := of_bind H
 refine kcS2 5 (.row 1) [(0, .box 92 [.sl .o 1 (t3.2.1.map (eI .u8)), .lit (.int .i64 t3.2.2.1), .lit (.int .i64 t3.2.2.2)]), (1, .row 46 4 (t3.1.map e46))] g0 (cal (spec_l06Program.ok A4) [0, 1] 9999 .o (hf := Try.func37)) rfl rfl ?_
 refine kv g0 (asg) ?_
 refine wk_end ?_
 refine ac_next ?_
 refine aw_ret ?_
 obtain rfl := Option.some.inj H
 exact acr hE [.tmp 2] (.tmp .nil) (.one _) [(0, 1)] 9999
/-! spec_l01Once -/
def spec_l01Once.f (l0_0 : List Int) (a0_1 : Int) (a0_2 : Int) (a1 : Int) : Option (Bool × (List Int) × Int × Int) := (spec_l01Below.f l0_0 a0_1 a0_2 a1).bind fun t1 => some (t1.1 == 0, t1.2.1, t1.2.2.1, t1.2.2.2)
theorem spec_l01Once.ok {l0_0 : List Int} {a0_1 : Int} {a0_2 : Int} {a1 : Int} {r : Bool × (List Int) × Int × Int} (H : spec_l01Once.f l0_0 a0_1 a0_2 a1 = some r) : ACalls Try.prog 90 [(0, .box 92 [.sl .u 1 (l0_0.map (eI .u8)), .lit (.int .i64 a0_1), .lit (.int .i64 a0_2)])] [.box 0 0, .lit (.int .i64 a1)] [(0, .box 92 [.sl .u 1 (r.2.1.map (eI .u8)), .lit (.int .i64 r.2.2.1), .lit (.int .i64 r.2.2.2)])] (.lit (.bool r.1)) := by
 refine acalls (fn := Try.f90) (nt := 9) Try.func90 rfl rfl (Nat.le_of_ble_eq_true rfl) fun E hE => ?_
 rw [spec_l01Once.f] at H
 refine aw_grp1 ?_
 refine wk_start ?_
 refine kv g0 (asg) ?_
 refine wk_end ?_
 refine ac_next ?_
 refine aw_grp1 ?_
 refine wk_start ?_
 refine kv g0 (mv) ?_
 refine kv g0 (mv) ?_
 obtain ⟨t1, A2, H⟩ := of_bind H
 refine kcS1 7 (.lit (.int .i64 t1.1)) [(0, .box 92 [.sl .u 1 (t1.2.1.map (eI .u8)), .lit (.int .i64 t1.2.2.1), .lit (.int .i64 t1.2.2.2)])] g0 (cal (spec_l01Below.ok A2) [0] 9999 .u (hf := Try.func67)) rfl rfl ?_
 refine kv g0 (eql) ?_
 refine kv g0 (asg) ?_
 refine wk_end ?_
 refine ac_next ?_
 refine aw_ret ?_
 obtain rfl := Option.some.inj H
 exact acr hE [.tmp 4] (.tmp .nil) (.one _) [(0, 0)] 9999
/-! spec_l04Wide -/
def spec_l04Wide.f (l0_0 : List Int) (a0_1 : Int) (a0_2 : Int) : Option (Int × Int × (List Int) × Int × Int) := (spec_l04Half.f l0_0 a0_1 a0_2).bind fun t1 => (spec_l01Once.f t1.2.1 t1.2.2.1 t1.2.2.2 3).bind fun t3 => if t3.1 = true then ((spec_l04Half.f t3.2.1 t3.2.2.1 t3.2.2.2).bind fun t6 => some (t6.1, t1.1, t6.2.1, t6.2.2.1, t6.2.2.2)) else some (0, t1.1, t3.2.1, t3.2.2.1, t3.2.2.2)
theorem spec_l04Wide.ok {l0_0 : List Int} {a0_1 : Int} {a0_2 : Int} {r : Int × Int × (List Int) × Int × Int} (H : spec_l04Wide.f l0_0 a0_1 a0_2 = some r) : ACalls Try.prog 72 [(0, .box 92 [.sl .u 1 (l0_0.map (eI .u8)), .lit (.int .i64 a0_1), .lit (.int .i64 a0_2)])] [.box 0 0] [(0, .box 92 [.sl .u 1 (r.2.2.1.map (eI .u8)), .lit (.int .i64 r.2.2.2.1), .lit (.int .i64 r.2.2.2.2)])] (.agg [.lit (.int .i64 r.1), .lit (.int .i64 r.2.1)]) := by
 refine acalls (fn := Try.f72) (nt := 13) Try.func72 rfl rfl (Nat.le_of_ble_eq_true rfl) fun E hE => ?_
 rw [spec_l04Wide.f] at H
 refine aw_grp1 ?_
 refine wk_start ?_
 refine kb g0 (alc 1 [.int .i64 0, .int .i64 0] [.lit (.int .i64 0), .lit (.int .i64 0)]) ?_
 refine wk_end ?_
 refine ac_next ?_
 refine aw_grp1 ?_
 refine wk_start ?_
 refine kv g0 (mv) ?_
 obtain ⟨t1, A2, H⟩ := of_bind H
 refine kcS1 5 (.lit (.int .i64 t1.1)) [(0, .box 92 [.sl .u 1 (t1.2.1.map (eI .u8)), .lit (.int .i64 t1.2.2.1), .lit (.int .i64 t1.2.2.2)])] g0 (cal (spec_l04Half.ok A2) [0] 9999 .u (hf := Try.func89)) rfl rfl ?_
 refine kv g0 (bld [(0, 1), (1, 1)] [.int .i64 0, .int .i64 0] [.lit (.int .i64 0), .lit (.int .i64 t1.1)]) ?_
 refine kb g0 (alc 2 [.int .i64 0, .int .i64 0] [.lit (.int .i64 0), .lit (.int .i64 0)]) ?_
 refine ks g0 (stB 2 [.lit (.int .i64 0), .lit (.int .i64 t1.1)]) ?_
 refine wk_end ?_
 refine ac_next ?_
 refine aw_grp1 ?_
 refine aw_grp1 ?_
 refine wk_start ?_
 refine kv g0 (mv) ?_
 obtain ⟨t3, A4, H⟩ := of_bind H
 refine kcS1 8 (.lit (.bool t3.1)) [(0, .box 92 [.sl .u 1 (t3.2.1.map (eI .u8)), .lit (.int .i64 t3.2.2.1), .lit (.int .i64 t3.2.2.2)])] g0 (cal (spec_l01Once.ok A4) [0] 9999 .u (hf := Try.func90)) rfl rfl ?_
 refine wk_end ?_
 refine ac_next ?_
 by_cases c5 : t3.1 = true
 ·rw [if_pos c5] at H
  refine aw_ifT ?_ c5
  refine wk_start ?_
  refine kv g0 (mv) ?_
  obtain ⟨t6, A7, H⟩ := of_bind H
  refine kcS1 10 (.lit (.int .i64 t6.1)) [(0, .box 92 [.sl .u 1 (t6.2.1.map (eI .u8)), .lit (.int .i64 t6.2.2.1), .lit (.int .i64 t6.2.2.2)])] g0 (cal (spec_l04Half.ok A7) [0] 9999 .u (hf := Try.func89)) rfl rfl ?_
  refine kv g0 (faB 0 0) ?_
  refine ks g0 (stB 1 [.lit (.int .i64 t6.1), .lit (.int .i64 t1.1)]) ?_
  refine wk_end ?_
  refine ac_next ?_
  refine aw_grp1 ?_
  refine wk_start ?_
  refine kv g0 (ldBA 2 [.lit (.int .i64 t6.1), .lit (.int .i64 t1.1)]) ?_
  refine ks g0 (stB 2 [.lit (.int .i64 t6.1), .lit (.int .i64 t1.1)]) ?_
  refine wk_end ?_
  refine ac_next ?_
  refine aw_ret ?_
  obtain rfl := Option.some.inj H
  exact acr hE [.cell 2 75] (rcA 2 .nil) (.one _) [(0, 0)] 9999
 rw [if_neg c5] at H
 refine aw_ifF ?_ (bF c5)
 refine aw_skip ?_
 refine ac_next ?_
 refine aw_grp1 ?_
 refine wk_start ?_
 refine kv g0 (ldBA 2 [.lit (.int .i64 0), .lit (.int .i64 t1.1)]) ?_
 refine ks g0 (stB 2 [.lit (.int .i64 0), .lit (.int .i64 t1.1)]) ?_
 refine wk_end ?_
 refine ac_next ?_
 refine aw_ret ?_
 obtain rfl := Option.some.inj H
 exact acr hE [.cell 2 75] (rcA 2 .nil) (.one _) [(0, 0)] 9999
/-! spec_l04Call -/
def spec_l04Call.l0 : Nat → (Int × (List Int) × Int × Int) → (Int × (List Int) × Int × Int) → (List Int) → Int → Int → (List S75) → Int → Option (Int × Int × (List S75) × (List Int) × Int × Int)
 | 0, _, _, _, _, _, _, _ => none
 | k14 + 1, t1, t3, q9, p10, p11, q12, p13 => if p13 < 3 then (spec_l04Wide.f q9 p10 p11).bind fun t16 => if q12.length + ([(⟨t16.1, t16.2.1⟩ : S75)] : List S75).length < 8796093022208 then spec_l04Call.l0 k14 t1 t3 t16.2.2.1 t16.2.2.2.1 t16.2.2.2.2 (q12 ++ ([(⟨t16.1, t16.2.1⟩ : S75)] : List S75)) (wrap64 (p13 + 1)) else none else some (t1.1, t3.1, q12, q9, p10, p11)
def spec_l04Call.f (k : Nat) (l0_0 : List Int) (a0_1 : Int) (a0_2 : Int) : Option (Int × Int × (List S75) × (List Int) × Int × Int) := (spec_l01PickInt.f l0_0 a0_1 a0_2 ([62, 62, 62, 62, 3] : List Int)).bind fun t1 => ((spec_l01PickInt.f t1.2.1 t1.2.2.1 t1.2.2.2 ([0, 1, 2, 3, 4, 6, 9, 11, 4294967295, 77] : List Int)).bind fun t3 => spec_l04Call.l0 k t1 t3 t3.2.1 t3.2.2.1 t3.2.2.2 ([]) 0)
theorem spec_l04Call.ok {k : Nat} {l0_0 : List Int} {a0_1 : Int} {a0_2 : Int} {r : Int × Int × (List S75) × (List Int) × Int × Int} (H : spec_l04Call.f k l0_0 a0_1 a0_2 = some r) : ACalls Try.prog 39 [(0, .box 92 [.sl .u 1 (l0_0.map (eI .u8)), .lit (.int .i64 a0_1), .lit (.int .i64 a0_2)])] [.box 0 0] [(0, .box 92 [.sl .u 1 (r.2.2.2.1.map (eI .u8)), .lit (.int .i64 r.2.2.2.2.1), .lit (.int .i64 r.2.2.2.2.2)]), (1, .row 75 2 (r.2.2.1.map e75))] (.agg [.lit (.int .i64 r.1), .lit (.int .i64 r.2.1), .row 1]) := by
 refine acalls (fn := Try.f39) (nt := 26) Try.func39 rfl rfl (Nat.le_of_ble_eq_true rfl) fun E hE => ?_
 rw [spec_l04Call.f] at H
 refine aw_grp1 ?_
 refine wk_start ?_
 refine kb g0 (alc 1 [.int .i64 0, .int .i64 0, .slice none 0 0] [.lit (.int .i64 0), .lit (.int .i64 0), .lit (.slice none 0 0)]) ?_
 refine wk_end ?_
 refine ac_next ?_
 refine aw_grp1 ?_
 refine wk_start ?_
 refine kv g0 (mv) ?_
 refine kb g0 (bsl 2 3 1 [.int .i64 0] (([62, 62, 62, 62, 3] : List Int).map (eI .i64))) ?_
 obtain ⟨t1, A2, H⟩ := of_bind H
 refine kcS1 8 (.lit (.int .i64 t1.1)) [(0, .box 92 [.sl .u 1 (t1.2.1.map (eI .u8)), .lit (.int .i64 t1.2.2.1), .lit (.int .i64 t1.2.2.2)])] g0 (cal (spec_l01PickInt.ok A2) [0] 9999 .u (hf := Try.func71)) rfl rfl ?_
 refine kv g0 (mv) ?_
 refine kb g0 (bsl 3 3 1 [.int .i64 0] (([0, 1, 2, 3, 4, 6, 9, 11, 4294967295, 77] : List Int).map (eI .i64))) ?_
 obtain ⟨t3, A4, H⟩ := of_bind H
 refine kcS1 11 (.lit (.int .i64 t3.1)) [(0, .box 92 [.sl .u 1 (t3.2.1.map (eI .u8)), .lit (.int .i64 t3.2.2.1), .lit (.int .i64 t3.2.2.2)])] g0 (cal (spec_l01PickInt.ok A4) [0] 9999 .u (hf := Try.func71)) rfl rfl ?_
 refine kv g0 (bld [(0, 1), (1, 1), (2, 1)] [.int .i64 0, .int .i64 0, .slice none 0 0] [.lit (.int .i64 t1.1), .lit (.int .i64 t3.1), .lit (.slice none 0 0)]) ?_
 refine kb g0 (alc 4 [.int .i64 0, .int .i64 0, .slice none 0 0] [.lit (.int .i64 0), .lit (.int .i64 0), .lit (.slice none 0 0)]) ?_
 refine ks g0 (stB 3 [.lit (.int .i64 t1.1), .lit (.int .i64 t3.1), .lit (.slice none 0 0)]) ?_
 refine wk_end ?_
 refine ac_next ?_
 refine aw_grp1 ?_
 refine aw_grp1 ?_
 refine wk_start ?_
 refine kv g0 (asg) ?_
 refine wk_end ?_
 refine ac_next ?_
 refine aw_block ?_
 refine ac_nilB 4 2 8 75 2 [.lit (.int .i64 t1.1), .lit (.int .i64 t3.1), .row 8] ?_
 refine aw_loop5 (fun (k_ : Nat) (q9 : List Int) (p10 : Int) (p11 : Int) (q12 : List S75) (p13 : Int) => k_ ≤ k ∧ spec_l04Call.l0 k_ t1 t3 q9 p10 p11 q12 p13 = some r) (fun (q9 : List Int) (p10 : Int) (p11 : Int) (q12 : List S75) (p13 : Int) => ⟨[(0, .box 0 0), (2, .box 1 0), (3, .box 4 0), (4, .lit (.int .i64 p13))], [(0, .box 92 [.sl .u 1 (q9.map (eI .u8)), .lit (.int .i64 p10), .lit (.int .i64 p11)]), (1, .box 38 [.lit (.int .i64 0), .lit (.int .i64 0), .lit (.slice none 0 0)]), (4, .box 38 [.lit (.int .i64 t1.1), .lit (.int .i64 t3.1), .row 8]), (8, .row 75 2 (q12.map e75))]⟩) k t3.2.1 t3.2.2.1 t3.2.2.2 ([]) 0 ⟨Nat.le_refl _, H⟩ (fun K_ h_ => acw hE [(0, 0), (1, 1), (4, 4), (8, 8)] 9999 h_) (fun _ _ _ _ _ => by intro h_; have h_ := h_.2; rw [spec_l04Call.l0.eq_1] at h_; cases h_) ?_
 intro k14 q9 p10 p11 q12 p13 hq_ K19 hK20
 have hk14 := hq_.1
 have H := hq_.2
 clear hq_
 rw [spec_l04Call.l0.eq_2] at H
 refine aw_grp1 ?_
 refine aw_grp1 ?_
 refine wk_start ?_
 refine kv g0 (mv) ?_
 refine kv g0 (lss) ?_
 refine wk_end ?_
 refine ac_next ?_
 by_cases c15 : p13 < 3
 ·rw [if_pos c15] at H
  refine aw_ifT ?_ (decide_eq_true c15)
  refine aw_skip ?_
  refine ac_next ?_
  refine aw_grp1 ?_
  refine aw_block ?_
  refine aw_grp1 ?_
  refine wk_start ?_
  refine kv g0 (mv) ?_
  obtain ⟨t16, A17, H⟩ := of_bind H
  refine kcS1 18 (.agg [.lit (.int .i64 t16.1), .lit (.int .i64 t16.2.1)]) [(0, .box 92 [.sl .u 1 (t16.2.2.1.map (eI .u8)), .lit (.int .i64 t16.2.2.2.1), .lit (.int .i64 t16.2.2.2.2)])] g0 (cal (spec_l04Wide.ok A17) [0] 9999 .u (hf := Try.func72)) rfl rfl ?_
  refine kb g0 (alc 9 [.int .i64 0, .int .i64 0] [.lit (.int .i64 0), .lit (.int .i64 0)]) ?_
  refine ks g0 (stB 2 [.lit (.int .i64 t16.1), .lit (.int .i64 t16.2.1)]) ?_
  refine wk_end ?_
  refine ac_next ?_
  refine wk_start ?_
  refine kv g0 (faB 2 2) ?_
  refine kv g0 (ldB) ?_
  refine kv g0 (ldBA 2 [.lit (.int .i64 t16.1), .lit (.int .i64 t16.2.1)]) ?_
  refine kb g0 (bsl 10 75 2 [.int .i64 0, .int .i64 0] (([(⟨t16.1, t16.2.1⟩ : S75)] : List S75).map e75)) ?_
  obtain ⟨c18, H⟩ := of_if H
  refine kc g0 (apR 11 75 2 16 [.int .i64 0, .int .i64 0] ((q12 ++ ([(⟨t16.1, t16.2.1⟩ : S75)] : List S75)).map e75) (.row rfl) (apb c18 rfl) appE) ?_
  refine kv g0 (faB 2 2) ?_
  refine ks g0 (stB 1 [.lit (.int .i64 t1.1), .lit (.int .i64 t3.1), .row 11]) ?_
  refine wk_end ?_
  refine ac_blkN ?_
  refine ac_next ?_
  refine wk_start ?_
  refine kv g0 (mv) ?_
  refine kv g0 (add6) ?_
  refine kv g0 (asg) ?_
  refine wk_end ?_
  refine ac_k ?_
  exact acw hE [(0, 0), (1, 1), (4, 4), (8, 11)] 9999 (hK20 k14 t16.2.2.1 t16.2.2.2.1 t16.2.2.2.2 (q12 ++ ([(⟨t16.1, t16.2.1⟩ : S75)] : List S75)) (wrap64 (p13 + 1)) (Nat.le_refl _) ⟨by omega, H⟩)
 rw [if_neg c15] at H
 refine aw_ifF ?_ (decide_eq_false c15)
 refine aw_exit ?_
 refine ac_then ?_
 refine ac_then ?_
 refine ac_hit rfl ?_
 refine ac_next ?_
 refine aw_grp1 ?_
 refine wk_start ?_
 refine kv g0 (ldBA 3 [.lit (.int .i64 t1.1), .lit (.int .i64 t3.1), .row 8]) ?_
 refine ks g0 (stB 3 [.lit (.int .i64 t1.1), .lit (.int .i64 t3.1), .row 8]) ?_
 refine wk_end ?_
 refine ac_next ?_
 refine aw_ret ?_
 obtain rfl := Option.some.inj H
 exact acr hE [.cell 2 38] (rcA 3 .nil) (.one _) [(0, 0), (1, 8)] 9999
/-! spec_DrawCall -/
def spec_DrawCall.f (k : Nat) (l0 : List Int) : Option (Int × Int × (List S75)) := (spec_l01New.f k l0).bind fun t1 => ((spec_l04Call.f k t1.1 t1.2.1 t1.2.2).bind fun t3 => some (t3.1, t3.2.1, t3.2.2.1))
theorem spec_DrawCall.ok {k : Nat} {l0 : List Int} {r : Int × Int × (List S75)} (H : spec_DrawCall.f k l0 = some r) : ACalls Try.prog 20 [] [.sl .o 1 (l0.map (eI .u8))] [(0, .row 75 2 (r.2.2.map e75))] (.agg [.lit (.int .i64 r.1), .lit (.int .i64 r.2.1), .row 0]) := by
 refine acalls (fn := Try.f20) (nt := 6) Try.func20 rfl rfl (Nat.le_of_ble_eq_true rfl) fun E hE => ?_
 rw [spec_DrawCall.f] at H
 refine aw_grp1 ?_
 refine wk_start ?_
 refine kb g0 (alc 0 [.int .i64 0, .int .i64 0, .slice none 0 0] [.lit (.int .i64 0), .lit (.int .i64 0), .lit (.slice none 0 0)]) ?_
 refine wk_end ?_
 refine ac_next ?_
 refine aw_grp1 ?_
 refine wk_start ?_
 refine kv g0 (mv) ?_
 obtain ⟨t1, A2, H⟩ := of_bind H
 refine kcS1 4 (.box 1 0) [(1, .box 92 [.sl .o 1 (t1.1.map (eI .u8)), .lit (.int .i64 t1.2.1), .lit (.int .i64 t1.2.2)])] g0 (cal (spec_l01New.ok A2) [1] 9999 .o (hf := Try.func38)) rfl rfl ?_
 obtain ⟨t3, A4, H⟩ := of_bind H
 refine kcS2 5 (.agg [.lit (.int .i64 t3.1), .lit (.int .i64 t3.2.1), .row 2]) [(1, .box 92 [.sl .o 1 (t3.2.2.2.1.map (eI .u8)), .lit (.int .i64 t3.2.2.2.2.1), .lit (.int .i64 t3.2.2.2.2.2)]), (2, .row 75 2 (t3.2.2.1.map e75))] g0 (cal (spec_l04Call.ok A4) [1, 2] 9999 .o (hf := Try.func39)) rfl rfl ?_
 refine ks g0 (stB 3 [.lit (.int .i64 t3.1), .lit (.int .i64 t3.2.1), .row 2]) ?_
 refine wk_end ?_
 refine ac_next ?_
 refine aw_ret ?_
 obtain rfl := Option.some.inj H
 exact acr hE [.cell 2 38] (rcA 3 .nil) (.one _) [(0, 2)] 9999
/-! spec_HalfOk -/
def spec_HalfOk.f (a0 : Int) : Option (Bool) := (spec_l01In.f a0 0 4294967295).bind fun t1 => some t1
theorem spec_HalfOk.ok {a0 : Int} {r : Bool} (H : spec_HalfOk.f a0 = some r) : ACalls Try.prog 52 [] [.lit (.int .i64 a0)] [] (.lit (.bool r)) := by
 refine acalls (fn := Try.f52) (nt := 5) Try.func52 rfl rfl (Nat.le_of_ble_eq_true rfl) fun E hE => ?_
 rw [spec_HalfOk.f] at H
 refine aw_grp1 ?_
 refine wk_start ?_
 refine kv g0 (asg) ?_
 refine wk_end ?_
 refine ac_next ?_
 refine aw_grp1 ?_
 refine wk_start ?_
 refine kv g0 (mv) ?_
 obtain ⟨t1, A2, H⟩ := of_bind H
 refine kcS0 4 (.lit (.bool t1)) [] g0 (cal (spec_l01In.ok A2) [] 9999 .n (hf := Try.func40)) rfl rfl ?_
 refine kv g0 (asg) ?_
 refine wk_end ?_
 refine ac_next ?_
 refine aw_ret ?_
 obtain rfl := Option.some.inj H
 exact acr hE [.tmp 2] (.tmp .nil) (.one _) [] 9999
/-! spec_InsOk -/
def spec_InsOk.j0 : Nat → Int → Int → Int → Int → Option (Bool)
 | 0, _, _, _, _ => none
 | k18 + 1, a0_0, a0_1, a0_2, a0_3 => if a0_0 = 1 then some (decide (a0_1 < 8)) else if a0_0 = 7 then some (decide (a0_1 < 400)) else some true
def spec_InsOk.f (k : Nat) (a0_0 : Int) (a0_1 : Int) (a0_2 : Int) (a0_3 : Int) : Option (Bool) := (spec_l01In.f a0_0 1 8).bind fun t1 => (if t1 = true then ((spec_HalfOk.f a0_1).bind fun t4 => (if t4 = true then ((spec_l01In.f a0_2 0 15).bind fun t7 => (if t7 = true then ((spec_l01In.f a0_3 0 15).bind fun t10 => if t10 = true then (spec_l06Ask.f a0_0).bind fun t13 => (if t13 = true then spec_InsOk.j0 k a0_0 a0_1 a0_2 a0_3 else (if a0_2 = 0 then if a0_3 = 0 then spec_InsOk.j0 k a0_0 a0_1 a0_2 a0_3 else some false else some false)) else some false) else some false)) else some false)) else some false)
theorem spec_InsOk.ok {k : Nat} {a0_0 : Int} {a0_1 : Int} {a0_2 : Int} {a0_3 : Int} {r : Bool} (H : spec_InsOk.f k a0_0 a0_1 a0_2 a0_3 = some r) : ACalls Try.prog 41 [] [.agg [.lit (.int .i64 a0_0), .lit (.int .i64 a0_1), .lit (.int .i64 a0_2), .lit (.int .i64 a0_3)]] [] (.lit (.bool r)) := by
 refine acalls (fn := Try.f41) (nt := 51) Try.func41 rfl rfl (Nat.le_of_ble_eq_true rfl) fun E hE => ?_
 rw [spec_InsOk.f] at H
 refine aw_grp1 ?_
 refine wk_start ?_
 refine kb g0 (bxA 0) ?_
 refine kv g0 (asg) ?_
 refine wk_end ?_
 refine ac_next ?_
 refine aw_grp1 ?_
 refine aw_grp1 ?_
 refine wk_start ?_
 refine kv g0 (faB 0 0) ?_
 refine kv g0 (ldB) ?_
 obtain ⟨t1, A2, H⟩ := of_bind H
 refine kcS0 5 (.lit (.bool t1)) [] g0 (cal (spec_l01In.ok A2) [] 9999 .n (hf := Try.func40)) rfl rfl ?_
 refine kv g0 (not_) ?_
 refine kv g0 (mv) ?_
 by_cases c3 : t1 = true
 ·rw [if_pos c3] at H
  refine kv (g1 (nF c3)) (faB 1 1) ?_
  refine kv (g1 (nF c3)) (ldB) ?_
  obtain ⟨t4, A5, H⟩ := of_bind H
  refine kcS0 10 (.lit (.bool t4)) [] (g1 (nF c3)) (cal (spec_HalfOk.ok A5) [] 9999 .n (hf := Try.func52)) rfl rfl ?_
  refine kv (g1 (nF c3)) (not_) ?_
  refine kv g0 (pkF (nF c3)) ?_
  refine kv g0 (mv) ?_
  by_cases c6 : t4 = true
  ·rw [if_pos c6] at H
   refine kv (g1 (nF c6)) (faB 2 2) ?_
   refine kv (g1 (nF c6)) (ldB) ?_
   obtain ⟨t7, A8, H⟩ := of_bind H
   refine kcS0 16 (.lit (.bool t7)) [] (g1 (nF c6)) (cal (spec_l01In.ok A8) [] 9999 .n (hf := Try.func40)) rfl rfl ?_
   refine kv (g1 (nF c6)) (not_) ?_
   refine kv g0 (pkF (nF c6)) ?_
   refine kv g0 (mv) ?_
   by_cases c9 : t7 = true
   ·rw [if_pos c9] at H
    refine kv (g1 (nF c9)) (faB 3 3) ?_
    refine kv (g1 (nF c9)) (ldB) ?_
    obtain ⟨t10, A11, H⟩ := of_bind H
    refine kcS0 22 (.lit (.bool t10)) [] (g1 (nF c9)) (cal (spec_l01In.ok A11) [] 9999 .n (hf := Try.func40)) rfl rfl ?_
    refine kv (g1 (nF c9)) (not_) ?_
    refine kv g0 (pkF (nF c9)) ?_
    refine wk_end ?_
    refine ac_next ?_
    by_cases c12 : t10 = true
    ·rw [if_pos c12] at H
     refine aw_ifF ?_ (nF c12)
     refine aw_skip ?_
     refine ac_next ?_
     refine aw_cut1 (J := fun K_ => ∀ (k_ : Nat), k_ ≤ k → spec_InsOk.j0 k_ a0_0 a0_1 a0_2 a0_3  = some r → ACont E 51 ⟨[(1, .box 0 0)], [(0, .box 46 [.lit (.int .i64 a0_0), .lit (.int .i64 a0_1), .lit (.int .i64 a0_2), .lit (.int .i64 a0_3)])]⟩ K_) ?_ ?_
     ·intro K_ hJ21
      refine aw_grp1 ?_
      refine wk_start ?_
      refine kv g0 (faB 0 0) ?_
      refine kv g0 (ldB) ?_
      obtain ⟨t13, A14, H⟩ := of_bind H
      refine kcS0 27 (.lit (.bool t13)) [] g0 (cal (spec_l06Ask.ok A14) [] 9999 .n (hf := Try.func69)) rfl rfl ?_
      refine kv g0 (not_) ?_
      refine kv g0 (mv) ?_
      by_cases c15 : t13 = true
      ·rw [if_pos c15] at H
       refine kx (hT (nF c15)) ?_
       refine kx (hT (nF c15)) ?_
       refine kx (hT (nF c15)) ?_
       refine ku (neT (hT (nF c15))) ?_
       refine ku neU ?_
       refine ku neU ?_
       refine ku neU ?_
       refine kx (hT (nF c15)) ?_
       refine kv g0 (pkF (nF c15)) ?_
       refine wk_end ?_
       refine ac_next ?_
       refine aw_ifF ?_ rfl
       refine aw_skip ?_
       refine ac_k ?_
       exact acw hE [(0, 0)] 9999 (hJ21 k (Nat.le_refl _) H)
      rw [if_neg c15] at H
      refine kv (g1 (nT (bF c15))) (faB 2 2) ?_
      refine kv (g1 (nT (bF c15))) (ldB) ?_
      refine kv (g1 (nT (bF c15))) (neq) ?_
      refine kv (g1 (nT (bF c15))) (mv) ?_
      by_cases c16 : a0_2 = 0
      ·rw [if_pos c16] at H
       refine kv (g1 (eM c16)) (faB 3 3) ?_
       refine kv (g1 (eM c16)) (ldB) ?_
       refine kv (g1 (eM c16)) (neq) ?_
       refine kv (g1 (nT (bF c15))) (pkF (eM c16)) ?_
       refine kv g0 (pkT (nT (bF c15))) ?_
       refine wk_end ?_
       refine ac_next ?_
       by_cases c17 : a0_3 = 0
       ·rw [if_pos c17] at H
        refine aw_ifF ?_ (eM c17)
        refine aw_skip ?_
        refine ac_k ?_
        exact acw hE [(0, 0)] 9999 (hJ21 k (Nat.le_refl _) H)
       rw [if_neg c17] at H
       refine aw_ifT ?_ (eN c17)
       refine aw_grp1 ?_
       refine wk_start ?_
       refine kv g0 (asg) ?_
       refine wk_end ?_
       refine ac_next ?_
       refine aw_ret ?_
       refine ac_thenR ?_
       obtain rfl := Option.some.inj H
       exact acr hE [.tmp 2] (.tmp .nil) (.one _) [] 9999
      rw [if_neg c16] at H
      refine kx (hF (eN c16)) ?_
      refine kx (hF (eN c16)) ?_
      refine kx (hF (eN c16)) ?_
      refine kv (g1 (nT (bF c15))) (pkT (eN c16)) ?_
      refine kv g0 (pkT (nT (bF c15))) ?_
      refine wk_end ?_
      refine ac_next ?_
      refine aw_ifT ?_ rfl
      refine aw_grp1 ?_
      refine wk_start ?_
      refine kv g0 (asg) ?_
      refine wk_end ?_
      refine ac_next ?_
      refine aw_ret ?_
      refine ac_thenR ?_
      obtain rfl := Option.some.inj H
      exact acr hE [.tmp 2] (.tmp .nil) (.one _) [] 9999
     intro k_  hk_ H
     rcases k_ with _ | k18
     ·rw [spec_InsOk.j0.eq_1] at H; cases H
     have hk18 : k18 ≤ k := by omega
     clear hk_
     rw [spec_InsOk.j0.eq_2] at H
     refine aw_grp1 ?_
     refine aw_grp1 ?_
     refine wk_start ?_
     refine kv g0 (faB 0 0) ?_
     refine kv g0 (ldB) ?_
     refine wk_end ?_
     refine ac_next ?_
     refine aw_block ?_
     refine aw_grp1 ?_
     refine wk_start ?_
     refine kv g0 (eql) ?_
     refine kv g0 (asg) ?_
     refine wk_end ?_
     refine ac_next ?_
     by_cases c19 : a0_0 = 1
     ·rw [if_pos c19] at H
      refine aw_ifT ?_ (eT c19)
      refine aw_grp1 ?_
      refine wk_start ?_
      refine kv g0 (faB 1 1) ?_
      refine kv g0 (ldB) ?_
      refine kv g0 (lss) ?_
      refine kv g0 (asg) ?_
      refine wk_end ?_
      refine ac_next ?_
      refine aw_ret ?_
      refine ac_blkR ?_
      refine ac_thenR ?_
      obtain rfl := Option.some.inj H
      exact acr hE [.tmp 2] (.tmp .nil) (.one _) [] 9999
     rw [if_neg c19] at H
     refine aw_ifF ?_ (eF c19)
     refine aw_grp1 ?_
     refine wk_start ?_
     refine kv g0 (eql) ?_
     refine kv g0 (asg) ?_
     refine wk_end ?_
     refine ac_next ?_
     by_cases c20 : a0_0 = 7
     ·rw [if_pos c20] at H
      refine aw_ifT ?_ (eT c20)
      refine aw_grp1 ?_
      refine wk_start ?_
      refine kv g0 (faB 1 1) ?_
      refine kv g0 (ldB) ?_
      refine kv g0 (lss) ?_
      refine kv g0 (asg) ?_
      refine wk_end ?_
      refine ac_next ?_
      refine aw_ret ?_
      refine ac_blkR ?_
      refine ac_thenR ?_
      obtain rfl := Option.some.inj H
      exact acr hE [.tmp 2] (.tmp .nil) (.one _) [] 9999
     rw [if_neg c20] at H
     refine aw_ifF ?_ (eF c20)
     refine aw_skip ?_
     refine ac_blkN ?_
     refine ac_next ?_
     refine aw_grp1 ?_
     refine wk_start ?_
     refine kv g0 (asg) ?_
     refine wk_end ?_
     refine ac_next ?_
     refine aw_ret ?_
     obtain rfl := Option.some.inj H
     exact acr hE [.tmp 2] (.tmp .nil) (.one _) [] 9999
    rw [if_neg c12] at H
    refine aw_ifT ?_ (nT (bF c12))
    refine aw_grp1 ?_
    refine wk_start ?_
    refine kv g0 (asg) ?_
    refine wk_end ?_
    refine ac_next ?_
    refine aw_ret ?_
    refine ac_thenR ?_
    obtain rfl := Option.some.inj H
    exact acr hE [.tmp 2] (.tmp .nil) (.one _) [] 9999
   rw [if_neg c9] at H
   refine kx (hF (nT (bF c9))) ?_
   refine kx (hF (nT (bF c9))) ?_
   refine kx (hF (nT (bF c9))) ?_
   refine kx (hF (nT (bF c9))) ?_
   refine kv g0 (pkT (nT (bF c9))) ?_
   refine wk_end ?_
   refine ac_next ?_
   refine aw_ifT ?_ rfl
   refine aw_grp1 ?_
   refine wk_start ?_
   refine kv g0 (asg) ?_
   refine wk_end ?_
   refine ac_next ?_
   refine aw_ret ?_
   refine ac_thenR ?_
   obtain rfl := Option.some.inj H
   exact acr hE [.tmp 2] (.tmp .nil) (.one _) [] 9999
  rw [if_neg c6] at H
  refine kx (hF (nT (bF c6))) ?_
  refine kx (hF (nT (bF c6))) ?_
  refine kx (hF (nT (bF c6))) ?_
  refine kx (hF (nT (bF c6))) ?_
  refine kv g0 (pkT (nT (bF c6))) ?_
  refine kv g0 (mv) ?_
  refine kx (hF rfl) ?_
  refine kx (hF rfl) ?_
  refine kx (hF rfl) ?_
  refine kx (hF rfl) ?_
  refine kv g0 (pkT rfl) ?_
  refine wk_end ?_
  refine ac_next ?_
  refine aw_ifT ?_ rfl
  refine aw_grp1 ?_
  refine wk_start ?_
  refine kv g0 (asg) ?_
  refine wk_end ?_
  refine ac_next ?_
  refine aw_ret ?_
  refine ac_thenR ?_
  obtain rfl := Option.some.inj H
  exact acr hE [.tmp 2] (.tmp .nil) (.one _) [] 9999
 rw [if_neg c3] at H
 refine kx (hF (nT (bF c3))) ?_
 refine kx (hF (nT (bF c3))) ?_
 refine kx (hF (nT (bF c3))) ?_
 refine kx (hF (nT (bF c3))) ?_
 refine kv g0 (pkT (nT (bF c3))) ?_
 refine kv g0 (mv) ?_
 refine kx (hF rfl) ?_
 refine kx (hF rfl) ?_
 refine kx (hF rfl) ?_
 refine kx (hF rfl) ?_
 refine kv g0 (pkT rfl) ?_
 refine kv g0 (mv) ?_
 refine kx (hF rfl) ?_
 refine kx (hF rfl) ?_
 refine kx (hF rfl) ?_
 refine kx (hF rfl) ?_
 refine kv g0 (pkT rfl) ?_
 refine wk_end ?_
 refine ac_next ?_
 refine aw_ifT ?_ rfl
 refine aw_grp1 ?_
 refine wk_start ?_
 refine kv g0 (asg) ?_
 refine wk_end ?_
 refine ac_next ?_
 refine aw_ret ?_
 refine ac_thenR ?_
 obtain rfl := Option.some.inj H
 exact acr hE [.tmp 2] (.tmp .nil) (.one _) [] 9999
/-! spec_l07Far -/
def spec_l07Far.f (a0_0 : Int) (a0_1 : Int) (a0_2 : Int) (a0_3 : Int) : Option (Int) := if a0_0 = 7 then some a0_1 else if a0_2 > a0_3 then some a0_2 else some a0_3
theorem spec_l07Far.ok {a0_0 : Int} {a0_1 : Int} {a0_2 : Int} {a0_3 : Int} {r : Int} (H : spec_l07Far.f a0_0 a0_1 a0_2 a0_3 = some r) : ACalls Try.prog 42 [] [.agg [.lit (.int .i64 a0_0), .lit (.int .i64 a0_1), .lit (.int .i64 a0_2), .lit (.int .i64 a0_3)]] [] (.lit (.int .i64 r)) := by
 refine acalls (fn := Try.f42) (nt := 17) Try.func42 rfl rfl (Nat.le_of_ble_eq_true rfl) fun E hE => ?_
 rw [spec_l07Far.f] at H
 refine aw_grp1 ?_
 refine wk_start ?_
 refine kb g0 (bxA 0) ?_
 refine kv g0 (asg) ?_
 refine wk_end ?_
 refine ac_next ?_
 refine aw_grp1 ?_
 refine aw_grp1 ?_
 refine wk_start ?_
 refine kv g0 (faB 0 0) ?_
 refine kv g0 (ldB) ?_
 refine kv g0 (eql) ?_
 refine wk_end ?_
 refine ac_next ?_
 by_cases c1 : a0_0 = 7
 ·rw [if_pos c1] at H
  refine aw_ifT ?_ (eT c1)
  refine aw_grp1 ?_
  refine wk_start ?_
  refine kv g0 (faB 1 1) ?_
  refine kv g0 (ldB) ?_
  refine kv g0 (asg) ?_
  refine wk_end ?_
  refine ac_next ?_
  refine aw_ret ?_
  refine ac_thenR ?_
  obtain rfl := Option.some.inj H
  exact acr hE [.tmp 2] (.tmp .nil) (.one _) [] 9999
 rw [if_neg c1] at H
 refine aw_ifF ?_ (eF c1)
 refine aw_skip ?_
 refine ac_next ?_
 refine aw_grp1 ?_
 refine aw_grp1 ?_
 refine wk_start ?_
 refine kv g0 (faB 2 2) ?_
 refine kv g0 (ldB) ?_
 refine kv g0 (faB 3 3) ?_
 refine kv g0 (ldB) ?_
 refine kv g0 (gtr) ?_
 refine wk_end ?_
 refine ac_next ?_
 by_cases c2 : a0_2 > a0_3
 ·rw [if_pos c2] at H
  refine aw_ifT ?_ (decide_eq_true c2)
  refine aw_grp1 ?_
  refine wk_start ?_
  refine kv g0 (faB 2 2) ?_
  refine kv g0 (ldB) ?_
  refine kv g0 (asg) ?_
  refine wk_end ?_
  refine ac_next ?_
  refine aw_ret ?_
  refine ac_thenR ?_
  obtain rfl := Option.some.inj H
  exact acr hE [.tmp 2] (.tmp .nil) (.one _) [] 9999
 rw [if_neg c2] at H
 refine aw_ifF ?_ (decide_eq_false c2)
 refine aw_skip ?_
 refine ac_next ?_
 refine aw_grp1 ?_
 refine wk_start ?_
 refine kv g0 (faB 3 3) ?_
 refine kv g0 (ldB) ?_
 refine kv g0 (asg) ?_
 refine wk_end ?_
 refine ac_next ?_
 refine aw_ret ?_
 obtain rfl := Option.some.inj H
 exact acr hE [.tmp 2] (.tmp .nil) (.one _) [] 9999
/-! spec_CheckProgram -/
def spec_CheckProgram.l0 : Nat → (List S46) → Int → Option (Bool)
 | 0, _, _ => none
 | k14 + 1, l0, p13 => if p13 < (l0.length : Int) then if 0 ≤ p13 then ((spec_InsOk.f k14 ((rd_T46 l0 p13).f0) ((rd_T46 l0 p13).f1) ((rd_T46 l0 p13).f2) ((rd_T46 l0 p13).f3)).bind fun t17 => (if t17 = true then (if ((rd_T46 l0 p13).f0) = 8 then spec_CheckProgram.l0 k14 l0 (wrap64 (p13 + 1)) else ((spec_l07Far.f ((rd_T46 l0 p13).f0) ((rd_T46 l0 p13).f1) ((rd_T46 l0 p13).f2) ((rd_T46 l0 p13).f3)).bind fun t21 => if (wrap64 ((wrap64 (p13 + 1)) + t21)) ≥ (l0.length : Int) then some false else spec_CheckProgram.l0 k14 l0 (wrap64 (p13 + 1)))) else some false)) else none else if 0 ≤ (wrap64 ((l0.length : Int) - 1)) then (if (wrap64 ((l0.length : Int) - 1)) < (l0.length : Int) then some (((rd_T46 l0 (wrap64 ((l0.length : Int) - 1))).f0) == 8) else none) else none
def spec_CheckProgram.f (k : Nat) (l0 : List S46) : Option (Bool) := (spec_l01In.f (l0.length : Int) 1 400).bind fun t1 => if t1 = true then spec_CheckProgram.l0 k l0 0 else some false
theorem spec_CheckProgram.ok {k : Nat} {l0 : List S46} {r : Bool} (H : spec_CheckProgram.f k l0 = some r) : ACalls Try.prog 21 [] [.sl .o 4 (l0.map e46)] [] (.lit (.bool r)) := by
 refine acalls (fn := Try.f21) (nt := 49) Try.func21 rfl rfl (Nat.le_of_ble_eq_true rfl) fun E hE => ?_
 rw [spec_CheckProgram.f] at H
 refine aw_grp1 ?_
 refine wk_start ?_
 refine kv g0 (asg) ?_
 refine wk_end ?_
 refine ac_next ?_
 refine aw_grp1 ?_
 refine aw_grp1 ?_
 refine wk_start ?_
 refine kv g0 (mv) ?_
 refine kv g0 (lnS lenE) ?_
 obtain ⟨t1, A2, H⟩ := of_bind H
 refine kcS0 6 (.lit (.bool t1)) [] g0 (cal (spec_l01In.ok A2) [] 9999 .n (hf := Try.func40)) rfl rfl ?_
 refine kv g0 (not_) ?_
 refine wk_end ?_
 refine ac_next ?_
 by_cases c3 : t1 = true
 ·rw [if_pos c3] at H
  refine aw_ifF ?_ (nF c3)
  refine aw_skip ?_
  refine ac_next ?_
  refine aw_grp1 ?_
  refine aw_grp1 ?_
  refine wk_start ?_
  refine kv g0 (asg) ?_
  refine wk_end ?_
  refine ac_next ?_
  refine aw_block ?_
  refine aw_loop1 (fun (k_ : Nat) (p13 : Int) => k_ ≤ k ∧ spec_CheckProgram.l0 k_ l0 p13 = some r) (fun (p13 : Int) => ⟨[(0, .sl .o 4 (l0.map e46)), (3, .lit (.int .i64 p13))], []⟩) k 0 ⟨Nat.le_refl _, H⟩ (fun K_ h_ => acw hE [] 9999 h_) (fun _ => by intro h_; have h_ := h_.2; rw [spec_CheckProgram.l0.eq_1] at h_; cases h_) ?_
  intro k14 p13 hq_ K24 hK25
  have hk14 := hq_.1
  have H := hq_.2
  clear hq_
  rw [spec_CheckProgram.l0.eq_2] at H
  refine aw_grp1 ?_
  refine aw_grp1 ?_
  refine wk_start ?_
  refine kv g0 (mv) ?_
  refine kv g0 (mv) ?_
  refine kv g0 (lnS lenE) ?_
  refine kv g0 (lss) ?_
  refine wk_end ?_
  refine ac_next ?_
  by_cases c15 : p13 < (l0.length : Int)
  ·rw [if_pos c15] at H
   refine aw_ifT ?_ (decide_eq_true c15)
   refine aw_skip ?_
   refine ac_next ?_
   refine aw_grp1 ?_
   refine aw_block ?_
   refine aw_grp1 ?_
   refine wk_start ?_
   refine kv g0 (mv) ?_
   refine kv g0 (mv) ?_
   obtain ⟨c16, H⟩ := of_if H
   refine kv g0 (ixS 46 (e46 (rd_T46 l0 p13)) c16 (getE (z := z46) c16 c15)) ?_
   refine kv g0 (ldRA 4 [.lit (.int .i64 ((rd_T46 l0 p13).f0)), .lit (.int .i64 ((rd_T46 l0 p13).f1)), .lit (.int .i64 ((rd_T46 l0 p13).f2)), .lit (.int .i64 ((rd_T46 l0 p13).f3))]) ?_
   obtain ⟨t17, A18, H⟩ := of_bind H
   refine kcS0 18 (.lit (.bool t17)) [] g0 (cal (spec_InsOk.ok A18) [] 9999 .n (hf := Try.func41)) rfl rfl ?_
   refine kv g0 (not_) ?_
   refine kv g0 (mv) ?_
   by_cases c19 : t17 = true
   ·rw [if_pos c19] at H
    refine kv (g1 (nF c19)) (mv) ?_
    refine kv (g1 (nF c19)) (mv) ?_
    refine kv (g1 (nF c19)) (ixS 46 (e46 (rd_T46 l0 p13)) c16 (getE (z := z46) c16 c15)) ?_
    refine kv (g1 (nF c19)) (faR 0 0) ?_
    refine kv (g1 (nF c19)) (ldR (.lit (.int .i64 ((rd_T46 l0 p13).f0)))) ?_
    refine kv (g1 (nF c19)) (neq) ?_
    refine kv (g1 (nF c19)) (mv) ?_
    by_cases c20 : ((rd_T46 l0 p13).f0) = 8
    ·rw [if_pos c20] at H
     refine kx (hT (eM c20)) ?_
     refine kx (hT (eM c20)) ?_
     refine kx (hT (eM c20)) ?_
     refine kx (hT (eM c20)) ?_
     refine kx (hT (eM c20)) ?_
     refine kx (hT (eM c20)) ?_
     refine kx (hT (eM c20)) ?_
     refine kx (hT (eM c20)) ?_
     refine kx (hT (eM c20)) ?_
     refine kx (hT (eM c20)) ?_
     refine kx (hT (eM c20)) ?_
     refine kv (g1 (nF c19)) (pkF (eM c20)) ?_
     refine kv g0 (pkF (nF c19)) ?_
     refine wk_end ?_
     refine ac_next ?_
     refine aw_ifF ?_ rfl
     refine aw_skip ?_
     refine ac_blkN ?_
     refine ac_next ?_
     refine wk_start ?_
     refine kv g0 (mv) ?_
     refine kv g0 (add6) ?_
     refine kv g0 (asg) ?_
     refine wk_end ?_
     refine ac_k ?_
     exact acw hE [] 9999 (hK25 k14 (wrap64 (p13 + 1)) (Nat.le_refl _) ⟨by omega, H⟩)
    rw [if_neg c20] at H
    refine kv (g1 (eN c20)) (mv) ?_
    refine kv (g1 (eN c20)) (add6) ?_
    refine kv (g1 (eN c20)) (mv) ?_
    refine kv (g1 (eN c20)) (mv) ?_
    refine kv (g1 (eN c20)) (ixS 46 (e46 (rd_T46 l0 p13)) c16 (getE (z := z46) c16 c15)) ?_
    refine kv (g1 (eN c20)) (ldRA 4 [.lit (.int .i64 ((rd_T46 l0 p13).f0)), .lit (.int .i64 ((rd_T46 l0 p13).f1)), .lit (.int .i64 ((rd_T46 l0 p13).f2)), .lit (.int .i64 ((rd_T46 l0 p13).f3))]) ?_
    obtain ⟨t21, A22, H⟩ := of_bind H
    refine kcS0 34 (.lit (.int .i64 t21)) [] (g1 (eN c20)) (cal (spec_l07Far.ok A22) [] 9999 .n (hf := Try.func42)) rfl rfl ?_
    refine kv (g1 (eN c20)) (add6) ?_
    refine kv (g1 (eN c20)) (mv) ?_
    refine kv (g1 (eN c20)) (lnS lenE) ?_
    refine kv (g1 (eN c20)) (geq) ?_
    refine kv (g1 (nF c19)) (pkT (eN c20)) ?_
    refine kv g0 (pkF (nF c19)) ?_
    refine wk_end ?_
    refine ac_next ?_
    by_cases c23 : (wrap64 ((wrap64 (p13 + 1)) + t21)) ≥ (l0.length : Int)
    ·rw [if_pos c23] at H
     refine aw_ifT ?_ (decide_eq_true c23)
     refine aw_grp1 ?_
     refine wk_start ?_
     refine kv g0 (asg) ?_
     refine wk_end ?_
     refine ac_next ?_
     refine aw_ret ?_
     refine ac_blkR ?_
     refine ac_thenR ?_
     refine ac_thenR ?_
     refine ac_blkR ?_
     refine ac_thenR ?_
     obtain rfl := Option.some.inj H
     exact acr hE [.tmp 2] (.tmp .nil) (.one _) [] 9999
    rw [if_neg c23] at H
    refine aw_ifF ?_ (decide_eq_false c23)
    refine aw_skip ?_
    refine ac_blkN ?_
    refine ac_next ?_
    refine wk_start ?_
    refine kv g0 (mv) ?_
    refine kv g0 (add6) ?_
    refine kv g0 (asg) ?_
    refine wk_end ?_
    refine ac_k ?_
    exact acw hE [] 9999 (hK25 k14 (wrap64 (p13 + 1)) (Nat.le_refl _) ⟨by omega, H⟩)
   rw [if_neg c19] at H
   refine kx (hF (nT (bF c19))) ?_
   refine kx (hF (nT (bF c19))) ?_
   refine kx (hF (nT (bF c19))) ?_
   refine kx (hF (nT (bF c19))) ?_
   refine kx (hF (nT (bF c19))) ?_
   refine kx (hF (nT (bF c19))) ?_
   refine ku (neT (hF (nT (bF c19)))) ?_
   refine ku neU ?_
   refine ku neU ?_
   refine ku neU ?_
   refine ku neU ?_
   refine ku neU ?_
   refine ku neU ?_
   refine ku neU ?_
   refine ku neU ?_
   refine ku neU ?_
   refine ku neU ?_
   refine ku neU ?_
   refine kx (hF (nT (bF c19))) ?_
   refine kv g0 (pkT (nT (bF c19))) ?_
   refine wk_end ?_
   refine ac_next ?_
   refine aw_ifT ?_ rfl
   refine aw_grp1 ?_
   refine wk_start ?_
   refine kv g0 (asg) ?_
   refine wk_end ?_
   refine ac_next ?_
   refine aw_ret ?_
   refine ac_blkR ?_
   refine ac_thenR ?_
   refine ac_thenR ?_
   refine ac_blkR ?_
   refine ac_thenR ?_
   obtain rfl := Option.some.inj H
   exact acr hE [.tmp 2] (.tmp .nil) (.one _) [] 9999
  rw [if_neg c15] at H
  refine aw_ifF ?_ (decide_eq_false c15)
  refine aw_exit ?_
  refine ac_then ?_
  refine ac_then ?_
  refine ac_hit rfl ?_
  refine ac_next ?_
  refine aw_grp1 ?_
  refine wk_start ?_
  refine kv g0 (mv) ?_
  refine kv g0 (mv) ?_
  refine kv g0 (lnS lenE) ?_
  refine kv g0 (sub6) ?_
  obtain ⟨c26, H⟩ := of_if H
  obtain ⟨c27, H⟩ := of_if H
  refine kv g0 (ixS 46 (e46 (rd_T46 l0 (wrap64 ((l0.length : Int) - 1)))) c26 (getE (z := z46) c26 c27)) ?_
  refine kv g0 (faR 0 0) ?_
  refine kv g0 (ldR (.lit (.int .i64 ((rd_T46 l0 (wrap64 ((l0.length : Int) - 1))).f0)))) ?_
  refine kv g0 (eql) ?_
  refine kv g0 (asg) ?_
  refine wk_end ?_
  refine ac_next ?_
  refine aw_ret ?_
  obtain rfl := Option.some.inj H
  exact acr hE [.tmp 2] (.tmp .nil) (.one _) [] 9999
 rw [if_neg c3] at H
 refine aw_ifT ?_ (nT (bF c3))
 refine aw_grp1 ?_
 refine wk_start ?_
 refine kv g0 (asg) ?_
 refine wk_end ?_
 refine ac_next ?_
 refine aw_ret ?_
 refine ac_thenR ?_
 obtain rfl := Option.some.inj H
 exact acr hE [.tmp 2] (.tmp .nil) (.one _) [] 9999
/-! impl_within -/
def impl_within.f (a0 : Int) (a1 : Int) (a2 : Int) : Option (Bool) := if a0 ≥ a1 then some (decide (a0 ≤ a2)) else some false
theorem impl_within.ok {a0 : Int} {a1 : Int} {a2 : Int} {r : Bool} (H : impl_within.f a0 a1 a2 = some r) : ACalls Try.prog 49 [] [.lit (.int .i64 a0), .lit (.int .i64 a1), .lit (.int .i64 a2)] [] (.lit (.bool r)) := by
 refine acalls (fn := Try.f49) (nt := 15) Try.func49 rfl rfl (Nat.le_of_ble_eq_true rfl) fun E hE => ?_
 rw [impl_within.f] at H
 refine aw_grp1 ?_
 refine wk_start ?_
 refine kv g0 (asg) ?_
 refine wk_end ?_
 refine ac_next ?_
 refine aw_grp1 ?_
 refine wk_start ?_
 refine kv g0 (mv) ?_
 refine kv g0 (mv) ?_
 refine kv g0 (geq) ?_
 refine kv g0 (mv) ?_
 by_cases c1 : a0 ≥ a1
 ·rw [if_pos c1] at H
  refine kv (g1 (decide_eq_true c1)) (mv) ?_
  refine kv (g1 (decide_eq_true c1)) (mv) ?_
  refine kv (g1 (decide_eq_true c1)) (leq) ?_
  refine kv g0 (pkT (decide_eq_true c1)) ?_
  refine kv g0 (asg) ?_
  refine wk_end ?_
  refine ac_next ?_
  refine aw_ret ?_
  obtain rfl := Option.some.inj H
  exact acr hE [.tmp 6] (.tmp .nil) (.one _) [] 9999
 rw [if_neg c1] at H
 refine kx (hT (decide_eq_false c1)) ?_
 refine kx (hT (decide_eq_false c1)) ?_
 refine kx (hT (decide_eq_false c1)) ?_
 refine kv g0 (pkF (decide_eq_false c1)) ?_
 refine kv g0 (asg) ?_
 refine wk_end ?_
 refine ac_next ?_
 refine aw_ret ?_
 obtain rfl := Option.some.inj H
 exact acr hE [.tmp 6] (.tmp .nil) (.one _) [] 9999
/-! impl_Ins_asks -/
def impl_Ins_asks.f (a0_0 : Int) (a0_1 : Int) (a0_2 : Int) (a0_3 : Int) : Option (Bool) := (impl_within.f a0_0 3 6).bind fun t1 => some t1
theorem impl_Ins_asks.ok {a0_0 : Int} {a0_1 : Int} {a0_2 : Int} {a0_3 : Int} {r : Bool} (H : impl_Ins_asks.f a0_0 a0_1 a0_2 a0_3 = some r) : ACalls Try.prog 75 [] [.agg [.lit (.int .i64 a0_0), .lit (.int .i64 a0_1), .lit (.int .i64 a0_2), .lit (.int .i64 a0_3)]] [] (.lit (.bool r)) := by
 refine acalls (fn := Try.f75) (nt := 6) Try.func75 rfl rfl (Nat.le_of_ble_eq_true rfl) fun E hE => ?_
 rw [impl_Ins_asks.f] at H
 refine aw_grp1 ?_
 refine wk_start ?_
 refine kb g0 (bxA 0) ?_
 refine kv g0 (asg) ?_
 refine wk_end ?_
 refine ac_next ?_
 refine aw_grp1 ?_
 refine wk_start ?_
 refine kv g0 (faB 0 0) ?_
 refine kv g0 (ldB) ?_
 obtain ⟨t1, A2, H⟩ := of_bind H
 refine kcS0 5 (.lit (.bool t1)) [] g0 (cal (impl_within.ok A2) [] 9999 .n (hf := Try.func49)) rfl rfl ?_
 refine kv g0 (asg) ?_
 refine wk_end ?_
 refine ac_next ?_
 refine aw_ret ?_
 obtain rfl := Option.some.inj H
 exact acr hE [.tmp 2] (.tmp .nil) (.one _) [] 9999
/-! impl_HalfOk -/
def impl_HalfOk.f (a0 : Int) : Option (Bool) := (impl_within.f a0 0 4294967295).bind fun t1 => some t1
theorem impl_HalfOk.ok {a0 : Int} {r : Bool} (H : impl_HalfOk.f a0 = some r) : ACalls Try.prog 91 [] [.lit (.int .i64 a0)] [] (.lit (.bool r)) := by
 refine acalls (fn := Try.f91) (nt := 5) Try.func91 rfl rfl (Nat.le_of_ble_eq_true rfl) fun E hE => ?_
 rw [impl_HalfOk.f] at H
 refine aw_grp1 ?_
 refine wk_start ?_
 refine kv g0 (asg) ?_
 refine wk_end ?_
 refine ac_next ?_
 refine aw_grp1 ?_
 refine wk_start ?_
 refine kv g0 (mv) ?_
 obtain ⟨t1, A2, H⟩ := of_bind H
 refine kcS0 4 (.lit (.bool t1)) [] g0 (cal (impl_within.ok A2) [] 9999 .n (hf := Try.func49)) rfl rfl ?_
 refine kv g0 (asg) ?_
 refine wk_end ?_
 refine ac_next ?_
 refine aw_ret ?_
 obtain rfl := Option.some.inj H
 exact acr hE [.tmp 2] (.tmp .nil) (.one _) [] 9999
/-! impl_InsOk -/
def impl_InsOk.f (a0_0 : Int) (a0_1 : Int) (a0_2 : Int) (a0_3 : Int) : Option (Bool) := (impl_Ins_asks.f a0_0 a0_1 a0_2 a0_3).bind fun t1 => if t1 = true then ((impl_HalfOk.f a0_1).bind fun t4 => (if t4 = true then ((impl_within.f a0_2 0 15).bind fun t7 => (if t7 = true then ((impl_within.f a0_3 0 15).bind fun t10 => some t10) else some false)) else some false)) else if a0_2 = 0 then if a0_3 = 0 then if a0_0 = 1 then ((impl_within.f a0_1 0 7).bind fun t15 => some t15) else if a0_0 = 7 then ((impl_within.f a0_1 0 399).bind fun t18 => some t18) else if a0_0 = 2 then (impl_HalfOk.f a0_1).bind fun t21 => some t21 else if a0_0 = 8 then ((impl_HalfOk.f a0_1).bind fun t24 => some t24) else some false else some false else some false
theorem impl_InsOk.ok {a0_0 : Int} {a0_1 : Int} {a0_2 : Int} {a0_3 : Int} {r : Bool} (H : impl_InsOk.f a0_0 a0_1 a0_2 a0_3 = some r) : ACalls Try.prog 73 [] [.agg [.lit (.int .i64 a0_0), .lit (.int .i64 a0_1), .lit (.int .i64 a0_2), .lit (.int .i64 a0_3)]] [] (.lit (.bool r)) := by
 refine acalls (fn := Try.f73) (nt := 44) Try.func73 rfl rfl (Nat.le_of_ble_eq_true rfl) fun E hE => ?_
 rw [impl_InsOk.f] at H
 refine aw_grp1 ?_
 refine wk_start ?_
 refine kb g0 (bxA 0) ?_
 refine kv g0 (asg) ?_
 refine wk_end ?_
 refine ac_next ?_
 refine aw_grp1 ?_
 refine aw_grp1 ?_
 refine wk_start ?_
 refine kv g0 (ldBA 4 [.lit (.int .i64 a0_0), .lit (.int .i64 a0_1), .lit (.int .i64 a0_2), .lit (.int .i64 a0_3)]) ?_
 obtain ⟨t1, A2, H⟩ := of_bind H
 refine kcS0 4 (.lit (.bool t1)) [] g0 (cal (impl_Ins_asks.ok A2) [] 9999 .n (hf := Try.func75)) rfl rfl ?_
 refine wk_end ?_
 refine ac_next ?_
 by_cases c3 : t1 = true
 ·rw [if_pos c3] at H
  refine aw_ifT ?_ c3
  refine aw_grp1 ?_
  refine wk_start ?_
  refine kv g0 (faB 1 1) ?_
  refine kv g0 (ldB) ?_
  obtain ⟨t4, A5, H⟩ := of_bind H
  refine kcS0 7 (.lit (.bool t4)) [] g0 (cal (impl_HalfOk.ok A5) [] 9999 .n (hf := Try.func91)) rfl rfl ?_
  refine kv g0 (mv) ?_
  by_cases c6 : t4 = true
  ·rw [if_pos c6] at H
   refine kv (g1 c6) (faB 2 2) ?_
   refine kv (g1 c6) (ldB) ?_
   obtain ⟨t7, A8, H⟩ := of_bind H
   refine kcS0 11 (.lit (.bool t7)) [] (g1 c6) (cal (impl_within.ok A8) [] 9999 .n (hf := Try.func49)) rfl rfl ?_
   refine kv g0 (pkT c6) ?_
   refine kv g0 (mv) ?_
   by_cases c9 : t7 = true
   ·rw [if_pos c9] at H
    refine kv (g1 c9) (faB 3 3) ?_
    refine kv (g1 c9) (ldB) ?_
    obtain ⟨t10, A11, H⟩ := of_bind H
    refine kcS0 16 (.lit (.bool t10)) [] (g1 c9) (cal (impl_within.ok A11) [] 9999 .n (hf := Try.func49)) rfl rfl ?_
    refine kv g0 (pkT c9) ?_
    refine kv g0 (asg) ?_
    refine wk_end ?_
    refine ac_next ?_
    refine aw_ret ?_
    refine ac_thenR ?_
    obtain rfl := Option.some.inj H
    exact acr hE [.tmp 2] (.tmp .nil) (.one _) [] 9999
   rw [if_neg c9] at H
   refine kx (hT (bF c9)) ?_
   refine kx (hT (bF c9)) ?_
   refine kx (hT (bF c9)) ?_
   refine kv g0 (pkF (bF c9)) ?_
   refine kv g0 (asg) ?_
   refine wk_end ?_
   refine ac_next ?_
   refine aw_ret ?_
   refine ac_thenR ?_
   obtain rfl := Option.some.inj H
   exact acr hE [.tmp 2] (.tmp .nil) (.one _) [] 9999
  rw [if_neg c6] at H
  refine kx (hT (bF c6)) ?_
  refine kx (hT (bF c6)) ?_
  refine kx (hT (bF c6)) ?_
  refine kv g0 (pkF (bF c6)) ?_
  refine kv g0 (mv) ?_
  refine kx (hT rfl) ?_
  refine kx (hT rfl) ?_
  refine kx (hT rfl) ?_
  refine kv g0 (pkF rfl) ?_
  refine kv g0 (asg) ?_
  refine wk_end ?_
  refine ac_next ?_
  refine aw_ret ?_
  refine ac_thenR ?_
  obtain rfl := Option.some.inj H
  exact acr hE [.tmp 2] (.tmp .nil) (.one _) [] 9999
 rw [if_neg c3] at H
 refine aw_ifF ?_ (bF c3)
 refine aw_skip ?_
 refine ac_next ?_
 refine aw_grp1 ?_
 refine aw_grp1 ?_
 refine wk_start ?_
 refine kv g0 (faB 2 2) ?_
 refine kv g0 (ldB) ?_
 refine kv g0 (neq) ?_
 refine kv g0 (mv) ?_
 by_cases c12 : a0_2 = 0
 ·rw [if_pos c12] at H
  refine kv (g1 (eM c12)) (faB 3 3) ?_
  refine kv (g1 (eM c12)) (ldB) ?_
  refine kv (g1 (eM c12)) (neq) ?_
  refine kv g0 (pkF (eM c12)) ?_
  refine wk_end ?_
  refine ac_next ?_
  by_cases c13 : a0_3 = 0
  ·rw [if_pos c13] at H
   refine aw_ifF ?_ (eM c13)
   refine aw_skip ?_
   refine ac_next ?_
   refine aw_grp1 ?_
   refine aw_grp1 ?_
   refine wk_start ?_
   refine kv g0 (faB 0 0) ?_
   refine kv g0 (ldB) ?_
   refine wk_end ?_
   refine ac_next ?_
   refine aw_block ?_
   refine aw_grp1 ?_
   refine wk_start ?_
   refine kv g0 (eql) ?_
   refine kv g0 (asg) ?_
   refine wk_end ?_
   refine ac_next ?_
   by_cases c14 : a0_0 = 1
   ·rw [if_pos c14] at H
    refine aw_ifT ?_ (eT c14)
    refine aw_grp1 ?_
    refine wk_start ?_
    refine kv g0 (faB 1 1) ?_
    refine kv g0 (ldB) ?_
    obtain ⟨t15, A16, H⟩ := of_bind H
    refine kcS0 32 (.lit (.bool t15)) [] g0 (cal (impl_within.ok A16) [] 9999 .n (hf := Try.func49)) rfl rfl ?_
    refine kv g0 (asg) ?_
    refine wk_end ?_
    refine ac_next ?_
    refine aw_ret ?_
    refine ac_blkR ?_
    refine ac_thenR ?_
    obtain rfl := Option.some.inj H
    exact acr hE [.tmp 2] (.tmp .nil) (.one _) [] 9999
   rw [if_neg c14] at H
   refine aw_ifF ?_ (eF c14)
   refine aw_grp1 ?_
   refine wk_start ?_
   refine kv g0 (eql) ?_
   refine kv g0 (asg) ?_
   refine wk_end ?_
   refine ac_next ?_
   by_cases c17 : a0_0 = 7
   ·rw [if_pos c17] at H
    refine aw_ifT ?_ (eT c17)
    refine aw_grp1 ?_
    refine wk_start ?_
    refine kv g0 (faB 1 1) ?_
    refine kv g0 (ldB) ?_
    obtain ⟨t18, A19, H⟩ := of_bind H
    refine kcS0 37 (.lit (.bool t18)) [] g0 (cal (impl_within.ok A19) [] 9999 .n (hf := Try.func49)) rfl rfl ?_
    refine kv g0 (asg) ?_
    refine wk_end ?_
    refine ac_next ?_
    refine aw_ret ?_
    refine ac_blkR ?_
    refine ac_thenR ?_
    obtain rfl := Option.some.inj H
    exact acr hE [.tmp 2] (.tmp .nil) (.one _) [] 9999
   rw [if_neg c17] at H
   refine aw_ifF ?_ (eF c17)
   refine aw_grp1 ?_
   refine aw_grp1 ?_
   refine wk_start ?_
   refine kv g0 (eql) ?_
   refine kv g0 (asg) ?_
   refine wk_end ?_
   refine ac_next ?_
   by_cases c20 : a0_0 = 2
   ·rw [if_pos c20] at H
    refine aw_ifT ?_ (eT c20)
    refine aw_skip ?_
    refine ac_next ?_
    refine aw_ifT ?_ (eT c20)
    refine aw_grp1 ?_
    refine wk_start ?_
    refine kv g0 (faB 1 1) ?_
    refine kv g0 (ldB) ?_
    obtain ⟨t21, A22, H⟩ := of_bind H
    refine kcS0 43 (.lit (.bool t21)) [] g0 (cal (impl_HalfOk.ok A22) [] 9999 .n (hf := Try.func91)) rfl rfl ?_
    refine kv g0 (asg) ?_
    refine wk_end ?_
    refine ac_next ?_
    refine aw_ret ?_
    refine ac_blkR ?_
    refine ac_thenR ?_
    obtain rfl := Option.some.inj H
    exact acr hE [.tmp 2] (.tmp .nil) (.one _) [] 9999
   rw [if_neg c20] at H
   refine aw_ifF ?_ (eF c20)
   refine wk_start ?_
   refine kv g0 (eql) ?_
   refine kv g0 (asg) ?_
   refine wk_end ?_
   refine ac_next ?_
   by_cases c23 : a0_0 = 8
   ·rw [if_pos c23] at H
    refine aw_ifT ?_ (eT c23)
    refine aw_grp1 ?_
    refine wk_start ?_
    refine kv g0 (faB 1 1) ?_
    refine kv g0 (ldB) ?_
    obtain ⟨t24, A25, H⟩ := of_bind H
    refine kcS0 43 (.lit (.bool t24)) [] g0 (cal (impl_HalfOk.ok A25) [] 9999 .n (hf := Try.func91)) rfl rfl ?_
    refine kv g0 (asg) ?_
    refine wk_end ?_
    refine ac_next ?_
    refine aw_ret ?_
    refine ac_blkR ?_
    refine ac_thenR ?_
    obtain rfl := Option.some.inj H
    exact acr hE [.tmp 2] (.tmp .nil) (.one _) [] 9999
   rw [if_neg c23] at H
   refine aw_ifF ?_ (eF c23)
   refine aw_skip ?_
   refine ac_blkN ?_
   refine ac_next ?_
   refine aw_grp1 ?_
   refine wk_start ?_
   refine kv g0 (asg) ?_
   refine wk_end ?_
   refine ac_next ?_
   refine aw_ret ?_
   obtain rfl := Option.some.inj H
   exact acr hE [.tmp 2] (.tmp .nil) (.one _) [] 9999
  rw [if_neg c13] at H
  refine aw_ifT ?_ (eN c13)
  refine aw_grp1 ?_
  refine wk_start ?_
  refine kv g0 (asg) ?_
  refine wk_end ?_
  refine ac_next ?_
  refine aw_ret ?_
  refine ac_thenR ?_
  obtain rfl := Option.some.inj H
  exact acr hE [.tmp 2] (.tmp .nil) (.one _) [] 9999
 rw [if_neg c12] at H
 refine kx (hF (eN c12)) ?_
 refine kx (hF (eN c12)) ?_
 refine kx (hF (eN c12)) ?_
 refine kv g0 (pkT (eN c12)) ?_
 refine wk_end ?_
 refine ac_next ?_
 refine aw_ifT ?_ rfl
 refine aw_grp1 ?_
 refine wk_start ?_
 refine kv g0 (asg) ?_
 refine wk_end ?_
 refine ac_next ?_
 refine aw_ret ?_
 refine ac_thenR ?_
 obtain rfl := Option.some.inj H
 exact acr hE [.tmp 2] (.tmp .nil) (.one _) [] 9999
/-! impl_farthest -/
def impl_farthest.f (a0_0 : Int) (a0_1 : Int) (a0_2 : Int) (a0_3 : Int) (a1 : Int) : Option (Int) := (impl_Ins_asks.f a0_0 a0_1 a0_2 a0_3).bind fun t1 => if t1 = true then some (wrap64 ((wrap64 (a1 + 1)) + (max a0_2 a0_3))) else if a0_0 = 7 then some (wrap64 ((wrap64 (a1 + 1)) + a0_1)) else some a1
theorem impl_farthest.ok {a0_0 : Int} {a0_1 : Int} {a0_2 : Int} {a0_3 : Int} {a1 : Int} {r : Int} (H : impl_farthest.f a0_0 a0_1 a0_2 a0_3 a1 = some r) : ACalls Try.prog 74 [] [.agg [.lit (.int .i64 a0_0), .lit (.int .i64 a0_1), .lit (.int .i64 a0_2), .lit (.int .i64 a0_3)], .lit (.int .i64 a1)] [] (.lit (.int .i64 r)) := by
 refine acalls (fn := Try.f74) (nt := 26) Try.func74 rfl rfl (Nat.le_of_ble_eq_true rfl) fun E hE => ?_
 rw [impl_farthest.f] at H
 refine aw_grp1 ?_
 refine wk_start ?_
 refine kb g0 (bxA 0) ?_
 refine kv g0 (asg) ?_
 refine wk_end ?_
 refine ac_next ?_
 refine aw_grp1 ?_
 refine aw_block ?_
 refine aw_grp1 ?_
 refine wk_start ?_
 refine kv g0 (ldBA 4 [.lit (.int .i64 a0_0), .lit (.int .i64 a0_1), .lit (.int .i64 a0_2), .lit (.int .i64 a0_3)]) ?_
 obtain ⟨t1, A2, H⟩ := of_bind H
 refine kcS0 7 (.lit (.bool t1)) [] g0 (cal (impl_Ins_asks.ok A2) [] 9999 .n (hf := Try.func75)) rfl rfl ?_
 refine kv g0 (asg) ?_
 refine wk_end ?_
 refine ac_next ?_
 by_cases c3 : t1 = true
 ·rw [if_pos c3] at H
  refine aw_ifT ?_ c3
  refine aw_grp1 ?_
  refine wk_start ?_
  refine kv g0 (mv) ?_
  refine kv g0 (add6) ?_
  refine kv g0 (faB 2 2) ?_
  refine kv g0 (ldB) ?_
  refine kv g0 (faB 3 3) ?_
  refine kv g0 (ldB) ?_
  refine kv g0 (max_) ?_
  refine kv g0 (add6) ?_
  refine kv g0 (asg) ?_
  refine wk_end ?_
  refine ac_next ?_
  refine aw_ret ?_
  refine ac_blkR ?_
  refine ac_thenR ?_
  obtain rfl := Option.some.inj H
  exact acr hE [.tmp 4] (.tmp .nil) (.one _) [] 9999
 rw [if_neg c3] at H
 refine aw_ifF ?_ (bF c3)
 refine aw_grp1 ?_
 refine wk_start ?_
 refine kv g0 (faB 0 0) ?_
 refine kv g0 (ldB) ?_
 refine kv g0 (eql) ?_
 refine kv g0 (asg) ?_
 refine wk_end ?_
 refine ac_next ?_
 by_cases c4 : a0_0 = 7
 ·rw [if_pos c4] at H
  refine aw_ifT ?_ (eT c4)
  refine aw_grp1 ?_
  refine wk_start ?_
  refine kv g0 (mv) ?_
  refine kv g0 (add6) ?_
  refine kv g0 (faB 1 1) ?_
  refine kv g0 (ldB) ?_
  refine kv g0 (add6) ?_
  refine kv g0 (asg) ?_
  refine wk_end ?_
  refine ac_next ?_
  refine aw_ret ?_
  refine ac_blkR ?_
  refine ac_thenR ?_
  obtain rfl := Option.some.inj H
  exact acr hE [.tmp 4] (.tmp .nil) (.one _) [] 9999
 rw [if_neg c4] at H
 refine aw_ifF ?_ (eF c4)
 refine aw_skip ?_
 refine ac_blkN ?_
 refine ac_next ?_
 refine aw_grp1 ?_
 refine wk_start ?_
 refine kv g0 (mv) ?_
 refine kv g0 (asg) ?_
 refine wk_end ?_
 refine ac_next ?_
 refine aw_ret ?_
 obtain rfl := Option.some.inj H
 exact acr hE [.tmp 4] (.tmp .nil) (.one _) [] 9999
/-! impl_CheckProgram -/
def impl_CheckProgram.l0 : Nat → (List S46) → Int → Option (Bool)
 | 0, _, _ => none
 | k16 + 1, l0, p15 => if p15 < (l0.length : Int) then if 0 ≤ p15 then (impl_InsOk.f ((rd_T46 l0 p15).f0) ((rd_T46 l0 p15).f1) ((rd_T46 l0 p15).f2) ((rd_T46 l0 p15).f3)).bind fun t19 => (if t19 = true then ((impl_farthest.f ((rd_T46 l0 p15).f0) ((rd_T46 l0 p15).f1) ((rd_T46 l0 p15).f2) ((rd_T46 l0 p15).f3) p15).bind fun t22 => if t22 ≥ (l0.length : Int) then some false else impl_CheckProgram.l0 k16 l0 (wrap64 (p15 + 1))) else some false) else none else some true
def impl_CheckProgram.f (k : Nat) (l0 : List S46) : Option (Bool) := (impl_within.f (l0.length : Int) 1 400).bind fun t1 => (if t1 = true then (if 0 ≤ (wrap64 ((l0.length : Int) - 1)) then (if (wrap64 ((l0.length : Int) - 1)) < (l0.length : Int) then if ((rd_T46 l0 (wrap64 ((l0.length : Int) - 1))).f0) = 8 then impl_CheckProgram.l0 k l0 0 else some false else none) else none) else some false)
theorem impl_CheckProgram.ok {k : Nat} {l0 : List S46} {r : Bool} (H : impl_CheckProgram.f k l0 = some r) : ACalls Try.prog 48 [] [.sl .o 4 (l0.map e46)] [] (.lit (.bool r)) := by
 refine acalls (fn := Try.f48) (nt := 38) Try.func48 rfl rfl (Nat.le_of_ble_eq_true rfl) fun E hE => ?_
 rw [impl_CheckProgram.f] at H
 refine aw_grp1 ?_
 refine wk_start ?_
 refine kv g0 (asg) ?_
 refine wk_end ?_
 refine ac_next ?_
 refine aw_grp1 ?_
 refine wk_start ?_
 refine kv g0 (mv) ?_
 refine kv g0 (lnS lenE) ?_
 refine kv g0 (asg) ?_
 refine wk_end ?_
 refine ac_next ?_
 refine aw_grp1 ?_
 refine aw_grp1 ?_
 refine wk_start ?_
 refine kv g0 (mv) ?_
 obtain ⟨t1, A2, H⟩ := of_bind H
 refine kcS0 9 (.lit (.bool t1)) [] g0 (cal (impl_within.ok A2) [] 9999 .n (hf := Try.func49)) rfl rfl ?_
 refine kv g0 (not_) ?_
 refine kv g0 (mv) ?_
 by_cases c3 : t1 = true
 ·rw [if_pos c3] at H
  refine kv (g1 (nF c3)) (mv) ?_
  refine kv (g1 (nF c3)) (mv) ?_
  refine kv (g1 (nF c3)) (sub6) ?_
  obtain ⟨c4, H⟩ := of_if H
  obtain ⟨c5, H⟩ := of_if H
  refine kv (g1 (nF c3)) (ixS 46 (e46 (rd_T46 l0 (wrap64 ((l0.length : Int) - 1)))) c4 (getE (z := z46) c4 c5)) ?_
  refine kv (g1 (nF c3)) (faR 0 0) ?_
  refine kv (g1 (nF c3)) (ldR (.lit (.int .i64 ((rd_T46 l0 (wrap64 ((l0.length : Int) - 1))).f0)))) ?_
  refine kv (g1 (nF c3)) (neq) ?_
  refine kv g0 (pkF (nF c3)) ?_
  refine wk_end ?_
  refine ac_next ?_
  by_cases c6 : ((rd_T46 l0 (wrap64 ((l0.length : Int) - 1))).f0) = 8
  ·rw [if_pos c6] at H
   refine aw_ifF ?_ (eM c6)
   refine aw_skip ?_
   refine ac_next ?_
   refine aw_grp1 ?_
   refine aw_grp1 ?_
   refine wk_start ?_
   refine kv g0 (mv) ?_
   refine kv g0 (lnS lenE) ?_
   refine kv g0 (mv) ?_
   refine wk_end ?_
   refine ac_next ?_
   refine aw_block ?_
   refine aw_loop1 (fun (k_ : Nat) (p15 : Int) => k_ ≤ k ∧ impl_CheckProgram.l0 k_ l0 p15 = some r) (fun (p15 : Int) => ⟨[(3, .lit (.int .i64 (l0.length : Int))), (20, .sl .o 4 (l0.map e46)), (21, .lit (.int .i64 (l0.length : Int))), (22, .lit (.int .i64 p15))], []⟩) k 0 ⟨Nat.le_refl _, H⟩ (fun K_ h_ => acw hE [] 9999 h_) (fun _ => by intro h_; have h_ := h_.2; rw [impl_CheckProgram.l0.eq_1] at h_; cases h_) ?_
   intro k16 p15 hq_ K25 hK26
   have hk16 := hq_.1
   have H := hq_.2
   clear hq_
   rw [impl_CheckProgram.l0.eq_2] at H
   refine aw_grp1 ?_
   refine wk_start ?_
   refine kv g0 (lss) ?_
   refine wk_end ?_
   refine ac_next ?_
   refine aw_grp1 ?_
   by_cases c17 : p15 < (l0.length : Int)
   ·rw [if_pos c17] at H
    refine aw_ifT ?_ (decide_eq_true c17)
    refine aw_skip ?_
    refine ac_next ?_
    refine aw_grp1 ?_
    refine aw_block ?_
    refine aw_grp1 ?_
    refine wk_start ?_
    refine kv g0 (mv) ?_
    obtain ⟨c18, H⟩ := of_if H
    refine kv g0 (ixS 46 (e46 (rd_T46 l0 p15)) c18 (getE (z := z46) c18 c17)) ?_
    refine kv g0 (ldRA 4 [.lit (.int .i64 ((rd_T46 l0 p15).f0)), .lit (.int .i64 ((rd_T46 l0 p15).f1)), .lit (.int .i64 ((rd_T46 l0 p15).f2)), .lit (.int .i64 ((rd_T46 l0 p15).f3))]) ?_
    refine kb g0 (alc 0 [.int .i64 0, .int .i64 0, .int .i64 0, .int .i64 0] [.lit (.int .i64 0), .lit (.int .i64 0), .lit (.int .i64 0), .lit (.int .i64 0)]) ?_
    refine kv g0 (asg) ?_
    refine ks g0 (stB 4 [.lit (.int .i64 ((rd_T46 l0 p15).f0)), .lit (.int .i64 ((rd_T46 l0 p15).f1)), .lit (.int .i64 ((rd_T46 l0 p15).f2)), .lit (.int .i64 ((rd_T46 l0 p15).f3))]) ?_
    refine wk_end ?_
    refine ac_next ?_
    refine aw_grp1 ?_
    refine wk_start ?_
    refine kv g0 (ldBA 4 [.lit (.int .i64 ((rd_T46 l0 p15).f0)), .lit (.int .i64 ((rd_T46 l0 p15).f1)), .lit (.int .i64 ((rd_T46 l0 p15).f2)), .lit (.int .i64 ((rd_T46 l0 p15).f3))]) ?_
    obtain ⟨t19, A20, H⟩ := of_bind H
    refine kcS0 28 (.lit (.bool t19)) [] g0 (cal (impl_InsOk.ok A20) [] 9999 .n (hf := Try.func73)) rfl rfl ?_
    refine kv g0 (not_) ?_
    refine kv g0 (mv) ?_
    by_cases c21 : t19 = true
    ·rw [if_pos c21] at H
     refine kv (g1 (nF c21)) (ldBA 4 [.lit (.int .i64 ((rd_T46 l0 p15).f0)), .lit (.int .i64 ((rd_T46 l0 p15).f1)), .lit (.int .i64 ((rd_T46 l0 p15).f2)), .lit (.int .i64 ((rd_T46 l0 p15).f3))]) ?_
     refine kv (g1 (nF c21)) (mv) ?_
     obtain ⟨t22, A23, H⟩ := of_bind H
     refine kcS0 33 (.lit (.int .i64 t22)) [] (g1 (nF c21)) (cal (impl_farthest.ok A23) [] 9999 .n (hf := Try.func74)) rfl rfl ?_
     refine kv (g1 (nF c21)) (mv) ?_
     refine kv (g1 (nF c21)) (geq) ?_
     refine kv g0 (pkF (nF c21)) ?_
     refine wk_end ?_
     refine ac_next ?_
     by_cases c24 : t22 ≥ (l0.length : Int)
     ·rw [if_pos c24] at H
      refine aw_ifT ?_ (decide_eq_true c24)
      refine aw_grp1 ?_
      refine wk_start ?_
      refine kv g0 (asg) ?_
      refine wk_end ?_
      refine ac_next ?_
      refine aw_ret ?_
      refine ac_blkR ?_
      refine ac_thenR ?_
      refine ac_thenR ?_
      refine ac_blkR ?_
      refine ac_thenR ?_
      obtain rfl := Option.some.inj H
      exact acr hE [.tmp 2] (.tmp .nil) (.one _) [] 9999
     rw [if_neg c24] at H
     refine aw_ifF ?_ (decide_eq_false c24)
     refine aw_skip ?_
     refine ac_blkN ?_
     refine ac_next ?_
     refine wk_start ?_
     refine kv g0 (add6) ?_
     refine kv g0 (mv) ?_
     refine wk_end ?_
     refine ac_k ?_
     exact acw hE [] 9999 (hK26 k16 (wrap64 (p15 + 1)) (Nat.le_refl _) ⟨by omega, H⟩)
    rw [if_neg c21] at H
    refine kx (hF (nT (bF c21))) ?_
    refine kx (hF (nT (bF c21))) ?_
    refine kx (hF (nT (bF c21))) ?_
    refine kx (hF (nT (bF c21))) ?_
    refine kx (hF (nT (bF c21))) ?_
    refine kv g0 (pkT (nT (bF c21))) ?_
    refine wk_end ?_
    refine ac_next ?_
    refine aw_ifT ?_ rfl
    refine aw_grp1 ?_
    refine wk_start ?_
    refine kv g0 (asg) ?_
    refine wk_end ?_
    refine ac_next ?_
    refine aw_ret ?_
    refine ac_blkR ?_
    refine ac_thenR ?_
    refine ac_thenR ?_
    refine ac_blkR ?_
    refine ac_thenR ?_
    obtain rfl := Option.some.inj H
    exact acr hE [.tmp 2] (.tmp .nil) (.one _) [] 9999
   rw [if_neg c17] at H
   refine aw_ifF ?_ (decide_eq_false c17)
   refine aw_exit ?_
   refine ac_then ?_
   refine ac_then ?_
   refine ac_hit rfl ?_
   refine ac_next ?_
   refine aw_grp1 ?_
   refine wk_start ?_
   refine kv g0 (asg) ?_
   refine wk_end ?_
   refine ac_next ?_
   refine aw_ret ?_
   obtain rfl := Option.some.inj H
   exact acr hE [.tmp 2] (.tmp .nil) (.one _) [] 9999
  rw [if_neg c6] at H
  refine aw_ifT ?_ (eN c6)
  refine aw_grp1 ?_
  refine wk_start ?_
  refine kv g0 (asg) ?_
  refine wk_end ?_
  refine ac_next ?_
  refine aw_ret ?_
  refine ac_thenR ?_
  obtain rfl := Option.some.inj H
  exact acr hE [.tmp 2] (.tmp .nil) (.one _) [] 9999
 rw [if_neg c3] at H
 refine kx (hF (nT (bF c3))) ?_
 refine kx (hF (nT (bF c3))) ?_
 refine kx (hF (nT (bF c3))) ?_
 refine kx (hF (nT (bF c3))) ?_
 refine kx (hF (nT (bF c3))) ?_
 refine kx (hF (nT (bF c3))) ?_
 refine kx (hF (nT (bF c3))) ?_
 refine kv g0 (pkT (nT (bF c3))) ?_
 refine wk_end ?_
 refine ac_next ?_
 refine aw_ifT ?_ rfl
 refine aw_grp1 ?_
 refine wk_start ?_
 refine kv g0 (asg) ?_
 refine wk_end ?_
 refine ac_next ?_
 refine aw_ret ?_
 refine ac_thenR ?_
 obtain rfl := Option.some.inj H
 exact acr hE [.tmp 2] (.tmp .nil) (.one _) [] 9999
/-! impl_ways -/
def impl_ways.j0 : Nat → Int → Int → Int → Int → Int → Bool → Option ((List Int))
 | 0, _, _, _, _, _, _ => none
 | k7 + 1, a0_0, a0_1, a0_2, a0_3, a1, p6 => if p6 = true then some ([wrap64 ((wrap64 (a1 + 1)) + (min a0_2 a0_3)), wrap64 ((wrap64 (a1 + 1)) + (max a0_2 a0_3))] : List Int) else ((impl_Ins_asks.f a0_0 a0_1 a0_2 a0_3).bind fun t9 => if t9 = true then some ([wrap64 ((wrap64 (a1 + 1)) + a0_2)] : List Int) else some ([wrap64 (a1 + 1)] : List Int))
def impl_ways.f (k : Nat) (a0_0 : Int) (a0_1 : Int) (a0_2 : Int) (a0_3 : Int) (a1 : Int) : Option ((List Int)) := if a0_0 = 8 then some ([] : List Int) else if a0_0 = 7 then some ([wrap64 ((wrap64 (a1 + 1)) + a0_1)] : List Int) else ((impl_Ins_asks.f a0_0 a0_1 a0_2 a0_3).bind fun t3 => (if t3 = true then impl_ways.j0 k a0_0 a0_1 a0_2 a0_3 a1 (a0_2 != a0_3) else impl_ways.j0 k a0_0 a0_1 a0_2 a0_3 a1 false))
theorem impl_ways.ok {k : Nat} {a0_0 : Int} {a0_1 : Int} {a0_2 : Int} {a0_3 : Int} {a1 : Int} {r : (List Int)} (H : impl_ways.f k a0_0 a0_1 a0_2 a0_3 a1 = some r) : ACalls Try.prog 50 [] [.agg [.lit (.int .i64 a0_0), .lit (.int .i64 a0_1), .lit (.int .i64 a0_2), .lit (.int .i64 a0_3)], .lit (.int .i64 a1)] [(0, .row 3 1 (r.map (eI .i64)))] (.row 0) := by
 refine acalls (fn := Try.f50) (nt := 59) Try.func50 rfl rfl (Nat.le_of_ble_eq_true rfl) fun E hE => ?_
 rw [impl_ways.f] at H
 refine aw_grp1 ?_
 refine wk_start ?_
 refine kb g0 (bxA 0) ?_
 refine kv g0 (asg) ?_
 refine wk_end ?_
 refine ac_next ?_
 refine aw_grp1 ?_
 refine aw_block ?_
 refine aw_grp1 ?_
 refine wk_start ?_
 refine kv g0 (faB 0 0) ?_
 refine kv g0 (ldB) ?_
 refine kv g0 (eql) ?_
 refine kv g0 (asg) ?_
 refine wk_end ?_
 refine ac_next ?_
 by_cases c1 : a0_0 = 8
 ·rw [if_pos c1] at H
  refine aw_ifT ?_ (eT c1)
  refine aw_grp1 ?_
  refine wk_start ?_
  refine kb g0 (bsl 1 3 1 [.int .i64 0] (([] : List Int).map (eI .i64))) ?_
  refine kv g0 (asg) ?_
  refine wk_end ?_
  refine ac_next ?_
  refine aw_ret ?_
  refine ac_blkR ?_
  refine ac_thenR ?_
  obtain rfl := Option.some.inj H
  exact acr hE [.tmp 4] (.tmp .nil) (.one _) [(0, 1)] 9999
 rw [if_neg c1] at H
 refine aw_ifF ?_ (eF c1)
 refine aw_grp1 ?_
 refine wk_start ?_
 refine kv g0 (faB 0 0) ?_
 refine kv g0 (ldB) ?_
 refine kv g0 (eql) ?_
 refine kv g0 (asg) ?_
 refine wk_end ?_
 refine ac_next ?_
 by_cases c2 : a0_0 = 7
 ·rw [if_pos c2] at H
  refine aw_ifT ?_ (eT c2)
  refine aw_grp1 ?_
  refine wk_start ?_
  refine kv g0 (mv) ?_
  refine kv g0 (add6) ?_
  refine kv g0 (faB 1 1) ?_
  refine kv g0 (ldB) ?_
  refine kv g0 (add6) ?_
  refine kb g0 (bsl 2 3 1 [.int .i64 0] (([wrap64 ((wrap64 (a1 + 1)) + a0_1)] : List Int).map (eI .i64))) ?_
  refine kv g0 (asg) ?_
  refine wk_end ?_
  refine ac_next ?_
  refine aw_ret ?_
  refine ac_blkR ?_
  refine ac_thenR ?_
  obtain rfl := Option.some.inj H
  exact acr hE [.tmp 4] (.tmp .nil) (.one _) [(0, 2)] 9999
 rw [if_neg c2] at H
 refine aw_ifF ?_ (eF c2)
 refine aw_cut1 (J := fun K_ => ∀ (k_ : Nat) (p6 : Bool), k_ ≤ k → impl_ways.j0 k_ a0_0 a0_1 a0_2 a0_3 a1 p6 = some r → ACont E 59 ⟨[(1, .lit (.int .i64 a1)), (2, .box 0 0), (20, .lit (.bool p6))], [(0, .box 46 [.lit (.int .i64 a0_0), .lit (.int .i64 a0_1), .lit (.int .i64 a0_2), .lit (.int .i64 a0_3)])]⟩ K_) ?_ ?_
 ·intro K_ hJ12
  refine wk_start ?_
  refine kv g0 (ldBA 4 [.lit (.int .i64 a0_0), .lit (.int .i64 a0_1), .lit (.int .i64 a0_2), .lit (.int .i64 a0_3)]) ?_
  obtain ⟨t3, A4, H⟩ := of_bind H
  refine kcS0 22 (.lit (.bool t3)) [] g0 (cal (impl_Ins_asks.ok A4) [] 9999 .n (hf := Try.func75)) rfl rfl ?_
  refine kv g0 (mv) ?_
  by_cases c5 : t3 = true
  ·rw [if_pos c5] at H
   refine kv (g1 c5) (faB 2 2) ?_
   refine kv (g1 c5) (ldB) ?_
   refine kv (g1 c5) (faB 3 3) ?_
   refine kv (g1 c5) (ldB) ?_
   refine kv (g1 c5) (neq) ?_
   refine kv g0 (pkT c5) ?_
   refine kv g0 (asg) ?_
   refine wk_end ?_
   refine ac_k ?_
   exact acw hE [(0, 0)] 9999 (hJ12 k (a0_2 != a0_3) (Nat.le_refl _) H)
  rw [if_neg c5] at H
  refine kx (hT (bF c5)) ?_
  refine kx (hT (bF c5)) ?_
  refine kx (hT (bF c5)) ?_
  refine kx (hT (bF c5)) ?_
  refine kx (hT (bF c5)) ?_
  refine kv g0 (pkF (bF c5)) ?_
  refine kv g0 (asg) ?_
  refine wk_end ?_
  refine ac_k ?_
  exact acw hE [(0, 0)] 9999 (hJ12 k false (Nat.le_refl _) H)
 intro k_ p6 hk_ H
 rcases k_ with _ | k7
 ·rw [impl_ways.j0.eq_1] at H; cases H
 have hk7 : k7 ≤ k := by omega
 clear hk_
 rw [impl_ways.j0.eq_2] at H
 by_cases c8 : p6 = true
 ·rw [if_pos c8] at H
  refine aw_ifT ?_ c8
  refine aw_grp1 ?_
  refine wk_start ?_
  refine kv g0 (mv) ?_
  refine kv g0 (add6) ?_
  refine kv g0 (faB 2 2) ?_
  refine kv g0 (ldB) ?_
  refine kv g0 (faB 3 3) ?_
  refine kv g0 (ldB) ?_
  refine kv g0 (min_) ?_
  refine kv g0 (add6) ?_
  refine kv g0 (mv) ?_
  refine kv g0 (add6) ?_
  refine kv g0 (faB 2 2) ?_
  refine kv g0 (ldB) ?_
  refine kv g0 (faB 3 3) ?_
  refine kv g0 (ldB) ?_
  refine kv g0 (max_) ?_
  refine kv g0 (add6) ?_
  refine kb g0 (bsl 3 3 1 [.int .i64 0] (([wrap64 ((wrap64 (a1 + 1)) + (min a0_2 a0_3)), wrap64 ((wrap64 (a1 + 1)) + (max a0_2 a0_3))] : List Int).map (eI .i64))) ?_
  refine kv g0 (asg) ?_
  refine wk_end ?_
  refine ac_next ?_
  refine aw_ret ?_
  refine ac_blkR ?_
  refine ac_thenR ?_
  obtain rfl := Option.some.inj H
  exact acr hE [.tmp 4] (.tmp .nil) (.one _) [(0, 3)] 9999
 rw [if_neg c8] at H
 refine aw_ifF ?_ (bF c8)
 refine aw_grp1 ?_
 refine wk_start ?_
 refine kv g0 (ldBA 4 [.lit (.int .i64 a0_0), .lit (.int .i64 a0_1), .lit (.int .i64 a0_2), .lit (.int .i64 a0_3)]) ?_
 obtain ⟨t9, A10, H⟩ := of_bind H
 refine kcS0 49 (.lit (.bool t9)) [] g0 (cal (impl_Ins_asks.ok A10) [] 9999 .n (hf := Try.func75)) rfl rfl ?_
 refine kv g0 (asg) ?_
 refine wk_end ?_
 refine ac_next ?_
 by_cases c11 : t9 = true
 ·rw [if_pos c11] at H
  refine aw_ifT ?_ c11
  refine aw_grp1 ?_
  refine wk_start ?_
  refine kv g0 (mv) ?_
  refine kv g0 (add6) ?_
  refine kv g0 (faB 2 2) ?_
  refine kv g0 (ldB) ?_
  refine kv g0 (add6) ?_
  refine kb g0 (bsl 4 3 1 [.int .i64 0] (([wrap64 ((wrap64 (a1 + 1)) + a0_2)] : List Int).map (eI .i64))) ?_
  refine kv g0 (asg) ?_
  refine wk_end ?_
  refine ac_next ?_
  refine aw_ret ?_
  refine ac_blkR ?_
  refine ac_thenR ?_
  obtain rfl := Option.some.inj H
  exact acr hE [.tmp 4] (.tmp .nil) (.one _) [(0, 4)] 9999
 rw [if_neg c11] at H
 refine aw_ifF ?_ (bF c11)
 refine aw_skip ?_
 refine ac_blkN ?_
 refine ac_next ?_
 refine aw_grp1 ?_
 refine wk_start ?_
 refine kv g0 (mv) ?_
 refine kv g0 (add6) ?_
 refine kb g0 (bsl 5 3 1 [.int .i64 0] (([wrap64 (a1 + 1)] : List Int).map (eI .i64))) ?_
 refine kv g0 (asg) ?_
 refine wk_end ?_
 refine ac_next ?_
 refine aw_ret ?_
 obtain rfl := Option.some.inj H
 exact acr hE [.tmp 4] (.tmp .nil) (.one _) [(0, 5)] 9999
/-! impl_LongestRun_1 -/
def impl_LongestRun_1.l0 : Nat → (List Int) → Int → Int → Option (Int)
 | 0, _, _, _ => none
 | k5 + 1, l0, p3, p4 => if p4 < (l0.length : Int) then if 0 ≤ p4 then impl_LongestRun_1.l0 k5 l0 (max p3 (rd l0 p4)) (wrap64 (p4 + 1)) else none else some (wrap64 (p3 + 1))
def impl_LongestRun_1.f (k : Nat) (l0 : List Int) : Option (Int) := impl_LongestRun_1.l0 k l0 0 0
theorem impl_LongestRun_1.ok {k : Nat} {l0 : List Int} {r : Int} (H : impl_LongestRun_1.f k l0 = some r) : ACalls Try.prog 44 [] [.sl .o 1 (l0.map (eI .i64))] [] (.lit (.int .i64 r)) := by
 refine acalls (fn := Try.f44) (nt := 18) Try.func44 rfl rfl (Nat.le_of_ble_eq_true rfl) fun E hE => ?_
 rw [impl_LongestRun_1.f] at H
 refine aw_grp1 ?_
 refine wk_start ?_
 refine kv g0 (asg) ?_
 refine wk_end ?_
 refine ac_next ?_
 refine aw_grp1 ?_
 refine wk_start ?_
 refine kv g0 (asg) ?_
 refine wk_end ?_
 refine ac_next ?_
 refine aw_grp1 ?_
 refine aw_grp1 ?_
 refine wk_start ?_
 refine kv g0 (mv) ?_
 refine kv g0 (lnS lenE) ?_
 refine kv g0 (mv) ?_
 refine wk_end ?_
 refine ac_next ?_
 refine aw_block ?_
 refine aw_loop2 (fun (k_ : Nat) (p3 : Int) (p4 : Int) => k_ ≤ k ∧ impl_LongestRun_1.l0 k_ l0 p3 p4 = some r) (fun (p3 : Int) (p4 : Int) => ⟨[(3, .lit (.int .i64 p3)), (6, .sl .o 1 (l0.map (eI .i64))), (7, .lit (.int .i64 (l0.length : Int))), (8, .lit (.int .i64 p4))], []⟩) k 0 0 ⟨Nat.le_refl _, H⟩ (fun K_ h_ => acw hE [] 9999 h_) (fun _ _ => by intro h_; have h_ := h_.2; rw [impl_LongestRun_1.l0.eq_1] at h_; cases h_) ?_
 intro k5 p3 p4 hq_ K8 hK9
 have hk5 := hq_.1
 have H := hq_.2
 clear hq_
 rw [impl_LongestRun_1.l0.eq_2] at H
 refine aw_grp1 ?_
 refine wk_start ?_
 refine kv g0 (lss) ?_
 refine wk_end ?_
 refine ac_next ?_
 refine aw_grp1 ?_
 by_cases c6 : p4 < (l0.length : Int)
 ·rw [if_pos c6] at H
  refine aw_ifT ?_ (decide_eq_true c6)
  refine aw_skip ?_
  refine ac_next ?_
  refine aw_grp1 ?_
  refine aw_block ?_
  refine aw_grp1 ?_
  refine wk_start ?_
  obtain ⟨c7, H⟩ := of_if H
  refine kv g0 (ixS 3 (eI .i64 (rd l0 p4)) c7 (getE (z := (0 : Int)) c7 c6)) ?_
  refine kv g0 (ldR (.lit (.int .i64 (rd l0 p4)))) ?_
  refine kv g0 (asg) ?_
  refine wk_end ?_
  refine ac_next ?_
  refine wk_start ?_
  refine kv g0 (mv) ?_
  refine kv g0 (mv) ?_
  refine kv g0 (max_) ?_
  refine kv g0 (asg) ?_
  refine wk_end ?_
  refine ac_blkN ?_
  refine ac_next ?_
  refine wk_start ?_
  refine kv g0 (add6) ?_
  refine kv g0 (mv) ?_
  refine wk_end ?_
  refine ac_k ?_
  exact acw hE [] 9999 (hK9 k5 (max p3 (rd l0 p4)) (wrap64 (p4 + 1)) (Nat.le_refl _) ⟨by omega, H⟩)
 rw [if_neg c6] at H
 refine aw_ifF ?_ (decide_eq_false c6)
 refine aw_exit ?_
 refine ac_then ?_
 refine ac_then ?_
 refine ac_hit rfl ?_
 refine ac_next ?_
 refine aw_grp1 ?_
 refine wk_start ?_
 refine kv g0 (mv) ?_
 refine kv g0 (add6) ?_
 refine kv g0 (asg) ?_
 refine wk_end ?_
 refine ac_next ?_
 refine aw_ret ?_
 obtain rfl := Option.some.inj H
 exact acr hE [.tmp 2] (.tmp .nil) (.one _) [] 9999
/-! impl_runs, handed impl_LongestRun_1 -/
mutual
def impl_runs_w44.l0 : Nat → (List S46) → (List Int) → Int → ((List Int)) → (List Int) → Int → Option (Int)
 | 0, _, _, _, _, _, _ => none
 | k45 + 1, l0, q30, p31, t36, q43, p44 => if p44 < (t36.length : Int) then if 0 ≤ p44 then if 0 ≤ (rd t36 p44) then (if (rd t36 p44) < (q30.length : Int) then (if q43.length + ([(rd q30 (rd t36 p44))] : List Int).length < 17592186044416 then impl_runs_w44.l0 k45 l0 q30 p31 t36 (q43 ++ ([(rd q30 (rd t36 p44))] : List Int)) (wrap64 (p44 + 1)) else none) else none) else none else none else (impl_LongestRun_1.f k45 q43).bind fun t53 => (if p31 < (q30.length : Int) then impl_runs_w44.l1 k45 l0 (q30.set p31.toNat t53) (wrap64 (p31 - 1)) else none)
def impl_runs_w44.l1 : Nat → (List S46) → (List Int) → Int → Option (Int)
 | 0, _, _, _ => none
 | k32 + 1, l0, q30, p31 => if p31 ≥ 0 then if 0 ≤ p31 then (if p31 < (l0.length : Int) then ((impl_ways.f k32 ((rd_T46 l0 p31).f0) ((rd_T46 l0 p31).f1) ((rd_T46 l0 p31).f2) ((rd_T46 l0 p31).f3) p31).bind fun t36 => impl_runs_w44.l0 k32 l0 q30 p31 t36 ([] : List Int) 0) else none) else none else if 0 < (q30.length : Int) then some (rd q30 0) else none
end
def impl_runs_w44.f (k : Nat) (l0 : List S46) : Option (Int) := (impl_CheckProgram.f k l0).bind fun t1 => if t1 = true then if 0 ≤ (l0.length : Int) then (if (l0.length : Int).toNat ≤ 35184372088832 then impl_runs_w44.l1 k l0 (List.replicate (l0.length : Int).toNat (0 : Int)) (wrap64 ((l0.length : Int) - 1)) else none) else none else some 0
theorem impl_runs_w44.ok {k : Nat} {l0 : List S46} {r : Int} (H : impl_runs_w44.f k l0 = some r) : ACalls Try.prog 43 [] [.sl .o 4 (l0.map e46), .fn 44 []] [] (.lit (.int .i64 r)) := by
 refine acalls (fn := Try.f43) (nt := 52) Try.func43 rfl rfl (Nat.le_of_ble_eq_true rfl) fun E hE => ?_
 rw [impl_runs_w44.f] at H
 refine aw_grp1 ?_
 refine wk_start ?_
 refine kv g0 (asg) ?_
 refine wk_end ?_
 refine ac_next ?_
 refine aw_grp1 ?_
 refine aw_grp1 ?_
 refine wk_start ?_
 refine kv g0 (mv) ?_
 obtain ⟨t1, A2, H⟩ := of_bind H
 refine kcS0 11 (.lit (.bool t1)) [] g0 (cal (impl_CheckProgram.ok A2) [] 9999 .n (hf := Try.func48)) rfl rfl ?_
 refine kv g0 (not_) ?_
 refine wk_end ?_
 refine ac_next ?_
 by_cases c3 : t1 = true
 ·rw [if_pos c3] at H
  refine aw_ifF ?_ (nF c3)
  refine aw_skip ?_
  refine ac_next ?_
  refine aw_grp1 ?_
  refine wk_start ?_
  refine kv g0 (mv) ?_
  refine kv g0 (lnS lenE) ?_
  obtain ⟨c4, H⟩ := of_if H
  obtain ⟨c5, H⟩ := of_if H
  refine kb g0 (mks 0 3 1 8 [.int .i64 0] (eI .i64 (0 : Int)) ((List.replicate (l0.length : Int).toNat (0 : Int)).map (eI .i64)) c4 (mkb c5 rfl) repE) ?_
  refine kv g0 (asg) ?_
  refine wk_end ?_
  refine ac_next ?_
  refine aw_grp1 ?_
  refine aw_grp1 ?_
  refine wk_start ?_
  refine kv g0 (mv) ?_
  refine kv g0 (lnS lenE) ?_
  refine kv g0 (sub6) ?_
  refine kv g0 (asg) ?_
  refine wk_end ?_
  refine ac_next ?_
  refine aw_block ?_
  refine aw_loop2 (fun (k_ : Nat) (q30 : List Int) (p31 : Int) => k_ ≤ k ∧ impl_runs_w44.l1 k_ l0 q30 p31 = some r) (fun (q30 : List Int) (p31 : Int) => ⟨[(0, .sl .o 4 (l0.map e46)), (1, .fn 44 []), (5, .row 0), (6, .lit (.int .i64 p31))], [(0, .row 3 1 (q30.map (eI .i64)))]⟩) k (List.replicate (l0.length : Int).toNat (0 : Int)) (wrap64 ((l0.length : Int) - 1)) ⟨Nat.le_refl _, H⟩ (fun K_ h_ => acw hE [(0, 0)] 9999 h_) (fun _ _ => by intro h_; have h_ := h_.2; rw [impl_runs_w44.l1.eq_1] at h_; cases h_) ?_
  intro k32 q30 p31 hq_ K56 hK57
  have hk32 := hq_.1
  have H := hq_.2
  clear hq_
  rw [impl_runs_w44.l1.eq_2] at H
  refine aw_grp1 ?_
  refine aw_grp1 ?_
  refine wk_start ?_
  refine kv g0 (mv) ?_
  refine kv g0 (geq) ?_
  refine wk_end ?_
  refine ac_next ?_
  by_cases c33 : p31 ≥ 0
  ·rw [if_pos c33] at H
   refine aw_ifT ?_ (decide_eq_true c33)
   refine aw_skip ?_
   refine ac_next ?_
   refine aw_grp1 ?_
   refine aw_block ?_
   refine aw_grp1 ?_
   refine wk_start ?_
   refine kb g0 (bsl 1 3 1 [.int .i64 0] (([] : List Int).map (eI .i64))) ?_
   refine kv g0 (asg) ?_
   refine wk_end ?_
   refine ac_next ?_
   refine aw_grp1 ?_
   refine aw_grp1 ?_
   refine wk_start ?_
   refine kv g0 (mv) ?_
   refine kv g0 (mv) ?_
   obtain ⟨c34, H⟩ := of_if H
   obtain ⟨c35, H⟩ := of_if H
   refine kv g0 (ixS 46 (e46 (rd_T46 l0 p31)) c34 (getE (z := z46) c34 c35)) ?_
   refine kv g0 (ldRA 4 [.lit (.int .i64 ((rd_T46 l0 p31).f0)), .lit (.int .i64 ((rd_T46 l0 p31).f1)), .lit (.int .i64 ((rd_T46 l0 p31).f2)), .lit (.int .i64 ((rd_T46 l0 p31).f3))]) ?_
   refine kv g0 (mv) ?_
   obtain ⟨t36, A37, H⟩ := of_bind H
   refine kcS1 29 (.row 2) [(2, .row 3 1 (t36.map (eI .i64)))] g0 (cal (impl_ways.ok A37) [2] 9999 .n (hf := Try.func50)) rfl rfl ?_
   refine kv g0 (lnR lenE) ?_
   refine kv g0 (mv) ?_
   refine wk_end ?_
   refine ac_next ?_
   refine aw_block ?_
   refine aw_loop2 (fun (k_ : Nat) (q43 : List Int) (p44 : Int) => k_ ≤ k32 ∧ impl_runs_w44.l0 k_ l0 q30 p31 t36 q43 p44 = some r) (fun (q43 : List Int) (p44 : Int) => ⟨[(0, .sl .o 4 (l0.map e46)), (1, .fn 44 []), (5, .row 0), (6, .lit (.int .i64 p31)), (7, .row 1), (29, .row 2), (30, .lit (.int .i64 (t36.length : Int))), (31, .lit (.int .i64 p44))], [(0, .row 3 1 (q30.map (eI .i64))), (1, .row 3 1 (q43.map (eI .i64))), (2, .row 3 1 (t36.map (eI .i64)))]⟩) k32 ([] : List Int) 0 ⟨Nat.le_refl _, H⟩ (fun K_ h_ => acw hE [(0, 0), (1, 1), (2, 2)] 9999 h_) (fun _ _ => by intro h_; have h_ := h_.2; rw [impl_runs_w44.l0.eq_1] at h_; cases h_) ?_
   intro k45 q43 p44 hq_ K51 hK52
   have hk45 := hq_.1
   have H := hq_.2
   clear hq_
   rw [impl_runs_w44.l0.eq_2] at H
   refine aw_grp1 ?_
   refine wk_start ?_
   refine kv g0 (lss) ?_
   refine wk_end ?_
   refine ac_next ?_
   refine aw_grp1 ?_
   by_cases c46 : p44 < (t36.length : Int)
   ·rw [if_pos c46] at H
    refine aw_ifT ?_ (decide_eq_true c46)
    refine aw_skip ?_
    refine ac_next ?_
    refine aw_grp1 ?_
    refine aw_block ?_
    refine aw_grp1 ?_
    refine wk_start ?_
    obtain ⟨c47, H⟩ := of_if H
    refine kv g0 (ixR 3 c47 (ltE c46)) ?_
    refine kv g0 (ldE (eI .i64 (rd t36 p44)) (.lit (.int .i64 (rd t36 p44))) (getE (z := (0 : Int)) c47 c46)) ?_
    refine kv g0 (asg) ?_
    refine wk_end ?_
    refine ac_next ?_
    refine wk_start ?_
    refine kv g0 (mv) ?_
    refine kv g0 (mv) ?_
    refine kv g0 (mv) ?_
    obtain ⟨c48, H⟩ := of_if H
    obtain ⟨c49, H⟩ := of_if H
    refine kv g0 (ixR 3 c48 (ltE c49)) ?_
    refine kv g0 (ldE (eI .i64 (rd q30 (rd t36 p44))) (.lit (.int .i64 (rd q30 (rd t36 p44)))) (getE (z := (0 : Int)) c48 c49)) ?_
    refine kb g0 (bsl 3 3 1 [.int .i64 0] (([(rd q30 (rd t36 p44))] : List Int).map (eI .i64))) ?_
    obtain ⟨c50, H⟩ := of_if H
    refine kc g0 (apR 4 3 1 8 [.int .i64 0] ((q43 ++ ([(rd q30 (rd t36 p44))] : List Int)).map (eI .i64)) (.row rfl) (apb c50 rfl) appE) ?_
    refine kv g0 (asg) ?_
    refine wk_end ?_
    refine ac_blkN ?_
    refine ac_next ?_
    refine wk_start ?_
    refine kv g0 (add6) ?_
    refine kv g0 (mv) ?_
    refine wk_end ?_
    refine ac_k ?_
    exact acw hE [(0, 0), (1, 4), (2, 2)] 9999 (hK52 k45 (q43 ++ ([(rd q30 (rd t36 p44))] : List Int)) (wrap64 (p44 + 1)) (Nat.le_refl _) ⟨by omega, H⟩)
   rw [if_neg c46] at H
   refine aw_ifF ?_ (decide_eq_false c46)
   refine aw_exit ?_
   refine ac_then ?_
   refine ac_then ?_
   refine ac_hit rfl ?_
   refine ac_next ?_
   refine wk_start ?_
   refine kv g0 (mv) ?_
   refine kv g0 (mv) ?_
   refine kv g0 (mv) ?_
   refine kv g0 (mv) ?_
   obtain ⟨t53, A54, H⟩ := of_bind H
   refine kcS0 47 (.lit (.int .i64 t53)) [] g0 (cal (impl_LongestRun_1.ok A54) [] 9999 .n (hf := Try.func44)) rfl rfl ?_
   obtain ⟨c55, H⟩ := of_if H
   refine kv g0 (ixR 3 c34 (ltE c55)) ?_
   refine ks g0 (stE 1 (eI .i64 t53) ((q30.set p31.toNat t53).map (eI .i64)) (getE (z := (0 : Int)) c34 c55) setE) ?_
   refine wk_end ?_
   refine ac_blkN ?_
   refine ac_next ?_
   refine wk_start ?_
   refine kv g0 (mv) ?_
   refine kv g0 (sub6) ?_
   refine kv g0 (asg) ?_
   refine wk_end ?_
   refine ac_k ?_
   exact acw hE [(0, 0)] 9999 (hK57 k45 (q30.set p31.toNat t53) (wrap64 (p31 - 1)) (by omega) ⟨by omega, H⟩)
  rw [if_neg c33] at H
  refine aw_ifF ?_ (decide_eq_false c33)
  refine aw_exit ?_
  refine ac_then ?_
  refine ac_then ?_
  refine ac_hit rfl ?_
  refine ac_next ?_
  refine aw_grp1 ?_
  refine wk_start ?_
  refine kv g0 (mv) ?_
  obtain ⟨c58, H⟩ := of_if H
  refine kv g0 (ixR 3 (by decide : (0 : Int) ≤ 0) (ltE c58)) ?_
  refine kv g0 (ldE (eI .i64 (rd q30 0)) (.lit (.int .i64 (rd q30 0))) (getE (z := (0 : Int)) (by decide : (0 : Int) ≤ 0) c58)) ?_
  refine kv g0 (asg) ?_
  refine wk_end ?_
  refine ac_next ?_
  refine aw_ret ?_
  obtain rfl := Option.some.inj H
  exact acr hE [.tmp 4] (.tmp .nil) (.one _) [] 9999
 rw [if_neg c3] at H
 refine aw_ifT ?_ (nT (bF c3))
 refine aw_grp1 ?_
 refine wk_start ?_
 refine kv g0 (asg) ?_
 refine wk_end ?_
 refine ac_next ?_
 refine aw_ret ?_
 refine ac_thenR ?_
 obtain rfl := Option.some.inj H
 exact acr hE [.tmp 4] (.tmp .nil) (.one _) [] 9999
/-! impl_LongestRun -/
def impl_LongestRun.f (k : Nat) (l0 : List S46) : Option (Int) := (impl_runs_w44.f k l0).bind fun t1 => some t1
theorem impl_LongestRun.ok {k : Nat} {l0 : List S46} {r : Int} (H : impl_LongestRun.f k l0 = some r) : ACalls Try.prog 22 [] [.sl .o 4 (l0.map e46)] [] (.lit (.int .i64 r)) := by
 refine acalls (fn := Try.f22) (nt := 5) Try.func22 rfl rfl (Nat.le_of_ble_eq_true rfl) fun E hE => ?_
 rw [impl_LongestRun.f] at H
 refine aw_grp1 ?_
 refine wk_start ?_
 refine kv g0 (asg) ?_
 refine wk_end ?_
 refine ac_next ?_
 refine aw_grp1 ?_
 refine wk_start ?_
 refine kv g0 (mv) ?_
 obtain ⟨t1, A2, H⟩ := of_bind H
 refine kcS0 4 (.lit (.int .i64 t1)) [] g0 (cal (impl_runs_w44.ok A2) [] 9999 .n (hf := Try.func43)) rfl rfl ?_
 refine kv g0 (asg) ?_
 refine wk_end ?_
 refine ac_next ?_
 refine aw_ret ?_
 obtain rfl := Option.some.inj H
 exact acr hE [.tmp 2] (.tmp .nil) (.one _) [] 9999
/-! impl_WaysIn_1 -/
def impl_WaysIn_1.l0 : Nat → (List Int) → Int → Int → Option (Int)
 | 0, _, _, _ => none
 | k6 + 1, l0, p4, p5 => if p5 < (l0.length : Int) then if 0 ≤ p5 then impl_WaysIn_1.l0 k6 l0 (wrap64 (p4 + (rd l0 p5))) (wrap64 (p5 + 1)) else none else some (min p4 1000000)
def impl_WaysIn_1.f (k : Nat) (l0 : List Int) : Option (Int) := if (l0.length : Int) = 0 then some 1 else impl_WaysIn_1.l0 k l0 0 0
theorem impl_WaysIn_1.ok {k : Nat} {l0 : List Int} {r : Int} (H : impl_WaysIn_1.f k l0 = some r) : ACalls Try.prog 45 [] [.sl .o 1 (l0.map (eI .i64))] [] (.lit (.int .i64 r)) := by
 refine acalls (fn := Try.f45) (nt := 21) Try.func45 rfl rfl (Nat.le_of_ble_eq_true rfl) fun E hE => ?_
 rw [impl_WaysIn_1.f] at H
 refine aw_grp1 ?_
 refine wk_start ?_
 refine kv g0 (asg) ?_
 refine wk_end ?_
 refine ac_next ?_
 refine aw_grp1 ?_
 refine aw_grp1 ?_
 refine wk_start ?_
 refine kv g0 (mv) ?_
 refine kv g0 (lnS lenE) ?_
 refine kv g0 (eql) ?_
 refine wk_end ?_
 refine ac_next ?_
 by_cases c1 : (l0.length : Int) = 0
 ·rw [if_pos c1] at H
  refine aw_ifT ?_ (eT c1)
  refine aw_grp1 ?_
  refine wk_start ?_
  refine kv g0 (asg) ?_
  refine wk_end ?_
  refine ac_next ?_
  refine aw_ret ?_
  refine ac_thenR ?_
  obtain rfl := Option.some.inj H
  exact acr hE [.tmp 2] (.tmp .nil) (.one _) [] 9999
 rw [if_neg c1] at H
 refine aw_ifF ?_ (eF c1)
 refine aw_skip ?_
 refine ac_next ?_
 refine aw_grp1 ?_
 refine wk_start ?_
 refine kv g0 (asg) ?_
 refine wk_end ?_
 refine ac_next ?_
 refine aw_grp1 ?_
 refine aw_grp1 ?_
 refine wk_start ?_
 refine kv g0 (mv) ?_
 refine kv g0 (lnS lenE) ?_
 refine kv g0 (mv) ?_
 refine wk_end ?_
 refine ac_next ?_
 refine aw_block ?_
 refine aw_loop2 (fun (k_ : Nat) (p4 : Int) (p5 : Int) => k_ ≤ k ∧ impl_WaysIn_1.l0 k_ l0 p4 p5 = some r) (fun (p4 : Int) (p5 : Int) => ⟨[(3, .lit (.int .i64 p4)), (9, .sl .o 1 (l0.map (eI .i64))), (10, .lit (.int .i64 (l0.length : Int))), (11, .lit (.int .i64 p5))], []⟩) k 0 0 ⟨Nat.le_refl _, H⟩ (fun K_ h_ => acw hE [] 9999 h_) (fun _ _ => by intro h_; have h_ := h_.2; rw [impl_WaysIn_1.l0.eq_1] at h_; cases h_) ?_
 intro k6 p4 p5 hq_ K9 hK10
 have hk6 := hq_.1
 have H := hq_.2
 clear hq_
 rw [impl_WaysIn_1.l0.eq_2] at H
 refine aw_grp1 ?_
 refine wk_start ?_
 refine kv g0 (lss) ?_
 refine wk_end ?_
 refine ac_next ?_
 refine aw_grp1 ?_
 by_cases c7 : p5 < (l0.length : Int)
 ·rw [if_pos c7] at H
  refine aw_ifT ?_ (decide_eq_true c7)
  refine aw_skip ?_
  refine ac_next ?_
  refine aw_grp1 ?_
  refine aw_block ?_
  refine aw_grp1 ?_
  refine wk_start ?_
  obtain ⟨c8, H⟩ := of_if H
  refine kv g0 (ixS 3 (eI .i64 (rd l0 p5)) c8 (getE (z := (0 : Int)) c8 c7)) ?_
  refine kv g0 (ldR (.lit (.int .i64 (rd l0 p5)))) ?_
  refine kv g0 (asg) ?_
  refine wk_end ?_
  refine ac_next ?_
  refine wk_start ?_
  refine kv g0 (mv) ?_
  refine kv g0 (mv) ?_
  refine kv g0 (add6) ?_
  refine kv g0 (asg) ?_
  refine wk_end ?_
  refine ac_blkN ?_
  refine ac_next ?_
  refine wk_start ?_
  refine kv g0 (add6) ?_
  refine kv g0 (mv) ?_
  refine wk_end ?_
  refine ac_k ?_
  exact acw hE [] 9999 (hK10 k6 (wrap64 (p4 + (rd l0 p5))) (wrap64 (p5 + 1)) (Nat.le_refl _) ⟨by omega, H⟩)
 rw [if_neg c7] at H
 refine aw_ifF ?_ (decide_eq_false c7)
 refine aw_exit ?_
 refine ac_then ?_
 refine ac_then ?_
 refine ac_hit rfl ?_
 refine ac_next ?_
 refine aw_grp1 ?_
 refine wk_start ?_
 refine kv g0 (mv) ?_
 refine kv g0 (min_) ?_
 refine kv g0 (asg) ?_
 refine wk_end ?_
 refine ac_next ?_
 refine aw_ret ?_
 obtain rfl := Option.some.inj H
 exact acr hE [.tmp 2] (.tmp .nil) (.one _) [] 9999
end Go.Proofs.Ythfflkfpmebbbaa.PFnWays
