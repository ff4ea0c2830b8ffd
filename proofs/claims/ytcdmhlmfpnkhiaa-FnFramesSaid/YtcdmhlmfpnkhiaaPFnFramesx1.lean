import Derived.Test.YtcdmhlmfpnkhiaaPFnFramesx0
set_option linter.unusedVariables false
set_option linter.unusedSimpArgs false
set_option maxRecDepth 100000
namespace Go.Proofs.Ytcdmhlmfpnkhiaa.PFnFrames
open Go Go.RowKit Go.Proofs.YtcdmhlmfpnkhiaaA
/-! laws_big -/
def laws_big.f (l0 : List Int) : Option (Bool) := some (decide ((l0.length : Int) > 1048576))
theorem laws_big.ok {l0 : List Int} {r : Bool} (H : laws_big.f l0 = some r) : ACalls Try.prog 4 [] [.sl .o 1 (l0.map (eI .u8))] [] (.lit (.bool r)) := by
 refine acalls (fn := Try.f4) (nt := 6) Try.func4 rfl rfl (Nat.le_of_ble_eq_true rfl) fun E hE => ?_
 rw [laws_big.f] at H
 refine aw_grp1 ?_
 refine wk_start ?_
 refine kv g0 (asg) ?_
 refine wk_end ?_
 refine ac_next ?_
 refine aw_grp1 ?_
 refine wk_start ?_
 refine kv g0 (mv) ?_
 refine kv g0 (lnS lenE) ?_
 refine kv g0 (gtr) ?_
 refine kv g0 (asg) ?_
 refine wk_end ?_
 refine ac_next ?_
 refine aw_ret ?_
 obtain rfl := Option.some.inj H
 exact acr hE [.tmp 2] (.tmp .nil) (.one _) [] 9999
/-! spec_l01New -/
def spec_l01New.l0 : Nat → (List Int) → Int → Int → Option ((List Int) × Int × Int)
 | 0, _, _, _ => none
 | k5 + 1, l0, p3, p4 => if p4 < (l0.length : Int) then if p4 < 4000 then if 0 ≤ p4 then spec_l01New.l0 k5 l0 (bits .and .i64 (wrap64 ((wrap64 ((wrap64 (p3 * 131)) + (wrap64 (rd l0 p4)))) + 7)) 1073741823) (wrap64 (p4 + 1)) else none else some (l0, 0, p3) else some (l0, 0, p3)
def spec_l01New.f (k : Nat) (l0 : List Int) : Option ((List Int) × Int × Int) := spec_l01New.l0 k l0 (wrap64 (78801 + (l0.length : Int))) 0
theorem spec_l01New.ok {k : Nat} {l0 : List Int} {r : (List Int) × Int × Int} (H : spec_l01New.f k l0 = some r) : ACalls Try.prog 16 [] [.sl .u 1 (l0.map (eI .u8))] [(0, .box 56 [.sl .u 1 (r.1.map (eI .u8)), .lit (.int .i64 r.2.1), .lit (.int .i64 r.2.2)])] (.box 0 0) := by
 refine acalls (fn := Try.f16) (nt := 32) Try.func16 rfl rfl (Nat.le_of_ble_eq_true rfl) fun E hE => ?_
 rw [spec_l01New.f] at H
 refine aw_grp1 ?_
 refine wk_start ?_
 refine kv g0 (asg) ?_
 refine wk_end ?_
 refine ac_next ?_
 refine aw_grp1 ?_
 refine wk_start ?_
 refine kv g0 (mv) ?_
 refine kv g0 (lnS lenE) ?_
 refine kv g0 (add6) ?_
 refine kv g0 (asg) ?_
 refine wk_end ?_
 refine ac_next ?_
 refine aw_grp1 ?_
 refine aw_grp1 ?_
 refine wk_start ?_
 refine kv g0 (asg) ?_
 refine wk_end ?_
 refine ac_next ?_
 refine aw_block ?_
 refine aw_loop2 (fun (k_ : Nat) (p3 : Int) (p4 : Int) => k_ ≤ k ∧ spec_l01New.l0 k_ l0 p3 p4 = some r) (fun (p3 : Int) (p4 : Int) => ⟨[(0, .sl .u 1 (l0.map (eI .u8))), (3, .lit (.int .i64 p3)), (4, .lit (.int .i64 p4))], []⟩) k (wrap64 (78801 + (l0.length : Int))) 0 ⟨Nat.le_refl _, H⟩ (fun K_ h_ => acw hE [] 9999 h_) (fun _ _ => by intro h_; have h_ := h_.2; rw [spec_l01New.l0.eq_1] at h_; cases h_) ?_
 intro k5 p3 p4 hq_ K9 hK10
 have hk5 := hq_.1
 have H := hq_.2
 clear hq_
 rw [spec_l01New.l0.eq_2] at H
 refine aw_grp1 ?_
 refine aw_grp1 ?_
 refine wk_start ?_
 refine kv g0 (mv) ?_
 refine kv g0 (mv) ?_
 refine kv g0 (lnS lenE) ?_
 refine kv g0 (lss) ?_
 refine kv g0 (mv) ?_
 by_cases c6 : p4 < (l0.length : Int)
 ·rw [if_pos c6] at H
  refine kv (g1 (decide_eq_true c6)) (mv) ?_
  refine kv (g1 (decide_eq_true c6)) (lss) ?_
  refine kv g0 (pkT (decide_eq_true c6)) ?_
  refine wk_end ?_
  refine ac_next ?_
  by_cases c7 : p4 < 4000
  ·rw [if_pos c7] at H
   refine aw_ifT ?_ (decide_eq_true c7)
   refine aw_skip ?_
   refine ac_next ?_
   refine aw_grp1 ?_
   refine aw_block ?_
   refine wk_start ?_
   refine kv g0 (mv) ?_
   refine kv g0 (mul6) ?_
   refine kv g0 (mv) ?_
   refine kv g0 (mv) ?_
   obtain ⟨c8, H⟩ := of_if H
   refine kv g0 (ixS 5 (eI .u8 (rd l0 p4)) c8 (getE (z := (0 : Int)) c8 c6)) ?_
   refine kv g0 (ldR (.lit (.int .u8 (rd l0 p4)))) ?_
   refine kv g0 (cnv6) ?_
   refine kv g0 (add6) ?_
   refine kv g0 (add6) ?_
   refine kv g0 (band) ?_
   refine kv g0 (asg) ?_
   refine wk_end ?_
   refine ac_blkN ?_
   refine ac_next ?_
   refine wk_start ?_
   refine kv g0 (mv) ?_
   refine kv g0 (add6) ?_
   refine kv g0 (asg) ?_
   refine wk_end ?_
   refine ac_k ?_
   exact acw hE [] 9999 (hK10 k5 (bits .and .i64 (wrap64 ((wrap64 ((wrap64 (p3 * 131)) + (wrap64 (rd l0 p4)))) + 7)) 1073741823) (wrap64 (p4 + 1)) (Nat.le_refl _) ⟨by omega, H⟩)
  rw [if_neg c7] at H
  refine aw_ifF ?_ (decide_eq_false c7)
  refine aw_exit ?_
  refine ac_then ?_
  refine ac_then ?_
  refine ac_hit rfl ?_
  refine ac_next ?_
  refine aw_grp1 ?_
  refine wk_start ?_
  refine kv g0 (mv) ?_
  refine kv g0 (mv) ?_
  refine kv g0 (bld [(0, 1), (1, 1), (2, 1)] [.slice none 0 0, .int .i64 0, .int .i64 0] [.sl .u 1 (l0.map (eI .u8)), .lit (.int .i64 0), .lit (.int .i64 p3)]) ?_
  refine kb g0 (bxA 0) ?_
  refine kv g0 (asg) ?_
  refine wk_end ?_
  refine ac_next ?_
  refine aw_ret ?_
  obtain rfl := Option.some.inj H
  exact acr hE [.tmp 2] (.tmp .nil) (.one _) [(0, 0)] 9999
 rw [if_neg c6] at H
 refine kx (hT (decide_eq_false c6)) ?_
 refine kx (hT (decide_eq_false c6)) ?_
 refine kv g0 (pkF (decide_eq_false c6)) ?_
 refine wk_end ?_
 refine ac_next ?_
 refine aw_ifF ?_ rfl
 refine aw_exit ?_
 refine ac_then ?_
 refine ac_then ?_
 refine ac_hit rfl ?_
 refine ac_next ?_
 refine aw_grp1 ?_
 refine wk_start ?_
 refine kv g0 (mv) ?_
 refine kv g0 (mv) ?_
 refine kv g0 (bld [(0, 1), (1, 1), (2, 1)] [.slice none 0 0, .int .i64 0, .int .i64 0] [.sl .u 1 (l0.map (eI .u8)), .lit (.int .i64 0), .lit (.int .i64 p3)]) ?_
 refine kb g0 (bxA 1) ?_
 refine kv g0 (asg) ?_
 refine wk_end ?_
 refine ac_next ?_
 refine aw_ret ?_
 obtain rfl := Option.some.inj H
 exact acr hE [.tmp 2] (.tmp .nil) (.one _) [(0, 1)] 9999
/-! spec_l01Byte -/
def spec_l01Byte.f (l0_0 : List Int) (a0_1 : Int) (a0_2 : Int) : Option (Int × (List Int) × Int × Int) := if a0_1 < (l0_0.length : Int) then (if 0 ≤ a0_1 then some (bits .and .i64 (wrap64 ((bits .and .i64 (bits .xor .i64 ((wrap64 ((wrap64 (a0_2 * 6364136223846793005)) + 1442695040888963407)).fdiv (2 ^ 33)) ((wrap64 ((wrap64 (a0_2 * 6364136223846793005)) + 1442695040888963407)).fdiv (2 ^ 45))) 255) + (wrap64 (rd l0_0 a0_1)))) 255, l0_0, wrap64 (a0_1 + 1), wrap64 ((wrap64 (a0_2 * 6364136223846793005)) + 1442695040888963407)) else none) else some (bits .and .i64 (bits .xor .i64 ((wrap64 ((wrap64 (a0_2 * 6364136223846793005)) + 1442695040888963407)).fdiv (2 ^ 33)) ((wrap64 ((wrap64 (a0_2 * 6364136223846793005)) + 1442695040888963407)).fdiv (2 ^ 45))) 255, l0_0, a0_1, wrap64 ((wrap64 (a0_2 * 6364136223846793005)) + 1442695040888963407))
theorem spec_l01Byte.ok {l0_0 : List Int} {a0_1 : Int} {a0_2 : Int} {r : Int × (List Int) × Int × Int} (H : spec_l01Byte.f l0_0 a0_1 a0_2 = some r) : ACalls Try.prog 23 [(0, .box 56 [.sl .u 1 (l0_0.map (eI .u8)), .lit (.int .i64 a0_1), .lit (.int .i64 a0_2)])] [.box 0 0] [(0, .box 56 [.sl .u 1 (r.2.1.map (eI .u8)), .lit (.int .i64 r.2.2.1), .lit (.int .i64 r.2.2.2)])] (.lit (.int .i64 r.1)) := by
 refine acalls (fn := Try.f23) (nt := 58) Try.func23 rfl rfl (Nat.le_of_ble_eq_true rfl) fun E hE => ?_
 rw [spec_l01Byte.f] at H
 refine aw_grp1 ?_
 refine wk_start ?_
 refine kv g0 (asg) ?_
 refine wk_end ?_
 refine ac_next ?_
 refine aw_grp1 ?_
 refine wk_start ?_
 refine kv g0 (mv) ?_
 refine kv g0 (mv) ?_
 refine kv g0 (nilB) ?_
 refine kv g0 (faB 2 2) ?_
 refine kv g0 (ldB) ?_
 refine kv g0 (mul6) ?_
 refine kv g0 (add6) ?_
 refine kv g0 (nilB) ?_
 refine kv g0 (faB 2 2) ?_
 refine ks g0 (stB 1 [.sl .u 1 (l0_0.map (eI .u8)), .lit (.int .i64 a0_1), .lit (.int .i64 (wrap64 ((wrap64 (a0_2 * 6364136223846793005)) + 1442695040888963407)))]) ?_
 refine wk_end ?_
 refine ac_next ?_
 refine aw_grp1 ?_
 refine wk_start ?_
 refine kv g0 (mv) ?_
 refine kv g0 (nilB) ?_
 refine kv g0 (faB 2 2) ?_
 refine kv g0 (ldB) ?_
 refine kv g0 (shr (by decide : (0 : Int) ≤ 33)) ?_
 refine kv g0 (mv) ?_
 refine kv g0 (nilB) ?_
 refine kv g0 (faB 2 2) ?_
 refine kv g0 (ldB) ?_
 refine kv g0 (shr (by decide : (0 : Int) ≤ 45)) ?_
 refine kv g0 (bxor) ?_
 refine kv g0 (band) ?_
 refine kv g0 (asg) ?_
 refine wk_end_draw hM (by kernel_rfl) ?_
 refine ac_next ?_
 refine aw_grp1 ?_
 refine aw_grp1 ?_
 refine wk_start ?_
 refine kv g0 (mv) ?_
 refine kv g0 (nilB) ?_
 refine kv g0 (faB 1 1) ?_
 refine kv g0 (ldB) ?_
 refine kv g0 (mv) ?_
 refine kv g0 (nilB) ?_
 refine kv g0 (faB 0 0) ?_
 refine kv g0 (ldB) ?_
 refine kv g0 (lnS lenE) ?_
 refine kv g0 (lss) ?_
 refine wk_end_draw hM (by kernel_rfl) ?_
 refine ac_next ?_
 by_cases c1 : a0_1 < (l0_0.length : Int)
 ·rw [if_pos c1] at H
  refine aw_ifT ?_ (decide_eq_true c1)
  refine aw_grp1 ?_
  refine wk_start ?_
  refine kv g0 (mv) ?_
  refine kv g0 (mv) ?_
  refine kv g0 (nilB) ?_
  refine kv g0 (faB 0 0) ?_
  refine kv g0 (ldB) ?_
  refine kv g0 (mv) ?_
  refine kv g0 (nilB) ?_
  refine kv g0 (faB 1 1) ?_
  refine kv g0 (ldB) ?_
  obtain ⟨c2, H⟩ := of_if H
  refine kv g0 (ixS 5 (eI .u8 (rd l0_0 a0_1)) c2 (getE (z := (0 : Int)) c2 c1)) ?_
  refine kv g0 (ldR (.lit (.int .u8 (rd l0_0 a0_1)))) ?_
  refine kv g0 (cnv6) ?_
  refine kv g0 (add6) ?_
  refine kv g0 (band) ?_
  refine kv g0 (asg) ?_
  refine wk_end_draw hM (by kernel_rfl) ?_
  refine ac_next ?_
  refine wk_start ?_
  refine kv g0 (mv) ?_
  refine kv g0 (mv) ?_
  refine kv g0 (nilB) ?_
  refine kv g0 (faB 1 1) ?_
  refine kv g0 (ldB) ?_
  refine kv g0 (add6) ?_
  refine kv g0 (nilB) ?_
  refine kv g0 (faB 1 1) ?_
  refine ks g0 (stB 1 [.sl .u 1 (l0_0.map (eI .u8)), .lit (.int .i64 (wrap64 (a0_1 + 1))), .lit (.int .i64 (wrap64 ((wrap64 (a0_2 * 6364136223846793005)) + 1442695040888963407)))]) ?_
  refine wk_end ?_
  refine ac_next ?_
  refine aw_grp1 ?_
  refine wk_start ?_
  refine kv g0 (mv) ?_
  refine kv g0 (asg) ?_
  refine wk_end ?_
  refine ac_next ?_
  refine aw_ret ?_
  obtain rfl := Option.some.inj H
  exact acr hE [.tmp 2] (.tmp .nil) (.one _) [(0, 0)] 9999
 rw [if_neg c1] at H
 refine aw_ifF ?_ (decide_eq_false c1)
 refine aw_skip ?_
 refine ac_next ?_
 refine aw_grp1 ?_
 refine wk_start ?_
 refine kv g0 (mv) ?_
 refine kv g0 (asg) ?_
 refine wk_end ?_
 refine ac_next ?_
 refine aw_ret ?_
 obtain rfl := Option.some.inj H
 exact acr hE [.tmp 2] (.tmp .nil) (.one _) [(0, 0)] 9999
/-! spec_l01Below -/
def spec_l01Below.f (l0_0 : List Int) (a0_1 : Int) (a0_2 : Int) (a1 : Int) : Option (Int × (List Int) × Int × Int) := if a1 ≤ 0 then some (0, l0_0, a0_1, a0_2) else if a1 ≤ 256 then ((spec_l01Byte.f l0_0 a0_1 a0_2).bind fun t3 => (if a1 ≠ 0 then some (t3.1.tmod a1, t3.2.1, t3.2.2.1, t3.2.2.2) else none)) else (spec_l01Byte.f l0_0 a0_1 a0_2).bind fun t6 => (spec_l01Byte.f t6.2.1 t6.2.2.1 t6.2.2.2).bind fun t8 => (spec_l01Byte.f t8.2.1 t8.2.2.1 t8.2.2.2).bind fun t10 => (spec_l01Byte.f t10.2.1 t10.2.2.1 t10.2.2.2).bind fun t12 => if a1 ≠ 0 then some ((wrap64 ((wrap64 ((wrap64 ((wrap64 (t6.1 * 16777216)) + (wrap64 (t8.1 * 65536)))) + (wrap64 (t10.1 * 256)))) + t12.1)).tmod a1, t12.2.1, t12.2.2.1, t12.2.2.2) else none
theorem spec_l01Below.ok {l0_0 : List Int} {a0_1 : Int} {a0_2 : Int} {a1 : Int} {r : Int × (List Int) × Int × Int} (H : spec_l01Below.f l0_0 a0_1 a0_2 a1 = some r) : ACalls Try.prog 24 [(0, .box 56 [.sl .u 1 (l0_0.map (eI .u8)), .lit (.int .i64 a0_1), .lit (.int .i64 a0_2)])] [.box 0 0, .lit (.int .i64 a1)] [(0, .box 56 [.sl .u 1 (r.2.1.map (eI .u8)), .lit (.int .i64 r.2.2.1), .lit (.int .i64 r.2.2.2)])] (.lit (.int .i64 r.1)) := by
 refine acalls (fn := Try.f24) (nt := 37) Try.func24 rfl rfl (Nat.le_of_ble_eq_true rfl) fun E hE => ?_
 rw [spec_l01Below.f] at H
 refine aw_grp1 ?_
 refine wk_start ?_
 refine kv g0 (asg) ?_
 refine wk_end ?_
 refine ac_next ?_
 refine aw_grp1 ?_
 refine aw_grp1 ?_
 refine wk_start ?_
 refine kv g0 (mv) ?_
 refine kv g0 (leq) ?_
 refine wk_end ?_
 refine ac_next ?_
 by_cases c1 : a1 ≤ 0
 ·rw [if_pos c1] at H
  refine aw_ifT ?_ (decide_eq_true c1)
  refine aw_grp1 ?_
  refine wk_start ?_
  refine kv g0 (asg) ?_
  refine wk_end ?_
  refine ac_next ?_
  refine aw_ret ?_
  refine ac_thenR ?_
  obtain rfl := Option.some.inj H
  exact acr hE [.tmp 4] (.tmp .nil) (.one _) [(0, 0)] 9999
 rw [if_neg c1] at H
 refine aw_ifF ?_ (decide_eq_false c1)
 refine aw_skip ?_
 refine ac_next ?_
 refine aw_grp1 ?_
 refine aw_grp1 ?_
 refine wk_start ?_
 refine kv g0 (mv) ?_
 refine kv g0 (leq) ?_
 refine wk_end ?_
 refine ac_next ?_
 by_cases c2 : a1 ≤ 256
 ·rw [if_pos c2] at H
  refine aw_ifT ?_ (decide_eq_true c2)
  refine aw_grp1 ?_
  refine wk_start ?_
  refine kv g0 (mv) ?_
  obtain ⟨t3, A4, H⟩ := of_bind H
  refine kcS1 14 (.lit (.int .i64 t3.1)) [(0, .box 56 [.sl .u 1 (t3.2.1.map (eI .u8)), .lit (.int .i64 t3.2.2.1), .lit (.int .i64 t3.2.2.2)])] g0 (cal (spec_l01Byte.ok A4) [0] 9999 .u (hf := Try.func23)) rfl rfl ?_
  refine kv g0 (mv) ?_
  obtain ⟨c5, H⟩ := of_if H
  refine kv g0 (rem c5) ?_
  refine kv g0 (asg) ?_
  refine wk_end ?_
  refine ac_next ?_
  refine aw_ret ?_
  refine ac_thenR ?_
  obtain rfl := Option.some.inj H
  exact acr hE [.tmp 4] (.tmp .nil) (.one _) [(0, 0)] 9999
 rw [if_neg c2] at H
 refine aw_ifF ?_ (decide_eq_false c2)
 refine aw_skip ?_
 refine ac_next ?_
 refine aw_grp1 ?_
 refine wk_start ?_
 refine kv g0 (mv) ?_
 obtain ⟨t6, A7, H⟩ := of_bind H
 refine kcS1 18 (.lit (.int .i64 t6.1)) [(0, .box 56 [.sl .u 1 (t6.2.1.map (eI .u8)), .lit (.int .i64 t6.2.2.1), .lit (.int .i64 t6.2.2.2)])] g0 (cal (spec_l01Byte.ok A7) [0] 9999 .u (hf := Try.func23)) rfl rfl ?_
 refine kv g0 (asg) ?_
 refine wk_end ?_
 refine ac_next ?_
 refine aw_grp1 ?_
 refine wk_start ?_
 refine kv g0 (mv) ?_
 obtain ⟨t8, A9, H⟩ := of_bind H
 refine kcS1 20 (.lit (.int .i64 t8.1)) [(0, .box 56 [.sl .u 1 (t8.2.1.map (eI .u8)), .lit (.int .i64 t8.2.2.1), .lit (.int .i64 t8.2.2.2)])] g0 (cal (spec_l01Byte.ok A9) [0] 9999 .u (hf := Try.func23)) rfl rfl ?_
 refine kv g0 (asg) ?_
 refine wk_end ?_
 refine ac_next ?_
 refine aw_grp1 ?_
 refine wk_start ?_
 refine kv g0 (mv) ?_
 obtain ⟨t10, A11, H⟩ := of_bind H
 refine kcS1 22 (.lit (.int .i64 t10.1)) [(0, .box 56 [.sl .u 1 (t10.2.1.map (eI .u8)), .lit (.int .i64 t10.2.2.1), .lit (.int .i64 t10.2.2.2)])] g0 (cal (spec_l01Byte.ok A11) [0] 9999 .u (hf := Try.func23)) rfl rfl ?_
 refine kv g0 (asg) ?_
 refine wk_end ?_
 refine ac_next ?_
 refine aw_grp1 ?_
 refine wk_start ?_
 refine kv g0 (mv) ?_
 obtain ⟨t12, A13, H⟩ := of_bind H
 refine kcS1 24 (.lit (.int .i64 t12.1)) [(0, .box 56 [.sl .u 1 (t12.2.1.map (eI .u8)), .lit (.int .i64 t12.2.2.1), .lit (.int .i64 t12.2.2.2)])] g0 (cal (spec_l01Byte.ok A13) [0] 9999 .u (hf := Try.func23)) rfl rfl ?_
 refine kv g0 (asg) ?_
 refine wk_end ?_
 refine ac_next ?_
 refine aw_grp1 ?_
 refine wk_start ?_
 refine kv g0 (mv) ?_
 refine kv g0 (mul6) ?_
 refine kv g0 (mv) ?_
 refine kv g0 (mul6) ?_
 refine kv g0 (add6) ?_
 refine kv g0 (mv) ?_
 refine kv g0 (mul6) ?_
 refine kv g0 (add6) ?_
 refine kv g0 (mv) ?_
 refine kv g0 (add6) ?_
 refine kv g0 (mv) ?_
 obtain ⟨c14, H⟩ := of_if H
 refine kv g0 (rem c14) ?_
 refine kv g0 (asg) ?_
 refine wk_end ?_
 refine ac_next ?_
 refine aw_ret ?_
 obtain rfl := Option.some.inj H
 exact acr hE [.tmp 4] (.tmp .nil) (.one _) [(0, 0)] 9999
/-! spec_l01Once -/
def spec_l01Once.f (l0_0 : List Int) (a0_1 : Int) (a0_2 : Int) (a1 : Int) : Option (Bool × (List Int) × Int × Int) := (spec_l01Below.f l0_0 a0_1 a0_2 a1).bind fun t1 => some (t1.1 == 0, t1.2.1, t1.2.2.1, t1.2.2.2)
theorem spec_l01Once.ok {l0_0 : List Int} {a0_1 : Int} {a0_2 : Int} {a1 : Int} {r : Bool × (List Int) × Int × Int} (H : spec_l01Once.f l0_0 a0_1 a0_2 a1 = some r) : ACalls Try.prog 37 [(0, .box 56 [.sl .u 1 (l0_0.map (eI .u8)), .lit (.int .i64 a0_1), .lit (.int .i64 a0_2)])] [.box 0 0, .lit (.int .i64 a1)] [(0, .box 56 [.sl .u 1 (r.2.1.map (eI .u8)), .lit (.int .i64 r.2.2.1), .lit (.int .i64 r.2.2.2)])] (.lit (.bool r.1)) := by
 refine acalls (fn := Try.f37) (nt := 9) Try.func37 rfl rfl (Nat.le_of_ble_eq_true rfl) fun E hE => ?_
 rw [spec_l01Once.f] at H
 refine aw_grp1 ?_
 refine wk_start ?_
 refine kv g0 (asg) ?_
 refine wk_end ?_
 refine ac_next ?_
 refine aw_grp1 ?_
 refine wk_start ?_
 refine kv g0 (mv) ?_
 refine kv g0 (mv) ?_
 obtain ⟨t1, A2, H⟩ := of_bind H
 refine kcS1 7 (.lit (.int .i64 t1.1)) [(0, .box 56 [.sl .u 1 (t1.2.1.map (eI .u8)), .lit (.int .i64 t1.2.2.1), .lit (.int .i64 t1.2.2.2)])] g0 (cal (spec_l01Below.ok A2) [0] 9999 .u (hf := Try.func24)) rfl rfl ?_
 refine kv g0 (eql) ?_
 refine kv g0 (asg) ?_
 refine wk_end ?_
 refine ac_next ?_
 refine aw_ret ?_
 obtain rfl := Option.some.inj H
 exact acr hE [.tmp 4] (.tmp .nil) (.one _) [(0, 0)] 9999
/-! spec_l01PickInt -/
def spec_l01PickInt.f (l0_0 : List Int) (a0_1 : Int) (a0_2 : Int) (l1 : List Int) : Option (Int × (List Int) × Int × Int) := (spec_l01Below.f l0_0 a0_1 a0_2 (l1.length : Int)).bind fun t1 => (if 0 ≤ t1.1 then (if t1.1 < (l1.length : Int) then some ((rd l1 t1.1), t1.2.1, t1.2.2.1, t1.2.2.2) else none) else none)
theorem spec_l01PickInt.ok {l0_0 : List Int} {a0_1 : Int} {a0_2 : Int} {l1 : List Int} {r : Int × (List Int) × Int × Int} (H : spec_l01PickInt.f l0_0 a0_1 a0_2 l1 = some r) : ACalls Try.prog 50 [(0, .box 56 [.sl .u 1 (l0_0.map (eI .u8)), .lit (.int .i64 a0_1), .lit (.int .i64 a0_2)])] [.box 0 0, .sl .o 1 (l1.map (eI .i64))] [(0, .box 56 [.sl .u 1 (r.2.1.map (eI .u8)), .lit (.int .i64 r.2.2.1), .lit (.int .i64 r.2.2.2)])] (.lit (.int .i64 r.1)) := by
 refine acalls (fn := Try.f50) (nt := 12) Try.func50 rfl rfl (Nat.le_of_ble_eq_true rfl) fun E hE => ?_
 rw [spec_l01PickInt.f] at H
 refine aw_grp1 ?_
 refine wk_start ?_
 refine kv g0 (asg) ?_
 refine wk_end ?_
 refine ac_next ?_
 refine aw_grp1 ?_
 refine wk_start ?_
 refine kv g0 (mv) ?_
 refine kv g0 (mv) ?_
 refine kv g0 (mv) ?_
 refine kv g0 (lnS lenE) ?_
 obtain ⟨t1, A2, H⟩ := of_bind H
 refine kcS1 9 (.lit (.int .i64 t1.1)) [(0, .box 56 [.sl .u 1 (t1.2.1.map (eI .u8)), .lit (.int .i64 t1.2.2.1), .lit (.int .i64 t1.2.2.2)])] g0 (cal (spec_l01Below.ok A2) [0] 9999 .u (hf := Try.func24)) rfl rfl ?_
 obtain ⟨c3, H⟩ := of_if H
 obtain ⟨c4, H⟩ := of_if H
 refine kv g0 (ixS 3 (eI .i64 (rd l1 t1.1)) c3 (getE (z := (0 : Int)) c3 c4)) ?_
 refine kv g0 (ldR (.lit (.int .i64 (rd l1 t1.1)))) ?_
 refine kv g0 (asg) ?_
 refine wk_end ?_
 refine ac_next ?_
 refine aw_ret ?_
 obtain rfl := Option.some.inj H
 exact acr hE [.tmp 4] (.tmp .nil) (.one _) [(0, 0)] 9999
/-! spec_l04Half -/
def spec_l04Half.f (l0_0 : List Int) (a0_1 : Int) (a0_2 : Int) : Option (Int × (List Int) × Int × Int) := (spec_l01Below.f l0_0 a0_1 a0_2 12).bind fun t1 => ((spec_l01PickInt.f t1.2.1 t1.2.2.1 t1.2.2.2 ([0, 1, 2, 3, 5, 7, 255, 4294967295, 2147483648, t1.1] : List Int)).bind fun t3 => some (t3.1, t3.2.1, t3.2.2.1, t3.2.2.2))
theorem spec_l04Half.ok {l0_0 : List Int} {a0_1 : Int} {a0_2 : Int} {r : Int × (List Int) × Int × Int} (H : spec_l04Half.f l0_0 a0_1 a0_2 = some r) : ACalls Try.prog 46 [(0, .box 56 [.sl .u 1 (l0_0.map (eI .u8)), .lit (.int .i64 a0_1), .lit (.int .i64 a0_2)])] [.box 0 0] [(0, .box 56 [.sl .u 1 (r.2.1.map (eI .u8)), .lit (.int .i64 r.2.2.1), .lit (.int .i64 r.2.2.2)])] (.lit (.int .i64 r.1)) := by
 refine acalls (fn := Try.f46) (nt := 8) Try.func46 rfl rfl (Nat.le_of_ble_eq_true rfl) fun E hE => ?_
 rw [spec_l04Half.f] at H
 refine aw_grp1 ?_
 refine wk_start ?_
 refine kv g0 (asg) ?_
 refine wk_end ?_
 refine ac_next ?_
 refine aw_grp1 ?_
 refine wk_start ?_
 refine kv g0 (mv) ?_
 refine kv g0 (mv) ?_
 obtain ⟨t1, A2, H⟩ := of_bind H
 refine kcS1 5 (.lit (.int .i64 t1.1)) [(0, .box 56 [.sl .u 1 (t1.2.1.map (eI .u8)), .lit (.int .i64 t1.2.2.1), .lit (.int .i64 t1.2.2.2)])] g0 (cal (spec_l01Below.ok A2) [0] 9999 .u (hf := Try.func24)) rfl rfl ?_
 refine kb g0 (bsl 1 3 1 [.int .i64 0] (([0, 1, 2, 3, 5, 7, 255, 4294967295, 2147483648, t1.1] : List Int).map (eI .i64))) ?_
 obtain ⟨t3, A4, H⟩ := of_bind H
 refine kcS1 7 (.lit (.int .i64 t3.1)) [(0, .box 56 [.sl .u 1 (t3.2.1.map (eI .u8)), .lit (.int .i64 t3.2.2.1), .lit (.int .i64 t3.2.2.2)])] g0 (cal (spec_l01PickInt.ok A4) [0] 9999 .u (hf := Try.func50)) rfl rfl ?_
 refine kv g0 (asg) ?_
 refine wk_end ?_
 refine ac_next ?_
 refine aw_ret ?_
 obtain rfl := Option.some.inj H
 exact acr hE [.tmp 2] (.tmp .nil) (.one _) [(0, 0)] 9999
/-! spec_l17Item -/
def spec_l17Item.f (l0_0 : List Int) (a0_1 : Int) (a0_2 : Int) : Option (Int × Int × Int × Int × (List Int) × Int × Int) := (spec_l01Once.f l0_0 a0_1 a0_2 3).bind fun t1 => if t1.1 = true then ((spec_l01Below.f t1.2.1 t1.2.2.1 t1.2.2.2 5).bind fun t4 => some (2, 0, 0, wrap64 (1 + t4.1), t4.2.1, t4.2.2.1, t4.2.2.2)) else (spec_l01Below.f t1.2.1 t1.2.2.1 t1.2.2.2 9).bind fun t6 => ((spec_l04Half.f t6.2.1 t6.2.2.1 t6.2.2.2).bind fun t8 => some (1, t6.1, t8.1, 0, t8.2.1, t8.2.2.1, t8.2.2.2))
theorem spec_l17Item.ok {l0_0 : List Int} {a0_1 : Int} {a0_2 : Int} {r : Int × Int × Int × Int × (List Int) × Int × Int} (H : spec_l17Item.f l0_0 a0_1 a0_2 = some r) : ACalls Try.prog 38 [(0, .box 56 [.sl .u 1 (l0_0.map (eI .u8)), .lit (.int .i64 a0_1), .lit (.int .i64 a0_2)])] [.box 0 0] [(0, .box 56 [.sl .u 1 (r.2.2.2.2.1.map (eI .u8)), .lit (.int .i64 r.2.2.2.2.2.1), .lit (.int .i64 r.2.2.2.2.2.2)])] (.agg [.lit (.int .i64 r.1), .lit (.int .i64 r.2.1), .lit (.int .i64 r.2.2.1), .lit (.int .i64 r.2.2.2.1)]) := by
 refine acalls (fn := Try.f38) (nt := 14) Try.func38 rfl rfl (Nat.le_of_ble_eq_true rfl) fun E hE => ?_
 rw [spec_l17Item.f] at H
 refine aw_grp1 ?_
 refine wk_start ?_
 refine kb g0 (alc 1 [.int .i64 0, .int .i64 0, .int .i64 0, .int .i64 0] [.lit (.int .i64 0), .lit (.int .i64 0), .lit (.int .i64 0), .lit (.int .i64 0)]) ?_
 refine wk_end ?_
 refine ac_next ?_
 refine aw_grp1 ?_
 refine aw_grp1 ?_
 refine wk_start ?_
 refine kv g0 (mv) ?_
 obtain ⟨t1, A2, H⟩ := of_bind H
 refine kcS1 4 (.lit (.bool t1.1)) [(0, .box 56 [.sl .u 1 (t1.2.1.map (eI .u8)), .lit (.int .i64 t1.2.2.1), .lit (.int .i64 t1.2.2.2)])] g0 (cal (spec_l01Once.ok A2) [0] 9999 .u (hf := Try.func37)) rfl rfl ?_
 refine wk_end ?_
 refine ac_next ?_
 by_cases c3 : t1.1 = true
 ·rw [if_pos c3] at H
  refine aw_ifT ?_ c3
  refine aw_grp1 ?_
  refine wk_start ?_
  refine kv g0 (mv) ?_
  obtain ⟨t4, A5, H⟩ := of_bind H
  refine kcS1 6 (.lit (.int .i64 t4.1)) [(0, .box 56 [.sl .u 1 (t4.2.1.map (eI .u8)), .lit (.int .i64 t4.2.2.1), .lit (.int .i64 t4.2.2.2)])] g0 (cal (spec_l01Below.ok A5) [0] 9999 .u (hf := Try.func24)) rfl rfl ?_
  refine kv g0 (add6) ?_
  refine kv g0 (bld [(0, 1), (1, 1), (2, 1), (3, 1)] [.int .i64 0, .int .i64 0, .int .i64 0, .int .i64 0] [.lit (.int .i64 2), .lit (.int .i64 0), .lit (.int .i64 0), .lit (.int .i64 (wrap64 (1 + t4.1)))]) ?_
  refine ks g0 (stB 4 [.lit (.int .i64 2), .lit (.int .i64 0), .lit (.int .i64 0), .lit (.int .i64 (wrap64 (1 + t4.1)))]) ?_
  refine wk_end ?_
  refine ac_next ?_
  refine aw_ret ?_
  refine ac_thenR ?_
  obtain rfl := Option.some.inj H
  exact acr hE [.cell 2 25] (rcA 4 .nil) (.one _) [(0, 0)] 9999
 rw [if_neg c3] at H
 refine aw_ifF ?_ (bF c3)
 refine aw_skip ?_
 refine ac_next ?_
 refine aw_grp1 ?_
 refine wk_start ?_
 refine kv g0 (mv) ?_
 obtain ⟨t6, A7, H⟩ := of_bind H
 refine kcS1 10 (.lit (.int .i64 t6.1)) [(0, .box 56 [.sl .u 1 (t6.2.1.map (eI .u8)), .lit (.int .i64 t6.2.2.1), .lit (.int .i64 t6.2.2.2)])] g0 (cal (spec_l01Below.ok A7) [0] 9999 .u (hf := Try.func24)) rfl rfl ?_
 refine kv g0 (mv) ?_
 obtain ⟨t8, A9, H⟩ := of_bind H
 refine kcS1 12 (.lit (.int .i64 t8.1)) [(0, .box 56 [.sl .u 1 (t8.2.1.map (eI .u8)), .lit (.int .i64 t8.2.2.1), .lit (.int .i64 t8.2.2.2)])] g0 (cal (spec_l04Half.ok A9) [0] 9999 .u (hf := Try.func46)) rfl rfl ?_
 refine kv g0 (bld [(0, 1), (1, 1), (2, 1), (3, 1)] [.int .i64 0, .int .i64 0, .int .i64 0, .int .i64 0] [.lit (.int .i64 1), .lit (.int .i64 t6.1), .lit (.int .i64 t8.1), .lit (.int .i64 0)]) ?_
 refine ks g0 (stB 4 [.lit (.int .i64 1), .lit (.int .i64 t6.1), .lit (.int .i64 t8.1), .lit (.int .i64 0)]) ?_
 refine wk_end ?_
 refine ac_next ?_
 refine aw_ret ?_
 obtain rfl := Option.some.inj H
 exact acr hE [.cell 2 25] (rcA 4 .nil) (.one _) [(0, 0)] 9999
/-! spec_l17Frame -/
def spec_l17Frame.f (l0_0 : List Int) (a0_1 : Int) (a0_2 : Int) : Option (Int × Int × Int × Int × Int × Int × Int × (List Int) × Int × Int) := (spec_l01Once.f l0_0 a0_1 a0_2 4).bind fun t1 => if t1.1 = true then ((spec_l01Below.f t1.2.1 t1.2.2.1 t1.2.2.2 3).bind fun t4 => ((spec_l01Below.f t4.2.1 t4.2.2.1 t4.2.2.2 6).bind fun t6 => some (2, t4.1, wrap64 (1 + t6.1), 0, 0, 0, 0, t6.2.1, t6.2.2.1, t6.2.2.2))) else (spec_l01Below.f t1.2.1 t1.2.2.1 t1.2.2.2 3).bind fun t8 => ((spec_l01Below.f t8.2.1 t8.2.2.1 t8.2.2.2 6).bind fun t10 => ((spec_l17Item.f t10.2.1 t10.2.2.1 t10.2.2.2).bind fun t12 => some (1, t8.1, wrap64 (1 + t10.1), t12.1, t12.2.1, t12.2.2.1, t12.2.2.2.1, t12.2.2.2.2.1, t12.2.2.2.2.2.1, t12.2.2.2.2.2.2)))
theorem spec_l17Frame.ok {l0_0 : List Int} {a0_1 : Int} {a0_2 : Int} {r : Int × Int × Int × Int × Int × Int × Int × (List Int) × Int × Int} (H : spec_l17Frame.f l0_0 a0_1 a0_2 = some r) : ACalls Try.prog 15 [(0, .box 56 [.sl .u 1 (l0_0.map (eI .u8)), .lit (.int .i64 a0_1), .lit (.int .i64 a0_2)])] [.box 0 0] [(0, .box 56 [.sl .u 1 (r.2.2.2.2.2.2.2.1.map (eI .u8)), .lit (.int .i64 r.2.2.2.2.2.2.2.2.1), .lit (.int .i64 r.2.2.2.2.2.2.2.2.2)])] (.agg [.lit (.int .i64 r.1), .lit (.int .i64 r.2.1), .lit (.int .i64 r.2.2.1), .lit (.int .i64 r.2.2.2.1), .lit (.int .i64 r.2.2.2.2.1), .lit (.int .i64 r.2.2.2.2.2.1), .lit (.int .i64 r.2.2.2.2.2.2.1)]) := by
 refine acalls (fn := Try.f15) (nt := 19) Try.func15 rfl rfl (Nat.le_of_ble_eq_true rfl) fun E hE => ?_
 rw [spec_l17Frame.f] at H
 refine aw_grp1 ?_
 refine wk_start ?_
 refine kb g0 (alc 1 [.int .i64 0, .int .i64 0, .int .i64 0, .int .i64 0, .int .i64 0, .int .i64 0, .int .i64 0] [.lit (.int .i64 0), .lit (.int .i64 0), .lit (.int .i64 0), .lit (.int .i64 0), .lit (.int .i64 0), .lit (.int .i64 0), .lit (.int .i64 0)]) ?_
 refine wk_end ?_
 refine ac_next ?_
 refine aw_grp1 ?_
 refine aw_grp1 ?_
 refine wk_start ?_
 refine kv g0 (mv) ?_
 obtain ⟨t1, A2, H⟩ := of_bind H
 refine kcS1 4 (.lit (.bool t1.1)) [(0, .box 56 [.sl .u 1 (t1.2.1.map (eI .u8)), .lit (.int .i64 t1.2.2.1), .lit (.int .i64 t1.2.2.2)])] g0 (cal (spec_l01Once.ok A2) [0] 9999 .u (hf := Try.func37)) rfl rfl ?_
 refine wk_end ?_
 refine ac_next ?_
 by_cases c3 : t1.1 = true
 ·rw [if_pos c3] at H
  refine aw_ifT ?_ c3
  refine aw_grp1 ?_
  refine wk_start ?_
  refine kv g0 (mv) ?_
  obtain ⟨t4, A5, H⟩ := of_bind H
  refine kcS1 6 (.lit (.int .i64 t4.1)) [(0, .box 56 [.sl .u 1 (t4.2.1.map (eI .u8)), .lit (.int .i64 t4.2.2.1), .lit (.int .i64 t4.2.2.2)])] g0 (cal (spec_l01Below.ok A5) [0] 9999 .u (hf := Try.func24)) rfl rfl ?_
  refine kv g0 (mv) ?_
  obtain ⟨t6, A7, H⟩ := of_bind H
  refine kcS1 8 (.lit (.int .i64 t6.1)) [(0, .box 56 [.sl .u 1 (t6.2.1.map (eI .u8)), .lit (.int .i64 t6.2.2.1), .lit (.int .i64 t6.2.2.2)])] g0 (cal (spec_l01Below.ok A7) [0] 9999 .u (hf := Try.func24)) rfl rfl ?_
  refine kv g0 (add6) ?_
  refine kv g0 (bld [(0, 1), (1, 1), (2, 1), (3, 4)] [.int .i64 0, .int .i64 0, .int .i64 0, .int .i64 0, .int .i64 0, .int .i64 0, .int .i64 0] [.lit (.int .i64 2), .lit (.int .i64 t4.1), .lit (.int .i64 (wrap64 (1 + t6.1))), .lit (.int .i64 0), .lit (.int .i64 0), .lit (.int .i64 0), .lit (.int .i64 0)]) ?_
  refine ks g0 (stB 7 [.lit (.int .i64 2), .lit (.int .i64 t4.1), .lit (.int .i64 (wrap64 (1 + t6.1))), .lit (.int .i64 0), .lit (.int .i64 0), .lit (.int .i64 0), .lit (.int .i64 0)]) ?_
  refine wk_end ?_
  refine ac_next ?_
  refine aw_ret ?_
  refine ac_thenR ?_
  obtain rfl := Option.some.inj H
  exact acr hE [.cell 2 27] (rcA 7 .nil) (.one _) [(0, 0)] 9999
 rw [if_neg c3] at H
 refine aw_ifF ?_ (bF c3)
 refine aw_skip ?_
 refine ac_next ?_
 refine aw_grp1 ?_
 refine wk_start ?_
 refine kv g0 (mv) ?_
 obtain ⟨t8, A9, H⟩ := of_bind H
 refine kcS1 12 (.lit (.int .i64 t8.1)) [(0, .box 56 [.sl .u 1 (t8.2.1.map (eI .u8)), .lit (.int .i64 t8.2.2.1), .lit (.int .i64 t8.2.2.2)])] g0 (cal (spec_l01Below.ok A9) [0] 9999 .u (hf := Try.func24)) rfl rfl ?_
 refine kv g0 (mv) ?_
 obtain ⟨t10, A11, H⟩ := of_bind H
 refine kcS1 14 (.lit (.int .i64 t10.1)) [(0, .box 56 [.sl .u 1 (t10.2.1.map (eI .u8)), .lit (.int .i64 t10.2.2.1), .lit (.int .i64 t10.2.2.2)])] g0 (cal (spec_l01Below.ok A11) [0] 9999 .u (hf := Try.func24)) rfl rfl ?_
 refine kv g0 (add6) ?_
 refine kv g0 (mv) ?_
 obtain ⟨t12, A13, H⟩ := of_bind H
 refine kcS1 17 (.agg [.lit (.int .i64 t12.1), .lit (.int .i64 t12.2.1), .lit (.int .i64 t12.2.2.1), .lit (.int .i64 t12.2.2.2.1)]) [(0, .box 56 [.sl .u 1 (t12.2.2.2.2.1.map (eI .u8)), .lit (.int .i64 t12.2.2.2.2.2.1), .lit (.int .i64 t12.2.2.2.2.2.2)])] g0 (cal (spec_l17Item.ok A13) [0] 9999 .u (hf := Try.func38)) rfl rfl ?_
 refine kv g0 (bld [(0, 1), (1, 1), (2, 1), (3, 4)] [.int .i64 0, .int .i64 0, .int .i64 0, .int .i64 0, .int .i64 0, .int .i64 0, .int .i64 0] [.lit (.int .i64 1), .lit (.int .i64 t8.1), .lit (.int .i64 (wrap64 (1 + t10.1))), .lit (.int .i64 t12.1), .lit (.int .i64 t12.2.1), .lit (.int .i64 t12.2.2.1), .lit (.int .i64 t12.2.2.2.1)]) ?_
 refine ks g0 (stB 7 [.lit (.int .i64 1), .lit (.int .i64 t8.1), .lit (.int .i64 (wrap64 (1 + t10.1))), .lit (.int .i64 t12.1), .lit (.int .i64 t12.2.1), .lit (.int .i64 t12.2.2.1), .lit (.int .i64 t12.2.2.2.1)]) ?_
 refine wk_end ?_
 refine ac_next ?_
 refine aw_ret ?_
 obtain rfl := Option.some.inj H
 exact acr hE [.cell 2 27] (rcA 7 .nil) (.one _) [(0, 0)] 9999
/-! spec_DrawFrame -/
def spec_DrawFrame.f (k : Nat) (l0 : List Int) : Option (Int × Int × Int × Int × Int × Int × Int) := (spec_l01New.f k l0).bind fun t1 => ((spec_l17Frame.f t1.1 t1.2.1 t1.2.2).bind fun t3 => some (t3.1, t3.2.1, t3.2.2.1, t3.2.2.2.1, t3.2.2.2.2.1, t3.2.2.2.2.2.1, t3.2.2.2.2.2.2.1))
theorem spec_DrawFrame.ok {k : Nat} {l0 : List Int} {r : Int × Int × Int × Int × Int × Int × Int} (H : spec_DrawFrame.f k l0 = some r) : ACalls Try.prog 5 [] [.sl .o 1 (l0.map (eI .u8))] [] (.agg [.lit (.int .i64 r.1), .lit (.int .i64 r.2.1), .lit (.int .i64 r.2.2.1), .lit (.int .i64 r.2.2.2.1), .lit (.int .i64 r.2.2.2.2.1), .lit (.int .i64 r.2.2.2.2.2.1), .lit (.int .i64 r.2.2.2.2.2.2)]) := by
 refine acalls (fn := Try.f5) (nt := 6) Try.func5 rfl rfl (Nat.le_of_ble_eq_true rfl) fun E hE => ?_
 rw [spec_DrawFrame.f] at H
 refine aw_grp1 ?_
 refine wk_start ?_
 refine kb g0 (alc 0 [.int .i64 0, .int .i64 0, .int .i64 0, .int .i64 0, .int .i64 0, .int .i64 0, .int .i64 0] [.lit (.int .i64 0), .lit (.int .i64 0), .lit (.int .i64 0), .lit (.int .i64 0), .lit (.int .i64 0), .lit (.int .i64 0), .lit (.int .i64 0)]) ?_
 refine wk_end ?_
 refine ac_next ?_
 refine aw_grp1 ?_
 refine wk_start ?_
 refine kv g0 (mv) ?_
 obtain ⟨t1, A2, H⟩ := of_bind H
 refine kcS1 4 (.box 1 0) [(1, .box 56 [.sl .o 1 (t1.1.map (eI .u8)), .lit (.int .i64 t1.2.1), .lit (.int .i64 t1.2.2)])] g0 (cal (spec_l01New.ok A2) [1] 9999 .o (hf := Try.func16)) rfl rfl ?_
 obtain ⟨t3, A4, H⟩ := of_bind H
 refine kcS1 5 (.agg [.lit (.int .i64 t3.1), .lit (.int .i64 t3.2.1), .lit (.int .i64 t3.2.2.1), .lit (.int .i64 t3.2.2.2.1), .lit (.int .i64 t3.2.2.2.2.1), .lit (.int .i64 t3.2.2.2.2.2.1), .lit (.int .i64 t3.2.2.2.2.2.2.1)]) [(1, .box 56 [.sl .o 1 (t3.2.2.2.2.2.2.2.1.map (eI .u8)), .lit (.int .i64 t3.2.2.2.2.2.2.2.2.1), .lit (.int .i64 t3.2.2.2.2.2.2.2.2.2)])] g0 (cal (spec_l17Frame.ok A4) [1] 9999 .o (hf := Try.func15)) rfl rfl ?_
 refine ks g0 (stB 7 [.lit (.int .i64 t3.1), .lit (.int .i64 t3.2.1), .lit (.int .i64 t3.2.2.1), .lit (.int .i64 t3.2.2.2.1), .lit (.int .i64 t3.2.2.2.2.1), .lit (.int .i64 t3.2.2.2.2.2.1), .lit (.int .i64 t3.2.2.2.2.2.2.1)]) ?_
 refine wk_end ?_
 refine ac_next ?_
 refine aw_ret ?_
 obtain rfl := Option.some.inj H
 exact acr hE [.cell 2 27] (rcA 7 .nil) (.one _) [] 9999
/-! impl_within -/
def impl_within.f (a0 : Int) (a1 : Int) (a2 : Int) : Option (Bool) := if a0 ≥ a1 then some (decide (a0 ≤ a2)) else some false
theorem impl_within.ok {a0 : Int} {a1 : Int} {a2 : Int} {r : Bool} (H : impl_within.f a0 a1 a2 = some r) : ACalls Try.prog 35 [] [.lit (.int .i64 a0), .lit (.int .i64 a1), .lit (.int .i64 a2)] [] (.lit (.bool r)) := by
 refine acalls (fn := Try.f35) (nt := 15) Try.func35 rfl rfl (Nat.le_of_ble_eq_true rfl) fun E hE => ?_
 rw [impl_within.f] at H
 refine aw_grp1 ?_
 refine wk_start ?_
 refine kv g0 (asg) ?_
 refine wk_end ?_
 refine ac_next ?_
 refine aw_grp1 ?_
 refine wk_start ?_
 refine kv g0 (mv) ?_
 refine kv g0 (mv) ?_
 refine kv g0 (geq) ?_
 refine kv g0 (mv) ?_
 by_cases c1 : a0 ≥ a1
 ·rw [if_pos c1] at H
  refine kv (g1 (decide_eq_true c1)) (mv) ?_
  refine kv (g1 (decide_eq_true c1)) (mv) ?_
  refine kv (g1 (decide_eq_true c1)) (leq) ?_
  refine kv g0 (pkT (decide_eq_true c1)) ?_
  refine kv g0 (asg) ?_
  refine wk_end ?_
  refine ac_next ?_
  refine aw_ret ?_
  obtain rfl := Option.some.inj H
  exact acr hE [.tmp 6] (.tmp .nil) (.one _) [] 9999
 rw [if_neg c1] at H
 refine kx (hT (decide_eq_false c1)) ?_
 refine kx (hT (decide_eq_false c1)) ?_
 refine kx (hT (decide_eq_false c1)) ?_
 refine kv g0 (pkF (decide_eq_false c1)) ?_
 refine kv g0 (asg) ?_
 refine wk_end ?_
 refine ac_next ?_
 refine aw_ret ?_
 obtain rfl := Option.some.inj H
 exact acr hE [.tmp 6] (.tmp .nil) (.one _) [] 9999
/-! impl_isPid -/
def impl_isPid.f (a0 : Int) : Option (Bool) := (impl_within.f a0 0 2).bind fun t1 => some t1
theorem impl_isPid.ok {a0 : Int} {r : Bool} (H : impl_isPid.f a0 = some r) : ACalls Try.prog 34 [] [.lit (.int .i64 a0)] [] (.lit (.bool r)) := by
 refine acalls (fn := Try.f34) (nt := 5) Try.func34 rfl rfl (Nat.le_of_ble_eq_true rfl) fun E hE => ?_
 rw [impl_isPid.f] at H
 refine aw_grp1 ?_
 refine wk_start ?_
 refine kv g0 (asg) ?_
 refine wk_end ?_
 refine ac_next ?_
 refine aw_grp1 ?_
 refine wk_start ?_
 refine kv g0 (mv) ?_
 obtain ⟨t1, A2, H⟩ := of_bind H
 refine kcS0 4 (.lit (.bool t1)) [] g0 (cal (impl_within.ok A2) [] 9999 .n (hf := Try.func35)) rfl rfl ?_
 refine kv g0 (asg) ?_
 refine wk_end ?_
 refine ac_next ?_
 refine aw_ret ?_
 obtain rfl := Option.some.inj H
 exact acr hE [.tmp 2] (.tmp .nil) (.one _) [] 9999
/-! impl_HalfOk -/
def impl_HalfOk.f (a0 : Int) : Option (Bool) := (impl_within.f a0 0 4294967295).bind fun t1 => some t1
theorem impl_HalfOk.ok {a0 : Int} {r : Bool} (H : impl_HalfOk.f a0 = some r) : ACalls Try.prog 45 [] [.lit (.int .i64 a0)] [] (.lit (.bool r)) := by
 refine acalls (fn := Try.f45) (nt := 5) Try.func45 rfl rfl (Nat.le_of_ble_eq_true rfl) fun E hE => ?_
 rw [impl_HalfOk.f] at H
 refine aw_grp1 ?_
 refine wk_start ?_
 refine kv g0 (asg) ?_
 refine wk_end ?_
 refine ac_next ?_
 refine aw_grp1 ?_
 refine wk_start ?_
 refine kv g0 (mv) ?_
 obtain ⟨t1, A2, H⟩ := of_bind H
 refine kcS0 4 (.lit (.bool t1)) [] g0 (cal (impl_within.ok A2) [] 9999 .n (hf := Try.func35)) rfl rfl ?_
 refine kv g0 (asg) ?_
 refine wk_end ?_
 refine ac_next ?_
 refine aw_ret ?_
 obtain rfl := Option.some.inj H
 exact acr hE [.tmp 2] (.tmp .nil) (.one _) [] 9999
/-! impl_ItemOk -/
def impl_ItemOk.f (a0_0 : Int) (a0_1 : Int) (a0_2 : Int) (a0_3 : Int) : Option (Bool) := if a0_0 = 1 then ((impl_HalfOk.f a0_1).bind fun t2 => (if t2 = true then ((impl_HalfOk.f a0_2).bind fun t5 => (if t5 = true then some (a0_3 == 0) else some false)) else some false)) else if a0_0 = 2 then ((impl_within.f a0_3 1 1000000000).bind fun t9 => (if t9 = true then (if a0_1 = 0 then some (a0_2 == 0) else some false) else some false)) else some false
theorem impl_ItemOk.ok {a0_0 : Int} {a0_1 : Int} {a0_2 : Int} {a0_3 : Int} {r : Bool} (H : impl_ItemOk.f a0_0 a0_1 a0_2 a0_3 = some r) : ACalls Try.prog 36 [] [.agg [.lit (.int .i64 a0_0), .lit (.int .i64 a0_1), .lit (.int .i64 a0_2), .lit (.int .i64 a0_3)]] [] (.lit (.bool r)) := by
 refine acalls (fn := Try.f36) (nt := 35) Try.func36 rfl rfl (Nat.le_of_ble_eq_true rfl) fun E hE => ?_
 rw [impl_ItemOk.f] at H
 refine aw_grp1 ?_
 refine wk_start ?_
 refine kb g0 (bxA 0) ?_
 refine kv g0 (asg) ?_
 refine wk_end ?_
 refine ac_next ?_
 refine aw_grp1 ?_
 refine aw_grp1 ?_
 refine wk_start ?_
 refine kv g0 (faB 0 0) ?_
 refine kv g0 (ldB) ?_
 refine wk_end ?_
 refine ac_next ?_
 refine aw_block ?_
 refine aw_grp1 ?_
 refine wk_start ?_
 refine kv g0 (eql) ?_
 refine kv g0 (asg) ?_
 refine wk_end ?_
 refine ac_next ?_
 by_cases c1 : a0_0 = 1
 ·rw [if_pos c1] at H
  refine aw_ifT ?_ (eT c1)
  refine aw_grp1 ?_
  refine wk_start ?_
  refine kv g0 (faB 1 1) ?_
  refine kv g0 (ldB) ?_
  obtain ⟨t2, A3, H⟩ := of_bind H
  refine kcS0 9 (.lit (.bool t2)) [] g0 (cal (impl_HalfOk.ok A3) [] 9999 .n (hf := Try.func45)) rfl rfl ?_
  refine kv g0 (mv) ?_
  by_cases c4 : t2 = true
  ·rw [if_pos c4] at H
   refine kv (g1 c4) (faB 2 2) ?_
   refine kv (g1 c4) (ldB) ?_
   obtain ⟨t5, A6, H⟩ := of_bind H
   refine kcS0 13 (.lit (.bool t5)) [] (g1 c4) (cal (impl_HalfOk.ok A6) [] 9999 .n (hf := Try.func45)) rfl rfl ?_
   refine kv g0 (pkT c4) ?_
   refine kv g0 (mv) ?_
   by_cases c7 : t5 = true
   ·rw [if_pos c7] at H
    refine kv (g1 c7) (faB 3 3) ?_
    refine kv (g1 c7) (ldB) ?_
    refine kv (g1 c7) (eql) ?_
    refine kv g0 (pkT c7) ?_
    refine kv g0 (asg) ?_
    refine wk_end ?_
    refine ac_next ?_
    refine aw_ret ?_
    refine ac_blkR ?_
    refine ac_thenR ?_
    obtain rfl := Option.some.inj H
    exact acr hE [.tmp 2] (.tmp .nil) (.one _) [] 9999
   rw [if_neg c7] at H
   refine kx (hT (bF c7)) ?_
   refine kx (hT (bF c7)) ?_
   refine kx (hT (bF c7)) ?_
   refine kv g0 (pkF (bF c7)) ?_
   refine kv g0 (asg) ?_
   refine wk_end ?_
   refine ac_next ?_
   refine aw_ret ?_
   refine ac_blkR ?_
   refine ac_thenR ?_
   obtain rfl := Option.some.inj H
   exact acr hE [.tmp 2] (.tmp .nil) (.one _) [] 9999
  rw [if_neg c4] at H
  refine kx (hT (bF c4)) ?_
  refine kx (hT (bF c4)) ?_
  refine kx (hT (bF c4)) ?_
  refine kv g0 (pkF (bF c4)) ?_
  refine kv g0 (mv) ?_
  refine kx (hT rfl) ?_
  refine kx (hT rfl) ?_
  refine kx (hT rfl) ?_
  refine kv g0 (pkF rfl) ?_
  refine kv g0 (asg) ?_
  refine wk_end ?_
  refine ac_next ?_
  refine aw_ret ?_
  refine ac_blkR ?_
  refine ac_thenR ?_
  obtain rfl := Option.some.inj H
  exact acr hE [.tmp 2] (.tmp .nil) (.one _) [] 9999
 rw [if_neg c1] at H
 refine aw_ifF ?_ (eF c1)
 refine aw_grp1 ?_
 refine wk_start ?_
 refine kv g0 (eql) ?_
 refine kv g0 (asg) ?_
 refine wk_end ?_
 refine ac_next ?_
 by_cases c8 : a0_0 = 2
 ·rw [if_pos c8] at H
  refine aw_ifT ?_ (eT c8)
  refine aw_grp1 ?_
  refine wk_start ?_
  refine kv g0 (faB 3 3) ?_
  refine kv g0 (ldB) ?_
  obtain ⟨t9, A10, H⟩ := of_bind H
  refine kcS0 24 (.lit (.bool t9)) [] g0 (cal (impl_within.ok A10) [] 9999 .n (hf := Try.func35)) rfl rfl ?_
  refine kv g0 (mv) ?_
  by_cases c11 : t9 = true
  ·rw [if_pos c11] at H
   refine kv (g1 c11) (faB 1 1) ?_
   refine kv (g1 c11) (ldB) ?_
   refine kv (g1 c11) (eql) ?_
   refine kv g0 (pkT c11) ?_
   refine kv g0 (mv) ?_
   by_cases c12 : a0_1 = 0
   ·rw [if_pos c12] at H
    refine kv (g1 (eT c12)) (faB 2 2) ?_
    refine kv (g1 (eT c12)) (ldB) ?_
    refine kv (g1 (eT c12)) (eql) ?_
    refine kv g0 (pkT (eT c12)) ?_
    refine kv g0 (asg) ?_
    refine wk_end ?_
    refine ac_next ?_
    refine aw_ret ?_
    refine ac_blkR ?_
    refine ac_thenR ?_
    obtain rfl := Option.some.inj H
    exact acr hE [.tmp 2] (.tmp .nil) (.one _) [] 9999
   rw [if_neg c12] at H
   refine kx (hT (eF c12)) ?_
   refine kx (hT (eF c12)) ?_
   refine kx (hT (eF c12)) ?_
   refine kv g0 (pkF (eF c12)) ?_
   refine kv g0 (asg) ?_
   refine wk_end ?_
   refine ac_next ?_
   refine aw_ret ?_
   refine ac_blkR ?_
   refine ac_thenR ?_
   obtain rfl := Option.some.inj H
   exact acr hE [.tmp 2] (.tmp .nil) (.one _) [] 9999
  rw [if_neg c11] at H
  refine kx (hT (bF c11)) ?_
  refine kx (hT (bF c11)) ?_
  refine kx (hT (bF c11)) ?_
  refine kv g0 (pkF (bF c11)) ?_
  refine kv g0 (mv) ?_
  refine kx (hT rfl) ?_
  refine kx (hT rfl) ?_
  refine kx (hT rfl) ?_
  refine kv g0 (pkF rfl) ?_
  refine kv g0 (asg) ?_
  refine wk_end ?_
  refine ac_next ?_
  refine aw_ret ?_
  refine ac_blkR ?_
  refine ac_thenR ?_
  obtain rfl := Option.some.inj H
  exact acr hE [.tmp 2] (.tmp .nil) (.one _) [] 9999
 rw [if_neg c8] at H
 refine aw_ifF ?_ (eF c8)
 refine aw_skip ?_
 refine ac_blkN ?_
 refine ac_next ?_
 refine aw_grp1 ?_
 refine wk_start ?_
 refine kv g0 (asg) ?_
 refine wk_end ?_
 refine ac_next ?_
 refine aw_ret ?_
 obtain rfl := Option.some.inj H
 exact acr hE [.tmp 2] (.tmp .nil) (.one _) [] 9999
/-! impl_FrameOk -/
def impl_FrameOk.f (a0_0 : Int) (a0_1 : Int) (a0_2 : Int) (a0_3 : Int) (a0_4 : Int) (a0_5 : Int) (a0_6 : Int) : Option (Bool) := (impl_isPid.f a0_1).bind fun t1 => (if t1 = true then ((impl_within.f a0_2 1 1000000000).bind fun t4 => if t4 = true then if a0_0 = 1 then ((impl_ItemOk.f a0_3 a0_4 a0_5 a0_6).bind fun t8 => some t8) else if a0_0 = 2 then some (a0_3 == 0 && (a0_4 == 0 && (a0_5 == 0 && (a0_6 == 0)))) else some false else some false) else some false)
theorem impl_FrameOk.ok {a0_0 : Int} {a0_1 : Int} {a0_2 : Int} {a0_3 : Int} {a0_4 : Int} {a0_5 : Int} {a0_6 : Int} {r : Bool} (H : impl_FrameOk.f a0_0 a0_1 a0_2 a0_3 a0_4 a0_5 a0_6 = some r) : ACalls Try.prog 14 [] [.agg [.lit (.int .i64 a0_0), .lit (.int .i64 a0_1), .lit (.int .i64 a0_2), .lit (.int .i64 a0_3), .lit (.int .i64 a0_4), .lit (.int .i64 a0_5), .lit (.int .i64 a0_6)]] [] (.lit (.bool r)) := by
 refine acalls (fn := Try.f14) (nt := 26) Try.func14 rfl rfl (Nat.le_of_ble_eq_true rfl) fun E hE => ?_
 rw [impl_FrameOk.f] at H
 refine aw_grp1 ?_
 refine wk_start ?_
 refine kb g0 (bxA 0) ?_
 refine kv g0 (asg) ?_
 refine wk_end ?_
 refine ac_next ?_
 refine aw_grp1 ?_
 refine aw_grp1 ?_
 refine wk_start ?_
 refine kv g0 (faB 1 1) ?_
 refine kv g0 (ldB) ?_
 obtain ⟨t1, A2, H⟩ := of_bind H
 refine kcS0 5 (.lit (.bool t1)) [] g0 (cal (impl_isPid.ok A2) [] 9999 .n (hf := Try.func34)) rfl rfl ?_
 refine kv g0 (not_) ?_
 refine kv g0 (mv) ?_
 by_cases c3 : t1 = true
 ·rw [if_pos c3] at H
  refine kv (g1 (nF c3)) (faB 2 2) ?_
  refine kv (g1 (nF c3)) (ldB) ?_
  obtain ⟨t4, A5, H⟩ := of_bind H
  refine kcS0 10 (.lit (.bool t4)) [] (g1 (nF c3)) (cal (impl_within.ok A5) [] 9999 .n (hf := Try.func35)) rfl rfl ?_
  refine kv (g1 (nF c3)) (not_) ?_
  refine kv g0 (pkF (nF c3)) ?_
  refine wk_end ?_
  refine ac_next ?_
  by_cases c6 : t4 = true
  ·rw [if_pos c6] at H
   refine aw_ifF ?_ (nF c6)
   refine aw_skip ?_
   refine ac_next ?_
   refine aw_grp1 ?_
   refine aw_grp1 ?_
   refine wk_start ?_
   refine kv g0 (faB 0 0) ?_
   refine kv g0 (ldB) ?_
   refine wk_end ?_
   refine ac_next ?_
   refine aw_block ?_
   refine aw_grp1 ?_
   refine wk_start ?_
   refine kv g0 (eql) ?_
   refine kv g0 (asg) ?_
   refine wk_end ?_
   refine ac_next ?_
   by_cases c7 : a0_0 = 1
   ·rw [if_pos c7] at H
    refine aw_ifT ?_ (eT c7)
    refine aw_grp1 ?_
    refine wk_start ?_
    refine kv g0 (faB 3 3) ?_
    refine kv g0 (ldBA 4 [.lit (.int .i64 a0_3), .lit (.int .i64 a0_4), .lit (.int .i64 a0_5), .lit (.int .i64 a0_6)]) ?_
    obtain ⟨t8, A9, H⟩ := of_bind H
    refine kcS0 19 (.lit (.bool t8)) [] g0 (cal (impl_ItemOk.ok A9) [] 9999 .n (hf := Try.func36)) rfl rfl ?_
    refine kv g0 (asg) ?_
    refine wk_end ?_
    refine ac_next ?_
    refine aw_ret ?_
    refine ac_blkR ?_
    refine ac_thenR ?_
    obtain rfl := Option.some.inj H
    exact acr hE [.tmp 2] (.tmp .nil) (.one _) [] 9999
   rw [if_neg c7] at H
   refine aw_ifF ?_ (eF c7)
   refine aw_grp1 ?_
   refine wk_start ?_
   refine kv g0 (eql) ?_
   refine kv g0 (asg) ?_
   refine wk_end ?_
   refine ac_next ?_
   by_cases c10 : a0_0 = 2
   ·rw [if_pos c10] at H
    refine aw_ifT ?_ (eT c10)
    refine aw_grp1 ?_
    refine wk_start ?_
    refine kv g0 (faB 3 3) ?_
    refine kv g0 (ldBA 4 [.lit (.int .i64 a0_3), .lit (.int .i64 a0_4), .lit (.int .i64 a0_5), .lit (.int .i64 a0_6)]) ?_
    refine kv g0 (bld [(0, 1), (1, 1), (2, 1), (3, 1)] [.int .i64 0, .int .i64 0, .int .i64 0, .int .i64 0] [.lit (.int .i64 0), .lit (.int .i64 0), .lit (.int .i64 0), .lit (.int .i64 0)]) ?_
    refine kv g0 (eqS (fun w => eq25 _ w a0_3 a0_4 a0_5 a0_6 0 0 0 0)) ?_
    refine kv g0 (asg) ?_
    refine wk_end ?_
    refine ac_next ?_
    refine aw_ret ?_
    refine ac_blkR ?_
    refine ac_thenR ?_
    obtain rfl := Option.some.inj H
    exact acr hE [.tmp 2] (.tmp .nil) (.one _) [] 9999
   rw [if_neg c10] at H
   refine aw_ifF ?_ (eF c10)
   refine aw_skip ?_
   refine ac_blkN ?_
   refine ac_next ?_
   refine aw_grp1 ?_
   refine wk_start ?_
   refine kv g0 (asg) ?_
   refine wk_end ?_
   refine ac_next ?_
   refine aw_ret ?_
   obtain rfl := Option.some.inj H
   exact acr hE [.tmp 2] (.tmp .nil) (.one _) [] 9999
  rw [if_neg c6] at H
  refine aw_ifT ?_ (nT (bF c6))
  refine aw_grp1 ?_
  refine wk_start ?_
  refine kv g0 (asg) ?_
  refine wk_end ?_
  refine ac_next ?_
  refine aw_ret ?_
  refine ac_thenR ?_
  obtain rfl := Option.some.inj H
  exact acr hE [.tmp 2] (.tmp .nil) (.one _) [] 9999
 rw [if_neg c3] at H
 refine kx (hF (nT (bF c3))) ?_
 refine kx (hF (nT (bF c3))) ?_
 refine kx (hF (nT (bF c3))) ?_
 refine kx (hF (nT (bF c3))) ?_
 refine kv g0 (pkT (nT (bF c3))) ?_
 refine wk_end ?_
 refine ac_next ?_
 refine aw_ifT ?_ rfl
 refine aw_grp1 ?_
 refine wk_start ?_
 refine kv g0 (asg) ?_
 refine wk_end ?_
 refine ac_next ?_
 refine aw_ret ?_
 refine ac_thenR ?_
 obtain rfl := Option.some.inj H
 exact acr hE [.tmp 2] (.tmp .nil) (.one _) [] 9999
/-! impl_VarText -/
def impl_VarText.l0 : Nat → Int → (List Int) → Option (ByteArray × Bool)
 | 0, _, _ => none
 | k9 + 1, p7, q8 => if p7 > 127 then if q8.length + ([IntKind.u8.wrap (bits .or .i64 (bits .and .i64 p7 127) 128)] : List Int).length < 140737488355328 then impl_VarText.l0 k9 (p7.fdiv (2 ^ 7)) (q8 ++ ([IntKind.u8.wrap (bits .or .i64 (bits .and .i64 p7 127) 128)] : List Int)) else none else if q8.length + ([IntKind.u8.wrap p7] : List Int).length < 140737488355328 then some (strOfNums (q8 ++ ([IntKind.u8.wrap p7] : List Int)), true) else none
def impl_VarText.f (k : Nat) (a0 : Int) : Option (ByteArray × Bool) := (impl_within.f a0 0 1000000000).bind fun t1 => if t1 = true then impl_VarText.l0 k a0 ([] : List Int) else some (ByteArray.empty, false)
theorem impl_VarText.ok {k : Nat} {a0 : Int} {r : ByteArray × Bool} (H : impl_VarText.f k a0 = some r) : ACalls Try.prog 17 [] [.lit (.int .i64 a0)] [] (.tup [.lit (.string r.1), .lit (.bool r.2)]) := by
 refine acalls (fn := Try.f17) (nt := 26) Try.func17 rfl rfl (Nat.le_of_ble_eq_true rfl) fun E hE => ?_
 rw [impl_VarText.f] at H
 refine aw_grp1 ?_
 refine wk_start ?_
 refine kv g0 (asg) ?_
 refine kv g0 (asg) ?_
 refine wk_end ?_
 refine ac_next ?_
 refine aw_grp1 ?_
 refine aw_grp1 ?_
 refine wk_start ?_
 refine kv g0 (mv) ?_
 obtain ⟨t1, A2, H⟩ := of_bind H
 refine kcS0 6 (.lit (.bool t1)) [] g0 (cal (impl_within.ok A2) [] 9999 .n (hf := Try.func35)) rfl rfl ?_
 refine kv g0 (not_) ?_
 refine wk_end ?_
 refine ac_next ?_
 by_cases c3 : t1 = true
 ·rw [if_pos c3] at H
  refine aw_ifF ?_ (nF c3)
  refine aw_skip ?_
  refine ac_next ?_
  refine aw_grp1 ?_
  refine wk_start ?_
  refine kb g0 (bsl 0 5 1 [.int .u8 0] (([] : List Int).map (eI .u8))) ?_
  refine kv g0 (asg) ?_
  refine wk_end ?_
  refine ac_next ?_
  refine aw_grp1 ?_
  refine aw_block ?_
  refine aw_loop2 (fun (k_ : Nat) (p7 : Int) (q8 : List Int) => k_ ≤ k ∧ impl_VarText.l0 k_ p7 q8 = some r) (fun (p7 : Int) (q8 : List Int) => ⟨[(0, .lit (.int .i64 p7)), (4, .row 0)], [(0, .row 5 1 (q8.map (eI .u8)))]⟩) k a0 ([] : List Int) ⟨Nat.le_refl _, H⟩ (fun K_ h_ => acw hE [(0, 0)] 9999 h_) (fun _ _ => by intro h_; have h_ := h_.2; rw [impl_VarText.l0.eq_1] at h_; cases h_) ?_
  intro k9 p7 q8 hq_ K12 hK13
  have hk9 := hq_.1
  have H := hq_.2
  clear hq_
  rw [impl_VarText.l0.eq_2] at H
  refine aw_grp1 ?_
  refine aw_grp1 ?_
  refine wk_start ?_
  refine kv g0 (mv) ?_
  refine kv g0 (gtr) ?_
  refine wk_end ?_
  refine ac_next ?_
  by_cases c10 : p7 > 127
  ·rw [if_pos c10] at H
   refine aw_ifT ?_ (decide_eq_true c10)
   refine aw_skip ?_
   refine ac_next ?_
   refine aw_block ?_
   refine aw_grp1 ?_
   refine wk_start ?_
   refine kv g0 (mv) ?_
   refine kv g0 (mv) ?_
   refine kv g0 (band) ?_
   refine kv g0 (bor) ?_
   refine kv g0 (cnv .u8) ?_
   refine kb g0 (bsl 1 5 1 [.int .u8 0] (([IntKind.u8.wrap (bits .or .i64 (bits .and .i64 p7 127) 128)] : List Int).map (eI .u8))) ?_
   obtain ⟨c11, H⟩ := of_if H
   refine kc g0 (apR 2 5 1 1 [.int .u8 0] ((q8 ++ ([IntKind.u8.wrap (bits .or .i64 (bits .and .i64 p7 127) 128)] : List Int)).map (eI .u8)) (.row rfl) (apb c11 rfl) appE) ?_
   refine kv g0 (asg) ?_
   refine wk_end ?_
   refine ac_next ?_
   refine wk_start ?_
   refine kv g0 (mv) ?_
   refine kv g0 (shr (by decide : (0 : Int) ≤ 7)) ?_
   refine kv g0 (asg) ?_
   refine wk_end ?_
   refine ac_blkN ?_
   refine ac_k ?_
   exact acw hE [(0, 2)] 9999 (hK13 k9 (p7.fdiv (2 ^ 7)) (q8 ++ ([IntKind.u8.wrap (bits .or .i64 (bits .and .i64 p7 127) 128)] : List Int)) (Nat.le_refl _) ⟨by omega, H⟩)
  rw [if_neg c10] at H
  refine aw_ifF ?_ (decide_eq_false c10)
  refine aw_exit ?_
  refine ac_then ?_
  refine ac_then ?_
  refine ac_hit rfl ?_
  refine ac_next ?_
  refine aw_grp1 ?_
  refine wk_start ?_
  refine kv g0 (mv) ?_
  refine kv g0 (mv) ?_
  refine kv g0 (cnv .u8) ?_
  refine kb g0 (bsl 3 5 1 [.int .u8 0] (([IntKind.u8.wrap p7] : List Int).map (eI .u8))) ?_
  obtain ⟨c14, H⟩ := of_if H
  refine kc g0 (apR 4 5 1 1 [.int .u8 0] ((q8 ++ ([IntKind.u8.wrap p7] : List Int)).map (eI .u8)) (.row rfl) (apb c14 rfl) appE) ?_
  refine kv g0 (cvB (.row rfl)) ?_
  refine kv g0 (asg) ?_
  refine kv g0 (asg) ?_
  refine wk_end ?_
  refine ac_next ?_
  refine aw_ret ?_
  obtain rfl := Option.some.inj H
  exact acr hE [.tmp 2, .tmp 3] (.tmp (.tmp .nil)) (.many _ _ _) [] 9999
 rw [if_neg c3] at H
 refine aw_ifT ?_ (nT (bF c3))
 refine aw_grp1 ?_
 refine wk_start ?_
 refine kv g0 (asg) ?_
 refine kv g0 (asg) ?_
 refine wk_end ?_
 refine ac_next ?_
 refine aw_ret ?_
 refine ac_thenR ?_
 obtain rfl := Option.some.inj H
 exact acr hE [.tmp 2, .tmp 3] (.tmp (.tmp .nil)) (.many _ _ _) [] 9999
/-! impl_four -/
def impl_four.f (a0 : Int) : Option (ByteArray) := some (strOfNums ([IntKind.u8.wrap (a0.fdiv (2 ^ 24)), IntKind.u8.wrap (a0.fdiv (2 ^ 16)), IntKind.u8.wrap (a0.fdiv (2 ^ 8)), IntKind.u8.wrap a0] : List Int))
theorem impl_four.ok {a0 : Int} {r : ByteArray} (H : impl_four.f a0 = some r) : ACalls Try.prog 19 [] [.lit (.int .i64 a0)] [] (.lit (.string r)) := by
 refine acalls (fn := Try.f19) (nt := 16) Try.func19 rfl rfl (Nat.le_of_ble_eq_true rfl) fun E hE => ?_
 rw [impl_four.f] at H
 refine aw_grp1 ?_
 refine wk_start ?_
 refine kv g0 (asg) ?_
 refine wk_end ?_
 refine ac_next ?_
 refine aw_grp1 ?_
 refine wk_start ?_
 refine kv g0 (mv) ?_
 refine kv g0 (shr (by decide : (0 : Int) ≤ 24)) ?_
 refine kv g0 (cnv .u8) ?_
 refine kv g0 (mv) ?_
 refine kv g0 (shr (by decide : (0 : Int) ≤ 16)) ?_
 refine kv g0 (cnv .u8) ?_
 refine kv g0 (mv) ?_
 refine kv g0 (shr (by decide : (0 : Int) ≤ 8)) ?_
 refine kv g0 (cnv .u8) ?_
 refine kv g0 (mv) ?_
 refine kv g0 (cnv .u8) ?_
 refine kb g0 (bsl 0 5 1 [.int .u8 0] (([IntKind.u8.wrap (a0.fdiv (2 ^ 24)), IntKind.u8.wrap (a0.fdiv (2 ^ 16)), IntKind.u8.wrap (a0.fdiv (2 ^ 8)), IntKind.u8.wrap a0] : List Int).map (eI .u8))) ?_
 refine kv g0 (cvB (.row rfl)) ?_
 refine kv g0 (asg) ?_
 refine wk_end ?_
 refine ac_next ?_
 refine aw_ret ?_
 obtain rfl := Option.some.inj H
 exact acr hE [.tmp 2] (.tmp .nil) (.one _) [] 9999
/-! impl_SumMore -/
mutual
def impl_SumMore.l0 : Nat → ByteArray → Int → Int → Int → Option (Int)
 | 0, _, _, _, _ => none
 | k21 + 1, a1, p13, p19, p20 => if p20 < 8 then if (bits .and .u32 p19 1) = 1 then impl_SumMore.l0 k21 a1 p13 (bits .xor .u32 (p19.fdiv (2 ^ 1)) 3558460437) (wrap64 (p20 + 1)) else impl_SumMore.l0 k21 a1 p13 (p19.fdiv (2 ^ 1)) (wrap64 (p20 + 1)) else impl_SumMore.l1 k21 a1 p19 (wrap64 (p13 + 1))
def impl_SumMore.l1 : Nat → ByteArray → Int → Int → Option (Int)
 | 0, _, _, _ => none
 | k14 + 1, a1, p12, p13 => if p13 < (a1.size : Int) then if 0 ≤ p13 then impl_SumMore.l0 k14 a1 p13 (bits .xor .u32 p12 (IntKind.u32.wrap (bt a1 p13))) 0 else none else some p12
end
def impl_SumMore.f (k : Nat) (a0 : Int) (a1 : ByteArray) : Option (Int) := impl_SumMore.l1 k a1 a0 0
theorem impl_SumMore.ok {k : Nat} {a0 : Int} {a1 : ByteArray} {r : Int} (H : impl_SumMore.f k a0 a1 = some r) : ACalls Try.prog 47 [] [.lit (.int .u32 a0), .lit (.string a1)] [] (.lit (.int .u32 r)) := by
 refine acalls (fn := Try.f47) (nt := 31) Try.func47 rfl rfl (Nat.le_of_ble_eq_true rfl) fun E hE => ?_
 rw [impl_SumMore.f] at H
 refine aw_grp1 ?_
 refine wk_start ?_
 refine kv g0 (asg) ?_
 refine wk_end ?_
 refine ac_next ?_
 refine aw_grp1 ?_
 refine aw_grp1 ?_
 refine wk_start ?_
 refine kv g0 (asg) ?_
 refine wk_end ?_
 refine ac_next ?_
 refine aw_block ?_
 refine aw_loop2 (fun (k_ : Nat) (p12 : Int) (p13 : Int) => k_ ≤ k ∧ impl_SumMore.l1 k_ a1 p12 p13 = some r) (fun (p12 : Int) (p13 : Int) => ⟨[(0, .lit (.int .u32 p12)), (1, .lit (.string a1)), (5, .lit (.int .i64 p13))], []⟩) k a0 0 ⟨Nat.le_refl _, H⟩ (fun K_ h_ => acw hE [] 9999 h_) (fun _ _ => by intro h_; have h_ := h_.2; rw [impl_SumMore.l1.eq_1] at h_; cases h_) ?_
 intro k14 p12 p13 hq_ K26 hK27
 have hk14 := hq_.1
 have H := hq_.2
 clear hq_
 rw [impl_SumMore.l1.eq_2] at H
 refine aw_grp1 ?_
 refine aw_grp1 ?_
 refine wk_start ?_
 refine kv g0 (mv) ?_
 refine kv g0 (mv) ?_
 refine kv g0 (lnT) ?_
 refine kv g0 (lss) ?_
 refine wk_end ?_
 refine ac_next ?_
 by_cases c15 : p13 < (a1.size : Int)
 ·rw [if_pos c15] at H
  refine aw_ifT ?_ (decide_eq_true c15)
  refine aw_skip ?_
  refine ac_next ?_
  refine aw_grp1 ?_
  refine aw_block ?_
  refine aw_grp1 ?_
  refine wk_start ?_
  refine kv g0 (mv) ?_
  refine kv g0 (mv) ?_
  refine kv g0 (mv) ?_
  obtain ⟨c16, H⟩ := of_if H
  refine kv g0 (ixT c16 c15) ?_
  refine kv g0 (cnv .u32) ?_
  refine kv g0 (bxor) ?_
  refine kv g0 (asg) ?_
  refine wk_end ?_
  refine ac_next ?_
  refine aw_grp1 ?_
  refine wk_start ?_
  refine kv g0 (mv) ?_
  refine wk_end ?_
  refine ac_next ?_
  refine aw_block ?_
  refine aw_loop2 (fun (k_ : Nat) (p19 : Int) (p20 : Int) => k_ ≤ k14 ∧ impl_SumMore.l0 k_ a1 p13 p19 p20 = some r) (fun (p19 : Int) (p20 : Int) => ⟨[(0, .lit (.int .u32 p19)), (1, .lit (.string a1)), (5, .lit (.int .i64 p13)), (19, .lit (.int .i64 p20))], []⟩) k14 (bits .xor .u32 p12 (IntKind.u32.wrap (bt a1 p13))) 0 ⟨Nat.le_refl _, H⟩ (fun K_ h_ => acw hE [] 9999 h_) (fun _ _ => by intro h_; have h_ := h_.2; rw [impl_SumMore.l0.eq_1] at h_; cases h_) ?_
  intro k21 p19 p20 hq_ K24 hK25
  have hk21 := hq_.1
  have H := hq_.2
  clear hq_
  rw [impl_SumMore.l0.eq_2] at H
  refine aw_grp1 ?_
  refine wk_start ?_
  refine kv g0 (lss) ?_
  refine wk_end ?_
  refine ac_next ?_
  refine aw_grp1 ?_
  by_cases c22 : p20 < 8
  ·rw [if_pos c22] at H
   refine aw_ifT ?_ (decide_eq_true c22)
   refine aw_skip ?_
   refine ac_next ?_
   refine aw_grp1 ?_
   refine aw_block ?_
   refine aw_grp1 ?_
   refine wk_start ?_
   refine kv g0 (mv) ?_
   refine kv g0 (band) ?_
   refine kv g0 (asg) ?_
   refine wk_end ?_
   refine ac_next ?_
   refine aw_grp1 ?_
   refine wk_start ?_
   refine kv g0 (mv) ?_
   refine kv g0 (shr (by decide : (0 : Int) ≤ 1)) ?_
   refine kv g0 (asg) ?_
   refine wk_end ?_
   refine ac_next ?_
   refine aw_grp1 ?_
   refine wk_start ?_
   refine kv g0 (mv) ?_
   refine kv g0 (eql) ?_
   refine wk_end ?_
   refine ac_next ?_
   by_cases c23 : (bits .and .u32 p19 1) = 1
   ·rw [if_pos c23] at H
    refine aw_ifT ?_ (eT c23)
    refine wk_start ?_
    refine kv g0 (mv) ?_
    refine kv g0 (bxor) ?_
    refine kv g0 (asg) ?_
    refine wk_end ?_
    refine ac_blkN ?_
    refine ac_next ?_
    refine wk_start ?_
    refine kv g0 (add6) ?_
    refine kv g0 (mv) ?_
    refine wk_end ?_
    refine ac_k ?_
    exact acw hE [] 9999 (hK25 k21 (bits .xor .u32 (p19.fdiv (2 ^ 1)) 3558460437) (wrap64 (p20 + 1)) (Nat.le_refl _) ⟨by omega, H⟩)
   rw [if_neg c23] at H
   refine aw_ifF ?_ (eF c23)
   refine aw_skip ?_
   refine ac_blkN ?_
   refine ac_next ?_
   refine wk_start ?_
   refine kv g0 (add6) ?_
   refine kv g0 (mv) ?_
   refine wk_end ?_
   refine ac_k ?_
   exact acw hE [] 9999 (hK25 k21 (p19.fdiv (2 ^ 1)) (wrap64 (p20 + 1)) (Nat.le_refl _) ⟨by omega, H⟩)
  rw [if_neg c22] at H
  refine aw_ifF ?_ (decide_eq_false c22)
  refine aw_exit ?_
  refine ac_then ?_
  refine ac_then ?_
  refine ac_hit rfl ?_
  refine ac_blkN ?_
  refine ac_next ?_
  refine wk_start ?_
  refine kv g0 (mv) ?_
  refine kv g0 (add6) ?_
  refine kv g0 (asg) ?_
  refine wk_end ?_
  refine ac_k ?_
  exact acw hE [] 9999 (hK27 k21 p19 (wrap64 (p13 + 1)) (by omega) ⟨by omega, H⟩)
 rw [if_neg c15] at H
 refine aw_ifF ?_ (decide_eq_false c15)
 refine aw_exit ?_
 refine ac_then ?_
 refine ac_then ?_
 refine ac_hit rfl ?_
 refine ac_next ?_
 refine aw_grp1 ?_
 refine wk_start ?_
 refine kv g0 (mv) ?_
 refine kv g0 (asg) ?_
 refine wk_end ?_
 refine ac_next ?_
 refine aw_ret ?_
 obtain rfl := Option.some.inj H
 exact acr hE [.tmp 4] (.tmp .nil) (.one _) [] 9999
/-! impl_SumOf -/
def impl_SumOf.f (k : Nat) (a0 : ByteArray) : Option (Int) := (impl_SumMore.f k 4294967295 a0).bind fun t1 => some t1
theorem impl_SumOf.ok {k : Nat} {a0 : ByteArray} {r : Int} (H : impl_SumOf.f k a0 = some r) : ACalls Try.prog 39 [] [.lit (.string a0)] [] (.lit (.int .u32 r)) := by
 refine acalls (fn := Try.f39) (nt := 5) Try.func39 rfl rfl (Nat.le_of_ble_eq_true rfl) fun E hE => ?_
 rw [impl_SumOf.f] at H
 refine aw_grp1 ?_
 refine wk_start ?_
 refine kv g0 (asg) ?_
 refine wk_end ?_
 refine ac_next ?_
 refine aw_grp1 ?_
 refine wk_start ?_
 refine kv g0 (mv) ?_
 obtain ⟨t1, A2, H⟩ := of_bind H
 refine kcS0 4 (.lit (.int .u32 t1)) [] g0 (cal (impl_SumMore.ok A2) [] 9999 .n (hf := Try.func47)) rfl rfl ?_
 refine kv g0 (asg) ?_
 refine wk_end ?_
 refine ac_next ?_
 refine aw_ret ?_
 obtain rfl := Option.some.inj H
 exact acr hE [.tmp 2] (.tmp .nil) (.one _) [] 9999
/-! impl_Sealed -/
def impl_Sealed.f (k : Nat) (a0 : ByteArray) : Option (ByteArray × Bool) := if (a0.size : Int) > 20000 then some (ByteArray.empty, false) else (impl_SumOf.f k a0).bind fun t2 => ((impl_four.f (wrap64 t2)).bind fun t4 => (if a0.size + t4.size ≤ 9223372036854775807 then some (a0 ++ t4, true) else none))
theorem impl_Sealed.ok {k : Nat} {a0 : ByteArray} {r : ByteArray × Bool} (H : impl_Sealed.f k a0 = some r) : ACalls Try.prog 18 [] [.lit (.string a0)] [] (.tup [.lit (.string r.1), .lit (.bool r.2)]) := by
 refine acalls (fn := Try.f18) (nt := 13) Try.func18 rfl rfl (Nat.le_of_ble_eq_true rfl) fun E hE => ?_
 rw [impl_Sealed.f] at H
 refine aw_grp1 ?_
 refine wk_start ?_
 refine kv g0 (asg) ?_
 refine kv g0 (asg) ?_
 refine wk_end ?_
 refine ac_next ?_
 refine aw_grp1 ?_
 refine aw_grp1 ?_
 refine wk_start ?_
 refine kv g0 (mv) ?_
 refine kv g0 (lnT) ?_
 refine kv g0 (gtr) ?_
 refine wk_end ?_
 refine ac_next ?_
 by_cases c1 : (a0.size : Int) > 20000
 ·rw [if_pos c1] at H
  refine aw_ifT ?_ (decide_eq_true c1)
  refine aw_grp1 ?_
  refine wk_start ?_
  refine kv g0 (asg) ?_
  refine kv g0 (asg) ?_
  refine wk_end ?_
  refine ac_next ?_
  refine aw_ret ?_
  refine ac_thenR ?_
  obtain rfl := Option.some.inj H
  exact acr hE [.tmp 2, .tmp 3] (.tmp (.tmp .nil)) (.many _ _ _) [] 9999
 rw [if_neg c1] at H
 refine aw_ifF ?_ (decide_eq_false c1)
 refine aw_skip ?_
 refine ac_next ?_
 refine aw_grp1 ?_
 refine wk_start ?_
 refine kv g0 (mv) ?_
 refine kv g0 (mv) ?_
 obtain ⟨t2, A3, H⟩ := of_bind H
 refine kcS0 9 (.lit (.int .u32 t2)) [] g0 (cal (impl_SumOf.ok A3) [] 9999 .n (hf := Try.func39)) rfl rfl ?_
 refine kv g0 (cnv6) ?_
 obtain ⟨t4, A5, H⟩ := of_bind H
 refine kcS0 11 (.lit (.string t4)) [] g0 (cal (impl_four.ok A5) [] 9999 .n (hf := Try.func19)) rfl rfl ?_
 obtain ⟨c6, H⟩ := of_if H
 refine kv g0 (cat c6) ?_
 refine kv g0 (asg) ?_
 refine kv g0 (asg) ?_
 refine wk_end ?_
 refine ac_next ?_
 refine aw_ret ?_
 obtain rfl := Option.some.inj H
 exact acr hE [.tmp 2, .tmp 3] (.tmp (.tmp .nil)) (.many _ _ _) [] 9999
/-! impl_FrameText -/
def impl_FrameText.f (k : Nat) (a0_0 : Int) (a0_1 : Int) (a0_2 : Int) (a0_3 : Int) (a0_4 : Int) (a0_5 : Int) (a0_6 : Int) : Option (ByteArray × Bool) := (impl_FrameOk.f a0_0 a0_1 a0_2 a0_3 a0_4 a0_5 a0_6).bind fun t1 => if t1 = true then (impl_VarText.f k a0_2).bind fun t4 => (impl_VarText.f k a0_6).bind fun t6 => if (strOfNums ([IntKind.u8.wrap a0_0, IntKind.u8.wrap a0_1] : List Int)).size + t4.1.size ≤ 9223372036854775807 then (if ((strOfNums ([IntKind.u8.wrap a0_0, IntKind.u8.wrap a0_1] : List Int)) ++ t4.1).size + (strOfNums ([IntKind.u8.wrap a0_3] : List Int)).size ≤ 9223372036854775807 then ((impl_four.f a0_4).bind fun t10 => (if (((strOfNums ([IntKind.u8.wrap a0_0, IntKind.u8.wrap a0_1] : List Int)) ++ t4.1) ++ (strOfNums ([IntKind.u8.wrap a0_3] : List Int))).size + t10.size ≤ 9223372036854775807 then ((impl_four.f a0_5).bind fun t13 => (if ((((strOfNums ([IntKind.u8.wrap a0_0, IntKind.u8.wrap a0_1] : List Int)) ++ t4.1) ++ (strOfNums ([IntKind.u8.wrap a0_3] : List Int))) ++ t10).size + t13.size ≤ 9223372036854775807 then (if (((((strOfNums ([IntKind.u8.wrap a0_0, IntKind.u8.wrap a0_1] : List Int)) ++ t4.1) ++ (strOfNums ([IntKind.u8.wrap a0_3] : List Int))) ++ t10) ++ t13).size + t6.1.size ≤ 9223372036854775807 then ((impl_Sealed.f k ((((((strOfNums ([IntKind.u8.wrap a0_0, IntKind.u8.wrap a0_1] : List Int)) ++ t4.1) ++ (strOfNums ([IntKind.u8.wrap a0_3] : List Int))) ++ t10) ++ t13) ++ t6.1)).bind fun t17 => some (t17.1, t17.2)) else none) else none)) else none)) else none) else none else some (ByteArray.empty, false)
theorem impl_FrameText.ok {k : Nat} {a0_0 : Int} {a0_1 : Int} {a0_2 : Int} {a0_3 : Int} {a0_4 : Int} {a0_5 : Int} {a0_6 : Int} {r : ByteArray × Bool} (H : impl_FrameText.f k a0_0 a0_1 a0_2 a0_3 a0_4 a0_5 a0_6 = some r) : ACalls Try.prog 6 [] [.agg [.lit (.int .i64 a0_0), .lit (.int .i64 a0_1), .lit (.int .i64 a0_2), .lit (.int .i64 a0_3), .lit (.int .i64 a0_4), .lit (.int .i64 a0_5), .lit (.int .i64 a0_6)]] [] (.tup [.lit (.string r.1), .lit (.bool r.2)]) := by
 refine acalls (fn := Try.f6) (nt := 56) Try.func6 rfl rfl (Nat.le_of_ble_eq_true rfl) fun E hE => ?_
 rw [impl_FrameText.f] at H
 refine aw_grp1 ?_
 refine wk_start ?_
 refine kb g0 (bxA 0) ?_
 refine kv g0 (asg) ?_
 refine kv g0 (asg) ?_
 refine wk_end ?_
 refine ac_next ?_
 refine aw_grp1 ?_
 refine aw_grp1 ?_
 refine wk_start ?_
 refine kv g0 (ldBA 7 [.lit (.int .i64 a0_0), .lit (.int .i64 a0_1), .lit (.int .i64 a0_2), .lit (.int .i64 a0_3), .lit (.int .i64 a0_4), .lit (.int .i64 a0_5), .lit (.int .i64 a0_6)]) ?_
 obtain ⟨t1, A2, H⟩ := of_bind H
 refine kcS0 9 (.lit (.bool t1)) [] g0 (cal (impl_FrameOk.ok A2) [] 9999 .n (hf := Try.func14)) rfl rfl ?_
 refine kv g0 (not_) ?_
 refine wk_end ?_
 refine ac_next ?_
 by_cases c3 : t1 = true
 ·rw [if_pos c3] at H
  refine aw_ifF ?_ (nF c3)
  refine aw_skip ?_
  refine ac_next ?_
  refine aw_grp1 ?_
  refine wk_start ?_
  refine kv g0 (faB 2 2) ?_
  refine kv g0 (ldB) ?_
  obtain ⟨t4, A5, H⟩ := of_bind H
  refine kcS0 14 (.tup [.lit (.string t4.1), .lit (.bool t4.2)]) [] g0 (cal (impl_VarText.ok A5) [] 9999 .n (hf := Try.func17)) rfl rfl ?_
  refine kv g0 (mv) ?_
  refine kv g0 (ext) ?_
  refine kv g0 (ext) ?_
  refine kv g0 (asg) ?_
  refine kv g0 (asg) ?_
  refine wk_end ?_
  refine ac_next ?_
  refine aw_grp1 ?_
  refine wk_start ?_
  refine kv g0 (faB 3 3) ?_
  refine kv g0 (faB 3 6) ?_
  refine kv g0 (ldB) ?_
  obtain ⟨t6, A7, H⟩ := of_bind H
  refine kcS0 21 (.tup [.lit (.string t6.1), .lit (.bool t6.2)]) [] g0 (cal (impl_VarText.ok A7) [] 9999 .n (hf := Try.func17)) rfl rfl ?_
  refine kv g0 (mv) ?_
  refine kv g0 (ext) ?_
  refine kv g0 (ext) ?_
  refine kv g0 (asg) ?_
  refine kv g0 (asg) ?_
  refine wk_end ?_
  refine ac_next ?_
  refine aw_grp1 ?_
  refine wk_start ?_
  refine kv g0 (faB 0 0) ?_
  refine kv g0 (ldB) ?_
  refine kv g0 (cnv .u8) ?_
  refine kv g0 (faB 1 1) ?_
  refine kv g0 (ldB) ?_
  refine kv g0 (cnv .u8) ?_
  refine kb g0 (bsl 1 5 1 [.int .u8 0] (([IntKind.u8.wrap a0_0, IntKind.u8.wrap a0_1] : List Int).map (eI .u8))) ?_
  refine kv g0 (cvB (.row rfl)) ?_
  refine kv g0 (mv) ?_
  obtain ⟨c8, H⟩ := of_if H
  refine kv g0 (cat c8) ?_
  refine kv g0 (faB 3 3) ?_
  refine kv g0 (faB 0 3) ?_
  refine kv g0 (ldB) ?_
  refine kv g0 (cnv .u8) ?_
  refine kb g0 (bsl 2 5 1 [.int .u8 0] (([IntKind.u8.wrap a0_3] : List Int).map (eI .u8))) ?_
  refine kv g0 (cvB (.row rfl)) ?_
  obtain ⟨c9, H⟩ := of_if H
  refine kv g0 (cat c9) ?_
  refine kv g0 (faB 3 3) ?_
  refine kv g0 (faB 1 4) ?_
  refine kv g0 (ldB) ?_
  obtain ⟨t10, A11, H⟩ := of_bind H
  refine kcS0 44 (.lit (.string t10)) [] g0 (cal (impl_four.ok A11) [] 9999 .n (hf := Try.func19)) rfl rfl ?_
  obtain ⟨c12, H⟩ := of_if H
  refine kv g0 (cat c12) ?_
  refine kv g0 (faB 3 3) ?_
  refine kv g0 (faB 2 5) ?_
  refine kv g0 (ldB) ?_
  obtain ⟨t13, A14, H⟩ := of_bind H
  refine kcS0 49 (.lit (.string t13)) [] g0 (cal (impl_four.ok A14) [] 9999 .n (hf := Try.func19)) rfl rfl ?_
  obtain ⟨c15, H⟩ := of_if H
  refine kv g0 (cat c15) ?_
  refine kv g0 (mv) ?_
  obtain ⟨c16, H⟩ := of_if H
  refine kv g0 (cat c16) ?_
  obtain ⟨t17, A18, H⟩ := of_bind H
  refine kcS0 53 (.tup [.lit (.string t17.1), .lit (.bool t17.2)]) [] g0 (cal (impl_Sealed.ok A18) [] 9999 .n (hf := Try.func18)) rfl rfl ?_
  refine kv g0 (ext) ?_
  refine kv g0 (ext) ?_
  refine kv g0 (asg) ?_
  refine kv g0 (asg) ?_
  refine wk_end_draw hM (by kernel_rfl) ?_
  refine ac_next ?_
  refine aw_ret ?_
  obtain rfl := Option.some.inj H
  exact acr hE [.tmp 2, .tmp 3] (.tmp (.tmp .nil)) (.many _ _ _) [] 9999
 rw [if_neg c3] at H
 refine aw_ifT ?_ (nT (bF c3))
 refine aw_grp1 ?_
 refine wk_start ?_
 refine kv g0 (asg) ?_
 refine kv g0 (asg) ?_
 refine wk_end ?_
 refine ac_next ?_
 refine aw_ret ?_
 refine ac_thenR ?_
 obtain rfl := Option.some.inj H
 exact acr hE [.tmp 2, .tmp 3] (.tmp (.tmp .nil)) (.many _ _ _) [] 9999
/-! impl_fourAt -/
def impl_fourAt.f (a0 : ByteArray) (a1 : Int) : Option (Int) := if 0 ≤ a1 then (if a1 < (a0.size : Int) then (if 0 ≤ (wrap64 (a1 + 1)) then (if (wrap64 (a1 + 1)) < (a0.size : Int) then (if 0 ≤ (wrap64 (a1 + 2)) then (if (wrap64 (a1 + 2)) < (a0.size : Int) then (if 0 ≤ (wrap64 (a1 + 3)) then (if (wrap64 (a1 + 3)) < (a0.size : Int) then some (bits .or .i64 (bits .or .i64 (bits .or .i64 (wrap64 ((wrap64 (bt a0 a1)) * 2 ^ 24)) (wrap64 ((wrap64 (bt a0 (wrap64 (a1 + 1)))) * 2 ^ 16))) (wrap64 ((wrap64 (bt a0 (wrap64 (a1 + 2)))) * 2 ^ 8))) (wrap64 (bt a0 (wrap64 (a1 + 3))))) else none) else none) else none) else none) else none) else none) else none) else none
theorem impl_fourAt.ok {a0 : ByteArray} {a1 : Int} {r : Int} (H : impl_fourAt.f a0 a1 = some r) : ACalls Try.prog 22 [] [.lit (.string a0), .lit (.int .i64 a1)] [] (.lit (.int .i64 r)) := by
 refine acalls (fn := Try.f22) (nt := 30) Try.func22 rfl rfl (Nat.le_of_ble_eq_true rfl) fun E hE => ?_
 rw [impl_fourAt.f] at H
 refine aw_grp1 ?_
 refine wk_start ?_
 refine kv g0 (asg) ?_
 refine wk_end ?_
 refine ac_next ?_
 refine aw_grp1 ?_
 refine wk_start ?_
 refine kv g0 (mv) ?_
 refine kv g0 (mv) ?_
 obtain ⟨c1, H⟩ := of_if H
 obtain ⟨c2, H⟩ := of_if H
 refine kv g0 (ixT c1 c2) ?_
 refine kv g0 (cnv6) ?_
 refine kv g0 (shl6 (by decide : (0 : Int) ≤ 24)) ?_
 refine kv g0 (mv) ?_
 refine kv g0 (mv) ?_
 refine kv g0 (add6) ?_
 obtain ⟨c3, H⟩ := of_if H
 obtain ⟨c4, H⟩ := of_if H
 refine kv g0 (ixT c3 c4) ?_
 refine kv g0 (cnv6) ?_
 refine kv g0 (shl6 (by decide : (0 : Int) ≤ 16)) ?_
 refine kv g0 (bor) ?_
 refine kv g0 (mv) ?_
 refine kv g0 (mv) ?_
 refine kv g0 (add6) ?_
 obtain ⟨c5, H⟩ := of_if H
 obtain ⟨c6, H⟩ := of_if H
 refine kv g0 (ixT c5 c6) ?_
 refine kv g0 (cnv6) ?_
 refine kv g0 (shl6 (by decide : (0 : Int) ≤ 8)) ?_
 refine kv g0 (bor) ?_
 refine kv g0 (mv) ?_
 refine kv g0 (mv) ?_
 refine kv g0 (add6) ?_
 obtain ⟨c7, H⟩ := of_if H
 obtain ⟨c8, H⟩ := of_if H
 refine kv g0 (ixT c7 c8) ?_
 refine kv g0 (cnv6) ?_
 refine kv g0 (bor) ?_
 refine kv g0 (asg) ?_
 refine wk_end_draw hM (by kernel_rfl) ?_
 refine ac_next ?_
 refine aw_ret ?_
 obtain rfl := Option.some.inj H
 exact acr hE [.tmp 4] (.tmp .nil) (.one _) [] 9999
/-! impl_Unsealed -/
def impl_Unsealed.f (k : Nat) (a0 : ByteArray) : Option (ByteArray × Bool) := (impl_within.f (wrap64 ((a0.size : Int) - 4)) 0 20000).bind fun t1 => (if t1 = true then (if 0 ≤ (wrap64 ((a0.size : Int) - 4)) then (if (wrap64 ((a0.size : Int) - 4)) ≤ (a0.size : Int) then ((impl_SumOf.f k (a0.extract 0 (wrap64 ((a0.size : Int) - 4)).toNat)).bind fun t6 => ((impl_fourAt.f a0 (wrap64 ((a0.size : Int) - 4))).bind fun t8 => if (wrap64 t6) = t8 then some (a0.extract 0 (wrap64 ((a0.size : Int) - 4)).toNat, true) else some (ByteArray.empty, false))) else none) else none) else some (ByteArray.empty, false))
theorem impl_Unsealed.ok {k : Nat} {a0 : ByteArray} {r : ByteArray × Bool} (H : impl_Unsealed.f k a0 = some r) : ACalls Try.prog 20 [] [.lit (.string a0)] [] (.tup [.lit (.string r.1), .lit (.bool r.2)]) := by
 refine acalls (fn := Try.f20) (nt := 25) Try.func20 rfl rfl (Nat.le_of_ble_eq_true rfl) fun E hE => ?_
 rw [impl_Unsealed.f] at H
 refine aw_grp1 ?_
 refine wk_start ?_
 refine kv g0 (asg) ?_
 refine kv g0 (asg) ?_
 refine wk_end ?_
 refine ac_next ?_
 refine aw_grp1 ?_
 refine wk_start ?_
 refine kv g0 (mv) ?_
 refine kv g0 (lnT) ?_
 refine kv g0 (sub6) ?_
 refine kv g0 (asg) ?_
 refine wk_end ?_
 refine ac_next ?_
 refine aw_grp1 ?_
 refine aw_grp1 ?_
 refine wk_start ?_
 refine kv g0 (mv) ?_
 obtain ⟨t1, A2, H⟩ := of_bind H
 refine kcS0 9 (.lit (.bool t1)) [] g0 (cal (impl_within.ok A2) [] 9999 .n (hf := Try.func35)) rfl rfl ?_
 refine kv g0 (not_) ?_
 refine kv g0 (mv) ?_
 by_cases c3 : t1 = true
 ·rw [if_pos c3] at H
  refine kv (g1 (nF c3)) (mv) ?_
  refine kv (g1 (nF c3)) (mv) ?_
  obtain ⟨c4, H⟩ := of_if H
  obtain ⟨c5, H⟩ := of_if H
  refine kv (g1 (nF c3)) (tsH c4 c5) ?_
  obtain ⟨t6, A7, H⟩ := of_bind H
  refine kcS0 15 (.lit (.int .u32 t6)) [] (g1 (nF c3)) (cal (impl_SumOf.ok A7) [] 9999 .n (hf := Try.func39)) rfl rfl ?_
  refine kv (g1 (nF c3)) (cnv6) ?_
  refine kv (g1 (nF c3)) (mv) ?_
  refine kv (g1 (nF c3)) (mv) ?_
  obtain ⟨t8, A9, H⟩ := of_bind H
  refine kcS0 19 (.lit (.int .i64 t8)) [] (g1 (nF c3)) (cal (impl_fourAt.ok A9) [] 9999 .n (hf := Try.func22)) rfl rfl ?_
  refine kv (g1 (nF c3)) (neq) ?_
  refine kv g0 (pkF (nF c3)) ?_
  refine wk_end ?_
  refine ac_next ?_
  by_cases c10 : (wrap64 t6) = t8
  ·rw [if_pos c10] at H
   refine aw_ifF ?_ (eM c10)
   refine aw_skip ?_
   refine ac_next ?_
   refine aw_grp1 ?_
   refine wk_start ?_
   refine kv g0 (mv) ?_
   refine kv g0 (mv) ?_
   refine kv g0 (tsH c4 c5) ?_
   refine kv g0 (asg) ?_
   refine kv g0 (asg) ?_
   refine wk_end ?_
   refine ac_next ?_
   refine aw_ret ?_
   obtain rfl := Option.some.inj H
   exact acr hE [.tmp 2, .tmp 3] (.tmp (.tmp .nil)) (.many _ _ _) [] 9999
  rw [if_neg c10] at H
  refine aw_ifT ?_ (eN c10)
  refine aw_grp1 ?_
  refine wk_start ?_
  refine kv g0 (asg) ?_
  refine kv g0 (asg) ?_
  refine wk_end ?_
  refine ac_next ?_
  refine aw_ret ?_
  refine ac_thenR ?_
  obtain rfl := Option.some.inj H
  exact acr hE [.tmp 2, .tmp 3] (.tmp (.tmp .nil)) (.many _ _ _) [] 9999
 rw [if_neg c3] at H
 refine kx (hF (nT (bF c3))) ?_
 refine kx (hF (nT (bF c3))) ?_
 refine kx (hF (nT (bF c3))) ?_
 refine kx (hF (nT (bF c3))) ?_
 refine kx (hF (nT (bF c3))) ?_
 refine kx (hF (nT (bF c3))) ?_
 refine kx (hF (nT (bF c3))) ?_
 refine kx (hF (nT (bF c3))) ?_
 refine kx (hF (nT (bF c3))) ?_
 refine kv g0 (pkT (nT (bF c3))) ?_
 refine wk_end ?_
 refine ac_next ?_
 refine aw_ifT ?_ rfl
 refine aw_grp1 ?_
 refine wk_start ?_
 refine kv g0 (asg) ?_
 refine kv g0 (asg) ?_
 refine wk_end ?_
 refine ac_next ?_
 refine aw_ret ?_
 refine ac_thenR ?_
 obtain rfl := Option.some.inj H
 exact acr hE [.tmp 2, .tmp 3] (.tmp (.tmp .nil)) (.many _ _ _) [] 9999
/-! impl_ReadVar -/
def impl_ReadVar.l0 : Nat → ByteArray → Int → Int → Int → Option (Int × Int × Bool)
 | 0, _, _, _, _ => none
 | k18 + 1, a0, a1, p16, p17 => if p17 < 5 then if (wrap64 (a1 + p17)) < (a0.size : Int) then if 0 ≤ (wrap64 (a1 + p17)) then (if 0 ≤ (wrap64 (7 * p17)) then if (bt a0 (wrap64 (a1 + p17))) > 127 then impl_ReadVar.l0 k18 a0 a1 (bits .or .i64 p16 (wrap64 ((wrap64 (bits .and .u8 (bt a0 (wrap64 (a1 + p17))) 127)) * 2 ^ (min (wrap64 (7 * p17)).toNat (IntKind.i64).bits)))) (wrap64 (p17 + 1)) else (impl_VarText.f k18 (bits .or .i64 p16 (wrap64 ((wrap64 (bits .and .u8 (bt a0 (wrap64 (a1 + p17))) 127)) * 2 ^ (min (wrap64 (7 * p17)).toNat (IntKind.i64).bits))))).bind fun t24 => if t24.2 = true then (if 0 ≤ a1 then (if a1 ≤ (wrap64 ((wrap64 (a1 + p17)) + 1)) then (if (wrap64 ((wrap64 (a1 + p17)) + 1)) ≤ (a0.size : Int) then if (t24.1.toList == (a0.extract a1.toNat (wrap64 ((wrap64 (a1 + p17)) + 1)).toNat).toList) = true then some (bits .or .i64 p16 (wrap64 ((wrap64 (bits .and .u8 (bt a0 (wrap64 (a1 + p17))) 127)) * 2 ^ (min (wrap64 (7 * p17)).toNat (IntKind.i64).bits))), wrap64 ((wrap64 (a1 + p17)) + 1), true) else some (0, 0, false) else none) else none) else none) else some (0, 0, false) else none) else none else some (0, 0, false) else some (0, 0, false)
def impl_ReadVar.f (k : Nat) (a0 : ByteArray) (a1 : Int) : Option (Int × Int × Bool) := (impl_within.f a1 0 (a0.size : Int)).bind fun t1 => if t1 = true then impl_ReadVar.l0 k a0 a1 0 0 else some (0, 0, false)
theorem impl_ReadVar.ok {k : Nat} {a0 : ByteArray} {a1 : Int} {r : Int × Int × Bool} (H : impl_ReadVar.f k a0 a1 = some r) : ACalls Try.prog 21 [] [.lit (.string a0), .lit (.int .i64 a1)] [] (.tup [.lit (.int .i64 r.1), .lit (.int .i64 r.2.1), .lit (.bool r.2.2)]) := by
 refine acalls (fn := Try.f21) (nt := 69) Try.func21 rfl rfl (Nat.le_of_ble_eq_true rfl) fun E hE => ?_
 rw [impl_ReadVar.f] at H
 refine aw_grp1 ?_
 refine wk_start ?_
 refine kv g0 (asg) ?_
 refine kv g0 (asg) ?_
 refine kv g0 (asg) ?_
 refine wk_end ?_
 refine ac_next ?_
 refine aw_grp1 ?_
 refine aw_grp1 ?_
 refine wk_start ?_
 refine kv g0 (mv) ?_
 refine kv g0 (mv) ?_
 refine kv g0 (lnT) ?_
 obtain ⟨t1, A2, H⟩ := of_bind H
 refine kcS0 14 (.lit (.bool t1)) [] g0 (cal (impl_within.ok A2) [] 9999 .n (hf := Try.func35)) rfl rfl ?_
 refine kv g0 (not_) ?_
 refine wk_end ?_
 refine ac_next ?_
 by_cases c3 : t1 = true
 ·rw [if_pos c3] at H
  refine aw_ifF ?_ (nF c3)
  refine aw_skip ?_
  refine ac_next ?_
  refine aw_grp1 ?_
  refine wk_start ?_
  refine kv g0 (asg) ?_
  refine wk_end ?_
  refine ac_next ?_
  refine aw_grp1 ?_
  refine aw_grp1 ?_
  refine wk_start ?_
  refine kv g0 (asg) ?_
  refine wk_end ?_
  refine ac_next ?_
  refine aw_block ?_
  refine aw_loop2 (fun (k_ : Nat) (p16 : Int) (p17 : Int) => k_ ≤ k ∧ impl_ReadVar.l0 k_ a0 a1 p16 p17 = some r) (fun (p16 : Int) (p17 : Int) => ⟨[(0, .lit (.string a0)), (1, .lit (.int .i64 a1)), (7, .lit (.int .i64 p16)), (8, .lit (.int .i64 p17))], []⟩) k 0 0 ⟨Nat.le_refl _, H⟩ (fun K_ h_ => acw hE [] 9999 h_) (fun _ _ => by intro h_; have h_ := h_.2; rw [impl_ReadVar.l0.eq_1] at h_; cases h_) ?_
  intro k18 p16 p17 hq_ K31 hK32
  have hk18 := hq_.1
  have H := hq_.2
  clear hq_
  rw [impl_ReadVar.l0.eq_2] at H
  refine aw_grp1 ?_
  refine aw_grp1 ?_
  refine wk_start ?_
  refine kv g0 (mv) ?_
  refine kv g0 (lss) ?_
  refine kv g0 (mv) ?_
  by_cases c19 : p17 < 5
  ·rw [if_pos c19] at H
   refine kv (g1 (decide_eq_true c19)) (mv) ?_
   refine kv (g1 (decide_eq_true c19)) (mv) ?_
   refine kv (g1 (decide_eq_true c19)) (add6) ?_
   refine kv (g1 (decide_eq_true c19)) (mv) ?_
   refine kv (g1 (decide_eq_true c19)) (lnT) ?_
   refine kv (g1 (decide_eq_true c19)) (lss) ?_
   refine kv g0 (pkT (decide_eq_true c19)) ?_
   refine wk_end ?_
   refine ac_next ?_
   by_cases c20 : (wrap64 (a1 + p17)) < (a0.size : Int)
   ·rw [if_pos c20] at H
    refine aw_ifT ?_ (decide_eq_true c20)
    refine aw_skip ?_
    refine ac_next ?_
    refine aw_grp1 ?_
    refine aw_block ?_
    refine aw_grp1 ?_
    refine wk_start ?_
    refine kv g0 (mv) ?_
    refine kv g0 (mv) ?_
    refine kv g0 (mv) ?_
    refine kv g0 (mv) ?_
    refine kv g0 (add6) ?_
    obtain ⟨c21, H⟩ := of_if H
    refine kv g0 (ixT c21 c20) ?_
    refine kv g0 (band) ?_
    refine kv g0 (cnv6) ?_
    refine kv g0 (mv) ?_
    refine kv g0 (mul6) ?_
    obtain ⟨c22, H⟩ := of_if H
    refine kv g0 (shl6 c22) ?_
    refine kv g0 (bor) ?_
    refine kv g0 (asg) ?_
    refine wk_end ?_
    refine ac_next ?_
    refine aw_grp1 ?_
    refine aw_grp1 ?_
    refine wk_start ?_
    refine kv g0 (mv) ?_
    refine kv g0 (mv) ?_
    refine kv g0 (mv) ?_
    refine kv g0 (add6) ?_
    refine kv g0 (ixT c21 c20) ?_
    refine kv g0 (gtr) ?_
    refine wk_end ?_
    refine ac_next ?_
    by_cases c23 : (bt a0 (wrap64 (a1 + p17))) > 127
    ·rw [if_pos c23] at H
     refine aw_ifT ?_ (decide_eq_true c23)
     refine aw_exit ?_
     refine ac_then ?_
     refine ac_hit rfl ?_
     refine ac_next ?_
     refine wk_start ?_
     refine kv g0 (mv) ?_
     refine kv g0 (add6) ?_
     refine kv g0 (asg) ?_
     refine wk_end ?_
     refine ac_k ?_
     exact acw hE [] 9999 (hK32 k18 (bits .or .i64 p16 (wrap64 ((wrap64 (bits .and .u8 (bt a0 (wrap64 (a1 + p17))) 127)) * 2 ^ (min (wrap64 (7 * p17)).toNat (IntKind.i64).bits)))) (wrap64 (p17 + 1)) (Nat.le_refl _) ⟨by omega, H⟩)
    rw [if_neg c23] at H
    refine aw_ifF ?_ (decide_eq_false c23)
    refine aw_skip ?_
    refine ac_next ?_
    refine aw_grp1 ?_
    refine aw_grp1 ?_
    refine wk_start ?_
    refine kv g0 (mv) ?_
    obtain ⟨t24, A25, H⟩ := of_bind H
    refine kcS0 48 (.tup [.lit (.string t24.1), .lit (.bool t24.2)]) [] g0 (cal (impl_VarText.ok A25) [] 9999 .n (hf := Try.func17)) rfl rfl ?_
    refine kv g0 (mv) ?_
    refine kv g0 (ext) ?_
    refine kv g0 (ext) ?_
    refine kv g0 (asg) ?_
    refine kv g0 (asg) ?_
    refine wk_end ?_
    refine ac_next ?_
    refine aw_grp1 ?_
    refine wk_start ?_
    refine kv g0 (mv) ?_
    refine kv g0 (not_) ?_
    refine kv g0 (mv) ?_
    by_cases c26 : t24.2 = true
    ·rw [if_pos c26] at H
     refine kv (g1 (nF c26)) (mv) ?_
     refine kv (g1 (nF c26)) (mv) ?_
     refine kv (g1 (nF c26)) (mv) ?_
     refine kv (g1 (nF c26)) (mv) ?_
     refine kv (g1 (nF c26)) (mv) ?_
     refine kv (g1 (nF c26)) (add6) ?_
     refine kv (g1 (nF c26)) (add6) ?_
     obtain ⟨c27, H⟩ := of_if H
     obtain ⟨c28, H⟩ := of_if H
     obtain ⟨c29, H⟩ := of_if H
     refine kv (g1 (nF c26)) (tsLH c27 c28 c29) ?_
     refine kv (g1 (nF c26)) (sne) ?_
     refine kv g0 (pkF (nF c26)) ?_
     refine wk_end ?_
     refine ac_next ?_
     by_cases c30 : (t24.1.toList == (a0.extract a1.toNat (wrap64 ((wrap64 (a1 + p17)) + 1)).toNat).toList) = true
     ·rw [if_pos c30] at H
      refine aw_ifF ?_ (nF c30)
      refine aw_skip ?_
      refine ac_next ?_
      refine aw_grp1 ?_
      refine wk_start ?_
      refine kv g0 (mv) ?_
      refine kv g0 (mv) ?_
      refine kv g0 (mv) ?_
      refine kv g0 (add6) ?_
      refine kv g0 (add6) ?_
      refine kv g0 (asg) ?_
      refine kv g0 (asg) ?_
      refine kv g0 (asg) ?_
      refine wk_end ?_
      refine ac_next ?_
      refine aw_ret ?_
      refine ac_blkR ?_
      refine ac_thenR ?_
      refine ac_thenR ?_
      refine ac_blkR ?_
      refine ac_thenR ?_
      obtain rfl := Option.some.inj H
      exact acr hE [.tmp 4, .tmp 5, .tmp 6] (.tmp (.tmp (.tmp .nil))) (.many _ _ _) [] 9999
     rw [if_neg c30] at H
     refine aw_ifT ?_ (nT (bF c30))
     refine aw_grp1 ?_
     refine wk_start ?_
     refine kv g0 (asg) ?_
     refine kv g0 (asg) ?_
     refine kv g0 (asg) ?_
     refine wk_end ?_
     refine ac_next ?_
     refine aw_ret ?_
     refine ac_thenR ?_
     refine ac_blkR ?_
     refine ac_thenR ?_
     refine ac_thenR ?_
     refine ac_blkR ?_
     refine ac_thenR ?_
     obtain rfl := Option.some.inj H
     exact acr hE [.tmp 4, .tmp 5, .tmp 6] (.tmp (.tmp (.tmp .nil))) (.many _ _ _) [] 9999
    rw [if_neg c26] at H
    refine kx (hF (nT (bF c26))) ?_
    refine kx (hF (nT (bF c26))) ?_
    refine kx (hF (nT (bF c26))) ?_
    refine kx (hF (nT (bF c26))) ?_
    refine kx (hF (nT (bF c26))) ?_
    refine kx (hF (nT (bF c26))) ?_
    refine kx (hF (nT (bF c26))) ?_
    refine kx (hF (nT (bF c26))) ?_
    refine kx (hF (nT (bF c26))) ?_
    refine kv g0 (pkT (nT (bF c26))) ?_
    refine wk_end ?_
    refine ac_next ?_
    refine aw_ifT ?_ rfl
    refine aw_grp1 ?_
    refine wk_start ?_
    refine kv g0 (asg) ?_
    refine kv g0 (asg) ?_
    refine kv g0 (asg) ?_
    refine wk_end ?_
    refine ac_next ?_
    refine aw_ret ?_
    refine ac_thenR ?_
    refine ac_blkR ?_
    refine ac_thenR ?_
    refine ac_thenR ?_
    refine ac_blkR ?_
    refine ac_thenR ?_
    obtain rfl := Option.some.inj H
    exact acr hE [.tmp 4, .tmp 5, .tmp 6] (.tmp (.tmp (.tmp .nil))) (.many _ _ _) [] 9999
   rw [if_neg c20] at H
   refine aw_ifF ?_ (decide_eq_false c20)
   refine aw_exit ?_
   refine ac_then ?_
   refine ac_then ?_
   refine ac_hit rfl ?_
   refine ac_next ?_
   refine aw_grp1 ?_
   refine wk_start ?_
   refine kv g0 (asg) ?_
   refine kv g0 (asg) ?_
   refine kv g0 (asg) ?_
   refine wk_end ?_
   refine ac_next ?_
   refine aw_ret ?_
   obtain rfl := Option.some.inj H
   exact acr hE [.tmp 4, .tmp 5, .tmp 6] (.tmp (.tmp (.tmp .nil))) (.many _ _ _) [] 9999
  rw [if_neg c19] at H
  refine kx (hT (decide_eq_false c19)) ?_
  refine kx (hT (decide_eq_false c19)) ?_
  refine kx (hT (decide_eq_false c19)) ?_
  refine kx (hT (decide_eq_false c19)) ?_
  refine kx (hT (decide_eq_false c19)) ?_
  refine kx (hT (decide_eq_false c19)) ?_
  refine kv g0 (pkF (decide_eq_false c19)) ?_
  refine wk_end ?_
  refine ac_next ?_
  refine aw_ifF ?_ rfl
  refine aw_exit ?_
  refine ac_then ?_
  refine ac_then ?_
  refine ac_hit rfl ?_
  refine ac_next ?_
  refine aw_grp1 ?_
  refine wk_start ?_
  refine kv g0 (asg) ?_
  refine kv g0 (asg) ?_
  refine kv g0 (asg) ?_
  refine wk_end ?_
  refine ac_next ?_
  refine aw_ret ?_
  obtain rfl := Option.some.inj H
  exact acr hE [.tmp 4, .tmp 5, .tmp 6] (.tmp (.tmp (.tmp .nil))) (.many _ _ _) [] 9999
 rw [if_neg c3] at H
 refine aw_ifT ?_ (nT (bF c3))
 refine aw_grp1 ?_
 refine wk_start ?_
 refine kv g0 (asg) ?_
 refine kv g0 (asg) ?_
 refine kv g0 (asg) ?_
 refine wk_end ?_
 refine ac_next ?_
 refine aw_ret ?_
 refine ac_thenR ?_
 obtain rfl := Option.some.inj H
 exact acr hE [.tmp 4, .tmp 5, .tmp 6] (.tmp (.tmp (.tmp .nil))) (.many _ _ _) [] 9999
/-! impl_ReadFrame -/
def impl_ReadFrame.f (k : Nat) (a0 : ByteArray) : Option (Int × Int × Int × Int × Int × Int × Int × Bool) := (impl_Unsealed.f k a0).bind fun t1 => if t1.2 = true then if (t1.1.size : Int) < 2 then some (0, 0, 0, 0, 0, 0, 0, false) else (impl_ReadVar.f k t1.1 2).bind fun t5 => if t5.2.2 = true then if (wrap64 ((t1.1.size : Int) - t5.2.1)) < 9 then some (0, 0, 0, 0, 0, 0, 0, false) else (impl_ReadVar.f k t1.1 (wrap64 (t5.2.1 + 9))).bind fun t9 => if 0 < (t1.1.size : Int) then (if 1 < (t1.1.size : Int) then (if 0 ≤ t5.2.1 then (if t5.2.1 < (t1.1.size : Int) then ((impl_fourAt.f t1.1 (wrap64 (t5.2.1 + 1))).bind fun t15 => ((impl_fourAt.f t1.1 (wrap64 (t5.2.1 + 5))).bind fun t17 => if t9.2.2 = true then (if t9.2.1 = (t1.1.size : Int) then ((impl_FrameOk.f (wrap64 (bt t1.1 0)) (wrap64 (bt t1.1 1)) t5.1 (wrap64 (bt t1.1 t5.2.1)) t15 t17 t9.1).bind fun t21 => if t21 = true then some (wrap64 (bt t1.1 0), wrap64 (bt t1.1 1), t5.1, wrap64 (bt t1.1 t5.2.1), t15, t17, t9.1, true) else some (0, 0, 0, 0, 0, 0, 0, false)) else some (0, 0, 0, 0, 0, 0, 0, false)) else some (0, 0, 0, 0, 0, 0, 0, false))) else none) else none) else none) else none else some (0, 0, 0, 0, 0, 0, 0, false) else some (0, 0, 0, 0, 0, 0, 0, false)
theorem impl_ReadFrame.ok {k : Nat} {a0 : ByteArray} {r : Int × Int × Int × Int × Int × Int × Int × Bool} (H : impl_ReadFrame.f k a0 = some r) : ACalls Try.prog 7 [] [.lit (.string a0)] [] (.tup [.agg [.lit (.int .i64 r.1), .lit (.int .i64 r.2.1), .lit (.int .i64 r.2.2.1), .lit (.int .i64 r.2.2.2.1), .lit (.int .i64 r.2.2.2.2.1), .lit (.int .i64 r.2.2.2.2.2.1), .lit (.int .i64 r.2.2.2.2.2.2.1)], .lit (.bool r.2.2.2.2.2.2.2)]) := by
 refine acalls (fn := Try.f7) (nt := 87) Try.func7 rfl rfl (Nat.le_of_ble_eq_true rfl) fun E hE => ?_
 rw [impl_ReadFrame.f] at H
 refine aw_grp1 ?_
 refine wk_start ?_
 refine kb g0 (alc 0 [.int .i64 0, .int .i64 0, .int .i64 0, .int .i64 0, .int .i64 0, .int .i64 0, .int .i64 0] [.lit (.int .i64 0), .lit (.int .i64 0), .lit (.int .i64 0), .lit (.int .i64 0), .lit (.int .i64 0), .lit (.int .i64 0), .lit (.int .i64 0)]) ?_
 refine kv g0 (asg) ?_
 refine wk_end ?_
 refine ac_next ?_
 refine aw_grp1 ?_
 refine wk_start ?_
 refine kv g0 (mv) ?_
 obtain ⟨t1, A2, H⟩ := of_bind H
 refine kcS0 15 (.tup [.lit (.string t1.1), .lit (.bool t1.2)]) [] g0 (cal (impl_Unsealed.ok A2) [] 9999 .n (hf := Try.func20)) rfl rfl ?_
 refine kv g0 (mv) ?_
 refine kv g0 (ext) ?_
 refine kv g0 (ext) ?_
 refine kv g0 (asg) ?_
 refine kv g0 (asg) ?_
 refine wk_end ?_
 refine ac_next ?_
 refine aw_grp1 ?_
 refine aw_grp1 ?_
 refine wk_start ?_
 refine kv g0 (mv) ?_
 refine kv g0 (not_) ?_
 refine kv g0 (mv) ?_
 by_cases c3 : t1.2 = true
 ·rw [if_pos c3] at H
  refine kv (g1 (nF c3)) (mv) ?_
  refine kv (g1 (nF c3)) (lnT) ?_
  refine kv (g1 (nF c3)) (lss) ?_
  refine kv g0 (pkF (nF c3)) ?_
  refine wk_end ?_
  refine ac_next ?_
  by_cases c4 : (t1.1.size : Int) < 2
  ·rw [if_pos c4] at H
   refine aw_ifT ?_ (decide_eq_true c4)
   refine aw_grp1 ?_
   refine wk_start ?_
   refine kv g0 (bld [(0, 1), (1, 1), (2, 1), (3, 4)] [.int .i64 0, .int .i64 0, .int .i64 0, .int .i64 0, .int .i64 0, .int .i64 0, .int .i64 0] [.lit (.int .i64 0), .lit (.int .i64 0), .lit (.int .i64 0), .lit (.int .i64 0), .lit (.int .i64 0), .lit (.int .i64 0), .lit (.int .i64 0)]) ?_
   refine ks g0 (stB 7 [.lit (.int .i64 0), .lit (.int .i64 0), .lit (.int .i64 0), .lit (.int .i64 0), .lit (.int .i64 0), .lit (.int .i64 0), .lit (.int .i64 0)]) ?_
   refine kv g0 (asg) ?_
   refine wk_end ?_
   refine ac_next ?_
   refine aw_ret ?_
   refine ac_thenR ?_
   obtain rfl := Option.some.inj H
   exact acr hE [.cell 2 27, .tmp 3] (rcA 7 (.tmp .nil)) (.many _ _ _) [] 9999
  rw [if_neg c4] at H
  refine aw_ifF ?_ (decide_eq_false c4)
  refine aw_skip ?_
  refine ac_next ?_
  refine aw_grp1 ?_
  refine wk_start ?_
  refine kv g0 (mv) ?_
  obtain ⟨t5, A6, H⟩ := of_bind H
  refine kcS0 28 (.tup [.lit (.int .i64 t5.1), .lit (.int .i64 t5.2.1), .lit (.bool t5.2.2)]) [] g0 (cal (impl_ReadVar.ok A6) [] 9999 .n (hf := Try.func21)) rfl rfl ?_
  refine kv g0 (mv) ?_
  refine kv g0 (ext) ?_
  refine kv g0 (ext) ?_
  refine kv g0 (ext) ?_
  refine kv g0 (asg) ?_
  refine kv g0 (asg) ?_
  refine kv g0 (asg) ?_
  refine wk_end ?_
  refine ac_next ?_
  refine aw_grp1 ?_
  refine aw_grp1 ?_
  refine wk_start ?_
  refine kv g0 (mv) ?_
  refine kv g0 (not_) ?_
  refine kv g0 (mv) ?_
  by_cases c7 : t5.2.2 = true
  ·rw [if_pos c7] at H
   refine kv (g1 (nF c7)) (mv) ?_
   refine kv (g1 (nF c7)) (lnT) ?_
   refine kv (g1 (nF c7)) (mv) ?_
   refine kv (g1 (nF c7)) (sub6) ?_
   refine kv (g1 (nF c7)) (lss) ?_
   refine kv g0 (pkF (nF c7)) ?_
   refine wk_end ?_
   refine ac_next ?_
   by_cases c8 : (wrap64 ((t1.1.size : Int) - t5.2.1)) < 9
   ·rw [if_pos c8] at H
    refine aw_ifT ?_ (decide_eq_true c8)
    refine aw_grp1 ?_
    refine wk_start ?_
    refine kv g0 (bld [(0, 1), (1, 1), (2, 1), (3, 4)] [.int .i64 0, .int .i64 0, .int .i64 0, .int .i64 0, .int .i64 0, .int .i64 0, .int .i64 0] [.lit (.int .i64 0), .lit (.int .i64 0), .lit (.int .i64 0), .lit (.int .i64 0), .lit (.int .i64 0), .lit (.int .i64 0), .lit (.int .i64 0)]) ?_
    refine ks g0 (stB 7 [.lit (.int .i64 0), .lit (.int .i64 0), .lit (.int .i64 0), .lit (.int .i64 0), .lit (.int .i64 0), .lit (.int .i64 0), .lit (.int .i64 0)]) ?_
    refine kv g0 (asg) ?_
    refine wk_end ?_
    refine ac_next ?_
    refine aw_ret ?_
    refine ac_thenR ?_
    obtain rfl := Option.some.inj H
    exact acr hE [.cell 2 27, .tmp 3] (rcA 7 (.tmp .nil)) (.many _ _ _) [] 9999
   rw [if_neg c8] at H
   refine aw_ifF ?_ (decide_eq_false c8)
   refine aw_skip ?_
   refine ac_next ?_
   refine aw_grp1 ?_
   refine wk_start ?_
   refine kv g0 (mv) ?_
   refine kv g0 (mv) ?_
   refine kv g0 (add6) ?_
   obtain ⟨t9, A10, H⟩ := of_bind H
   refine kcS0 46 (.tup [.lit (.int .i64 t9.1), .lit (.int .i64 t9.2.1), .lit (.bool t9.2.2)]) [] g0 (cal (impl_ReadVar.ok A10) [] 9999 .n (hf := Try.func21)) rfl rfl ?_
   refine kv g0 (mv) ?_
   refine kv g0 (ext) ?_
   refine kv g0 (ext) ?_
   refine kv g0 (ext) ?_
   refine kv g0 (asg) ?_
   refine kv g0 (asg) ?_
   refine kv g0 (asg) ?_
   refine wk_end ?_
   refine ac_next ?_
   refine aw_grp1 ?_
   refine wk_start ?_
   refine kv g0 (mv) ?_
   obtain ⟨c11, H⟩ := of_if H
   refine kv g0 (ixT (by decide : (0 : Int) ≤ 0) c11) ?_
   refine kv g0 (cnv6) ?_
   refine kv g0 (mv) ?_
   obtain ⟨c12, H⟩ := of_if H
   refine kv g0 (ixT (by decide : (0 : Int) ≤ 1) c12) ?_
   refine kv g0 (cnv6) ?_
   refine kv g0 (mv) ?_
   refine kv g0 (mv) ?_
   refine kv g0 (mv) ?_
   obtain ⟨c13, H⟩ := of_if H
   obtain ⟨c14, H⟩ := of_if H
   refine kv g0 (ixT c13 c14) ?_
   refine kv g0 (cnv6) ?_
   refine kv g0 (mv) ?_
   refine kv g0 (mv) ?_
   refine kv g0 (add6) ?_
   obtain ⟨t15, A16, H⟩ := of_bind H
   refine kcS0 64 (.lit (.int .i64 t15)) [] g0 (cal (impl_fourAt.ok A16) [] 9999 .n (hf := Try.func22)) rfl rfl ?_
   refine kv g0 (mv) ?_
   refine kv g0 (mv) ?_
   refine kv g0 (add6) ?_
   obtain ⟨t17, A18, H⟩ := of_bind H
   refine kcS0 68 (.lit (.int .i64 t17)) [] g0 (cal (impl_fourAt.ok A18) [] 9999 .n (hf := Try.func22)) rfl rfl ?_
   refine kv g0 (mv) ?_
   refine kv g0 (bld [(0, 1), (1, 1), (2, 1), (3, 1)] [.int .i64 0, .int .i64 0, .int .i64 0, .int .i64 0] [.lit (.int .i64 (wrap64 (bt t1.1 t5.2.1))), .lit (.int .i64 t15), .lit (.int .i64 t17), .lit (.int .i64 t9.1)]) ?_
   refine kv g0 (bld [(0, 1), (1, 1), (2, 1), (3, 4)] [.int .i64 0, .int .i64 0, .int .i64 0, .int .i64 0, .int .i64 0, .int .i64 0, .int .i64 0] [.lit (.int .i64 (wrap64 (bt t1.1 0))), .lit (.int .i64 (wrap64 (bt t1.1 1))), .lit (.int .i64 t5.1), .lit (.int .i64 (wrap64 (bt t1.1 t5.2.1))), .lit (.int .i64 t15), .lit (.int .i64 t17), .lit (.int .i64 t9.1)]) ?_
   refine kb g0 (alc 1 [.int .i64 0, .int .i64 0, .int .i64 0, .int .i64 0, .int .i64 0, .int .i64 0, .int .i64 0] [.lit (.int .i64 0), .lit (.int .i64 0), .lit (.int .i64 0), .lit (.int .i64 0), .lit (.int .i64 0), .lit (.int .i64 0), .lit (.int .i64 0)]) ?_
   refine ks g0 (stB 7 [.lit (.int .i64 (wrap64 (bt t1.1 0))), .lit (.int .i64 (wrap64 (bt t1.1 1))), .lit (.int .i64 t5.1), .lit (.int .i64 (wrap64 (bt t1.1 t5.2.1))), .lit (.int .i64 t15), .lit (.int .i64 t17), .lit (.int .i64 t9.1)]) ?_
   refine wk_end_draw hM (by kernel_rfl) ?_
   refine ac_next ?_
   refine aw_grp1 ?_
   refine aw_grp1 ?_
   refine wk_start ?_
   refine kv g0 (mv) ?_
   refine kv g0 (not_) ?_
   refine kv g0 (mv) ?_
   by_cases c19 : t9.2.2 = true
   ·rw [if_pos c19] at H
    refine kv (g1 (nF c19)) (mv) ?_
    refine kv (g1 (nF c19)) (mv) ?_
    refine kv (g1 (nF c19)) (lnT) ?_
    refine kv (g1 (nF c19)) (neq) ?_
    refine kv g0 (pkF (nF c19)) ?_
    refine kv g0 (mv) ?_
    by_cases c20 : t9.2.1 = (t1.1.size : Int)
    ·rw [if_pos c20] at H
     refine kv (g1 (eM c20)) (ldBA 7 [.lit (.int .i64 (wrap64 (bt t1.1 0))), .lit (.int .i64 (wrap64 (bt t1.1 1))), .lit (.int .i64 t5.1), .lit (.int .i64 (wrap64 (bt t1.1 t5.2.1))), .lit (.int .i64 t15), .lit (.int .i64 t17), .lit (.int .i64 t9.1)]) ?_
     obtain ⟨t21, A22, H⟩ := of_bind H
     refine kcS0 82 (.lit (.bool t21)) [] (g1 (eM c20)) (cal (impl_FrameOk.ok A22) [] 9999 .n (hf := Try.func14)) rfl rfl ?_
     refine kv (g1 (eM c20)) (not_) ?_
     refine kv g0 (pkF (eM c20)) ?_
     refine wk_end ?_
     refine ac_next ?_
     by_cases c23 : t21 = true
     ·rw [if_pos c23] at H
      refine aw_ifF ?_ (nF c23)
      refine aw_skip ?_
      refine ac_next ?_
      refine aw_grp1 ?_
      refine wk_start ?_
      refine kv g0 (ldBA 7 [.lit (.int .i64 (wrap64 (bt t1.1 0))), .lit (.int .i64 (wrap64 (bt t1.1 1))), .lit (.int .i64 t5.1), .lit (.int .i64 (wrap64 (bt t1.1 t5.2.1))), .lit (.int .i64 t15), .lit (.int .i64 t17), .lit (.int .i64 t9.1)]) ?_
      refine ks g0 (stB 7 [.lit (.int .i64 (wrap64 (bt t1.1 0))), .lit (.int .i64 (wrap64 (bt t1.1 1))), .lit (.int .i64 t5.1), .lit (.int .i64 (wrap64 (bt t1.1 t5.2.1))), .lit (.int .i64 t15), .lit (.int .i64 t17), .lit (.int .i64 t9.1)]) ?_
      refine kv g0 (asg) ?_
      refine wk_end ?_
      refine ac_next ?_
      refine aw_ret ?_
      obtain rfl := Option.some.inj H
      exact acr hE [.cell 2 27, .tmp 3] (rcA 7 (.tmp .nil)) (.many _ _ _) [] 9999
     rw [if_neg c23] at H
     refine aw_ifT ?_ (nT (bF c23))
     refine aw_grp1 ?_
     refine wk_start ?_
     refine kv g0 (bld [(0, 1), (1, 1), (2, 1), (3, 4)] [.int .i64 0, .int .i64 0, .int .i64 0, .int .i64 0, .int .i64 0, .int .i64 0, .int .i64 0] [.lit (.int .i64 0), .lit (.int .i64 0), .lit (.int .i64 0), .lit (.int .i64 0), .lit (.int .i64 0), .lit (.int .i64 0), .lit (.int .i64 0)]) ?_
     refine ks g0 (stB 7 [.lit (.int .i64 0), .lit (.int .i64 0), .lit (.int .i64 0), .lit (.int .i64 0), .lit (.int .i64 0), .lit (.int .i64 0), .lit (.int .i64 0)]) ?_
     refine kv g0 (asg) ?_
     refine wk_end ?_
     refine ac_next ?_
     refine aw_ret ?_
     refine ac_thenR ?_
     obtain rfl := Option.some.inj H
     exact acr hE [.cell 2 27, .tmp 3] (rcA 7 (.tmp .nil)) (.many _ _ _) [] 9999
    rw [if_neg c20] at H
    refine kx (hF (eN c20)) ?_
    refine kx (hF (eN c20)) ?_
    refine kx (hF (eN c20)) ?_
    refine kv g0 (pkT (eN c20)) ?_
    refine wk_end ?_
    refine ac_next ?_
    refine aw_ifT ?_ rfl
    refine aw_grp1 ?_
    refine wk_start ?_
    refine kv g0 (bld [(0, 1), (1, 1), (2, 1), (3, 4)] [.int .i64 0, .int .i64 0, .int .i64 0, .int .i64 0, .int .i64 0, .int .i64 0, .int .i64 0] [.lit (.int .i64 0), .lit (.int .i64 0), .lit (.int .i64 0), .lit (.int .i64 0), .lit (.int .i64 0), .lit (.int .i64 0), .lit (.int .i64 0)]) ?_
    refine ks g0 (stB 7 [.lit (.int .i64 0), .lit (.int .i64 0), .lit (.int .i64 0), .lit (.int .i64 0), .lit (.int .i64 0), .lit (.int .i64 0), .lit (.int .i64 0)]) ?_
    refine kv g0 (asg) ?_
    refine wk_end ?_
    refine ac_next ?_
    refine aw_ret ?_
    refine ac_thenR ?_
    obtain rfl := Option.some.inj H
    exact acr hE [.cell 2 27, .tmp 3] (rcA 7 (.tmp .nil)) (.many _ _ _) [] 9999
   rw [if_neg c19] at H
   refine kx (hF (nT (bF c19))) ?_
   refine kx (hF (nT (bF c19))) ?_
   refine kx (hF (nT (bF c19))) ?_
   refine kx (hF (nT (bF c19))) ?_
   refine kv g0 (pkT (nT (bF c19))) ?_
   refine kv g0 (mv) ?_
   refine kx (hF rfl) ?_
   refine kx (hF rfl) ?_
   refine kx (hF rfl) ?_
   refine kv g0 (pkT rfl) ?_
   refine wk_end ?_
   refine ac_next ?_
   refine aw_ifT ?_ rfl
   refine aw_grp1 ?_
   refine wk_start ?_
   refine kv g0 (bld [(0, 1), (1, 1), (2, 1), (3, 4)] [.int .i64 0, .int .i64 0, .int .i64 0, .int .i64 0, .int .i64 0, .int .i64 0, .int .i64 0] [.lit (.int .i64 0), .lit (.int .i64 0), .lit (.int .i64 0), .lit (.int .i64 0), .lit (.int .i64 0), .lit (.int .i64 0), .lit (.int .i64 0)]) ?_
   refine ks g0 (stB 7 [.lit (.int .i64 0), .lit (.int .i64 0), .lit (.int .i64 0), .lit (.int .i64 0), .lit (.int .i64 0), .lit (.int .i64 0), .lit (.int .i64 0)]) ?_
   refine kv g0 (asg) ?_
   refine wk_end ?_
   refine ac_next ?_
   refine aw_ret ?_
   refine ac_thenR ?_
   obtain rfl := Option.some.inj H
   exact acr hE [.cell 2 27, .tmp 3] (rcA 7 (.tmp .nil)) (.many _ _ _) [] 9999
  rw [if_neg c7] at H
  refine kx (hF (nT (bF c7))) ?_
  refine kx (hF (nT (bF c7))) ?_
  refine kx (hF (nT (bF c7))) ?_
  refine kx (hF (nT (bF c7))) ?_
  refine kx (hF (nT (bF c7))) ?_
  refine kv g0 (pkT (nT (bF c7))) ?_
  refine wk_end ?_
  refine ac_next ?_
  refine aw_ifT ?_ rfl
  refine aw_grp1 ?_
  refine wk_start ?_
  refine kv g0 (bld [(0, 1), (1, 1), (2, 1), (3, 4)] [.int .i64 0, .int .i64 0, .int .i64 0, .int .i64 0, .int .i64 0, .int .i64 0, .int .i64 0] [.lit (.int .i64 0), .lit (.int .i64 0), .lit (.int .i64 0), .lit (.int .i64 0), .lit (.int .i64 0), .lit (.int .i64 0), .lit (.int .i64 0)]) ?_
  refine ks g0 (stB 7 [.lit (.int .i64 0), .lit (.int .i64 0), .lit (.int .i64 0), .lit (.int .i64 0), .lit (.int .i64 0), .lit (.int .i64 0), .lit (.int .i64 0)]) ?_
  refine kv g0 (asg) ?_
  refine wk_end ?_
  refine ac_next ?_
  refine aw_ret ?_
  refine ac_thenR ?_
  obtain rfl := Option.some.inj H
  exact acr hE [.cell 2 27, .tmp 3] (rcA 7 (.tmp .nil)) (.many _ _ _) [] 9999
 rw [if_neg c3] at H
 refine kx (hF (nT (bF c3))) ?_
 refine kx (hF (nT (bF c3))) ?_
 refine kx (hF (nT (bF c3))) ?_
 refine kv g0 (pkT (nT (bF c3))) ?_
 refine wk_end ?_
 refine ac_next ?_
 refine aw_ifT ?_ rfl
 refine aw_grp1 ?_
 refine wk_start ?_
 refine kv g0 (bld [(0, 1), (1, 1), (2, 1), (3, 4)] [.int .i64 0, .int .i64 0, .int .i64 0, .int .i64 0, .int .i64 0, .int .i64 0, .int .i64 0] [.lit (.int .i64 0), .lit (.int .i64 0), .lit (.int .i64 0), .lit (.int .i64 0), .lit (.int .i64 0), .lit (.int .i64 0), .lit (.int .i64 0)]) ?_
 refine ks g0 (stB 7 [.lit (.int .i64 0), .lit (.int .i64 0), .lit (.int .i64 0), .lit (.int .i64 0), .lit (.int .i64 0), .lit (.int .i64 0), .lit (.int .i64 0)]) ?_
 refine kv g0 (asg) ?_
 refine wk_end ?_
 refine ac_next ?_
 refine aw_ret ?_
 refine ac_thenR ?_
 obtain rfl := Option.some.inj H
 exact acr hE [.cell 2 27, .tmp 3] (rcA 7 (.tmp .nil)) (.many _ _ _) [] 9999
/-! spec_DrawPlaces -/
def spec_DrawPlaces.l0 : Nat → (List Int) → Int → Int → (List Int) → Int → Option ((List Int))
 | 0, _, _, _, _, _ => none
 | k14 + 1, q9, p10, p11, q12, p13 => if p13 < 12 then (spec_l01Below.f q9 p10 p11 10000).bind fun t16 => (if q12.length + ([t16.1] : List Int).length < 17592186044416 then spec_DrawPlaces.l0 k14 t16.2.1 t16.2.2.1 t16.2.2.2 (q12 ++ ([t16.1] : List Int)) (wrap64 (p13 + 1)) else none) else some q12
def spec_DrawPlaces.f (k : Nat) (l0 : List Int) : Option ((List Int)) := (spec_l01New.f k l0).bind fun t1 => (spec_l01Byte.f t1.1 t1.2.1 t1.2.2).bind fun t3 => spec_DrawPlaces.l0 k t3.2.1 t3.2.2.1 t3.2.2.2 ([] : List Int) 0
theorem spec_DrawPlaces.ok {k : Nat} {l0 : List Int} {r : (List Int)} (H : spec_DrawPlaces.f k l0 = some r) : ACalls Try.prog 9 [] [.sl .o 1 (l0.map (eI .u8))] [(0, .row 3 1 (r.map (eI .i64)))] (.row 0) := by
 refine acalls (fn := Try.f9) (nt := 21) Try.func9 rfl rfl (Nat.le_of_ble_eq_true rfl) fun E hE => ?_
 rw [spec_DrawPlaces.f] at H
 refine aw_grp1 ?_
 refine wk_start ?_
 refine kv g0 (asg) ?_
 refine wk_end ?_
 refine ac_next ?_
 refine aw_grp1 ?_
 refine wk_start ?_
 refine kv g0 (mv) ?_
 obtain ⟨t1, A2, H⟩ := of_bind H
 refine kcS1 7 (.box 0 0) [(0, .box 56 [.sl .o 1 (t1.1.map (eI .u8)), .lit (.int .i64 t1.2.1), .lit (.int .i64 t1.2.2)])] g0 (cal (spec_l01New.ok A2) [0] 9999 .o (hf := Try.func16)) rfl rfl ?_
 refine kv g0 (asg) ?_
 refine wk_end ?_
 refine ac_next ?_
 refine aw_grp1 ?_
 refine wk_start ?_
 refine kv g0 (mv) ?_
 obtain ⟨t3, A4, H⟩ := of_bind H
 refine kcS1 9 (.lit (.int .i64 t3.1)) [(0, .box 56 [.sl .o 1 (t3.2.1.map (eI .u8)), .lit (.int .i64 t3.2.2.1), .lit (.int .i64 t3.2.2.2)])] g0 (cal (spec_l01Byte.ok A4) [0] 9999 .o (hf := Try.func23)) rfl rfl ?_
 refine wk_end ?_
 refine ac_next ?_
 refine aw_grp1 ?_
 refine wk_start ?_
 refine kb g0 (bsl 1 3 1 [.int .i64 0] (([] : List Int).map (eI .i64))) ?_
 refine kv g0 (asg) ?_
 refine wk_end ?_
 refine ac_next ?_
 refine aw_grp1 ?_
 refine aw_grp1 ?_
 refine wk_start ?_
 refine kv g0 (asg) ?_
 refine wk_end ?_
 refine ac_next ?_
 refine aw_block ?_
 refine aw_loop5 (fun (k_ : Nat) (q9 : List Int) (p10 : Int) (p11 : Int) (q12 : List Int) (p13 : Int) => k_ ≤ k ∧ spec_DrawPlaces.l0 k_ q9 p10 p11 q12 p13 = some r) (fun (q9 : List Int) (p10 : Int) (p11 : Int) (q12 : List Int) (p13 : Int) => ⟨[(3, .box 0 0), (4, .row 1), (5, .lit (.int .i64 p13))], [(0, .box 56 [.sl .o 1 (q9.map (eI .u8)), .lit (.int .i64 p10), .lit (.int .i64 p11)]), (1, .row 3 1 (q12.map (eI .i64)))]⟩) k t3.2.1 t3.2.2.1 t3.2.2.2 ([] : List Int) 0 ⟨Nat.le_refl _, H⟩ (fun K_ h_ => acw hE [(0, 0), (1, 1)] 9999 h_) (fun _ _ _ _ _ => by intro h_; have h_ := h_.2; rw [spec_DrawPlaces.l0.eq_1] at h_; cases h_) ?_
 intro k14 q9 p10 p11 q12 p13 hq_ K19 hK20
 have hk14 := hq_.1
 have H := hq_.2
 clear hq_
 rw [spec_DrawPlaces.l0.eq_2] at H
 refine aw_grp1 ?_
 refine aw_grp1 ?_
 refine wk_start ?_
 refine kv g0 (mv) ?_
 refine kv g0 (lss) ?_
 refine wk_end ?_
 refine ac_next ?_
 by_cases c15 : p13 < 12
 ·rw [if_pos c15] at H
  refine aw_ifT ?_ (decide_eq_true c15)
  refine aw_skip ?_
  refine ac_next ?_
  refine aw_grp1 ?_
  refine aw_block ?_
  refine wk_start ?_
  refine kv g0 (mv) ?_
  refine kv g0 (mv) ?_
  obtain ⟨t16, A17, H⟩ := of_bind H
  refine kcS1 17 (.lit (.int .i64 t16.1)) [(0, .box 56 [.sl .o 1 (t16.2.1.map (eI .u8)), .lit (.int .i64 t16.2.2.1), .lit (.int .i64 t16.2.2.2)])] g0 (cal (spec_l01Below.ok A17) [0] 9999 .o (hf := Try.func24)) rfl rfl ?_
  refine kb g0 (bsl 2 3 1 [.int .i64 0] (([t16.1] : List Int).map (eI .i64))) ?_
  obtain ⟨c18, H⟩ := of_if H
  refine kc g0 (apR 3 3 1 8 [.int .i64 0] ((q12 ++ ([t16.1] : List Int)).map (eI .i64)) (.row rfl) (apb c18 rfl) appE) ?_
  refine kv g0 (asg) ?_
  refine wk_end ?_
  refine ac_blkN ?_
  refine ac_next ?_
  refine wk_start ?_
  refine kv g0 (mv) ?_
  refine kv g0 (add6) ?_
  refine kv g0 (asg) ?_
  refine wk_end ?_
  refine ac_k ?_
  exact acw hE [(0, 0), (1, 3)] 9999 (hK20 k14 t16.2.1 t16.2.2.1 t16.2.2.2 (q12 ++ ([t16.1] : List Int)) (wrap64 (p13 + 1)) (Nat.le_refl _) ⟨by omega, H⟩)
 rw [if_neg c15] at H
 refine aw_ifF ?_ (decide_eq_false c15)
 refine aw_exit ?_
 refine ac_then ?_
 refine ac_then ?_
 refine ac_hit rfl ?_
 refine ac_next ?_
 refine aw_grp1 ?_
 refine wk_start ?_
 refine kv g0 (mv) ?_
 refine kv g0 (asg) ?_
 refine wk_end ?_
 refine ac_next ?_
 refine aw_ret ?_
 obtain rfl := Option.some.inj H
 exact acr hE [.tmp 2] (.tmp .nil) (.one _) [(0, 1)] 9999
/-! laws_turned -/
def laws_turned.f (a0 : ByteArray) (l1 : List Int) : Option (ByteArray) := if a0.size ≤ 140737488352256 then if ((bytesOf a0).length : Int) = 0 then some (⟨#[120]⟩ : ByteArray) else if 0 < (l1.length : Int) then (if ((bytesOf a0).length : Int) ≠ 0 then if 0 ≤ ((rd l1 0).tmod ((bytesOf a0).length : Int)) then (if ((rd l1 0).tmod ((bytesOf a0).length : Int)) < ((bytesOf a0).length : Int) then (if 1 < (l1.length : Int) then some (strOfNums ((bytesOf a0).set ((rd l1 0).tmod ((bytesOf a0).length : Int)).toNat (bits .xor .u8 (rd (bytesOf a0) ((rd l1 0).tmod ((bytesOf a0).length : Int))) (IntKind.u8.wrap (wrap64 (1 + ((rd l1 1).tmod 255))))))) else none) else none) else none else none) else none else none
theorem laws_turned.ok {a0 : ByteArray} {l1 : List Int} {r : ByteArray} (H : laws_turned.f a0 l1 = some r) : ACalls Try.prog 8 [] [.lit (.string a0), .sl .o 1 (l1.map (eI .i64))] [] (.lit (.string r)) := by
 refine acalls (fn := Try.f8) (nt := 34) Try.func8 rfl rfl (Nat.le_of_ble_eq_true rfl) fun E hE => ?_
 rw [laws_turned.f] at H
 refine aw_grp1 ?_
 refine wk_start ?_
 refine kv g0 (asg) ?_
 refine wk_end ?_
 refine ac_next ?_
 refine aw_grp1 ?_
 refine wk_start ?_
 refine kv g0 (mv) ?_
 obtain ⟨c1, H⟩ := of_if H
 refine kb g0 (cvS 0 c1) ?_
 refine kv g0 (asg) ?_
 refine wk_end ?_
 refine ac_next ?_
 refine aw_grp1 ?_
 refine aw_grp1 ?_
 refine wk_start ?_
 refine kv g0 (mv) ?_
 refine kv g0 (lnR lenE) ?_
 refine kv g0 (eql) ?_
 refine wk_end ?_
 refine ac_next ?_
 by_cases c2 : ((bytesOf a0).length : Int) = 0
 ·rw [if_pos c2] at H
  refine aw_ifT ?_ (eT c2)
  refine aw_grp1 ?_
  refine wk_start ?_
  refine kv g0 (asg) ?_
  refine wk_end ?_
  refine ac_next ?_
  refine aw_ret ?_
  refine ac_thenR ?_
  obtain rfl := Option.some.inj H
  exact acr hE [.tmp 4] (.tmp .nil) (.one _) [] 9999
 rw [if_neg c2] at H
 refine aw_ifF ?_ (eF c2)
 refine aw_skip ?_
 refine ac_next ?_
 refine aw_grp1 ?_
 refine wk_start ?_
 refine kv g0 (mv) ?_
 obtain ⟨c3, H⟩ := of_if H
 refine kv g0 (ixS 3 (eI .i64 (rd l1 0)) (by decide : (0 : Int) ≤ 0) (getE (z := (0 : Int)) (by decide : (0 : Int) ≤ 0) c3)) ?_
 refine kv g0 (ldR (.lit (.int .i64 (rd l1 0)))) ?_
 refine kv g0 (mv) ?_
 refine kv g0 (lnR lenE) ?_
 obtain ⟨c4, H⟩ := of_if H
 refine kv g0 (rem c4) ?_
 refine kv g0 (asg) ?_
 refine wk_end ?_
 refine ac_next ?_
 refine aw_grp1 ?_
 refine wk_start ?_
 refine kv g0 (mv) ?_
 refine kv g0 (mv) ?_
 refine kv g0 (mv) ?_
 refine kv g0 (mv) ?_
 obtain ⟨c5, H⟩ := of_if H
 obtain ⟨c6, H⟩ := of_if H
 refine kv g0 (ixR 5 c5 (ltE c6)) ?_
 refine kv g0 (ldE (eI .u8 (rd (bytesOf a0) ((rd l1 0).tmod ((bytesOf a0).length : Int)))) (.lit (.int .u8 (rd (bytesOf a0) ((rd l1 0).tmod ((bytesOf a0).length : Int))))) (getE (z := (0 : Int)) c5 c6)) ?_
 refine kv g0 (mv) ?_
 obtain ⟨c7, H⟩ := of_if H
 refine kv g0 (ixS 3 (eI .i64 (rd l1 1)) (by decide : (0 : Int) ≤ 1) (getE (z := (0 : Int)) (by decide : (0 : Int) ≤ 1) c7)) ?_
 refine kv g0 (ldR (.lit (.int .i64 (rd l1 1)))) ?_
 refine kv g0 (rem (by decide : (255 : Int) ≠ 0)) ?_
 refine kv g0 (add6) ?_
 refine kv g0 (cnv .u8) ?_
 refine kv g0 (bxor) ?_
 refine kv g0 (ixR 5 c5 (ltE c6)) ?_
 refine ks g0 (stE 1 (eI .u8 (bits .xor .u8 (rd (bytesOf a0) ((rd l1 0).tmod ((bytesOf a0).length : Int))) (IntKind.u8.wrap (wrap64 (1 + ((rd l1 1).tmod 255)))))) (((bytesOf a0).set ((rd l1 0).tmod ((bytesOf a0).length : Int)).toNat (bits .xor .u8 (rd (bytesOf a0) ((rd l1 0).tmod ((bytesOf a0).length : Int))) (IntKind.u8.wrap (wrap64 (1 + ((rd l1 1).tmod 255)))))).map (eI .u8)) (getE (z := (0 : Int)) c5 c6) setE) ?_
 refine wk_end_draw hM (by kernel_rfl) ?_
 refine ac_next ?_
 refine aw_grp1 ?_
 refine wk_start ?_
 refine kv g0 (mv) ?_
 refine kv g0 (cvB (.row rfl)) ?_
 refine kv g0 (asg) ?_
 refine wk_end ?_
 refine ac_next ?_
 refine aw_ret ?_
 obtain rfl := Option.some.inj H
 exact acr hE [.tmp 4] (.tmp .nil) (.one _) [] 9999
/-! spec_l17Any -/
def spec_l17Any.j0 : Nat → (Int × Int × Int × Int × Int × Int × Int × (List Int) × Int × Int) → Int → Int → Int → Int → Option (Int × Int × Int × Int × Int × Int × Int × (List Int) × Int × Int)
 | 0, _, _, _, _, _ => none
 | k17 + 1, t5, p13, p14, p15, p16 => some (p13, p14, p15, t5.2.2.2.1, t5.2.2.2.2.1, t5.2.2.2.2.2.1, p16, t5.2.2.2.2.2.2.2.1, t5.2.2.2.2.2.2.2.2.1, t5.2.2.2.2.2.2.2.2.2)
def spec_l17Any.f (k : Nat) (l0_0 : List Int) (a0_1 : Int) (a0_2 : Int) : Option (Int × Int × Int × Int × Int × Int × Int × (List Int) × Int × Int) := (spec_l01Below.f l0_0 a0_1 a0_2 10).bind fun t1 => (spec_l01Below.f t1.2.1 t1.2.2.1 t1.2.2.2 60).bind fun t3 => (spec_l17Frame.f t3.2.1 t3.2.2.1 t3.2.2.2).bind fun t5 => if t1.1 = 0 then spec_l17Any.j0 k t5 (t3.1.tmod 4) t5.2.1 t5.2.2.1 t5.2.2.2.2.2.2.1 else if t1.1 = 1 then spec_l17Any.j0 k t5 t5.1 (wrap64 ((t3.1.tmod 6) - 1)) t5.2.2.1 t5.2.2.2.2.2.2.1 else if t1.1 = 2 then (if 0 ≤ (t3.1.tmod 4) then (if (t3.1.tmod 4) < (([0, 1000000000, 1000000001, (-1)] : List Int).length : Int) then spec_l17Any.j0 k t5 t5.1 t5.2.1 (rd ([0, 1000000000, 1000000001, (-1)] : List Int) (t3.1.tmod 4)) t5.2.2.2.2.2.2.1 else none) else none) else if t1.1 = 3 then spec_l17Any.j0 k t5 t5.1 t5.2.1 t5.2.2.1 (t3.1.tmod 3) else spec_l17Any.j0 k t5 t5.1 t5.2.1 t5.2.2.1 t5.2.2.2.2.2.2.1
theorem spec_l17Any.ok {k : Nat} {l0_0 : List Int} {a0_1 : Int} {a0_2 : Int} {r : Int × Int × Int × Int × Int × Int × Int × (List Int) × Int × Int} (H : spec_l17Any.f k l0_0 a0_1 a0_2 = some r) : ACalls Try.prog 25 [(0, .box 56 [.sl .u 1 (l0_0.map (eI .u8)), .lit (.int .i64 a0_1), .lit (.int .i64 a0_2)])] [.box 0 0] [(0, .box 56 [.sl .u 1 (r.2.2.2.2.2.2.2.1.map (eI .u8)), .lit (.int .i64 r.2.2.2.2.2.2.2.2.1), .lit (.int .i64 r.2.2.2.2.2.2.2.2.2)])] (.agg [.lit (.int .i64 r.1), .lit (.int .i64 r.2.1), .lit (.int .i64 r.2.2.1), .lit (.int .i64 r.2.2.2.1), .lit (.int .i64 r.2.2.2.2.1), .lit (.int .i64 r.2.2.2.2.2.1), .lit (.int .i64 r.2.2.2.2.2.2.1)]) := by
 refine acalls (fn := Try.f25) (nt := 39) Try.func25 rfl rfl (Nat.le_of_ble_eq_true rfl) fun E hE => ?_
 rw [spec_l17Any.f] at H
 refine aw_grp1 ?_
 refine wk_start ?_
 refine kb g0 (alc 1 [.int .i64 0, .int .i64 0, .int .i64 0, .int .i64 0, .int .i64 0, .int .i64 0, .int .i64 0] [.lit (.int .i64 0), .lit (.int .i64 0), .lit (.int .i64 0), .lit (.int .i64 0), .lit (.int .i64 0), .lit (.int .i64 0), .lit (.int .i64 0)]) ?_
 refine wk_end ?_
 refine ac_next ?_
 refine aw_grp1 ?_
 refine wk_start ?_
 refine kv g0 (mv) ?_
 obtain ⟨t1, A2, H⟩ := of_bind H
 refine kcS1 7 (.lit (.int .i64 t1.1)) [(0, .box 56 [.sl .u 1 (t1.2.1.map (eI .u8)), .lit (.int .i64 t1.2.2.1), .lit (.int .i64 t1.2.2.2)])] g0 (cal (spec_l01Below.ok A2) [0] 9999 .u (hf := Try.func24)) rfl rfl ?_
 refine kv g0 (asg) ?_
 refine wk_end ?_
 refine ac_next ?_
 refine aw_grp1 ?_
 refine wk_start ?_
 refine kv g0 (mv) ?_
 obtain ⟨t3, A4, H⟩ := of_bind H
 refine kcS1 9 (.lit (.int .i64 t3.1)) [(0, .box 56 [.sl .u 1 (t3.2.1.map (eI .u8)), .lit (.int .i64 t3.2.2.1), .lit (.int .i64 t3.2.2.2)])] g0 (cal (spec_l01Below.ok A4) [0] 9999 .u (hf := Try.func24)) rfl rfl ?_
 refine kv g0 (asg) ?_
 refine wk_end ?_
 refine ac_next ?_
 refine aw_grp1 ?_
 refine wk_start ?_
 refine kv g0 (mv) ?_
 obtain ⟨t5, A6, H⟩ := of_bind H
 refine kcS1 11 (.agg [.lit (.int .i64 t5.1), .lit (.int .i64 t5.2.1), .lit (.int .i64 t5.2.2.1), .lit (.int .i64 t5.2.2.2.1), .lit (.int .i64 t5.2.2.2.2.1), .lit (.int .i64 t5.2.2.2.2.2.1), .lit (.int .i64 t5.2.2.2.2.2.2.1)]) [(0, .box 56 [.sl .u 1 (t5.2.2.2.2.2.2.2.1.map (eI .u8)), .lit (.int .i64 t5.2.2.2.2.2.2.2.2.1), .lit (.int .i64 t5.2.2.2.2.2.2.2.2.2)])] g0 (cal (spec_l17Frame.ok A6) [0] 9999 .u (hf := Try.func15)) rfl rfl ?_
 refine kb g0 (alc 2 [.int .i64 0, .int .i64 0, .int .i64 0, .int .i64 0, .int .i64 0, .int .i64 0, .int .i64 0] [.lit (.int .i64 0), .lit (.int .i64 0), .lit (.int .i64 0), .lit (.int .i64 0), .lit (.int .i64 0), .lit (.int .i64 0), .lit (.int .i64 0)]) ?_
 refine ks g0 (stB 7 [.lit (.int .i64 t5.1), .lit (.int .i64 t5.2.1), .lit (.int .i64 t5.2.2.1), .lit (.int .i64 t5.2.2.2.1), .lit (.int .i64 t5.2.2.2.2.1), .lit (.int .i64 t5.2.2.2.2.2.1), .lit (.int .i64 t5.2.2.2.2.2.2.1)]) ?_
 refine wk_end ?_
 refine ac_next ?_
 refine aw_cut1 (J := fun K_ => ∀ (k_ : Nat) (p13 : Int) (p14 : Int) (p15 : Int) (p16 : Int), k_ ≤ k → spec_l17Any.j0 k_ t5 p13 p14 p15 p16 = some r → ACont E 39 ⟨[(2, .box 1 0), (5, .box 2 0)], [(0, .box 56 [.sl .u 1 (t5.2.2.2.2.2.2.2.1.map (eI .u8)), .lit (.int .i64 t5.2.2.2.2.2.2.2.2.1), .lit (.int .i64 t5.2.2.2.2.2.2.2.2.2)]), (1, .box 27 [.lit (.int .i64 0), .lit (.int .i64 0), .lit (.int .i64 0), .lit (.int .i64 0), .lit (.int .i64 0), .lit (.int .i64 0), .lit (.int .i64 0)]), (2, .box 27 [.lit (.int .i64 p13), .lit (.int .i64 p14), .lit (.int .i64 p15), .lit (.int .i64 t5.2.2.2.1), .lit (.int .i64 t5.2.2.2.2.1), .lit (.int .i64 t5.2.2.2.2.2.1), .lit (.int .i64 p16)])]⟩ K_) ?_ ?_
 ·intro K_ hJ18
  refine aw_grp1 ?_
  refine wk_start ?_
  refine kv g0 (mv) ?_
  refine wk_end ?_
  refine ac_next ?_
  refine aw_block ?_
  refine aw_grp1 ?_
  refine wk_start ?_
  refine kv g0 (eql) ?_
  refine kv g0 (asg) ?_
  refine wk_end ?_
  refine ac_next ?_
  by_cases c7 : t1.1 = 0
  ·rw [if_pos c7] at H
   refine aw_ifT ?_ (eT c7)
   refine wk_start ?_
   refine kv g0 (mv) ?_
   refine kv g0 (rem (by decide : (4 : Int) ≠ 0)) ?_
   refine kv g0 (faB 0 0) ?_
   refine ks g0 (stB 1 [.lit (.int .i64 (t3.1.tmod 4)), .lit (.int .i64 t5.2.1), .lit (.int .i64 t5.2.2.1), .lit (.int .i64 t5.2.2.2.1), .lit (.int .i64 t5.2.2.2.2.1), .lit (.int .i64 t5.2.2.2.2.2.1), .lit (.int .i64 t5.2.2.2.2.2.2.1)]) ?_
   refine wk_end ?_
   refine ac_blkN ?_
   refine ac_k ?_
   exact acw hE [(0, 0), (1, 1), (2, 2)] 9999 (hJ18 k (t3.1.tmod 4) t5.2.1 t5.2.2.1 t5.2.2.2.2.2.2.1 (Nat.le_refl _) H)
  rw [if_neg c7] at H
  refine aw_ifF ?_ (eF c7)
  refine aw_grp1 ?_
  refine wk_start ?_
  refine kv g0 (eql) ?_
  refine kv g0 (asg) ?_
  refine wk_end ?_
  refine ac_next ?_
  by_cases c8 : t1.1 = 1
  ·rw [if_pos c8] at H
   refine aw_ifT ?_ (eT c8)
   refine wk_start ?_
   refine kv g0 (mv) ?_
   refine kv g0 (rem (by decide : (6 : Int) ≠ 0)) ?_
   refine kv g0 (sub6) ?_
   refine kv g0 (faB 1 1) ?_
   refine ks g0 (stB 1 [.lit (.int .i64 t5.1), .lit (.int .i64 (wrap64 ((t3.1.tmod 6) - 1))), .lit (.int .i64 t5.2.2.1), .lit (.int .i64 t5.2.2.2.1), .lit (.int .i64 t5.2.2.2.2.1), .lit (.int .i64 t5.2.2.2.2.2.1), .lit (.int .i64 t5.2.2.2.2.2.2.1)]) ?_
   refine wk_end ?_
   refine ac_blkN ?_
   refine ac_k ?_
   exact acw hE [(0, 0), (1, 1), (2, 2)] 9999 (hJ18 k t5.1 (wrap64 ((t3.1.tmod 6) - 1)) t5.2.2.1 t5.2.2.2.2.2.2.1 (Nat.le_refl _) H)
  rw [if_neg c8] at H
  refine aw_ifF ?_ (eF c8)
  refine aw_grp1 ?_
  refine wk_start ?_
  refine kv g0 (eql) ?_
  refine kv g0 (asg) ?_
  refine wk_end ?_
  refine ac_next ?_
  by_cases c9 : t1.1 = 2
  ·rw [if_pos c9] at H
   refine aw_ifT ?_ (eT c9)
   refine wk_start ?_
   refine kb g0 (bsl 3 3 1 [.int .i64 0] (([0, 1000000000, 1000000001, (-1)] : List Int).map (eI .i64))) ?_
   refine kv g0 (mv) ?_
   refine kv g0 (rem (by decide : (4 : Int) ≠ 0)) ?_
   obtain ⟨c10, H⟩ := of_if H
   obtain ⟨c11, H⟩ := of_if H
   refine kv g0 (ixR 3 c10 (ltE c11)) ?_
   refine kv g0 (ldE (eI .i64 (rd ([0, 1000000000, 1000000001, (-1)] : List Int) (t3.1.tmod 4))) (.lit (.int .i64 (rd ([0, 1000000000, 1000000001, (-1)] : List Int) (t3.1.tmod 4)))) (getE (z := (0 : Int)) c10 c11)) ?_
   refine kv g0 (faB 2 2) ?_
   refine ks g0 (stB 1 [.lit (.int .i64 t5.1), .lit (.int .i64 t5.2.1), .lit (.int .i64 (rd ([0, 1000000000, 1000000001, (-1)] : List Int) (t3.1.tmod 4))), .lit (.int .i64 t5.2.2.2.1), .lit (.int .i64 t5.2.2.2.2.1), .lit (.int .i64 t5.2.2.2.2.2.1), .lit (.int .i64 t5.2.2.2.2.2.2.1)]) ?_
   refine wk_end ?_
   refine ac_blkN ?_
   refine ac_k ?_
   exact acw hE [(0, 0), (1, 1), (2, 2)] 9999 (hJ18 k t5.1 t5.2.1 (rd ([0, 1000000000, 1000000001, (-1)] : List Int) (t3.1.tmod 4)) t5.2.2.2.2.2.2.1 (Nat.le_refl _) H)
  rw [if_neg c9] at H
  refine aw_ifF ?_ (eF c9)
  refine aw_grp1 ?_
  refine wk_start ?_
  refine kv g0 (eql) ?_
  refine kv g0 (asg) ?_
  refine wk_end ?_
  refine ac_next ?_
  by_cases c12 : t1.1 = 3
  ·rw [if_pos c12] at H
   refine aw_ifT ?_ (eT c12)
   refine wk_start ?_
   refine kv g0 (mv) ?_
   refine kv g0 (rem (by decide : (3 : Int) ≠ 0)) ?_
   refine kv g0 (faB 3 3) ?_
   refine kv g0 (faB 3 6) ?_
   refine ks g0 (stB 1 [.lit (.int .i64 t5.1), .lit (.int .i64 t5.2.1), .lit (.int .i64 t5.2.2.1), .lit (.int .i64 t5.2.2.2.1), .lit (.int .i64 t5.2.2.2.2.1), .lit (.int .i64 t5.2.2.2.2.2.1), .lit (.int .i64 (t3.1.tmod 3))]) ?_
   refine wk_end ?_
   refine ac_blkN ?_
   refine ac_k ?_
   exact acw hE [(0, 0), (1, 1), (2, 2)] 9999 (hJ18 k t5.1 t5.2.1 t5.2.2.1 (t3.1.tmod 3) (Nat.le_refl _) H)
  rw [if_neg c12] at H
  refine aw_ifF ?_ (eF c12)
  refine aw_skip ?_
  refine ac_blkN ?_
  refine ac_k ?_
  exact acw hE [(0, 0), (1, 1), (2, 2)] 9999 (hJ18 k t5.1 t5.2.1 t5.2.2.1 t5.2.2.2.2.2.2.1 (Nat.le_refl _) H)
 intro k_ p13 p14 p15 p16 hk_ H
 rcases k_ with _ | k17
 ·rw [spec_l17Any.j0.eq_1] at H; cases H
 have hk17 : k17 ≤ k := by omega
 clear hk_
 rw [spec_l17Any.j0.eq_2] at H
 refine aw_grp1 ?_
 refine wk_start ?_
 refine kv g0 (ldBA 7 [.lit (.int .i64 p13), .lit (.int .i64 p14), .lit (.int .i64 p15), .lit (.int .i64 t5.2.2.2.1), .lit (.int .i64 t5.2.2.2.2.1), .lit (.int .i64 t5.2.2.2.2.2.1), .lit (.int .i64 p16)]) ?_
 refine ks g0 (stB 7 [.lit (.int .i64 p13), .lit (.int .i64 p14), .lit (.int .i64 p15), .lit (.int .i64 t5.2.2.2.1), .lit (.int .i64 t5.2.2.2.2.1), .lit (.int .i64 t5.2.2.2.2.2.1), .lit (.int .i64 p16)]) ?_
 refine wk_end ?_
 refine ac_next ?_
 refine aw_ret ?_
 obtain rfl := Option.some.inj H
 exact acr hE [.cell 2 27] (rcA 7 .nil) (.one _) [(0, 0)] 9999
/-! spec_l01In -/
def spec_l01In.f (a0 : Int) (a1 : Int) (a2 : Int) : Option (Bool) := if a0 ≥ a1 then some (decide (a0 ≤ a2)) else some false
theorem spec_l01In.ok {a0 : Int} {a1 : Int} {a2 : Int} {r : Bool} (H : spec_l01In.f a0 a1 a2 = some r) : ACalls Try.prog 43 [] [.lit (.int .i64 a0), .lit (.int .i64 a1), .lit (.int .i64 a2)] [] (.lit (.bool r)) := by
 refine acalls (fn := Try.f43) (nt := 15) Try.func43 rfl rfl (Nat.le_of_ble_eq_true rfl) fun E hE => ?_
 rw [spec_l01In.f] at H
 refine aw_grp1 ?_
 refine wk_start ?_
 refine kv g0 (asg) ?_
 refine wk_end ?_
 refine ac_next ?_
 refine aw_grp1 ?_
 refine wk_start ?_
 refine kv g0 (mv) ?_
 refine kv g0 (mv) ?_
 refine kv g0 (geq) ?_
 refine kv g0 (mv) ?_
 by_cases c1 : a0 ≥ a1
 ·rw [if_pos c1] at H
  refine kv (g1 (decide_eq_true c1)) (mv) ?_
  refine kv (g1 (decide_eq_true c1)) (mv) ?_
  refine kv (g1 (decide_eq_true c1)) (leq) ?_
  refine kv g0 (pkT (decide_eq_true c1)) ?_
  refine kv g0 (asg) ?_
  refine wk_end ?_
  refine ac_next ?_
  refine aw_ret ?_
  obtain rfl := Option.some.inj H
  exact acr hE [.tmp 6] (.tmp .nil) (.one _) [] 9999
 rw [if_neg c1] at H
 refine kx (hT (decide_eq_false c1)) ?_
 refine kx (hT (decide_eq_false c1)) ?_
 refine kx (hT (decide_eq_false c1)) ?_
 refine kv g0 (pkF (decide_eq_false c1)) ?_
 refine kv g0 (asg) ?_
 refine wk_end ?_
 refine ac_next ?_
 refine aw_ret ?_
 obtain rfl := Option.some.inj H
 exact acr hE [.tmp 6] (.tmp .nil) (.one _) [] 9999
/-! spec_HalfOk -/
def spec_HalfOk.f (a0 : Int) : Option (Bool) := (spec_l01In.f a0 0 4294967295).bind fun t1 => some t1
theorem spec_HalfOk.ok {a0 : Int} {r : Bool} (H : spec_HalfOk.f a0 = some r) : ACalls Try.prog 49 [] [.lit (.int .i64 a0)] [] (.lit (.bool r)) := by
 refine acalls (fn := Try.f49) (nt := 5) Try.func49 rfl rfl (Nat.le_of_ble_eq_true rfl) fun E hE => ?_
 rw [spec_HalfOk.f] at H
 refine aw_grp1 ?_
 refine wk_start ?_
 refine kv g0 (asg) ?_
 refine wk_end ?_
 refine ac_next ?_
 refine aw_grp1 ?_
 refine wk_start ?_
 refine kv g0 (mv) ?_
 obtain ⟨t1, A2, H⟩ := of_bind H
 refine kcS0 4 (.lit (.bool t1)) [] g0 (cal (spec_l01In.ok A2) [] 9999 .n (hf := Try.func43)) rfl rfl ?_
 refine kv g0 (asg) ?_
 refine wk_end ?_
 refine ac_next ?_
 refine aw_ret ?_
 obtain rfl := Option.some.inj H
 exact acr hE [.tmp 2] (.tmp .nil) (.one _) [] 9999
/-! spec_ItemOk -/
def spec_ItemOk.f (a0_0 : Int) (a0_1 : Int) (a0_2 : Int) (a0_3 : Int) : Option (Bool) := if a0_0 = 1 then ((spec_HalfOk.f a0_1).bind fun t2 => (if t2 = true then ((spec_HalfOk.f a0_2).bind fun t5 => (if t5 = true then some (a0_3 == 0) else some false)) else some false)) else if a0_0 = 2 then ((spec_l01In.f a0_3 1 1000000000).bind fun t9 => (if t9 = true then (if a0_1 = 0 then some (a0_2 == 0) else some false) else some false)) else some false
theorem spec_ItemOk.ok {a0_0 : Int} {a0_1 : Int} {a0_2 : Int} {a0_3 : Int} {r : Bool} (H : spec_ItemOk.f a0_0 a0_1 a0_2 a0_3 = some r) : ACalls Try.prog 44 [] [.agg [.lit (.int .i64 a0_0), .lit (.int .i64 a0_1), .lit (.int .i64 a0_2), .lit (.int .i64 a0_3)]] [] (.lit (.bool r)) := by
 refine acalls (fn := Try.f44) (nt := 37) Try.func44 rfl rfl (Nat.le_of_ble_eq_true rfl) fun E hE => ?_
 rw [spec_ItemOk.f] at H
 refine aw_grp1 ?_
 refine wk_start ?_
 refine kb g0 (bxA 0) ?_
 refine kv g0 (asg) ?_
 refine wk_end ?_
 refine ac_next ?_
 refine aw_grp1 ?_
 refine aw_grp1 ?_
 refine wk_start ?_
 refine kv g0 (faB 0 0) ?_
 refine kv g0 (ldB) ?_
 refine kv g0 (eql) ?_
 refine wk_end ?_
 refine ac_next ?_
 by_cases c1 : a0_0 = 1
 ·rw [if_pos c1] at H
  refine aw_ifT ?_ (eT c1)
  refine aw_grp1 ?_
  refine wk_start ?_
  refine kv g0 (faB 1 1) ?_
  refine kv g0 (ldB) ?_
  obtain ⟨t2, A3, H⟩ := of_bind H
  refine kcS0 8 (.lit (.bool t2)) [] g0 (cal (spec_HalfOk.ok A3) [] 9999 .n (hf := Try.func49)) rfl rfl ?_
  refine kv g0 (mv) ?_
  by_cases c4 : t2 = true
  ·rw [if_pos c4] at H
   refine kv (g1 c4) (faB 2 2) ?_
   refine kv (g1 c4) (ldB) ?_
   obtain ⟨t5, A6, H⟩ := of_bind H
   refine kcS0 12 (.lit (.bool t5)) [] (g1 c4) (cal (spec_HalfOk.ok A6) [] 9999 .n (hf := Try.func49)) rfl rfl ?_
   refine kv g0 (pkT c4) ?_
   refine kv g0 (mv) ?_
   by_cases c7 : t5 = true
   ·rw [if_pos c7] at H
    refine kv (g1 c7) (faB 3 3) ?_
    refine kv (g1 c7) (ldB) ?_
    refine kv (g1 c7) (eql) ?_
    refine kv g0 (pkT c7) ?_
    refine kv g0 (asg) ?_
    refine wk_end ?_
    refine ac_next ?_
    refine aw_ret ?_
    refine ac_thenR ?_
    obtain rfl := Option.some.inj H
    exact acr hE [.tmp 2] (.tmp .nil) (.one _) [] 9999
   rw [if_neg c7] at H
   refine kx (hT (bF c7)) ?_
   refine kx (hT (bF c7)) ?_
   refine kx (hT (bF c7)) ?_
   refine kv g0 (pkF (bF c7)) ?_
   refine kv g0 (asg) ?_
   refine wk_end ?_
   refine ac_next ?_
   refine aw_ret ?_
   refine ac_thenR ?_
   obtain rfl := Option.some.inj H
   exact acr hE [.tmp 2] (.tmp .nil) (.one _) [] 9999
  rw [if_neg c4] at H
  refine kx (hT (bF c4)) ?_
  refine kx (hT (bF c4)) ?_
  refine kx (hT (bF c4)) ?_
  refine kv g0 (pkF (bF c4)) ?_
  refine kv g0 (mv) ?_
  refine kx (hT rfl) ?_
  refine kx (hT rfl) ?_
  refine kx (hT rfl) ?_
  refine kv g0 (pkF rfl) ?_
  refine kv g0 (asg) ?_
  refine wk_end ?_
  refine ac_next ?_
  refine aw_ret ?_
  refine ac_thenR ?_
  obtain rfl := Option.some.inj H
  exact acr hE [.tmp 2] (.tmp .nil) (.one _) [] 9999
 rw [if_neg c1] at H
 refine aw_ifF ?_ (eF c1)
 refine aw_skip ?_
 refine ac_next ?_
 refine aw_grp1 ?_
 refine wk_start ?_
 refine kv g0 (faB 0 0) ?_
 refine kv g0 (ldB) ?_
 refine kv g0 (eql) ?_
 refine kv g0 (mv) ?_
 by_cases c8 : a0_0 = 2
 ·rw [if_pos c8] at H
  refine kv (g1 (eT c8)) (faB 3 3) ?_
  refine kv (g1 (eT c8)) (ldB) ?_
  obtain ⟨t9, A10, H⟩ := of_bind H
  refine kcS0 25 (.lit (.bool t9)) [] (g1 (eT c8)) (cal (spec_l01In.ok A10) [] 9999 .n (hf := Try.func43)) rfl rfl ?_
  refine kv g0 (pkT (eT c8)) ?_
  refine kv g0 (mv) ?_
  by_cases c11 : t9 = true
  ·rw [if_pos c11] at H
   refine kv (g1 c11) (faB 1 1) ?_
   refine kv (g1 c11) (ldB) ?_
   refine kv (g1 c11) (eql) ?_
   refine kv g0 (pkT c11) ?_
   refine kv g0 (mv) ?_
   by_cases c12 : a0_1 = 0
   ·rw [if_pos c12] at H
    refine kv (g1 (eT c12)) (faB 2 2) ?_
    refine kv (g1 (eT c12)) (ldB) ?_
    refine kv (g1 (eT c12)) (eql) ?_
    refine kv g0 (pkT (eT c12)) ?_
    refine kv g0 (asg) ?_
    refine wk_end ?_
    refine ac_next ?_
    refine aw_ret ?_
    obtain rfl := Option.some.inj H
    exact acr hE [.tmp 2] (.tmp .nil) (.one _) [] 9999
   rw [if_neg c12] at H
   refine kx (hT (eF c12)) ?_
   refine kx (hT (eF c12)) ?_
   refine kx (hT (eF c12)) ?_
   refine kv g0 (pkF (eF c12)) ?_
   refine kv g0 (asg) ?_
   refine wk_end ?_
   refine ac_next ?_
   refine aw_ret ?_
   obtain rfl := Option.some.inj H
   exact acr hE [.tmp 2] (.tmp .nil) (.one _) [] 9999
  rw [if_neg c11] at H
  refine kx (hT (bF c11)) ?_
  refine kx (hT (bF c11)) ?_
  refine kx (hT (bF c11)) ?_
  refine kv g0 (pkF (bF c11)) ?_
  refine kv g0 (mv) ?_
  refine kx (hT rfl) ?_
  refine kx (hT rfl) ?_
  refine kx (hT rfl) ?_
  refine kv g0 (pkF rfl) ?_
  refine kv g0 (asg) ?_
  refine wk_end ?_
  refine ac_next ?_
  refine aw_ret ?_
  obtain rfl := Option.some.inj H
  exact acr hE [.tmp 2] (.tmp .nil) (.one _) [] 9999
 rw [if_neg c8] at H
 refine kx (hT (eF c8)) ?_
 refine kx (hT (eF c8)) ?_
 refine kx (hT (eF c8)) ?_
 refine kv g0 (pkF (eF c8)) ?_
 refine kv g0 (mv) ?_
 refine kx (hT rfl) ?_
 refine kx (hT rfl) ?_
 refine kx (hT rfl) ?_
 refine kv g0 (pkF rfl) ?_
 refine kv g0 (mv) ?_
 refine kx (hT rfl) ?_
 refine kx (hT rfl) ?_
 refine kx (hT rfl) ?_
 refine kv g0 (pkF rfl) ?_
 refine kv g0 (asg) ?_
 refine wk_end ?_
 refine ac_next ?_
 refine aw_ret ?_
 obtain rfl := Option.some.inj H
 exact acr hE [.tmp 2] (.tmp .nil) (.one _) [] 9999
/-! spec_FrameOk -/
def spec_FrameOk.f (a0_0 : Int) (a0_1 : Int) (a0_2 : Int) (a0_3 : Int) (a0_4 : Int) (a0_5 : Int) (a0_6 : Int) : Option (Bool) := (spec_l01In.f a0_1 0 2).bind fun t1 => (if t1 = true then ((spec_l01In.f a0_2 1 1000000000).bind fun t4 => if t4 = true then if a0_0 = 1 then ((spec_ItemOk.f a0_3 a0_4 a0_5 a0_6).bind fun t8 => some t8) else if a0_0 = 2 then some (a0_3 == 0 && (a0_4 == 0 && (a0_5 == 0 && (a0_6 == 0)))) else some false else some false) else some false)
theorem spec_FrameOk.ok {a0_0 : Int} {a0_1 : Int} {a0_2 : Int} {a0_3 : Int} {a0_4 : Int} {a0_5 : Int} {a0_6 : Int} {r : Bool} (H : spec_FrameOk.f a0_0 a0_1 a0_2 a0_3 a0_4 a0_5 a0_6 = some r) : ACalls Try.prog 31 [] [.agg [.lit (.int .i64 a0_0), .lit (.int .i64 a0_1), .lit (.int .i64 a0_2), .lit (.int .i64 a0_3), .lit (.int .i64 a0_4), .lit (.int .i64 a0_5), .lit (.int .i64 a0_6)]] [] (.lit (.bool r)) := by
 refine acalls (fn := Try.f31) (nt := 28) Try.func31 rfl rfl (Nat.le_of_ble_eq_true rfl) fun E hE => ?_
 rw [spec_FrameOk.f] at H
 refine aw_grp1 ?_
 refine wk_start ?_
 refine kb g0 (bxA 0) ?_
 refine kv g0 (asg) ?_
 refine wk_end ?_
 refine ac_next ?_
 refine aw_grp1 ?_
 refine aw_grp1 ?_
 refine wk_start ?_
 refine kv g0 (faB 1 1) ?_
 refine kv g0 (ldB) ?_
 obtain ⟨t1, A2, H⟩ := of_bind H
 refine kcS0 5 (.lit (.bool t1)) [] g0 (cal (spec_l01In.ok A2) [] 9999 .n (hf := Try.func43)) rfl rfl ?_
 refine kv g0 (not_) ?_
 refine kv g0 (mv) ?_
 by_cases c3 : t1 = true
 ·rw [if_pos c3] at H
  refine kv (g1 (nF c3)) (faB 2 2) ?_
  refine kv (g1 (nF c3)) (ldB) ?_
  obtain ⟨t4, A5, H⟩ := of_bind H
  refine kcS0 10 (.lit (.bool t4)) [] (g1 (nF c3)) (cal (spec_l01In.ok A5) [] 9999 .n (hf := Try.func43)) rfl rfl ?_
  refine kv (g1 (nF c3)) (not_) ?_
  refine kv g0 (pkF (nF c3)) ?_
  refine wk_end ?_
  refine ac_next ?_
  by_cases c6 : t4 = true
  ·rw [if_pos c6] at H
   refine aw_ifF ?_ (nF c6)
   refine aw_skip ?_
   refine ac_next ?_
   refine aw_grp1 ?_
   refine aw_grp1 ?_
   refine wk_start ?_
   refine kv g0 (faB 0 0) ?_
   refine kv g0 (ldB) ?_
   refine kv g0 (eql) ?_
   refine wk_end ?_
   refine ac_next ?_
   by_cases c7 : a0_0 = 1
   ·rw [if_pos c7] at H
    refine aw_ifT ?_ (eT c7)
    refine aw_grp1 ?_
    refine wk_start ?_
    refine kv g0 (faB 3 3) ?_
    refine kv g0 (ldBA 4 [.lit (.int .i64 a0_3), .lit (.int .i64 a0_4), .lit (.int .i64 a0_5), .lit (.int .i64 a0_6)]) ?_
    obtain ⟨t8, A9, H⟩ := of_bind H
    refine kcS0 18 (.lit (.bool t8)) [] g0 (cal (spec_ItemOk.ok A9) [] 9999 .n (hf := Try.func44)) rfl rfl ?_
    refine kv g0 (asg) ?_
    refine wk_end ?_
    refine ac_next ?_
    refine aw_ret ?_
    refine ac_thenR ?_
    obtain rfl := Option.some.inj H
    exact acr hE [.tmp 2] (.tmp .nil) (.one _) [] 9999
   rw [if_neg c7] at H
   refine aw_ifF ?_ (eF c7)
   refine aw_skip ?_
   refine ac_next ?_
   refine aw_grp1 ?_
   refine wk_start ?_
   refine kv g0 (faB 0 0) ?_
   refine kv g0 (ldB) ?_
   refine kv g0 (eql) ?_
   refine kv g0 (mv) ?_
   by_cases c10 : a0_0 = 2
   ·rw [if_pos c10] at H
    refine kv (g1 (eT c10)) (faB 3 3) ?_
    refine kv (g1 (eT c10)) (ldBA 4 [.lit (.int .i64 a0_3), .lit (.int .i64 a0_4), .lit (.int .i64 a0_5), .lit (.int .i64 a0_6)]) ?_
    refine kv (g1 (eT c10)) (bld [(0, 1), (1, 1), (2, 1), (3, 1)] [.int .i64 0, .int .i64 0, .int .i64 0, .int .i64 0] [.lit (.int .i64 0), .lit (.int .i64 0), .lit (.int .i64 0), .lit (.int .i64 0)]) ?_
    refine kv (g1 (eT c10)) (eqS (fun w => eq25 _ w a0_3 a0_4 a0_5 a0_6 0 0 0 0)) ?_
    refine kv g0 (pkT (eT c10)) ?_
    refine kv g0 (asg) ?_
    refine wk_end ?_
    refine ac_next ?_
    refine aw_ret ?_
    obtain rfl := Option.some.inj H
    exact acr hE [.tmp 2] (.tmp .nil) (.one _) [] 9999
   rw [if_neg c10] at H
   refine kx (hT (eF c10)) ?_
   refine kx (hT (eF c10)) ?_
   refine kx (hT (eF c10)) ?_
   refine kx (hT (eF c10)) ?_
   refine kv g0 (pkF (eF c10)) ?_
   refine kv g0 (asg) ?_
   refine wk_end ?_
   refine ac_next ?_
   refine aw_ret ?_
   obtain rfl := Option.some.inj H
   exact acr hE [.tmp 2] (.tmp .nil) (.one _) [] 9999
  rw [if_neg c6] at H
  refine aw_ifT ?_ (nT (bF c6))
  refine aw_grp1 ?_
  refine wk_start ?_
  refine kv g0 (asg) ?_
  refine wk_end ?_
  refine ac_next ?_
  refine aw_ret ?_
  refine ac_thenR ?_
  obtain rfl := Option.some.inj H
  exact acr hE [.tmp 2] (.tmp .nil) (.one _) [] 9999
 rw [if_neg c3] at H
 refine kx (hF (nT (bF c3))) ?_
 refine kx (hF (nT (bF c3))) ?_
 refine kx (hF (nT (bF c3))) ?_
 refine kx (hF (nT (bF c3))) ?_
 refine kv g0 (pkT (nT (bF c3))) ?_
 refine wk_end ?_
 refine ac_next ?_
 refine aw_ifT ?_ rfl
 refine aw_grp1 ?_
 refine wk_start ?_
 refine kv g0 (asg) ?_
 refine wk_end ?_
 refine ac_next ?_
 refine aw_ret ?_
 refine ac_thenR ?_
 obtain rfl := Option.some.inj H
 exact acr hE [.tmp 2] (.tmp .nil) (.one _) [] 9999
/-! spec_l01Var -/
def spec_l01Var.l0 : Nat → Int → (List Int) → Option (ByteArray)
 | 0, _, _ => none
 | k6 + 1, p4, q5 => if p4 > 127 then if q5.length + ([IntKind.u8.wrap (wrap64 ((p4.tmod 128) + 128))] : List Int).length < 140737488355328 then spec_l01Var.l0 k6 (wrap64 (p4.tdiv 128)) (q5 ++ ([IntKind.u8.wrap (wrap64 ((p4.tmod 128) + 128))] : List Int)) else none else if q5.length + ([IntKind.u8.wrap p4] : List Int).length < 140737488355328 then some (strOfNums (q5 ++ ([IntKind.u8.wrap p4] : List Int))) else none
def spec_l01Var.f (k : Nat) (a0 : Int) : Option (ByteArray) := spec_l01Var.l0 k a0 ([] : List Int)
theorem spec_l01Var.ok {k : Nat} {a0 : Int} {r : ByteArray} (H : spec_l01Var.f k a0 = some r) : ACalls Try.prog 32 [] [.lit (.int .i64 a0)] [] (.lit (.string r)) := by
 refine acalls (fn := Try.f32) (nt := 22) Try.func32 rfl rfl (Nat.le_of_ble_eq_true rfl) fun E hE => ?_
 rw [spec_l01Var.f] at H
 refine aw_grp1 ?_
 refine wk_start ?_
 refine kv g0 (asg) ?_
 refine wk_end ?_
 refine ac_next ?_
 refine aw_grp1 ?_
 refine wk_start ?_
 refine kb g0 (bsl 0 5 1 [.int .u8 0] (([] : List Int).map (eI .u8))) ?_
 refine kv g0 (asg) ?_
 refine wk_end ?_
 refine ac_next ?_
 refine aw_grp1 ?_
 refine aw_block ?_
 refine aw_loop2 (fun (k_ : Nat) (p4 : Int) (q5 : List Int) => k_ ≤ k ∧ spec_l01Var.l0 k_ p4 q5 = some r) (fun (p4 : Int) (q5 : List Int) => ⟨[(0, .lit (.int .i64 p4)), (3, .row 0)], [(0, .row 5 1 (q5.map (eI .u8)))]⟩) k a0 ([] : List Int) ⟨Nat.le_refl _, H⟩ (fun K_ h_ => acw hE [(0, 0)] 9999 h_) (fun _ _ => by intro h_; have h_ := h_.2; rw [spec_l01Var.l0.eq_1] at h_; cases h_) ?_
 intro k6 p4 q5 hq_ K9 hK10
 have hk6 := hq_.1
 have H := hq_.2
 clear hq_
 rw [spec_l01Var.l0.eq_2] at H
 refine aw_grp1 ?_
 refine aw_grp1 ?_
 refine wk_start ?_
 refine kv g0 (mv) ?_
 refine kv g0 (gtr) ?_
 refine wk_end ?_
 refine ac_next ?_
 by_cases c7 : p4 > 127
 ·rw [if_pos c7] at H
  refine aw_ifT ?_ (decide_eq_true c7)
  refine aw_skip ?_
  refine ac_next ?_
  refine aw_block ?_
  refine aw_grp1 ?_
  refine wk_start ?_
  refine kv g0 (mv) ?_
  refine kv g0 (mv) ?_
  refine kv g0 (rem (by decide : (128 : Int) ≠ 0)) ?_
  refine kv g0 (add6) ?_
  refine kv g0 (cnv .u8) ?_
  refine kb g0 (bsl 1 5 1 [.int .u8 0] (([IntKind.u8.wrap (wrap64 ((p4.tmod 128) + 128))] : List Int).map (eI .u8))) ?_
  obtain ⟨c8, H⟩ := of_if H
  refine kc g0 (apR 2 5 1 1 [.int .u8 0] ((q5 ++ ([IntKind.u8.wrap (wrap64 ((p4.tmod 128) + 128))] : List Int)).map (eI .u8)) (.row rfl) (apb c8 rfl) appE) ?_
  refine kv g0 (asg) ?_
  refine wk_end ?_
  refine ac_next ?_
  refine wk_start ?_
  refine kv g0 (mv) ?_
  refine kv g0 (quo6 (by decide : (128 : Int) ≠ 0)) ?_
  refine kv g0 (asg) ?_
  refine wk_end ?_
  refine ac_blkN ?_
  refine ac_k ?_
  exact acw hE [(0, 2)] 9999 (hK10 k6 (wrap64 (p4.tdiv 128)) (q5 ++ ([IntKind.u8.wrap (wrap64 ((p4.tmod 128) + 128))] : List Int)) (Nat.le_refl _) ⟨by omega, H⟩)
 rw [if_neg c7] at H
 refine aw_ifF ?_ (decide_eq_false c7)
 refine aw_exit ?_
 refine ac_then ?_
 refine ac_then ?_
 refine ac_hit rfl ?_
 refine ac_next ?_
 refine aw_grp1 ?_
 refine wk_start ?_
 refine kv g0 (mv) ?_
 refine kv g0 (mv) ?_
 refine kv g0 (cnv .u8) ?_
 refine kb g0 (bsl 3 5 1 [.int .u8 0] (([IntKind.u8.wrap p4] : List Int).map (eI .u8))) ?_
 obtain ⟨c11, H⟩ := of_if H
 refine kc g0 (apR 4 5 1 1 [.int .u8 0] ((q5 ++ ([IntKind.u8.wrap p4] : List Int)).map (eI .u8)) (.row rfl) (apb c11 rfl) appE) ?_
 refine kv g0 (cvB (.row rfl)) ?_
 refine kv g0 (asg) ?_
 refine wk_end ?_
 refine ac_next ?_
 refine aw_ret ?_
 obtain rfl := Option.some.inj H
 exact acr hE [.tmp 2] (.tmp .nil) (.one _) [] 9999
/-! spec_l06Four -/
def spec_l06Four.f (a0 : Int) : Option (ByteArray) := some (strOfNums ([IntKind.u8.wrap (a0.fdiv (2 ^ 24)), IntKind.u8.wrap (a0.fdiv (2 ^ 16)), IntKind.u8.wrap (a0.fdiv (2 ^ 8)), IntKind.u8.wrap a0] : List Int))
theorem spec_l06Four.ok {a0 : Int} {r : ByteArray} (H : spec_l06Four.f a0 = some r) : ACalls Try.prog 33 [] [.lit (.int .i64 a0)] [] (.lit (.string r)) := by
 refine acalls (fn := Try.f33) (nt := 16) Try.func33 rfl rfl (Nat.le_of_ble_eq_true rfl) fun E hE => ?_
 rw [spec_l06Four.f] at H
 refine aw_grp1 ?_
 refine wk_start ?_
 refine kv g0 (asg) ?_
 refine wk_end ?_
 refine ac_next ?_
 refine aw_grp1 ?_
 refine wk_start ?_
 refine kv g0 (mv) ?_
 refine kv g0 (shr (by decide : (0 : Int) ≤ 24)) ?_
 refine kv g0 (cnv .u8) ?_
 refine kv g0 (mv) ?_
 refine kv g0 (shr (by decide : (0 : Int) ≤ 16)) ?_
 refine kv g0 (cnv .u8) ?_
 refine kv g0 (mv) ?_
 refine kv g0 (shr (by decide : (0 : Int) ≤ 8)) ?_
 refine kv g0 (cnv .u8) ?_
 refine kv g0 (mv) ?_
 refine kv g0 (cnv .u8) ?_
 refine kb g0 (bsl 0 5 1 [.int .u8 0] (([IntKind.u8.wrap (a0.fdiv (2 ^ 24)), IntKind.u8.wrap (a0.fdiv (2 ^ 16)), IntKind.u8.wrap (a0.fdiv (2 ^ 8)), IntKind.u8.wrap a0] : List Int).map (eI .u8))) ?_
 refine kv g0 (cvB (.row rfl)) ?_
 refine kv g0 (asg) ?_
 refine wk_end ?_
 refine ac_next ?_
 refine aw_ret ?_
 obtain rfl := Option.some.inj H
 exact acr hE [.tmp 2] (.tmp .nil) (.one _) [] 9999
/-! spec_SumMore -/
mutual
def spec_SumMore.l0 : Nat → ByteArray → Int → Int → Int → Option (Int)
 | 0, _, _, _, _ => none
 | k21 + 1, a1, p13, p19, p20 => if p20 < 8 then if (p19.tmod 2) = 1 then spec_SumMore.l0 k21 a1 p13 (bits .xor .u32 (IntKind.u32.wrap (p19.tdiv 2)) 3558460437) (wrap64 (p20 + 1)) else spec_SumMore.l0 k21 a1 p13 (IntKind.u32.wrap (p19.tdiv 2)) (wrap64 (p20 + 1)) else spec_SumMore.l1 k21 a1 p19 (wrap64 (p13 + 1))
def spec_SumMore.l1 : Nat → ByteArray → Int → Int → Option (Int)
 | 0, _, _, _ => none
 | k14 + 1, a1, p12, p13 => if p13 < (a1.size : Int) then if 0 ≤ p13 then spec_SumMore.l0 k14 a1 p13 (bits .xor .u32 p12 (IntKind.u32.wrap (bt a1 p13))) 0 else none else some p12
end
def spec_SumMore.f (k : Nat) (a0 : Int) (a1 : ByteArray) : Option (Int) := spec_SumMore.l1 k a1 a0 0
theorem spec_SumMore.ok {k : Nat} {a0 : Int} {a1 : ByteArray} {r : Int} (H : spec_SumMore.f k a0 a1 = some r) : ACalls Try.prog 48 [] [.lit (.int .u32 a0), .lit (.string a1)] [] (.lit (.int .u32 r)) := by
 refine acalls (fn := Try.f48) (nt := 33) Try.func48 rfl rfl (Nat.le_of_ble_eq_true rfl) fun E hE => ?_
 rw [spec_SumMore.f] at H
 refine aw_grp1 ?_
 refine wk_start ?_
 refine kv g0 (asg) ?_
 refine wk_end ?_
 refine ac_next ?_
 refine aw_grp1 ?_
 refine aw_grp1 ?_
 refine wk_start ?_
 refine kv g0 (asg) ?_
 refine wk_end ?_
 refine ac_next ?_
 refine aw_block ?_
 refine aw_loop2 (fun (k_ : Nat) (p12 : Int) (p13 : Int) => k_ ≤ k ∧ spec_SumMore.l1 k_ a1 p12 p13 = some r) (fun (p12 : Int) (p13 : Int) => ⟨[(0, .lit (.int .u32 p12)), (1, .lit (.string a1)), (5, .lit (.int .i64 p13))], []⟩) k a0 0 ⟨Nat.le_refl _, H⟩ (fun K_ h_ => acw hE [] 9999 h_) (fun _ _ => by intro h_; have h_ := h_.2; rw [spec_SumMore.l1.eq_1] at h_; cases h_) ?_
 intro k14 p12 p13 hq_ K26 hK27
 have hk14 := hq_.1
 have H := hq_.2
 clear hq_
 rw [spec_SumMore.l1.eq_2] at H
 refine aw_grp1 ?_
 refine aw_grp1 ?_
 refine wk_start ?_
 refine kv g0 (mv) ?_
 refine kv g0 (mv) ?_
 refine kv g0 (lnT) ?_
 refine kv g0 (lss) ?_
 refine wk_end ?_
 refine ac_next ?_
 by_cases c15 : p13 < (a1.size : Int)
 ·rw [if_pos c15] at H
  refine aw_ifT ?_ (decide_eq_true c15)
  refine aw_skip ?_
  refine ac_next ?_
  refine aw_grp1 ?_
  refine aw_block ?_
  refine aw_grp1 ?_
  refine wk_start ?_
  refine kv g0 (mv) ?_
  refine kv g0 (mv) ?_
  refine kv g0 (mv) ?_
  obtain ⟨c16, H⟩ := of_if H
  refine kv g0 (ixT c16 c15) ?_
  refine kv g0 (cnv .u32) ?_
  refine kv g0 (bxor) ?_
  refine kv g0 (asg) ?_
  refine wk_end ?_
  refine ac_next ?_
  refine aw_grp1 ?_
  refine wk_start ?_
  refine kv g0 (asg) ?_
  refine wk_end ?_
  refine ac_next ?_
  refine aw_block ?_
  refine aw_loop2 (fun (k_ : Nat) (p19 : Int) (p20 : Int) => k_ ≤ k14 ∧ spec_SumMore.l0 k_ a1 p13 p19 p20 = some r) (fun (p19 : Int) (p20 : Int) => ⟨[(0, .lit (.int .u32 p19)), (1, .lit (.string a1)), (5, .lit (.int .i64 p13)), (6, .lit (.int .i64 p20))], []⟩) k14 (bits .xor .u32 p12 (IntKind.u32.wrap (bt a1 p13))) 0 ⟨Nat.le_refl _, H⟩ (fun K_ h_ => acw hE [] 9999 h_) (fun _ _ => by intro h_; have h_ := h_.2; rw [spec_SumMore.l0.eq_1] at h_; cases h_) ?_
  intro k21 p19 p20 hq_ K24 hK25
  have hk21 := hq_.1
  have H := hq_.2
  clear hq_
  rw [spec_SumMore.l0.eq_2] at H
  refine aw_grp1 ?_
  refine aw_grp1 ?_
  refine wk_start ?_
  refine kv g0 (mv) ?_
  refine kv g0 (lss) ?_
  refine wk_end ?_
  refine ac_next ?_
  by_cases c22 : p20 < 8
  ·rw [if_pos c22] at H
   refine aw_ifT ?_ (decide_eq_true c22)
   refine aw_skip ?_
   refine ac_next ?_
   refine aw_grp1 ?_
   refine aw_block ?_
   refine aw_grp1 ?_
   refine wk_start ?_
   refine kv g0 (mv) ?_
   refine kv g0 (rem (by decide : (2 : Int) ≠ 0)) ?_
   refine kv g0 (eql) ?_
   refine kv g0 (asg) ?_
   refine wk_end ?_
   refine ac_next ?_
   refine aw_grp1 ?_
   refine wk_start ?_
   refine kv g0 (mv) ?_
   refine kv g0 (quo (by decide : (2 : Int) ≠ 0)) ?_
   refine kv g0 (asg) ?_
   refine wk_end ?_
   refine ac_next ?_
   refine aw_grp1 ?_
   refine wk_start ?_
   refine kv g0 (mv) ?_
   refine wk_end ?_
   refine ac_next ?_
   by_cases c23 : (p19.tmod 2) = 1
   ·rw [if_pos c23] at H
    refine aw_ifT ?_ (eT c23)
    refine wk_start ?_
    refine kv g0 (mv) ?_
    refine kv g0 (bxor) ?_
    refine kv g0 (asg) ?_
    refine wk_end ?_
    refine ac_blkN ?_
    refine ac_next ?_
    refine wk_start ?_
    refine kv g0 (mv) ?_
    refine kv g0 (add6) ?_
    refine kv g0 (asg) ?_
    refine wk_end ?_
    refine ac_k ?_
    exact acw hE [] 9999 (hK25 k21 (bits .xor .u32 (IntKind.u32.wrap (p19.tdiv 2)) 3558460437) (wrap64 (p20 + 1)) (Nat.le_refl _) ⟨by omega, H⟩)
   rw [if_neg c23] at H
   refine aw_ifF ?_ (eF c23)
   refine aw_skip ?_
   refine ac_blkN ?_
   refine ac_next ?_
   refine wk_start ?_
   refine kv g0 (mv) ?_
   refine kv g0 (add6) ?_
   refine kv g0 (asg) ?_
   refine wk_end ?_
   refine ac_k ?_
   exact acw hE [] 9999 (hK25 k21 (IntKind.u32.wrap (p19.tdiv 2)) (wrap64 (p20 + 1)) (Nat.le_refl _) ⟨by omega, H⟩)
  rw [if_neg c22] at H
  refine aw_ifF ?_ (decide_eq_false c22)
  refine aw_exit ?_
  refine ac_then ?_
  refine ac_then ?_
  refine ac_hit rfl ?_
  refine ac_blkN ?_
  refine ac_next ?_
  refine wk_start ?_
  refine kv g0 (mv) ?_
  refine kv g0 (add6) ?_
  refine kv g0 (asg) ?_
  refine wk_end ?_
  refine ac_k ?_
  exact acw hE [] 9999 (hK27 k21 p19 (wrap64 (p13 + 1)) (by omega) ⟨by omega, H⟩)
 rw [if_neg c15] at H
 refine aw_ifF ?_ (decide_eq_false c15)
 refine aw_exit ?_
 refine ac_then ?_
 refine ac_then ?_
 refine ac_hit rfl ?_
 refine ac_next ?_
 refine aw_grp1 ?_
 refine wk_start ?_
 refine kv g0 (mv) ?_
 refine kv g0 (asg) ?_
 refine wk_end ?_
 refine ac_next ?_
 refine aw_ret ?_
 obtain rfl := Option.some.inj H
 exact acr hE [.tmp 4] (.tmp .nil) (.one _) [] 9999
end Go.Proofs.Ytcdmhlmfpnkhiaa.PFnFrames
