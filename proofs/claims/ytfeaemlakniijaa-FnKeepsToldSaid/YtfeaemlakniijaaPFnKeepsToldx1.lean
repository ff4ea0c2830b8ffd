import Derived.Test.YtfeaemlakniijaaPFnKeepsToldx0
set_option linter.unusedVariables false
set_option linter.unusedSimpArgs false
set_option maxRecDepth 100000
namespace Go.Proofs.Ytfeaemlakniijaa.PFnKeepsTold
open Go Go.RowKit Go.Proofs.YtfeaemlakniijaaA
/-! laws_big -/
def laws_big.f (l0 : List Int) : Option (Bool) := some (decide ((l0.length : Int) > 1048576))
theorem laws_big.ok {l0 : List Int} {r : Bool} (H : laws_big.f l0 = some r) : ACalls Try.prog 8 [] [.sl .o 1 (l0.map (eI .u8))] [] (.lit (.bool r)) := by
 refine acalls (fn := Try.f8) (nt := 6) Try.func8 rfl rfl (Nat.le_of_ble_eq_true rfl) fun E hE => ?_
 rw [laws_big.f] at H
 refine aw_grp1 ?_
 refine wk_start ?_
 refine kv g0 (asg) ?_
 refine wk_end ?_
 refine ac_next ?_
 refine aw_grp1 ?_
 refine wk_start ?_
 refine kv g0 (mv) ?_
 refine kv g0 (lnS lenE) ?_
 refine kv g0 (gtr) ?_
 refine kv g0 (asg) ?_
 refine wk_end ?_
 refine ac_next ?_
 refine aw_ret ?_
 obtain rfl := Option.some.inj H
 exact acr hE [.tmp 2] (.tmp .nil) (.one _) [] 9999
/-! spec_l01New -/
def spec_l01New.l0 : Nat → (List Int) → Int → Int → Option ((List Int) × Int × Int)
 | 0, _, _, _ => none
 | k5 + 1, l0, p3, p4 => if p4 < (l0.length : Int) then if p4 < 4000 then if 0 ≤ p4 then spec_l01New.l0 k5 l0 (bits .and .i64 (wrap64 ((wrap64 ((wrap64 (p3 * 131)) + (wrap64 (rd l0 p4)))) + 7)) 1073741823) (wrap64 (p4 + 1)) else none else some (l0, 0, p3) else some (l0, 0, p3)
def spec_l01New.f (k : Nat) (l0 : List Int) : Option ((List Int) × Int × Int) := spec_l01New.l0 k l0 (wrap64 (78801 + (l0.length : Int))) 0
theorem spec_l01New.ok {k : Nat} {l0 : List Int} {r : (List Int) × Int × Int} (H : spec_l01New.f k l0 = some r) : ACalls Try.prog 50 [] [.sl .u 1 (l0.map (eI .u8))] [(0, .box 142 [.sl .u 1 (r.1.map (eI .u8)), .lit (.int .i64 r.2.1), .lit (.int .i64 r.2.2)])] (.box 0 0) := by
 refine acalls (fn := Try.f50) (nt := 32) Try.func50 rfl rfl (Nat.le_of_ble_eq_true rfl) fun E hE => ?_
 rw [spec_l01New.f] at H
 refine aw_grp1 ?_
 refine wk_start ?_
 refine kv g0 (asg) ?_
 refine wk_end ?_
 refine ac_next ?_
 refine aw_grp1 ?_
 refine wk_start ?_
 refine kv g0 (mv) ?_
 refine kv g0 (lnS lenE) ?_
 refine kv g0 (add6) ?_
 refine kv g0 (asg) ?_
 refine wk_end ?_
 refine ac_next ?_
 refine aw_grp1 ?_
 refine aw_grp1 ?_
 refine wk_start ?_
 refine kv g0 (asg) ?_
 refine wk_end ?_
 refine ac_next ?_
 refine aw_block ?_
 refine aw_loop2 (fun (k_ : Nat) (p3 : Int) (p4 : Int) => k_ ≤ k ∧ spec_l01New.l0 k_ l0 p3 p4 = some r) (fun (p3 : Int) (p4 : Int) => ⟨[(0, .sl .u 1 (l0.map (eI .u8))), (3, .lit (.int .i64 p3)), (4, .lit (.int .i64 p4))], []⟩) k (wrap64 (78801 + (l0.length : Int))) 0 ⟨Nat.le_refl _, H⟩ (fun K_ h_ => acw hE [] 9999 h_) (fun _ _ => by intro h_; have h_ := h_.2; rw [spec_l01New.l0.eq_1] at h_; cases h_) ?_
 intro k5 p3 p4 hq_ K9 hK10
 have hk5 := hq_.1
 have H := hq_.2
 clear hq_
 rw [spec_l01New.l0.eq_2] at H
 refine aw_grp1 ?_
 refine aw_grp1 ?_
 refine wk_start ?_
 refine kv g0 (mv) ?_
 refine kv g0 (mv) ?_
 refine kv g0 (lnS lenE) ?_
 refine kv g0 (lss) ?_
 refine kv g0 (mv) ?_
 by_cases c6 : p4 < (l0.length : Int)
 ·rw [if_pos c6] at H
  refine kv (g1 (decide_eq_true c6)) (mv) ?_
  refine kv (g1 (decide_eq_true c6)) (lss) ?_
  refine kv g0 (pkT (decide_eq_true c6)) ?_
  refine wk_end ?_
  refine ac_next ?_
  by_cases c7 : p4 < 4000
  ·rw [if_pos c7] at H
   refine aw_ifT ?_ (decide_eq_true c7)
   refine aw_skip ?_
   refine ac_next ?_
   refine aw_grp1 ?_
   refine aw_block ?_
   refine wk_start ?_
   refine kv g0 (mv) ?_
   refine kv g0 (mul6) ?_
   refine kv g0 (mv) ?_
   refine kv g0 (mv) ?_
   obtain ⟨c8, H⟩ := of_if H
   refine kv g0 (ixS 5 (eI .u8 (rd l0 p4)) c8 (getE (z := (0 : Int)) c8 c6)) ?_
   refine kv g0 (ldR (.lit (.int .u8 (rd l0 p4)))) ?_
   refine kv g0 (cnv6) ?_
   refine kv g0 (add6) ?_
   refine kv g0 (add6) ?_
   refine kv g0 (band) ?_
   refine kv g0 (asg) ?_
   refine wk_end ?_
   refine ac_blkN ?_
   refine ac_next ?_
   refine wk_start ?_
   refine kv g0 (mv) ?_
   refine kv g0 (add6) ?_
   refine kv g0 (asg) ?_
   refine wk_end ?_
   refine ac_k ?_
   exact acw hE [] 9999 (hK10 k5 (bits .and .i64 (wrap64 ((wrap64 ((wrap64 (p3 * 131)) + (wrap64 (rd l0 p4)))) + 7)) 1073741823) (wrap64 (p4 + 1)) (Nat.le_refl _) ⟨by omega, H⟩)
  rw [if_neg c7] at H
  refine aw_ifF ?_ (decide_eq_false c7)
  refine aw_exit ?_
  refine ac_then ?_
  refine ac_then ?_
  refine ac_hit rfl ?_
  refine ac_next ?_
  refine aw_grp1 ?_
  refine wk_start ?_
  refine kv g0 (mv) ?_
  refine kv g0 (mv) ?_
  refine kv g0 (bld [(0, 1), (1, 1), (2, 1)] [.slice none 0 0, .int .i64 0, .int .i64 0] [.sl .u 1 (l0.map (eI .u8)), .lit (.int .i64 0), .lit (.int .i64 p3)]) ?_
  refine kb g0 (bxA 0) ?_
  refine kv g0 (asg) ?_
  refine wk_end ?_
  refine ac_next ?_
  refine aw_ret ?_
  obtain rfl := Option.some.inj H
  exact acr hE [.tmp 2] (.tmp .nil) (.one _) [(0, 0)] 9999
 rw [if_neg c6] at H
 refine kx (hT (decide_eq_false c6)) ?_
 refine kx (hT (decide_eq_false c6)) ?_
 refine kv g0 (pkF (decide_eq_false c6)) ?_
 refine wk_end ?_
 refine ac_next ?_
 refine aw_ifF ?_ rfl
 refine aw_exit ?_
 refine ac_then ?_
 refine ac_then ?_
 refine ac_hit rfl ?_
 refine ac_next ?_
 refine aw_grp1 ?_
 refine wk_start ?_
 refine kv g0 (mv) ?_
 refine kv g0 (mv) ?_
 refine kv g0 (bld [(0, 1), (1, 1), (2, 1)] [.slice none 0 0, .int .i64 0, .int .i64 0] [.sl .u 1 (l0.map (eI .u8)), .lit (.int .i64 0), .lit (.int .i64 p3)]) ?_
 refine kb g0 (bxA 1) ?_
 refine kv g0 (asg) ?_
 refine wk_end ?_
 refine ac_next ?_
 refine aw_ret ?_
 obtain rfl := Option.some.inj H
 exact acr hE [.tmp 2] (.tmp .nil) (.one _) [(0, 1)] 9999
/-! spec_l01Byte -/
def spec_l01Byte.f (l0_0 : List Int) (a0_1 : Int) (a0_2 : Int) : Option (Int × (List Int) × Int × Int) := if a0_1 < (l0_0.length : Int) then (if 0 ≤ a0_1 then some (bits .and .i64 (wrap64 ((bits .and .i64 (bits .xor .i64 ((wrap64 ((wrap64 (a0_2 * 6364136223846793005)) + 1442695040888963407)).fdiv (2 ^ 33)) ((wrap64 ((wrap64 (a0_2 * 6364136223846793005)) + 1442695040888963407)).fdiv (2 ^ 45))) 255) + (wrap64 (rd l0_0 a0_1)))) 255, l0_0, wrap64 (a0_1 + 1), wrap64 ((wrap64 (a0_2 * 6364136223846793005)) + 1442695040888963407)) else none) else some (bits .and .i64 (bits .xor .i64 ((wrap64 ((wrap64 (a0_2 * 6364136223846793005)) + 1442695040888963407)).fdiv (2 ^ 33)) ((wrap64 ((wrap64 (a0_2 * 6364136223846793005)) + 1442695040888963407)).fdiv (2 ^ 45))) 255, l0_0, a0_1, wrap64 ((wrap64 (a0_2 * 6364136223846793005)) + 1442695040888963407))
theorem spec_l01Byte.ok {l0_0 : List Int} {a0_1 : Int} {a0_2 : Int} {r : Int × (List Int) × Int × Int} (H : spec_l01Byte.f l0_0 a0_1 a0_2 = some r) : ACalls Try.prog 51 [(0, .box 142 [.sl .u 1 (l0_0.map (eI .u8)), .lit (.int .i64 a0_1), .lit (.int .i64 a0_2)])] [.box 0 0] [(0, .box 142 [.sl .u 1 (r.2.1.map (eI .u8)), .lit (.int .i64 r.2.2.1), .lit (.int .i64 r.2.2.2)])] (.lit (.int .i64 r.1)) := by
 refine acalls (fn := Try.f51) (nt := 58) Try.func51 rfl rfl (Nat.le_of_ble_eq_true rfl) fun E hE => ?_
 rw [spec_l01Byte.f] at H
 refine aw_grp1 ?_
 refine wk_start ?_
 refine kv g0 (asg) ?_
 refine wk_end ?_
 refine ac_next ?_
 refine aw_grp1 ?_
 refine wk_start ?_
 refine kv g0 (mv) ?_
 refine kv g0 (mv) ?_
 refine kv g0 (nilB) ?_
 refine kv g0 (faB 2 2) ?_
 refine kv g0 (ldB) ?_
 refine kv g0 (mul6) ?_
 refine kv g0 (add6) ?_
 refine kv g0 (nilB) ?_
 refine kv g0 (faB 2 2) ?_
 refine ks g0 (stB 1 [.sl .u 1 (l0_0.map (eI .u8)), .lit (.int .i64 a0_1), .lit (.int .i64 (wrap64 ((wrap64 (a0_2 * 6364136223846793005)) + 1442695040888963407)))]) ?_
 refine wk_end ?_
 refine ac_next ?_
 refine aw_grp1 ?_
 refine wk_start ?_
 refine kv g0 (mv) ?_
 refine kv g0 (nilB) ?_
 refine kv g0 (faB 2 2) ?_
 refine kv g0 (ldB) ?_
 refine kv g0 (shr (by decide : (0 : Int) ≤ 33)) ?_
 refine kv g0 (mv) ?_
 refine kv g0 (nilB) ?_
 refine kv g0 (faB 2 2) ?_
 refine kv g0 (ldB) ?_
 refine kv g0 (shr (by decide : (0 : Int) ≤ 45)) ?_
 refine kv g0 (bxor) ?_
 refine kv g0 (band) ?_
 refine kv g0 (asg) ?_
 refine wk_end_draw hM (by kernel_rfl) ?_
 refine ac_next ?_
 refine aw_grp1 ?_
 refine aw_grp1 ?_
 refine wk_start ?_
 refine kv g0 (mv) ?_
 refine kv g0 (nilB) ?_
 refine kv g0 (faB 1 1) ?_
 refine kv g0 (ldB) ?_
 refine kv g0 (mv) ?_
 refine kv g0 (nilB) ?_
 refine kv g0 (faB 0 0) ?_
 refine kv g0 (ldB) ?_
 refine kv g0 (lnS lenE) ?_
 refine kv g0 (lss) ?_
 refine wk_end_draw hM (by kernel_rfl) ?_
 refine ac_next ?_
 by_cases c1 : a0_1 < (l0_0.length : Int)
 ·rw [if_pos c1] at H
  refine aw_ifT ?_ (decide_eq_true c1)
  refine aw_grp1 ?_
  refine wk_start ?_
  refine kv g0 (mv) ?_
  refine kv g0 (mv) ?_
  refine kv g0 (nilB) ?_
  refine kv g0 (faB 0 0) ?_
  refine kv g0 (ldB) ?_
  refine kv g0 (mv) ?_
  refine kv g0 (nilB) ?_
  refine kv g0 (faB 1 1) ?_
  refine kv g0 (ldB) ?_
  obtain ⟨c2, H⟩ := of_if H
  refine kv g0 (ixS 5 (eI .u8 (rd l0_0 a0_1)) c2 (getE (z := (0 : Int)) c2 c1)) ?_
  refine kv g0 (ldR (.lit (.int .u8 (rd l0_0 a0_1)))) ?_
  refine kv g0 (cnv6) ?_
  refine kv g0 (add6) ?_
  refine kv g0 (band) ?_
  refine kv g0 (asg) ?_
  refine wk_end_draw hM (by kernel_rfl) ?_
  refine ac_next ?_
  refine wk_start ?_
  refine kv g0 (mv) ?_
  refine kv g0 (mv) ?_
  refine kv g0 (nilB) ?_
  refine kv g0 (faB 1 1) ?_
  refine kv g0 (ldB) ?_
  refine kv g0 (add6) ?_
  refine kv g0 (nilB) ?_
  refine kv g0 (faB 1 1) ?_
  refine ks g0 (stB 1 [.sl .u 1 (l0_0.map (eI .u8)), .lit (.int .i64 (wrap64 (a0_1 + 1))), .lit (.int .i64 (wrap64 ((wrap64 (a0_2 * 6364136223846793005)) + 1442695040888963407)))]) ?_
  refine wk_end ?_
  refine ac_next ?_
  refine aw_grp1 ?_
  refine wk_start ?_
  refine kv g0 (mv) ?_
  refine kv g0 (asg) ?_
  refine wk_end ?_
  refine ac_next ?_
  refine aw_ret ?_
  obtain rfl := Option.some.inj H
  exact acr hE [.tmp 2] (.tmp .nil) (.one _) [(0, 0)] 9999
 rw [if_neg c1] at H
 refine aw_ifF ?_ (decide_eq_false c1)
 refine aw_skip ?_
 refine ac_next ?_
 refine aw_grp1 ?_
 refine wk_start ?_
 refine kv g0 (mv) ?_
 refine kv g0 (asg) ?_
 refine wk_end ?_
 refine ac_next ?_
 refine aw_ret ?_
 obtain rfl := Option.some.inj H
 exact acr hE [.tmp 2] (.tmp .nil) (.one _) [(0, 0)] 9999
/-! spec_l01Below -/
def spec_l01Below.f (l0_0 : List Int) (a0_1 : Int) (a0_2 : Int) (a1 : Int) : Option (Int × (List Int) × Int × Int) := if a1 ≤ 0 then some (0, l0_0, a0_1, a0_2) else if a1 ≤ 256 then ((spec_l01Byte.f l0_0 a0_1 a0_2).bind fun t3 => (if a1 ≠ 0 then some (t3.1.tmod a1, t3.2.1, t3.2.2.1, t3.2.2.2) else none)) else (spec_l01Byte.f l0_0 a0_1 a0_2).bind fun t6 => (spec_l01Byte.f t6.2.1 t6.2.2.1 t6.2.2.2).bind fun t8 => (spec_l01Byte.f t8.2.1 t8.2.2.1 t8.2.2.2).bind fun t10 => (spec_l01Byte.f t10.2.1 t10.2.2.1 t10.2.2.2).bind fun t12 => if a1 ≠ 0 then some ((wrap64 ((wrap64 ((wrap64 ((wrap64 (t6.1 * 16777216)) + (wrap64 (t8.1 * 65536)))) + (wrap64 (t10.1 * 256)))) + t12.1)).tmod a1, t12.2.1, t12.2.2.1, t12.2.2.2) else none
theorem spec_l01Below.ok {l0_0 : List Int} {a0_1 : Int} {a0_2 : Int} {a1 : Int} {r : Int × (List Int) × Int × Int} (H : spec_l01Below.f l0_0 a0_1 a0_2 a1 = some r) : ACalls Try.prog 52 [(0, .box 142 [.sl .u 1 (l0_0.map (eI .u8)), .lit (.int .i64 a0_1), .lit (.int .i64 a0_2)])] [.box 0 0, .lit (.int .i64 a1)] [(0, .box 142 [.sl .u 1 (r.2.1.map (eI .u8)), .lit (.int .i64 r.2.2.1), .lit (.int .i64 r.2.2.2)])] (.lit (.int .i64 r.1)) := by
 refine acalls (fn := Try.f52) (nt := 37) Try.func52 rfl rfl (Nat.le_of_ble_eq_true rfl) fun E hE => ?_
 rw [spec_l01Below.f] at H
 refine aw_grp1 ?_
 refine wk_start ?_
 refine kv g0 (asg) ?_
 refine wk_end ?_
 refine ac_next ?_
 refine aw_grp1 ?_
 refine aw_grp1 ?_
 refine wk_start ?_
 refine kv g0 (mv) ?_
 refine kv g0 (leq) ?_
 refine wk_end ?_
 refine ac_next ?_
 by_cases c1 : a1 ≤ 0
 ·rw [if_pos c1] at H
  refine aw_ifT ?_ (decide_eq_true c1)
  refine aw_grp1 ?_
  refine wk_start ?_
  refine kv g0 (asg) ?_
  refine wk_end ?_
  refine ac_next ?_
  refine aw_ret ?_
  refine ac_thenR ?_
  obtain rfl := Option.some.inj H
  exact acr hE [.tmp 4] (.tmp .nil) (.one _) [(0, 0)] 9999
 rw [if_neg c1] at H
 refine aw_ifF ?_ (decide_eq_false c1)
 refine aw_skip ?_
 refine ac_next ?_
 refine aw_grp1 ?_
 refine aw_grp1 ?_
 refine wk_start ?_
 refine kv g0 (mv) ?_
 refine kv g0 (leq) ?_
 refine wk_end ?_
 refine ac_next ?_
 by_cases c2 : a1 ≤ 256
 ·rw [if_pos c2] at H
  refine aw_ifT ?_ (decide_eq_true c2)
  refine aw_grp1 ?_
  refine wk_start ?_
  refine kv g0 (mv) ?_
  obtain ⟨t3, A4, H⟩ := of_bind H
  refine kcS1 14 (.lit (.int .i64 t3.1)) [(0, .box 142 [.sl .u 1 (t3.2.1.map (eI .u8)), .lit (.int .i64 t3.2.2.1), .lit (.int .i64 t3.2.2.2)])] g0 (cal (spec_l01Byte.ok A4) [0] 9999 .u (hf := Try.func51)) rfl rfl ?_
  refine kv g0 (mv) ?_
  obtain ⟨c5, H⟩ := of_if H
  refine kv g0 (rem c5) ?_
  refine kv g0 (asg) ?_
  refine wk_end ?_
  refine ac_next ?_
  refine aw_ret ?_
  refine ac_thenR ?_
  obtain rfl := Option.some.inj H
  exact acr hE [.tmp 4] (.tmp .nil) (.one _) [(0, 0)] 9999
 rw [if_neg c2] at H
 refine aw_ifF ?_ (decide_eq_false c2)
 refine aw_skip ?_
 refine ac_next ?_
 refine aw_grp1 ?_
 refine wk_start ?_
 refine kv g0 (mv) ?_
 obtain ⟨t6, A7, H⟩ := of_bind H
 refine kcS1 18 (.lit (.int .i64 t6.1)) [(0, .box 142 [.sl .u 1 (t6.2.1.map (eI .u8)), .lit (.int .i64 t6.2.2.1), .lit (.int .i64 t6.2.2.2)])] g0 (cal (spec_l01Byte.ok A7) [0] 9999 .u (hf := Try.func51)) rfl rfl ?_
 refine kv g0 (asg) ?_
 refine wk_end ?_
 refine ac_next ?_
 refine aw_grp1 ?_
 refine wk_start ?_
 refine kv g0 (mv) ?_
 obtain ⟨t8, A9, H⟩ := of_bind H
 refine kcS1 20 (.lit (.int .i64 t8.1)) [(0, .box 142 [.sl .u 1 (t8.2.1.map (eI .u8)), .lit (.int .i64 t8.2.2.1), .lit (.int .i64 t8.2.2.2)])] g0 (cal (spec_l01Byte.ok A9) [0] 9999 .u (hf := Try.func51)) rfl rfl ?_
 refine kv g0 (asg) ?_
 refine wk_end ?_
 refine ac_next ?_
 refine aw_grp1 ?_
 refine wk_start ?_
 refine kv g0 (mv) ?_
 obtain ⟨t10, A11, H⟩ := of_bind H
 refine kcS1 22 (.lit (.int .i64 t10.1)) [(0, .box 142 [.sl .u 1 (t10.2.1.map (eI .u8)), .lit (.int .i64 t10.2.2.1), .lit (.int .i64 t10.2.2.2)])] g0 (cal (spec_l01Byte.ok A11) [0] 9999 .u (hf := Try.func51)) rfl rfl ?_
 refine kv g0 (asg) ?_
 refine wk_end ?_
 refine ac_next ?_
 refine aw_grp1 ?_
 refine wk_start ?_
 refine kv g0 (mv) ?_
 obtain ⟨t12, A13, H⟩ := of_bind H
 refine kcS1 24 (.lit (.int .i64 t12.1)) [(0, .box 142 [.sl .u 1 (t12.2.1.map (eI .u8)), .lit (.int .i64 t12.2.2.1), .lit (.int .i64 t12.2.2.2)])] g0 (cal (spec_l01Byte.ok A13) [0] 9999 .u (hf := Try.func51)) rfl rfl ?_
 refine kv g0 (asg) ?_
 refine wk_end ?_
 refine ac_next ?_
 refine aw_grp1 ?_
 refine wk_start ?_
 refine kv g0 (mv) ?_
 refine kv g0 (mul6) ?_
 refine kv g0 (mv) ?_
 refine kv g0 (mul6) ?_
 refine kv g0 (add6) ?_
 refine kv g0 (mv) ?_
 refine kv g0 (mul6) ?_
 refine kv g0 (add6) ?_
 refine kv g0 (mv) ?_
 refine kv g0 (add6) ?_
 refine kv g0 (mv) ?_
 obtain ⟨c14, H⟩ := of_if H
 refine kv g0 (rem c14) ?_
 refine kv g0 (asg) ?_
 refine wk_end ?_
 refine ac_next ?_
 refine aw_ret ?_
 obtain rfl := Option.some.inj H
 exact acr hE [.tmp 4] (.tmp .nil) (.one _) [(0, 0)] 9999
/-! spec_l01PickInt -/
def spec_l01PickInt.f (l0_0 : List Int) (a0_1 : Int) (a0_2 : Int) (l1 : List Int) : Option (Int × (List Int) × Int × Int) := (spec_l01Below.f l0_0 a0_1 a0_2 (l1.length : Int)).bind fun t1 => (if 0 ≤ t1.1 then (if t1.1 < (l1.length : Int) then some ((rd l1 t1.1), t1.2.1, t1.2.2.1, t1.2.2.2) else none) else none)
theorem spec_l01PickInt.ok {l0_0 : List Int} {a0_1 : Int} {a0_2 : Int} {l1 : List Int} {r : Int × (List Int) × Int × Int} (H : spec_l01PickInt.f l0_0 a0_1 a0_2 l1 = some r) : ACalls Try.prog 60 [(0, .box 142 [.sl .u 1 (l0_0.map (eI .u8)), .lit (.int .i64 a0_1), .lit (.int .i64 a0_2)])] [.box 0 0, .sl .o 1 (l1.map (eI .i64))] [(0, .box 142 [.sl .u 1 (r.2.1.map (eI .u8)), .lit (.int .i64 r.2.2.1), .lit (.int .i64 r.2.2.2)])] (.lit (.int .i64 r.1)) := by
 refine acalls (fn := Try.f60) (nt := 12) Try.func60 rfl rfl (Nat.le_of_ble_eq_true rfl) fun E hE => ?_
 rw [spec_l01PickInt.f] at H
 refine aw_grp1 ?_
 refine wk_start ?_
 refine kv g0 (asg) ?_
 refine wk_end ?_
 refine ac_next ?_
 refine aw_grp1 ?_
 refine wk_start ?_
 refine kv g0 (mv) ?_
 refine kv g0 (mv) ?_
 refine kv g0 (mv) ?_
 refine kv g0 (lnS lenE) ?_
 obtain ⟨t1, A2, H⟩ := of_bind H
 refine kcS1 9 (.lit (.int .i64 t1.1)) [(0, .box 142 [.sl .u 1 (t1.2.1.map (eI .u8)), .lit (.int .i64 t1.2.2.1), .lit (.int .i64 t1.2.2.2)])] g0 (cal (spec_l01Below.ok A2) [0] 9999 .u (hf := Try.func52)) rfl rfl ?_
 obtain ⟨c3, H⟩ := of_if H
 obtain ⟨c4, H⟩ := of_if H
 refine kv g0 (ixS 3 (eI .i64 (rd l1 t1.1)) c3 (getE (z := (0 : Int)) c3 c4)) ?_
 refine kv g0 (ldR (.lit (.int .i64 (rd l1 t1.1)))) ?_
 refine kv g0 (asg) ?_
 refine wk_end ?_
 refine ac_next ?_
 refine aw_ret ?_
 obtain rfl := Option.some.inj H
 exact acr hE [.tmp 4] (.tmp .nil) (.one _) [(0, 0)] 9999
/-! spec_l01Once -/
def spec_l01Once.f (l0_0 : List Int) (a0_1 : Int) (a0_2 : Int) (a1 : Int) : Option (Bool × (List Int) × Int × Int) := (spec_l01Below.f l0_0 a0_1 a0_2 a1).bind fun t1 => some (t1.1 == 0, t1.2.1, t1.2.2.1, t1.2.2.2)
theorem spec_l01Once.ok {l0_0 : List Int} {a0_1 : Int} {a0_2 : Int} {a1 : Int} {r : Bool × (List Int) × Int × Int} (H : spec_l01Once.f l0_0 a0_1 a0_2 a1 = some r) : ACalls Try.prog 144 [(0, .box 142 [.sl .u 1 (l0_0.map (eI .u8)), .lit (.int .i64 a0_1), .lit (.int .i64 a0_2)])] [.box 0 0, .lit (.int .i64 a1)] [(0, .box 142 [.sl .u 1 (r.2.1.map (eI .u8)), .lit (.int .i64 r.2.2.1), .lit (.int .i64 r.2.2.2)])] (.lit (.bool r.1)) := by
 refine acalls (fn := Try.f144) (nt := 9) Try.func144 rfl rfl (Nat.le_of_ble_eq_true rfl) fun E hE => ?_
 rw [spec_l01Once.f] at H
 refine aw_grp1 ?_
 refine wk_start ?_
 refine kv g0 (asg) ?_
 refine wk_end ?_
 refine ac_next ?_
 refine aw_grp1 ?_
 refine wk_start ?_
 refine kv g0 (mv) ?_
 refine kv g0 (mv) ?_
 obtain ⟨t1, A2, H⟩ := of_bind H
 refine kcS1 7 (.lit (.int .i64 t1.1)) [(0, .box 142 [.sl .u 1 (t1.2.1.map (eI .u8)), .lit (.int .i64 t1.2.2.1), .lit (.int .i64 t1.2.2.2)])] g0 (cal (spec_l01Below.ok A2) [0] 9999 .u (hf := Try.func52)) rfl rfl ?_
 refine kv g0 (eql) ?_
 refine kv g0 (asg) ?_
 refine wk_end ?_
 refine ac_next ?_
 refine aw_ret ?_
 obtain rfl := Option.some.inj H
 exact acr hE [.tmp 4] (.tmp .nil) (.one _) [(0, 0)] 9999
/-! spec_l04Half -/
def spec_l04Half.f (l0_0 : List Int) (a0_1 : Int) (a0_2 : Int) : Option (Int × (List Int) × Int × Int) := (spec_l01Below.f l0_0 a0_1 a0_2 12).bind fun t1 => ((spec_l01PickInt.f t1.2.1 t1.2.2.1 t1.2.2.2 ([0, 1, 2, 3, 5, 7, 255, 4294967295, 2147483648, t1.1] : List Int)).bind fun t3 => some (t3.1, t3.2.1, t3.2.2.1, t3.2.2.2))
theorem spec_l04Half.ok {l0_0 : List Int} {a0_1 : Int} {a0_2 : Int} {r : Int × (List Int) × Int × Int} (H : spec_l04Half.f l0_0 a0_1 a0_2 = some r) : ACalls Try.prog 149 [(0, .box 142 [.sl .u 1 (l0_0.map (eI .u8)), .lit (.int .i64 a0_1), .lit (.int .i64 a0_2)])] [.box 0 0] [(0, .box 142 [.sl .u 1 (r.2.1.map (eI .u8)), .lit (.int .i64 r.2.2.1), .lit (.int .i64 r.2.2.2)])] (.lit (.int .i64 r.1)) := by
 refine acalls (fn := Try.f149) (nt := 8) Try.func149 rfl rfl (Nat.le_of_ble_eq_true rfl) fun E hE => ?_
 rw [spec_l04Half.f] at H
 refine aw_grp1 ?_
 refine wk_start ?_
 refine kv g0 (asg) ?_
 refine wk_end ?_
 refine ac_next ?_
 refine aw_grp1 ?_
 refine wk_start ?_
 refine kv g0 (mv) ?_
 refine kv g0 (mv) ?_
 obtain ⟨t1, A2, H⟩ := of_bind H
 refine kcS1 5 (.lit (.int .i64 t1.1)) [(0, .box 142 [.sl .u 1 (t1.2.1.map (eI .u8)), .lit (.int .i64 t1.2.2.1), .lit (.int .i64 t1.2.2.2)])] g0 (cal (spec_l01Below.ok A2) [0] 9999 .u (hf := Try.func52)) rfl rfl ?_
 refine kb g0 (bsl 1 3 1 [.int .i64 0] (([0, 1, 2, 3, 5, 7, 255, 4294967295, 2147483648, t1.1] : List Int).map (eI .i64))) ?_
 obtain ⟨t3, A4, H⟩ := of_bind H
 refine kcS1 7 (.lit (.int .i64 t3.1)) [(0, .box 142 [.sl .u 1 (t3.2.1.map (eI .u8)), .lit (.int .i64 t3.2.2.1), .lit (.int .i64 t3.2.2.2)])] g0 (cal (spec_l01PickInt.ok A4) [0] 9999 .u (hf := Try.func60)) rfl rfl ?_
 refine kv g0 (asg) ?_
 refine wk_end ?_
 refine ac_next ?_
 refine aw_ret ?_
 obtain rfl := Option.some.inj H
 exact acr hE [.tmp 2] (.tmp .nil) (.one _) [(0, 0)] 9999
/-! spec_l17Item -/
def spec_l17Item.f (l0_0 : List Int) (a0_1 : Int) (a0_2 : Int) : Option (Int × Int × Int × Int × (List Int) × Int × Int) := (spec_l01Once.f l0_0 a0_1 a0_2 3).bind fun t1 => if t1.1 = true then ((spec_l01Below.f t1.2.1 t1.2.2.1 t1.2.2.2 5).bind fun t4 => some (2, 0, 0, wrap64 (1 + t4.1), t4.2.1, t4.2.2.1, t4.2.2.2)) else (spec_l01Below.f t1.2.1 t1.2.2.1 t1.2.2.2 9).bind fun t6 => ((spec_l04Half.f t6.2.1 t6.2.2.1 t6.2.2.2).bind fun t8 => some (1, t6.1, t8.1, 0, t8.2.1, t8.2.2.1, t8.2.2.2))
theorem spec_l17Item.ok {l0_0 : List Int} {a0_1 : Int} {a0_2 : Int} {r : Int × Int × Int × Int × (List Int) × Int × Int} (H : spec_l17Item.f l0_0 a0_1 a0_2 = some r) : ACalls Try.prog 115 [(0, .box 142 [.sl .u 1 (l0_0.map (eI .u8)), .lit (.int .i64 a0_1), .lit (.int .i64 a0_2)])] [.box 0 0] [(0, .box 142 [.sl .u 1 (r.2.2.2.2.1.map (eI .u8)), .lit (.int .i64 r.2.2.2.2.2.1), .lit (.int .i64 r.2.2.2.2.2.2)])] (.agg [.lit (.int .i64 r.1), .lit (.int .i64 r.2.1), .lit (.int .i64 r.2.2.1), .lit (.int .i64 r.2.2.2.1)]) := by
 refine acalls (fn := Try.f115) (nt := 14) Try.func115 rfl rfl (Nat.le_of_ble_eq_true rfl) fun E hE => ?_
 rw [spec_l17Item.f] at H
 refine aw_grp1 ?_
 refine wk_start ?_
 refine kb g0 (alc 1 [.int .i64 0, .int .i64 0, .int .i64 0, .int .i64 0] [.lit (.int .i64 0), .lit (.int .i64 0), .lit (.int .i64 0), .lit (.int .i64 0)]) ?_
 refine wk_end ?_
 refine ac_next ?_
 refine aw_grp1 ?_
 refine aw_grp1 ?_
 refine wk_start ?_
 refine kv g0 (mv) ?_
 obtain ⟨t1, A2, H⟩ := of_bind H
 refine kcS1 4 (.lit (.bool t1.1)) [(0, .box 142 [.sl .u 1 (t1.2.1.map (eI .u8)), .lit (.int .i64 t1.2.2.1), .lit (.int .i64 t1.2.2.2)])] g0 (cal (spec_l01Once.ok A2) [0] 9999 .u (hf := Try.func144)) rfl rfl ?_
 refine wk_end ?_
 refine ac_next ?_
 by_cases c3 : t1.1 = true
 ·rw [if_pos c3] at H
  refine aw_ifT ?_ c3
  refine aw_grp1 ?_
  refine wk_start ?_
  refine kv g0 (mv) ?_
  obtain ⟨t4, A5, H⟩ := of_bind H
  refine kcS1 6 (.lit (.int .i64 t4.1)) [(0, .box 142 [.sl .u 1 (t4.2.1.map (eI .u8)), .lit (.int .i64 t4.2.2.1), .lit (.int .i64 t4.2.2.2)])] g0 (cal (spec_l01Below.ok A5) [0] 9999 .u (hf := Try.func52)) rfl rfl ?_
  refine kv g0 (add6) ?_
  refine kv g0 (bld [(0, 1), (1, 1), (2, 1), (3, 1)] [.int .i64 0, .int .i64 0, .int .i64 0, .int .i64 0] [.lit (.int .i64 2), .lit (.int .i64 0), .lit (.int .i64 0), .lit (.int .i64 (wrap64 (1 + t4.1)))]) ?_
  refine ks g0 (stB 4 [.lit (.int .i64 2), .lit (.int .i64 0), .lit (.int .i64 0), .lit (.int .i64 (wrap64 (1 + t4.1)))]) ?_
  refine wk_end ?_
  refine ac_next ?_
  refine aw_ret ?_
  refine ac_thenR ?_
  obtain rfl := Option.some.inj H
  exact acr hE [.cell 2 34] (rcA 4 .nil) (.one _) [(0, 0)] 9999
 rw [if_neg c3] at H
 refine aw_ifF ?_ (bF c3)
 refine aw_skip ?_
 refine ac_next ?_
 refine aw_grp1 ?_
 refine wk_start ?_
 refine kv g0 (mv) ?_
 obtain ⟨t6, A7, H⟩ := of_bind H
 refine kcS1 10 (.lit (.int .i64 t6.1)) [(0, .box 142 [.sl .u 1 (t6.2.1.map (eI .u8)), .lit (.int .i64 t6.2.2.1), .lit (.int .i64 t6.2.2.2)])] g0 (cal (spec_l01Below.ok A7) [0] 9999 .u (hf := Try.func52)) rfl rfl ?_
 refine kv g0 (mv) ?_
 obtain ⟨t8, A9, H⟩ := of_bind H
 refine kcS1 12 (.lit (.int .i64 t8.1)) [(0, .box 142 [.sl .u 1 (t8.2.1.map (eI .u8)), .lit (.int .i64 t8.2.2.1), .lit (.int .i64 t8.2.2.2)])] g0 (cal (spec_l04Half.ok A9) [0] 9999 .u (hf := Try.func149)) rfl rfl ?_
 refine kv g0 (bld [(0, 1), (1, 1), (2, 1), (3, 1)] [.int .i64 0, .int .i64 0, .int .i64 0, .int .i64 0] [.lit (.int .i64 1), .lit (.int .i64 t6.1), .lit (.int .i64 t8.1), .lit (.int .i64 0)]) ?_
 refine ks g0 (stB 4 [.lit (.int .i64 1), .lit (.int .i64 t6.1), .lit (.int .i64 t8.1), .lit (.int .i64 0)]) ?_
 refine wk_end ?_
 refine ac_next ?_
 refine aw_ret ?_
 obtain rfl := Option.some.inj H
 exact acr hE [.cell 2 34] (rcA 4 .nil) (.one _) [(0, 0)] 9999
/-! spec_l17Frame -/
def spec_l17Frame.f (l0_0 : List Int) (a0_1 : Int) (a0_2 : Int) : Option (Int × Int × Int × Int × Int × Int × Int × (List Int) × Int × Int) := (spec_l01Once.f l0_0 a0_1 a0_2 4).bind fun t1 => if t1.1 = true then ((spec_l01Below.f t1.2.1 t1.2.2.1 t1.2.2.2 3).bind fun t4 => ((spec_l01Below.f t4.2.1 t4.2.2.1 t4.2.2.2 6).bind fun t6 => some (2, t4.1, wrap64 (1 + t6.1), 0, 0, 0, 0, t6.2.1, t6.2.2.1, t6.2.2.2))) else (spec_l01Below.f t1.2.1 t1.2.2.1 t1.2.2.2 3).bind fun t8 => ((spec_l01Below.f t8.2.1 t8.2.2.1 t8.2.2.2 6).bind fun t10 => ((spec_l17Item.f t10.2.1 t10.2.2.1 t10.2.2.2).bind fun t12 => some (1, t8.1, wrap64 (1 + t10.1), t12.1, t12.2.1, t12.2.2.1, t12.2.2.2.1, t12.2.2.2.2.1, t12.2.2.2.2.2.1, t12.2.2.2.2.2.2)))
theorem spec_l17Frame.ok {l0_0 : List Int} {a0_1 : Int} {a0_2 : Int} {r : Int × Int × Int × Int × Int × Int × Int × (List Int) × Int × Int} (H : spec_l17Frame.f l0_0 a0_1 a0_2 = some r) : ACalls Try.prog 99 [(0, .box 142 [.sl .u 1 (l0_0.map (eI .u8)), .lit (.int .i64 a0_1), .lit (.int .i64 a0_2)])] [.box 0 0] [(0, .box 142 [.sl .u 1 (r.2.2.2.2.2.2.2.1.map (eI .u8)), .lit (.int .i64 r.2.2.2.2.2.2.2.2.1), .lit (.int .i64 r.2.2.2.2.2.2.2.2.2)])] (.agg [.lit (.int .i64 r.1), .lit (.int .i64 r.2.1), .lit (.int .i64 r.2.2.1), .lit (.int .i64 r.2.2.2.1), .lit (.int .i64 r.2.2.2.2.1), .lit (.int .i64 r.2.2.2.2.2.1), .lit (.int .i64 r.2.2.2.2.2.2.1)]) := by
 refine acalls (fn := Try.f99) (nt := 19) Try.func99 rfl rfl (Nat.le_of_ble_eq_true rfl) fun E hE => ?_
 rw [spec_l17Frame.f] at H
 refine aw_grp1 ?_
 refine wk_start ?_
 refine kb g0 (alc 1 [.int .i64 0, .int .i64 0, .int .i64 0, .int .i64 0, .int .i64 0, .int .i64 0, .int .i64 0] [.lit (.int .i64 0), .lit (.int .i64 0), .lit (.int .i64 0), .lit (.int .i64 0), .lit (.int .i64 0), .lit (.int .i64 0), .lit (.int .i64 0)]) ?_
 refine wk_end ?_
 refine ac_next ?_
 refine aw_grp1 ?_
 refine aw_grp1 ?_
 refine wk_start ?_
 refine kv g0 (mv) ?_
 obtain ⟨t1, A2, H⟩ := of_bind H
 refine kcS1 4 (.lit (.bool t1.1)) [(0, .box 142 [.sl .u 1 (t1.2.1.map (eI .u8)), .lit (.int .i64 t1.2.2.1), .lit (.int .i64 t1.2.2.2)])] g0 (cal (spec_l01Once.ok A2) [0] 9999 .u (hf := Try.func144)) rfl rfl ?_
 refine wk_end ?_
 refine ac_next ?_
 by_cases c3 : t1.1 = true
 ·rw [if_pos c3] at H
  refine aw_ifT ?_ c3
  refine aw_grp1 ?_
  refine wk_start ?_
  refine kv g0 (mv) ?_
  obtain ⟨t4, A5, H⟩ := of_bind H
  refine kcS1 6 (.lit (.int .i64 t4.1)) [(0, .box 142 [.sl .u 1 (t4.2.1.map (eI .u8)), .lit (.int .i64 t4.2.2.1), .lit (.int .i64 t4.2.2.2)])] g0 (cal (spec_l01Below.ok A5) [0] 9999 .u (hf := Try.func52)) rfl rfl ?_
  refine kv g0 (mv) ?_
  obtain ⟨t6, A7, H⟩ := of_bind H
  refine kcS1 8 (.lit (.int .i64 t6.1)) [(0, .box 142 [.sl .u 1 (t6.2.1.map (eI .u8)), .lit (.int .i64 t6.2.2.1), .lit (.int .i64 t6.2.2.2)])] g0 (cal (spec_l01Below.ok A7) [0] 9999 .u (hf := Try.func52)) rfl rfl ?_
  refine kv g0 (add6) ?_
  refine kv g0 (bld [(0, 1), (1, 1), (2, 1), (3, 4)] [.int .i64 0, .int .i64 0, .int .i64 0, .int .i64 0, .int .i64 0, .int .i64 0, .int .i64 0] [.lit (.int .i64 2), .lit (.int .i64 t4.1), .lit (.int .i64 (wrap64 (1 + t6.1))), .lit (.int .i64 0), .lit (.int .i64 0), .lit (.int .i64 0), .lit (.int .i64 0)]) ?_
  refine ks g0 (stB 7 [.lit (.int .i64 2), .lit (.int .i64 t4.1), .lit (.int .i64 (wrap64 (1 + t6.1))), .lit (.int .i64 0), .lit (.int .i64 0), .lit (.int .i64 0), .lit (.int .i64 0)]) ?_
  refine wk_end ?_
  refine ac_next ?_
  refine aw_ret ?_
  refine ac_thenR ?_
  obtain rfl := Option.some.inj H
  exact acr hE [.cell 2 36] (rcA 7 .nil) (.one _) [(0, 0)] 9999
 rw [if_neg c3] at H
 refine aw_ifF ?_ (bF c3)
 refine aw_skip ?_
 refine ac_next ?_
 refine aw_grp1 ?_
 refine wk_start ?_
 refine kv g0 (mv) ?_
 obtain ⟨t8, A9, H⟩ := of_bind H
 refine kcS1 12 (.lit (.int .i64 t8.1)) [(0, .box 142 [.sl .u 1 (t8.2.1.map (eI .u8)), .lit (.int .i64 t8.2.2.1), .lit (.int .i64 t8.2.2.2)])] g0 (cal (spec_l01Below.ok A9) [0] 9999 .u (hf := Try.func52)) rfl rfl ?_
 refine kv g0 (mv) ?_
 obtain ⟨t10, A11, H⟩ := of_bind H
 refine kcS1 14 (.lit (.int .i64 t10.1)) [(0, .box 142 [.sl .u 1 (t10.2.1.map (eI .u8)), .lit (.int .i64 t10.2.2.1), .lit (.int .i64 t10.2.2.2)])] g0 (cal (spec_l01Below.ok A11) [0] 9999 .u (hf := Try.func52)) rfl rfl ?_
 refine kv g0 (add6) ?_
 refine kv g0 (mv) ?_
 obtain ⟨t12, A13, H⟩ := of_bind H
 refine kcS1 17 (.agg [.lit (.int .i64 t12.1), .lit (.int .i64 t12.2.1), .lit (.int .i64 t12.2.2.1), .lit (.int .i64 t12.2.2.2.1)]) [(0, .box 142 [.sl .u 1 (t12.2.2.2.2.1.map (eI .u8)), .lit (.int .i64 t12.2.2.2.2.2.1), .lit (.int .i64 t12.2.2.2.2.2.2)])] g0 (cal (spec_l17Item.ok A13) [0] 9999 .u (hf := Try.func115)) rfl rfl ?_
 refine kv g0 (bld [(0, 1), (1, 1), (2, 1), (3, 4)] [.int .i64 0, .int .i64 0, .int .i64 0, .int .i64 0, .int .i64 0, .int .i64 0, .int .i64 0] [.lit (.int .i64 1), .lit (.int .i64 t8.1), .lit (.int .i64 (wrap64 (1 + t10.1))), .lit (.int .i64 t12.1), .lit (.int .i64 t12.2.1), .lit (.int .i64 t12.2.2.1), .lit (.int .i64 t12.2.2.2.1)]) ?_
 refine ks g0 (stB 7 [.lit (.int .i64 1), .lit (.int .i64 t8.1), .lit (.int .i64 (wrap64 (1 + t10.1))), .lit (.int .i64 t12.1), .lit (.int .i64 t12.2.1), .lit (.int .i64 t12.2.2.1), .lit (.int .i64 t12.2.2.2.1)]) ?_
 refine wk_end ?_
 refine ac_next ?_
 refine aw_ret ?_
 obtain rfl := Option.some.inj H
 exact acr hE [.cell 2 36] (rcA 7 .nil) (.one _) [(0, 0)] 9999
/-! spec_l17Any -/
def spec_l17Any.j0 : Nat → (Int × Int × Int × Int × Int × Int × Int × (List Int) × Int × Int) → Int → Int → Int → Int → Option (Int × Int × Int × Int × Int × Int × Int × (List Int) × Int × Int)
 | 0, _, _, _, _, _ => none
 | k17 + 1, t5, p13, p14, p15, p16 => some (p13, p14, p15, t5.2.2.2.1, t5.2.2.2.2.1, t5.2.2.2.2.2.1, p16, t5.2.2.2.2.2.2.2.1, t5.2.2.2.2.2.2.2.2.1, t5.2.2.2.2.2.2.2.2.2)
def spec_l17Any.f (k : Nat) (l0_0 : List Int) (a0_1 : Int) (a0_2 : Int) : Option (Int × Int × Int × Int × Int × Int × Int × (List Int) × Int × Int) := (spec_l01Below.f l0_0 a0_1 a0_2 10).bind fun t1 => (spec_l01Below.f t1.2.1 t1.2.2.1 t1.2.2.2 60).bind fun t3 => (spec_l17Frame.f t3.2.1 t3.2.2.1 t3.2.2.2).bind fun t5 => if t1.1 = 0 then spec_l17Any.j0 k t5 (t3.1.tmod 4) t5.2.1 t5.2.2.1 t5.2.2.2.2.2.2.1 else if t1.1 = 1 then spec_l17Any.j0 k t5 t5.1 (wrap64 ((t3.1.tmod 6) - 1)) t5.2.2.1 t5.2.2.2.2.2.2.1 else if t1.1 = 2 then (if 0 ≤ (t3.1.tmod 4) then (if (t3.1.tmod 4) < (([0, 1000000000, 1000000001, (-1)] : List Int).length : Int) then spec_l17Any.j0 k t5 t5.1 t5.2.1 (rd ([0, 1000000000, 1000000001, (-1)] : List Int) (t3.1.tmod 4)) t5.2.2.2.2.2.2.1 else none) else none) else if t1.1 = 3 then spec_l17Any.j0 k t5 t5.1 t5.2.1 t5.2.2.1 (t3.1.tmod 3) else spec_l17Any.j0 k t5 t5.1 t5.2.1 t5.2.2.1 t5.2.2.2.2.2.2.1
theorem spec_l17Any.ok {k : Nat} {l0_0 : List Int} {a0_1 : Int} {a0_2 : Int} {r : Int × Int × Int × Int × Int × Int × Int × (List Int) × Int × Int} (H : spec_l17Any.f k l0_0 a0_1 a0_2 = some r) : ACalls Try.prog 61 [(0, .box 142 [.sl .u 1 (l0_0.map (eI .u8)), .lit (.int .i64 a0_1), .lit (.int .i64 a0_2)])] [.box 0 0] [(0, .box 142 [.sl .u 1 (r.2.2.2.2.2.2.2.1.map (eI .u8)), .lit (.int .i64 r.2.2.2.2.2.2.2.2.1), .lit (.int .i64 r.2.2.2.2.2.2.2.2.2)])] (.agg [.lit (.int .i64 r.1), .lit (.int .i64 r.2.1), .lit (.int .i64 r.2.2.1), .lit (.int .i64 r.2.2.2.1), .lit (.int .i64 r.2.2.2.2.1), .lit (.int .i64 r.2.2.2.2.2.1), .lit (.int .i64 r.2.2.2.2.2.2.1)]) := by
 refine acalls (fn := Try.f61) (nt := 39) Try.func61 rfl rfl (Nat.le_of_ble_eq_true rfl) fun E hE => ?_
 rw [spec_l17Any.f] at H
 refine aw_grp1 ?_
 refine wk_start ?_
 refine kb g0 (alc 1 [.int .i64 0, .int .i64 0, .int .i64 0, .int .i64 0, .int .i64 0, .int .i64 0, .int .i64 0] [.lit (.int .i64 0), .lit (.int .i64 0), .lit (.int .i64 0), .lit (.int .i64 0), .lit (.int .i64 0), .lit (.int .i64 0), .lit (.int .i64 0)]) ?_
 refine wk_end ?_
 refine ac_next ?_
 refine aw_grp1 ?_
 refine wk_start ?_
 refine kv g0 (mv) ?_
 obtain ⟨t1, A2, H⟩ := of_bind H
 refine kcS1 7 (.lit (.int .i64 t1.1)) [(0, .box 142 [.sl .u 1 (t1.2.1.map (eI .u8)), .lit (.int .i64 t1.2.2.1), .lit (.int .i64 t1.2.2.2)])] g0 (cal (spec_l01Below.ok A2) [0] 9999 .u (hf := Try.func52)) rfl rfl ?_
 refine kv g0 (asg) ?_
 refine wk_end ?_
 refine ac_next ?_
 refine aw_grp1 ?_
 refine wk_start ?_
 refine kv g0 (mv) ?_
 obtain ⟨t3, A4, H⟩ := of_bind H
 refine kcS1 9 (.lit (.int .i64 t3.1)) [(0, .box 142 [.sl .u 1 (t3.2.1.map (eI .u8)), .lit (.int .i64 t3.2.2.1), .lit (.int .i64 t3.2.2.2)])] g0 (cal (spec_l01Below.ok A4) [0] 9999 .u (hf := Try.func52)) rfl rfl ?_
 refine kv g0 (asg) ?_
 refine wk_end ?_
 refine ac_next ?_
 refine aw_grp1 ?_
 refine wk_start ?_
 refine kv g0 (mv) ?_
 obtain ⟨t5, A6, H⟩ := of_bind H
 refine kcS1 11 (.agg [.lit (.int .i64 t5.1), .lit (.int .i64 t5.2.1), .lit (.int .i64 t5.2.2.1), .lit (.int .i64 t5.2.2.2.1), .lit (.int .i64 t5.2.2.2.2.1), .lit (.int .i64 t5.2.2.2.2.2.1), .lit (.int .i64 t5.2.2.2.2.2.2.1)]) [(0, .box 142 [.sl .u 1 (t5.2.2.2.2.2.2.2.1.map (eI .u8)), .lit (.int .i64 t5.2.2.2.2.2.2.2.2.1), .lit (.int .i64 t5.2.2.2.2.2.2.2.2.2)])] g0 (cal (spec_l17Frame.ok A6) [0] 9999 .u (hf := Try.func99)) rfl rfl ?_
 refine kb g0 (alc 2 [.int .i64 0, .int .i64 0, .int .i64 0, .int .i64 0, .int .i64 0, .int .i64 0, .int .i64 0] [.lit (.int .i64 0), .lit (.int .i64 0), .lit (.int .i64 0), .lit (.int .i64 0), .lit (.int .i64 0), .lit (.int .i64 0), .lit (.int .i64 0)]) ?_
 refine ks g0 (stB 7 [.lit (.int .i64 t5.1), .lit (.int .i64 t5.2.1), .lit (.int .i64 t5.2.2.1), .lit (.int .i64 t5.2.2.2.1), .lit (.int .i64 t5.2.2.2.2.1), .lit (.int .i64 t5.2.2.2.2.2.1), .lit (.int .i64 t5.2.2.2.2.2.2.1)]) ?_
 refine wk_end ?_
 refine ac_next ?_
 refine aw_cut1 (J := fun K_ => ∀ (k_ : Nat) (p13 : Int) (p14 : Int) (p15 : Int) (p16 : Int), k_ ≤ k → spec_l17Any.j0 k_ t5 p13 p14 p15 p16 = some r → ACont E 39 ⟨[(2, .box 1 0), (5, .box 2 0)], [(0, .box 142 [.sl .u 1 (t5.2.2.2.2.2.2.2.1.map (eI .u8)), .lit (.int .i64 t5.2.2.2.2.2.2.2.2.1), .lit (.int .i64 t5.2.2.2.2.2.2.2.2.2)]), (1, .box 36 [.lit (.int .i64 0), .lit (.int .i64 0), .lit (.int .i64 0), .lit (.int .i64 0), .lit (.int .i64 0), .lit (.int .i64 0), .lit (.int .i64 0)]), (2, .box 36 [.lit (.int .i64 p13), .lit (.int .i64 p14), .lit (.int .i64 p15), .lit (.int .i64 t5.2.2.2.1), .lit (.int .i64 t5.2.2.2.2.1), .lit (.int .i64 t5.2.2.2.2.2.1), .lit (.int .i64 p16)])]⟩ K_) ?_ ?_
 ·intro K_ hJ18
  refine aw_grp1 ?_
  refine wk_start ?_
  refine kv g0 (mv) ?_
  refine wk_end ?_
  refine ac_next ?_
  refine aw_block ?_
  refine aw_grp1 ?_
  refine wk_start ?_
  refine kv g0 (eql) ?_
  refine kv g0 (asg) ?_
  refine wk_end ?_
  refine ac_next ?_
  by_cases c7 : t1.1 = 0
  ·rw [if_pos c7] at H
   refine aw_ifT ?_ (eT c7)
   refine wk_start ?_
   refine kv g0 (mv) ?_
   refine kv g0 (rem (by decide : (4 : Int) ≠ 0)) ?_
   refine kv g0 (faB 0 0) ?_
   refine ks g0 (stB 1 [.lit (.int .i64 (t3.1.tmod 4)), .lit (.int .i64 t5.2.1), .lit (.int .i64 t5.2.2.1), .lit (.int .i64 t5.2.2.2.1), .lit (.int .i64 t5.2.2.2.2.1), .lit (.int .i64 t5.2.2.2.2.2.1), .lit (.int .i64 t5.2.2.2.2.2.2.1)]) ?_
   refine wk_end ?_
   refine ac_blkN ?_
   refine ac_k ?_
   exact acw hE [(0, 0), (1, 1), (2, 2)] 9999 (hJ18 k (t3.1.tmod 4) t5.2.1 t5.2.2.1 t5.2.2.2.2.2.2.1 (Nat.le_refl _) H)
  rw [if_neg c7] at H
  refine aw_ifF ?_ (eF c7)
  refine aw_grp1 ?_
  refine wk_start ?_
  refine kv g0 (eql) ?_
  refine kv g0 (asg) ?_
  refine wk_end ?_
  refine ac_next ?_
  by_cases c8 : t1.1 = 1
  ·rw [if_pos c8] at H
   refine aw_ifT ?_ (eT c8)
   refine wk_start ?_
   refine kv g0 (mv) ?_
   refine kv g0 (rem (by decide : (6 : Int) ≠ 0)) ?_
   refine kv g0 (sub6) ?_
   refine kv g0 (faB 1 1) ?_
   refine ks g0 (stB 1 [.lit (.int .i64 t5.1), .lit (.int .i64 (wrap64 ((t3.1.tmod 6) - 1))), .lit (.int .i64 t5.2.2.1), .lit (.int .i64 t5.2.2.2.1), .lit (.int .i64 t5.2.2.2.2.1), .lit (.int .i64 t5.2.2.2.2.2.1), .lit (.int .i64 t5.2.2.2.2.2.2.1)]) ?_
   refine wk_end ?_
   refine ac_blkN ?_
   refine ac_k ?_
   exact acw hE [(0, 0), (1, 1), (2, 2)] 9999 (hJ18 k t5.1 (wrap64 ((t3.1.tmod 6) - 1)) t5.2.2.1 t5.2.2.2.2.2.2.1 (Nat.le_refl _) H)
  rw [if_neg c8] at H
  refine aw_ifF ?_ (eF c8)
  refine aw_grp1 ?_
  refine wk_start ?_
  refine kv g0 (eql) ?_
  refine kv g0 (asg) ?_
  refine wk_end ?_
  refine ac_next ?_
  by_cases c9 : t1.1 = 2
  ·rw [if_pos c9] at H
   refine aw_ifT ?_ (eT c9)
   refine wk_start ?_
   refine kb g0 (bsl 3 3 1 [.int .i64 0] (([0, 1000000000, 1000000001, (-1)] : List Int).map (eI .i64))) ?_
   refine kv g0 (mv) ?_
   refine kv g0 (rem (by decide : (4 : Int) ≠ 0)) ?_
   obtain ⟨c10, H⟩ := of_if H
   obtain ⟨c11, H⟩ := of_if H
   refine kv g0 (ixR 3 c10 (ltE c11)) ?_
   refine kv g0 (ldE (eI .i64 (rd ([0, 1000000000, 1000000001, (-1)] : List Int) (t3.1.tmod 4))) (.lit (.int .i64 (rd ([0, 1000000000, 1000000001, (-1)] : List Int) (t3.1.tmod 4)))) (getE (z := (0 : Int)) c10 c11)) ?_
   refine kv g0 (faB 2 2) ?_
   refine ks g0 (stB 1 [.lit (.int .i64 t5.1), .lit (.int .i64 t5.2.1), .lit (.int .i64 (rd ([0, 1000000000, 1000000001, (-1)] : List Int) (t3.1.tmod 4))), .lit (.int .i64 t5.2.2.2.1), .lit (.int .i64 t5.2.2.2.2.1), .lit (.int .i64 t5.2.2.2.2.2.1), .lit (.int .i64 t5.2.2.2.2.2.2.1)]) ?_
   refine wk_end ?_
   refine ac_blkN ?_
   refine ac_k ?_
   exact acw hE [(0, 0), (1, 1), (2, 2)] 9999 (hJ18 k t5.1 t5.2.1 (rd ([0, 1000000000, 1000000001, (-1)] : List Int) (t3.1.tmod 4)) t5.2.2.2.2.2.2.1 (Nat.le_refl _) H)
  rw [if_neg c9] at H
  refine aw_ifF ?_ (eF c9)
  refine aw_grp1 ?_
  refine wk_start ?_
  refine kv g0 (eql) ?_
  refine kv g0 (asg) ?_
  refine wk_end ?_
  refine ac_next ?_
  by_cases c12 : t1.1 = 3
  ·rw [if_pos c12] at H
   refine aw_ifT ?_ (eT c12)
   refine wk_start ?_
   refine kv g0 (mv) ?_
   refine kv g0 (rem (by decide : (3 : Int) ≠ 0)) ?_
   refine kv g0 (faB 3 3) ?_
   refine kv g0 (faB 3 6) ?_
   refine ks g0 (stB 1 [.lit (.int .i64 t5.1), .lit (.int .i64 t5.2.1), .lit (.int .i64 t5.2.2.1), .lit (.int .i64 t5.2.2.2.1), .lit (.int .i64 t5.2.2.2.2.1), .lit (.int .i64 t5.2.2.2.2.2.1), .lit (.int .i64 (t3.1.tmod 3))]) ?_
   refine wk_end ?_
   refine ac_blkN ?_
   refine ac_k ?_
   exact acw hE [(0, 0), (1, 1), (2, 2)] 9999 (hJ18 k t5.1 t5.2.1 t5.2.2.1 (t3.1.tmod 3) (Nat.le_refl _) H)
  rw [if_neg c12] at H
  refine aw_ifF ?_ (eF c12)
  refine aw_skip ?_
  refine ac_blkN ?_
  refine ac_k ?_
  exact acw hE [(0, 0), (1, 1), (2, 2)] 9999 (hJ18 k t5.1 t5.2.1 t5.2.2.1 t5.2.2.2.2.2.2.1 (Nat.le_refl _) H)
 intro k_ p13 p14 p15 p16 hk_ H
 rcases k_ with _ | k17
 ·rw [spec_l17Any.j0.eq_1] at H; cases H
 have hk17 : k17 ≤ k := by omega
 clear hk_
 rw [spec_l17Any.j0.eq_2] at H
 refine aw_grp1 ?_
 refine wk_start ?_
 refine kv g0 (ldBA 7 [.lit (.int .i64 p13), .lit (.int .i64 p14), .lit (.int .i64 p15), .lit (.int .i64 t5.2.2.2.1), .lit (.int .i64 t5.2.2.2.2.1), .lit (.int .i64 t5.2.2.2.2.2.1), .lit (.int .i64 p16)]) ?_
 refine ks g0 (stB 7 [.lit (.int .i64 p13), .lit (.int .i64 p14), .lit (.int .i64 p15), .lit (.int .i64 t5.2.2.2.1), .lit (.int .i64 t5.2.2.2.2.1), .lit (.int .i64 t5.2.2.2.2.2.1), .lit (.int .i64 p16)]) ?_
 refine wk_end ?_
 refine ac_next ?_
 refine aw_ret ?_
 obtain rfl := Option.some.inj H
 exact acr hE [.cell 2 36] (rcA 7 .nil) (.one _) [(0, 0)] 9999
/-! spec_KeeperNew -/
def spec_KeeperNew.l0 : Nat → (List Int) → (List Int) → Int → Option ((List Int) × Int × (List Int))
 | 0, _, _, _ => none
 | k6 + 1, q3, q4, p5 => if p5 < 3 then if q3.length + ([1] : List Int).length < 17592186044416 then if q4.length + ([1] : List Int).length < 17592186044416 then spec_KeeperNew.l0 k6 (q3 ++ ([1] : List Int)) (q4 ++ ([1] : List Int)) (wrap64 (p5 + 1)) else none else none else some (q3, 0, q4)
def spec_KeeperNew.f (k : Nat)  : Option ((List Int) × Int × (List Int)) := spec_KeeperNew.l0 k ([]) ([]) 0
theorem spec_KeeperNew.ok {k : Nat} {r : (List Int) × Int × (List Int)} (H : spec_KeeperNew.f k = some r) : ACalls Try.prog 114 [] [] [(0, .row 3 1 (r.1.map (eI .i64))), (1, .row 3 1 (r.2.2.map (eI .i64)))] (.agg [.lit (.slice none 0 0), .row 0, .lit (.slice none 0 0), .lit (.int .i64 r.2.1), .row 1]) := by
 refine acalls (fn := Try.f114) (nt := 19) Try.func114 rfl rfl (Nat.le_of_ble_eq_true rfl) fun E hE => ?_
 rw [spec_KeeperNew.f] at H
 refine aw_grp1 ?_
 refine wk_start ?_
 refine kb g0 (alc 0 [.slice none 0 0, .slice none 0 0, .slice none 0 0, .int .i64 0, .slice none 0 0] [.lit (.slice none 0 0), .lit (.slice none 0 0), .lit (.slice none 0 0), .lit (.int .i64 0), .lit (.slice none 0 0)]) ?_
 refine wk_end ?_
 refine ac_next ?_
 refine aw_grp1 ?_
 refine wk_start ?_
 refine kv g0 (bld [(0, 1), (1, 1), (2, 1), (3, 1), (4, 1)] [.slice none 0 0, .slice none 0 0, .slice none 0 0, .int .i64 0, .slice none 0 0] [.lit (.slice none 0 0), .lit (.slice none 0 0), .lit (.slice none 0 0), .lit (.int .i64 0), .lit (.slice none 0 0)]) ?_
 refine kb g0 (alc 1 [.slice none 0 0, .slice none 0 0, .slice none 0 0, .int .i64 0, .slice none 0 0] [.lit (.slice none 0 0), .lit (.slice none 0 0), .lit (.slice none 0 0), .lit (.int .i64 0), .lit (.slice none 0 0)]) ?_
 refine ks g0 (stB 5 [.lit (.slice none 0 0), .lit (.slice none 0 0), .lit (.slice none 0 0), .lit (.int .i64 0), .lit (.slice none 0 0)]) ?_
 refine wk_end ?_
 refine ac_next ?_
 refine aw_grp1 ?_
 refine aw_grp1 ?_
 refine wk_start ?_
 refine kv g0 (asg) ?_
 refine wk_end ?_
 refine ac_next ?_
 refine aw_block ?_
 refine ac_nilB 1 1 6 3 1 [.lit (.slice none 0 0), .row 6, .lit (.slice none 0 0), .lit (.int .i64 0), .lit (.slice none 0 0)] ?_
 refine ac_nilB 1 4 7 3 1 [.lit (.slice none 0 0), .row 6, .lit (.slice none 0 0), .lit (.int .i64 0), .row 7] ?_
 refine aw_loop3 (fun (k_ : Nat) (q3 : List Int) (q4 : List Int) (p5 : Int) => k_ ≤ k ∧ spec_KeeperNew.l0 k_ q3 q4 p5 = some r) (fun (q3 : List Int) (q4 : List Int) (p5 : Int) => ⟨[(0, .box 0 0), (1, .box 1 0), (2, .lit (.int .i64 p5))], [(0, .box 29 [.lit (.slice none 0 0), .lit (.slice none 0 0), .lit (.slice none 0 0), .lit (.int .i64 0), .lit (.slice none 0 0)]), (1, .box 29 [.lit (.slice none 0 0), .row 6, .lit (.slice none 0 0), .lit (.int .i64 0), .row 7]), (6, .row 3 1 (q3.map (eI .i64))), (7, .row 3 1 (q4.map (eI .i64)))]⟩) k ([]) ([]) 0 ⟨Nat.le_refl _, H⟩ (fun K_ h_ => acw hE [(0, 0), (1, 1), (6, 6), (7, 7)] 9999 h_) (fun _ _ _ => by intro h_; have h_ := h_.2; rw [spec_KeeperNew.l0.eq_1] at h_; cases h_) ?_
 intro k6 q3 q4 p5 hq_ K10 hK11
 have hk6 := hq_.1
 have H := hq_.2
 clear hq_
 rw [spec_KeeperNew.l0.eq_2] at H
 refine aw_grp1 ?_
 refine aw_grp1 ?_
 refine wk_start ?_
 refine kv g0 (mv) ?_
 refine kv g0 (lss) ?_
 refine wk_end ?_
 refine ac_next ?_
 by_cases c7 : p5 < 3
 ·rw [if_pos c7] at H
  refine aw_ifT ?_ (decide_eq_true c7)
  refine aw_skip ?_
  refine ac_next ?_
  refine aw_grp1 ?_
  refine aw_block ?_
  refine aw_grp1 ?_
  refine wk_start ?_
  refine kv g0 (faB 1 1) ?_
  refine kv g0 (ldB) ?_
  refine kb g0 (bsl 8 3 1 [.int .i64 0] (([1] : List Int).map (eI .i64))) ?_
  obtain ⟨c8, H⟩ := of_if H
  refine kc g0 (apR 9 3 1 8 [.int .i64 0] ((q3 ++ ([1] : List Int)).map (eI .i64)) (.row rfl) (apb c8 rfl) appE) ?_
  refine kv g0 (faB 1 1) ?_
  refine ks g0 (stB 1 [.lit (.slice none 0 0), .row 9, .lit (.slice none 0 0), .lit (.int .i64 0), .row 7]) ?_
  refine wk_end ?_
  refine ac_next ?_
  refine wk_start ?_
  refine kv g0 (faB 4 4) ?_
  refine kv g0 (ldB) ?_
  refine kb g0 (bsl 10 3 1 [.int .i64 0] (([1] : List Int).map (eI .i64))) ?_
  obtain ⟨c9, H⟩ := of_if H
  refine kc g0 (apR 11 3 1 8 [.int .i64 0] ((q4 ++ ([1] : List Int)).map (eI .i64)) (.row rfl) (apb c9 rfl) appE) ?_
  refine kv g0 (faB 4 4) ?_
  refine ks g0 (stB 1 [.lit (.slice none 0 0), .row 9, .lit (.slice none 0 0), .lit (.int .i64 0), .row 11]) ?_
  refine wk_end ?_
  refine ac_blkN ?_
  refine ac_next ?_
  refine wk_start ?_
  refine kv g0 (mv) ?_
  refine kv g0 (add6) ?_
  refine kv g0 (asg) ?_
  refine wk_end ?_
  refine ac_k ?_
  exact acw hE [(0, 0), (1, 1), (6, 9), (7, 11)] 9999 (hK11 k6 (q3 ++ ([1] : List Int)) (q4 ++ ([1] : List Int)) (wrap64 (p5 + 1)) (Nat.le_refl _) ⟨by omega, H⟩)
 rw [if_neg c7] at H
 refine aw_ifF ?_ (decide_eq_false c7)
 refine aw_exit ?_
 refine ac_then ?_
 refine ac_then ?_
 refine ac_hit rfl ?_
 refine ac_next ?_
 refine aw_grp1 ?_
 refine wk_start ?_
 refine kv g0 (ldBA 5 [.lit (.slice none 0 0), .row 6, .lit (.slice none 0 0), .lit (.int .i64 0), .row 7]) ?_
 refine ks g0 (stB 5 [.lit (.slice none 0 0), .row 6, .lit (.slice none 0 0), .lit (.int .i64 0), .row 7]) ?_
 refine wk_end ?_
 refine ac_next ?_
 refine aw_ret ?_
 obtain rfl := Option.some.inj H
 exact acr hE [.cell 0 29] (rcA 5 .nil) (.one _) [(0, 6), (1, 7)] 9999
/-! spec_l20Copy -/
def spec_l20Copy.f (l0_0 : List S98) (l0_1 : List Int) (l0_2 : List S97) (a0_3 : Int) (l0_4 : List Int) : Option ((List S98) × (List Int) × (List S97) × Int × (List Int)) := if ([] : List S98).length + l0_0.length < 2932031007402 then (if ([] : List Int).length + l0_1.length < 17592186044416 then (if ([] : List S97).length + l0_2.length < 2932031007402 then (if ([] : List Int).length + l0_4.length < 17592186044416 then some (([] : List S98) ++ l0_0, ([] : List Int) ++ l0_1, ([] : List S97) ++ l0_2, a0_3, ([] : List Int) ++ l0_4) else none) else none) else none) else none
theorem spec_l20Copy.ok {l0_0 : List S98} {l0_1 : List Int} {l0_2 : List S97} {a0_3 : Int} {l0_4 : List Int} {r : (List S98) × (List Int) × (List S97) × Int × (List Int)} (H : spec_l20Copy.f l0_0 l0_1 l0_2 a0_3 l0_4 = some r) : ACalls Try.prog 64 [] [.agg [.sl .o 6 (l0_0.map e98), .sl .o 1 (l0_1.map (eI .i64)), .sl .o 6 (l0_2.map e97), .lit (.int .i64 a0_3), .sl .o 1 (l0_4.map (eI .i64))]] [(0, .row 98 6 (r.1.map e98)), (1, .row 3 1 (r.2.1.map (eI .i64))), (2, .row 97 6 (r.2.2.1.map e97)), (3, .row 3 1 (r.2.2.2.2.map (eI .i64)))] (.agg [.row 0, .row 1, .row 2, .lit (.int .i64 r.2.2.2.1), .row 3]) := by
 refine acalls (fn := Try.f64) (nt := 22) Try.func64 rfl rfl (Nat.le_of_ble_eq_true rfl) fun E hE => ?_
 rw [spec_l20Copy.f] at H
 refine aw_grp1 ?_
 refine wk_start ?_
 refine kb g0 (bxA 0) ?_
 refine kb g0 (alc 1 [.slice none 0 0, .slice none 0 0, .slice none 0 0, .int .i64 0, .slice none 0 0] [.lit (.slice none 0 0), .lit (.slice none 0 0), .lit (.slice none 0 0), .lit (.int .i64 0), .lit (.slice none 0 0)]) ?_
 refine wk_end ?_
 refine ac_next ?_
 refine aw_grp1 ?_
 refine wk_start ?_
 refine kb g0 (bsl 2 98 6 [.int .i64 0, .int .i64 0, .int .i64 0, .int .i64 0, .int .i64 0, .int .i64 0] (([] : List S98).map e98)) ?_
 refine kv g0 (faB 0 0) ?_
 refine kv g0 (ldB) ?_
 obtain ⟨c1, H⟩ := of_if H
 refine kc g0 (apR 3 98 6 48 [.int .i64 0, .int .i64 0, .int .i64 0, .int .i64 0, .int .i64 0, .int .i64 0] ((([] : List S98) ++ l0_0).map e98) (.slF (fl98)) (apb c1 rfl) appE) ?_
 refine kb g0 (bsl 4 3 1 [.int .i64 0] (([] : List Int).map (eI .i64))) ?_
 refine kv g0 (faB 1 1) ?_
 refine kv g0 (ldB) ?_
 obtain ⟨c2, H⟩ := of_if H
 refine kc g0 (apR 5 3 1 8 [.int .i64 0] ((([] : List Int) ++ l0_1).map (eI .i64)) (.slF (flI)) (apb c2 rfl) appE) ?_
 refine kb g0 (bsl 6 97 6 [.int .i64 0, .int .i64 0, .int .i64 0, .int .i64 0, .int .i64 0, .int .i64 0] (([] : List S97).map e97)) ?_
 refine kv g0 (faB 2 2) ?_
 refine kv g0 (ldB) ?_
 obtain ⟨c3, H⟩ := of_if H
 refine kc g0 (apR 7 97 6 48 [.int .i64 0, .int .i64 0, .int .i64 0, .int .i64 0, .int .i64 0, .int .i64 0] ((([] : List S97) ++ l0_2).map e97) (.slF (fl97)) (apb c3 rfl) appE) ?_
 refine kv g0 (faB 3 3) ?_
 refine kv g0 (ldB) ?_
 refine kb g0 (bsl 8 3 1 [.int .i64 0] (([] : List Int).map (eI .i64))) ?_
 refine kv g0 (faB 4 4) ?_
 refine kv g0 (ldB) ?_
 obtain ⟨c4, H⟩ := of_if H
 refine kc g0 (apR 9 3 1 8 [.int .i64 0] ((([] : List Int) ++ l0_4).map (eI .i64)) (.slF (flI)) (apb c4 rfl) appE) ?_
 refine kv g0 (bld [(0, 1), (1, 1), (2, 1), (3, 1), (4, 1)] [.slice none 0 0, .slice none 0 0, .slice none 0 0, .int .i64 0, .slice none 0 0] [.row 3, .row 5, .row 7, .lit (.int .i64 a0_3), .row 9]) ?_
 refine ks g0 (stB 5 [.row 3, .row 5, .row 7, .lit (.int .i64 a0_3), .row 9]) ?_
 refine wk_end_draw hM (by kernel_rfl) ?_
 refine ac_next ?_
 refine aw_ret ?_
 obtain rfl := Option.some.inj H
 exact acr hE [.cell 2 29] (rcA 5 .nil) (.one _) [(0, 3), (1, 5), (2, 7), (3, 9)] 9999
/-! spec_SaveKeeper -/
def spec_SaveKeeper.f (l0_0 : List S98) (l0_1 : List Int) (l0_2 : List S97) (a0_3 : Int) (l0_4 : List Int) : Option ((List S98) × (List Int) × (List S97) × Int × (List Int)) := (spec_l20Copy.f l0_0 l0_1 l0_2 a0_3 l0_4).bind fun t1 => if ([] : List Int).length + l0_1.length < 17592186044416 then some (t1.1, t1.2.1, t1.2.2.1, (l0_0.length : Int), ([] : List Int) ++ l0_1) else none
theorem spec_SaveKeeper.ok {l0_0 : List S98} {l0_1 : List Int} {l0_2 : List S97} {a0_3 : Int} {l0_4 : List Int} {r : (List S98) × (List Int) × (List S97) × Int × (List Int)} (H : spec_SaveKeeper.f l0_0 l0_1 l0_2 a0_3 l0_4 = some r) : ACalls Try.prog 27 [] [.agg [.sl .o 6 (l0_0.map e98), .sl .o 1 (l0_1.map (eI .i64)), .sl .o 6 (l0_2.map e97), .lit (.int .i64 a0_3), .sl .o 1 (l0_4.map (eI .i64))]] [(0, .row 98 6 (r.1.map e98)), (1, .row 3 1 (r.2.1.map (eI .i64))), (2, .row 97 6 (r.2.2.1.map e97)), (3, .row 3 1 (r.2.2.2.2.map (eI .i64)))] (.agg [.row 0, .row 1, .row 2, .lit (.int .i64 r.2.2.2.1), .row 3]) := by
 refine acalls (fn := Try.f27) (nt := 16) Try.func27 rfl rfl (Nat.le_of_ble_eq_true rfl) fun E hE => ?_
 rw [spec_SaveKeeper.f] at H
 refine aw_grp1 ?_
 refine wk_start ?_
 refine kb g0 (bxA 0) ?_
 refine kb g0 (alc 1 [.slice none 0 0, .slice none 0 0, .slice none 0 0, .int .i64 0, .slice none 0 0] [.lit (.slice none 0 0), .lit (.slice none 0 0), .lit (.slice none 0 0), .lit (.int .i64 0), .lit (.slice none 0 0)]) ?_
 refine wk_end ?_
 refine ac_next ?_
 refine aw_grp1 ?_
 refine wk_start ?_
 refine kv g0 (ldBA 5 [.sl .o 6 (l0_0.map e98), .sl .o 1 (l0_1.map (eI .i64)), .sl .o 6 (l0_2.map e97), .lit (.int .i64 a0_3), .sl .o 1 (l0_4.map (eI .i64))]) ?_
 obtain ⟨t1, A2, H⟩ := of_bind H
 refine kcS4 5 (.agg [.row 2, .row 3, .row 4, .lit (.int .i64 t1.2.2.2.1), .row 5]) [(2, .row 98 6 (t1.1.map e98)), (3, .row 3 1 (t1.2.1.map (eI .i64))), (4, .row 97 6 (t1.2.2.1.map e97)), (5, .row 3 1 (t1.2.2.2.2.map (eI .i64)))] g0 (cal (spec_l20Copy.ok A2) [2, 3, 4, 5] 9999 .n (hf := Try.func64)) rfl rfl ?_
 refine kb g0 (alc 6 [.slice none 0 0, .slice none 0 0, .slice none 0 0, .int .i64 0, .slice none 0 0] [.lit (.slice none 0 0), .lit (.slice none 0 0), .lit (.slice none 0 0), .lit (.int .i64 0), .lit (.slice none 0 0)]) ?_
 refine ks g0 (stB 5 [.row 2, .row 3, .row 4, .lit (.int .i64 t1.2.2.2.1), .row 5]) ?_
 refine wk_end ?_
 refine ac_next ?_
 refine aw_grp1 ?_
 refine wk_start ?_
 refine kv g0 (faB 0 0) ?_
 refine kv g0 (ldB) ?_
 refine kv g0 (lnS lenE) ?_
 refine kv g0 (faB 3 3) ?_
 refine ks g0 (stB 1 [.row 2, .row 3, .row 4, .lit (.int .i64 (l0_0.length : Int)), .row 5]) ?_
 refine wk_end ?_
 refine ac_next ?_
 refine aw_grp1 ?_
 refine wk_start ?_
 refine kb g0 (bsl 7 3 1 [.int .i64 0] (([] : List Int).map (eI .i64))) ?_
 refine kv g0 (faB 1 1) ?_
 refine kv g0 (ldB) ?_
 obtain ⟨c3, H⟩ := of_if H
 refine kc g0 (apR 8 3 1 8 [.int .i64 0] ((([] : List Int) ++ l0_1).map (eI .i64)) (.slF (flI)) (apb c3 rfl) appE) ?_
 refine kv g0 (faB 4 4) ?_
 refine ks g0 (stB 1 [.row 2, .row 3, .row 4, .lit (.int .i64 (l0_0.length : Int)), .row 8]) ?_
 refine wk_end ?_
 refine ac_next ?_
 refine aw_grp1 ?_
 refine wk_start ?_
 refine kv g0 (ldBA 5 [.row 2, .row 3, .row 4, .lit (.int .i64 (l0_0.length : Int)), .row 8]) ?_
 refine ks g0 (stB 5 [.row 2, .row 3, .row 4, .lit (.int .i64 (l0_0.length : Int)), .row 8]) ?_
 refine wk_end ?_
 refine ac_next ?_
 refine aw_ret ?_
 obtain rfl := Option.some.inj H
 exact acr hE [.cell 2 29] (rcA 5 .nil) (.one _) [(0, 2), (1, 3), (2, 4), (3, 8)] 9999
/-! spec_l01In -/
def spec_l01In.f (a0 : Int) (a1 : Int) (a2 : Int) : Option (Bool) := if a0 ≥ a1 then some (decide (a0 ≤ a2)) else some false
theorem spec_l01In.ok {a0 : Int} {a1 : Int} {a2 : Int} {r : Bool} (H : spec_l01In.f a0 a1 a2 = some r) : ACalls Try.prog 63 [] [.lit (.int .i64 a0), .lit (.int .i64 a1), .lit (.int .i64 a2)] [] (.lit (.bool r)) := by
 refine acalls (fn := Try.f63) (nt := 15) Try.func63 rfl rfl (Nat.le_of_ble_eq_true rfl) fun E hE => ?_
 rw [spec_l01In.f] at H
 refine aw_grp1 ?_
 refine wk_start ?_
 refine kv g0 (asg) ?_
 refine wk_end ?_
 refine ac_next ?_
 refine aw_grp1 ?_
 refine wk_start ?_
 refine kv g0 (mv) ?_
 refine kv g0 (mv) ?_
 refine kv g0 (geq) ?_
 refine kv g0 (mv) ?_
 by_cases c1 : a0 ≥ a1
 ·rw [if_pos c1] at H
  refine kv (g1 (decide_eq_true c1)) (mv) ?_
  refine kv (g1 (decide_eq_true c1)) (mv) ?_
  refine kv (g1 (decide_eq_true c1)) (leq) ?_
  refine kv g0 (pkT (decide_eq_true c1)) ?_
  refine kv g0 (asg) ?_
  refine wk_end ?_
  refine ac_next ?_
  refine aw_ret ?_
  obtain rfl := Option.some.inj H
  exact acr hE [.tmp 6] (.tmp .nil) (.one _) [] 9999
 rw [if_neg c1] at H
 refine kx (hT (decide_eq_false c1)) ?_
 refine kx (hT (decide_eq_false c1)) ?_
 refine kx (hT (decide_eq_false c1)) ?_
 refine kv g0 (pkF (decide_eq_false c1)) ?_
 refine kv g0 (asg) ?_
 refine wk_end ?_
 refine ac_next ?_
 refine aw_ret ?_
 obtain rfl := Option.some.inj H
 exact acr hE [.tmp 6] (.tmp .nil) (.one _) [] 9999
/-! spec_FallKeeper -/
def spec_FallKeeper.j0 : Nat → (List S98) → (List Int) → (List S97) → Int → (List Int) → ((List S98) × (List Int) × (List S97) × Int × (List Int)) → (List S98) → Option ((List S98) × (List Int) × (List S97) × Int × (List Int))
 | 0, _, _, _, _, _, _, _ => none
 | k10 + 1, l0_0, l0_1, l0_2, a0_3, l0_4, t1, q9 => if ([] : List Int).length + l0_4.length < 17592186044416 then some (q9, ([] : List Int) ++ l0_4, ([] : List S97), t1.2.2.2.1, t1.2.2.2.2) else none
def spec_FallKeeper.f (k : Nat) (l0_0 : List S98) (l0_1 : List Int) (l0_2 : List S97) (a0_3 : Int) (l0_4 : List Int) : Option ((List S98) × (List Int) × (List S97) × Int × (List Int)) := (spec_l20Copy.f l0_0 l0_1 l0_2 a0_3 l0_4).bind fun t1 => (spec_l01In.f a0_3 0 (l0_0.length : Int)).bind fun t3 => if t3 = true then (if 0 ≤ a0_3 then (if a0_3 ≤ (l0_0.length : Int) then (if ([] : List S98).length + (l0_0.take a0_3.toNat).length < 2932031007402 then spec_FallKeeper.j0 k l0_0 l0_1 l0_2 a0_3 l0_4 t1 (([] : List S98) ++ (l0_0.take a0_3.toNat)) else none) else none) else none) else spec_FallKeeper.j0 k l0_0 l0_1 l0_2 a0_3 l0_4 t1 t1.1
theorem spec_FallKeeper.ok {k : Nat} {l0_0 : List S98} {l0_1 : List Int} {l0_2 : List S97} {a0_3 : Int} {l0_4 : List Int} {r : (List S98) × (List Int) × (List S97) × Int × (List Int)} (H : spec_FallKeeper.f k l0_0 l0_1 l0_2 a0_3 l0_4 = some r) : ACalls Try.prog 28 [] [.agg [.sl .o 6 (l0_0.map e98), .sl .o 1 (l0_1.map (eI .i64)), .sl .o 6 (l0_2.map e97), .lit (.int .i64 a0_3), .sl .o 1 (l0_4.map (eI .i64))]] [(0, .row 98 6 (r.1.map e98)), (1, .row 3 1 (r.2.1.map (eI .i64))), (2, .row 97 6 (r.2.2.1.map e97)), (3, .row 3 1 (r.2.2.2.2.map (eI .i64)))] (.agg [.row 0, .row 1, .row 2, .lit (.int .i64 r.2.2.2.1), .row 3]) := by
 refine acalls (fn := Try.f28) (nt := 28) Try.func28 rfl rfl (Nat.le_of_ble_eq_true rfl) fun E hE => ?_
 rw [spec_FallKeeper.f] at H
 refine aw_grp1 ?_
 refine wk_start ?_
 refine kb g0 (bxA 0) ?_
 refine kb g0 (alc 1 [.slice none 0 0, .slice none 0 0, .slice none 0 0, .int .i64 0, .slice none 0 0] [.lit (.slice none 0 0), .lit (.slice none 0 0), .lit (.slice none 0 0), .lit (.int .i64 0), .lit (.slice none 0 0)]) ?_
 refine wk_end ?_
 refine ac_next ?_
 refine aw_grp1 ?_
 refine wk_start ?_
 refine kv g0 (ldBA 5 [.sl .o 6 (l0_0.map e98), .sl .o 1 (l0_1.map (eI .i64)), .sl .o 6 (l0_2.map e97), .lit (.int .i64 a0_3), .sl .o 1 (l0_4.map (eI .i64))]) ?_
 obtain ⟨t1, A2, H⟩ := of_bind H
 refine kcS4 5 (.agg [.row 2, .row 3, .row 4, .lit (.int .i64 t1.2.2.2.1), .row 5]) [(2, .row 98 6 (t1.1.map e98)), (3, .row 3 1 (t1.2.1.map (eI .i64))), (4, .row 97 6 (t1.2.2.1.map e97)), (5, .row 3 1 (t1.2.2.2.2.map (eI .i64)))] g0 (cal (spec_l20Copy.ok A2) [2, 3, 4, 5] 9999 .n (hf := Try.func64)) rfl rfl ?_
 refine kb g0 (alc 6 [.slice none 0 0, .slice none 0 0, .slice none 0 0, .int .i64 0, .slice none 0 0] [.lit (.slice none 0 0), .lit (.slice none 0 0), .lit (.slice none 0 0), .lit (.int .i64 0), .lit (.slice none 0 0)]) ?_
 refine ks g0 (stB 5 [.row 2, .row 3, .row 4, .lit (.int .i64 t1.2.2.2.1), .row 5]) ?_
 refine wk_end ?_
 refine ac_next ?_
 refine aw_cut1 (J := fun K_ => ∀ (k_ : Nat) (q9 : List S98), k_ ≤ k → spec_FallKeeper.j0 k_ l0_0 l0_1 l0_2 a0_3 l0_4 t1 q9 = some r → ACont E 28 ⟨[(1, .box 0 0), (2, .box 1 0), (3, .box 6 0)], [(0, .box 29 [.sl .o 6 (l0_0.map e98), .sl .o 1 (l0_1.map (eI .i64)), .sl .o 6 (l0_2.map e97), .lit (.int .i64 a0_3), .sl .o 1 (l0_4.map (eI .i64))]), (1, .box 29 [.lit (.slice none 0 0), .lit (.slice none 0 0), .lit (.slice none 0 0), .lit (.int .i64 0), .lit (.slice none 0 0)]), (3, .row 3 1 (t1.2.1.map (eI .i64))), (4, .row 97 6 (t1.2.2.1.map e97)), (5, .row 3 1 (t1.2.2.2.2.map (eI .i64))), (6, .box 29 [.row 8, .row 3, .row 4, .lit (.int .i64 t1.2.2.2.1), .row 5]), (8, .row 98 6 (q9.map e98))]⟩ K_) ?_ ?_
 ·intro K_ hJ12
  refine aw_grp1 ?_
  refine wk_start ?_
  refine kv g0 (faB 3 3) ?_
  refine kv g0 (ldB) ?_
  refine kv g0 (faB 0 0) ?_
  refine kv g0 (ldB) ?_
  refine kv g0 (lnS lenE) ?_
  obtain ⟨t3, A4, H⟩ := of_bind H
  refine kcS0 11 (.lit (.bool t3)) [] g0 (cal (spec_l01In.ok A4) [] 9999 .n (hf := Try.func63)) rfl rfl ?_
  refine wk_end ?_
  refine ac_next ?_
  by_cases c5 : t3 = true
  ·rw [if_pos c5] at H
   refine aw_ifT ?_ c5
   refine wk_start ?_
   refine kb g0 (bsl 7 98 6 [.int .i64 0, .int .i64 0, .int .i64 0, .int .i64 0, .int .i64 0, .int .i64 0] (([] : List S98).map e98)) ?_
   refine kv g0 (faB 0 0) ?_
   refine kv g0 (ldB) ?_
   refine kv g0 (faB 3 3) ?_
   refine kv g0 (ldB) ?_
   obtain ⟨c6, H⟩ := of_if H
   obtain ⟨c7, H⟩ := of_if H
   refine kv g0 (slH 98 c6 c7) ?_
   obtain ⟨c8, H⟩ := of_if H
   refine kc g0 (apR 8 98 6 48 [.int .i64 0, .int .i64 0, .int .i64 0, .int .i64 0, .int .i64 0, .int .i64 0] ((([] : List S98) ++ (l0_0.take a0_3.toNat)).map e98) (.slF (fl98)) (apb c8 rfl) appE) ?_
   refine kv g0 (faB 0 0) ?_
   refine ks g0 (stB 1 [.row 8, .row 3, .row 4, .lit (.int .i64 t1.2.2.2.1), .row 5]) ?_
   refine wk_end ?_
   refine ac_k ?_
   exact acw hE [(0, 0), (1, 1), (3, 3), (4, 4), (5, 5), (6, 6), (8, 8)] 9999 (hJ12 k (([] : List S98) ++ (l0_0.take a0_3.toNat)) (Nat.le_refl _) H)
  rw [if_neg c5] at H
  refine aw_ifF ?_ (bF c5)
  refine aw_skip ?_
  refine ac_k ?_
  exact acw hE [(0, 0), (1, 1), (3, 3), (4, 4), (5, 5), (6, 6), (8, 2)] 9999 (hJ12 k t1.1 (Nat.le_refl _) H)
 intro k_ q9 hk_ H
 rcases k_ with _ | k10
 ·rw [spec_FallKeeper.j0.eq_1] at H; cases H
 have hk10 : k10 ≤ k := by omega
 clear hk_
 rw [spec_FallKeeper.j0.eq_2] at H
 refine aw_grp1 ?_
 refine wk_start ?_
 refine kb g0 (bsl 9 3 1 [.int .i64 0] (([] : List Int).map (eI .i64))) ?_
 refine kv g0 (faB 4 4) ?_
 refine kv g0 (ldB) ?_
 obtain ⟨c11, H⟩ := of_if H
 refine kc g0 (apR 10 3 1 8 [.int .i64 0] ((([] : List Int) ++ l0_4).map (eI .i64)) (.slF (flI)) (apb c11 rfl) appE) ?_
 refine kv g0 (faB 1 1) ?_
 refine ks g0 (stB 1 [.row 8, .row 10, .row 4, .lit (.int .i64 t1.2.2.2.1), .row 5]) ?_
 refine wk_end ?_
 refine ac_next ?_
 refine aw_grp1 ?_
 refine wk_start ?_
 refine kb g0 (bsl 11 97 6 [.int .i64 0, .int .i64 0, .int .i64 0, .int .i64 0, .int .i64 0, .int .i64 0] (([] : List S97).map e97)) ?_
 refine kv g0 (faB 2 2) ?_
 refine ks g0 (stB 1 [.row 8, .row 10, .row 11, .lit (.int .i64 t1.2.2.2.1), .row 5]) ?_
 refine wk_end ?_
 refine ac_next ?_
 refine aw_grp1 ?_
 refine wk_start ?_
 refine kv g0 (ldBA 5 [.row 8, .row 10, .row 11, .lit (.int .i64 t1.2.2.2.1), .row 5]) ?_
 refine ks g0 (stB 5 [.row 8, .row 10, .row 11, .lit (.int .i64 t1.2.2.2.1), .row 5]) ?_
 refine wk_end ?_
 refine ac_next ?_
 refine aw_ret ?_
 obtain rfl := Option.some.inj H
 exact acr hE [.cell 2 29] (rcA 5 .nil) (.one _) [(0, 8), (1, 10), (2, 11), (3, 5)] 9999
/-! spec_HalfOk -/
def spec_HalfOk.f (a0 : Int) : Option (Bool) := (spec_l01In.f a0 0 4294967295).bind fun t1 => some t1
theorem spec_HalfOk.ok {a0 : Int} {r : Bool} (H : spec_HalfOk.f a0 = some r) : ACalls Try.prog 116 [] [.lit (.int .i64 a0)] [] (.lit (.bool r)) := by
 refine acalls (fn := Try.f116) (nt := 5) Try.func116 rfl rfl (Nat.le_of_ble_eq_true rfl) fun E hE => ?_
 rw [spec_HalfOk.f] at H
 refine aw_grp1 ?_
 refine wk_start ?_
 refine kv g0 (asg) ?_
 refine wk_end ?_
 refine ac_next ?_
 refine aw_grp1 ?_
 refine wk_start ?_
 refine kv g0 (mv) ?_
 obtain ⟨t1, A2, H⟩ := of_bind H
 refine kcS0 4 (.lit (.bool t1)) [] g0 (cal (spec_l01In.ok A2) [] 9999 .n (hf := Try.func63)) rfl rfl ?_
 refine kv g0 (asg) ?_
 refine wk_end ?_
 refine ac_next ?_
 refine aw_ret ?_
 obtain rfl := Option.some.inj H
 exact acr hE [.tmp 2] (.tmp .nil) (.one _) [] 9999
/-! spec_ItemOk -/
def spec_ItemOk.f (a0_0 : Int) (a0_1 : Int) (a0_2 : Int) (a0_3 : Int) : Option (Bool) := if a0_0 = 1 then ((spec_HalfOk.f a0_1).bind fun t2 => (if t2 = true then ((spec_HalfOk.f a0_2).bind fun t5 => (if t5 = true then some (a0_3 == 0) else some false)) else some false)) else if a0_0 = 2 then ((spec_l01In.f a0_3 1 1000000000).bind fun t9 => (if t9 = true then (if a0_1 = 0 then some (a0_2 == 0) else some false) else some false)) else some false
theorem spec_ItemOk.ok {a0_0 : Int} {a0_1 : Int} {a0_2 : Int} {a0_3 : Int} {r : Bool} (H : spec_ItemOk.f a0_0 a0_1 a0_2 a0_3 = some r) : ACalls Try.prog 69 [] [.agg [.lit (.int .i64 a0_0), .lit (.int .i64 a0_1), .lit (.int .i64 a0_2), .lit (.int .i64 a0_3)]] [] (.lit (.bool r)) := by
 refine acalls (fn := Try.f69) (nt := 37) Try.func69 rfl rfl (Nat.le_of_ble_eq_true rfl) fun E hE => ?_
 rw [spec_ItemOk.f] at H
 refine aw_grp1 ?_
 refine wk_start ?_
 refine kb g0 (bxA 0) ?_
 refine kv g0 (asg) ?_
 refine wk_end ?_
 refine ac_next ?_
 refine aw_grp1 ?_
 refine aw_grp1 ?_
 refine wk_start ?_
 refine kv g0 (faB 0 0) ?_
 refine kv g0 (ldB) ?_
 refine kv g0 (eql) ?_
 refine wk_end ?_
 refine ac_next ?_
 by_cases c1 : a0_0 = 1
 ·rw [if_pos c1] at H
  refine aw_ifT ?_ (eT c1)
  refine aw_grp1 ?_
  refine wk_start ?_
  refine kv g0 (faB 1 1) ?_
  refine kv g0 (ldB) ?_
  obtain ⟨t2, A3, H⟩ := of_bind H
  refine kcS0 8 (.lit (.bool t2)) [] g0 (cal (spec_HalfOk.ok A3) [] 9999 .n (hf := Try.func116)) rfl rfl ?_
  refine kv g0 (mv) ?_
  by_cases c4 : t2 = true
  ·rw [if_pos c4] at H
   refine kv (g1 c4) (faB 2 2) ?_
   refine kv (g1 c4) (ldB) ?_
   obtain ⟨t5, A6, H⟩ := of_bind H
   refine kcS0 12 (.lit (.bool t5)) [] (g1 c4) (cal (spec_HalfOk.ok A6) [] 9999 .n (hf := Try.func116)) rfl rfl ?_
   refine kv g0 (pkT c4) ?_
   refine kv g0 (mv) ?_
   by_cases c7 : t5 = true
   ·rw [if_pos c7] at H
    refine kv (g1 c7) (faB 3 3) ?_
    refine kv (g1 c7) (ldB) ?_
    refine kv (g1 c7) (eql) ?_
    refine kv g0 (pkT c7) ?_
    refine kv g0 (asg) ?_
    refine wk_end ?_
    refine ac_next ?_
    refine aw_ret ?_
    refine ac_thenR ?_
    obtain rfl := Option.some.inj H
    exact acr hE [.tmp 2] (.tmp .nil) (.one _) [] 9999
   rw [if_neg c7] at H
   refine kx (hT (bF c7)) ?_
   refine kx (hT (bF c7)) ?_
   refine kx (hT (bF c7)) ?_
   refine kv g0 (pkF (bF c7)) ?_
   refine kv g0 (asg) ?_
   refine wk_end ?_
   refine ac_next ?_
   refine aw_ret ?_
   refine ac_thenR ?_
   obtain rfl := Option.some.inj H
   exact acr hE [.tmp 2] (.tmp .nil) (.one _) [] 9999
  rw [if_neg c4] at H
  refine kx (hT (bF c4)) ?_
  refine kx (hT (bF c4)) ?_
  refine kx (hT (bF c4)) ?_
  refine kv g0 (pkF (bF c4)) ?_
  refine kv g0 (mv) ?_
  refine kx (hT rfl) ?_
  refine kx (hT rfl) ?_
  refine kx (hT rfl) ?_
  refine kv g0 (pkF rfl) ?_
  refine kv g0 (asg) ?_
  refine wk_end ?_
  refine ac_next ?_
  refine aw_ret ?_
  refine ac_thenR ?_
  obtain rfl := Option.some.inj H
  exact acr hE [.tmp 2] (.tmp .nil) (.one _) [] 9999
 rw [if_neg c1] at H
 refine aw_ifF ?_ (eF c1)
 refine aw_skip ?_
 refine ac_next ?_
 refine aw_grp1 ?_
 refine wk_start ?_
 refine kv g0 (faB 0 0) ?_
 refine kv g0 (ldB) ?_
 refine kv g0 (eql) ?_
 refine kv g0 (mv) ?_
 by_cases c8 : a0_0 = 2
 ·rw [if_pos c8] at H
  refine kv (g1 (eT c8)) (faB 3 3) ?_
  refine kv (g1 (eT c8)) (ldB) ?_
  obtain ⟨t9, A10, H⟩ := of_bind H
  refine kcS0 25 (.lit (.bool t9)) [] (g1 (eT c8)) (cal (spec_l01In.ok A10) [] 9999 .n (hf := Try.func63)) rfl rfl ?_
  refine kv g0 (pkT (eT c8)) ?_
  refine kv g0 (mv) ?_
  by_cases c11 : t9 = true
  ·rw [if_pos c11] at H
   refine kv (g1 c11) (faB 1 1) ?_
   refine kv (g1 c11) (ldB) ?_
   refine kv (g1 c11) (eql) ?_
   refine kv g0 (pkT c11) ?_
   refine kv g0 (mv) ?_
   by_cases c12 : a0_1 = 0
   ·rw [if_pos c12] at H
    refine kv (g1 (eT c12)) (faB 2 2) ?_
    refine kv (g1 (eT c12)) (ldB) ?_
    refine kv (g1 (eT c12)) (eql) ?_
    refine kv g0 (pkT (eT c12)) ?_
    refine kv g0 (asg) ?_
    refine wk_end ?_
    refine ac_next ?_
    refine aw_ret ?_
    obtain rfl := Option.some.inj H
    exact acr hE [.tmp 2] (.tmp .nil) (.one _) [] 9999
   rw [if_neg c12] at H
   refine kx (hT (eF c12)) ?_
   refine kx (hT (eF c12)) ?_
   refine kx (hT (eF c12)) ?_
   refine kv g0 (pkF (eF c12)) ?_
   refine kv g0 (asg) ?_
   refine wk_end ?_
   refine ac_next ?_
   refine aw_ret ?_
   obtain rfl := Option.some.inj H
   exact acr hE [.tmp 2] (.tmp .nil) (.one _) [] 9999
  rw [if_neg c11] at H
  refine kx (hT (bF c11)) ?_
  refine kx (hT (bF c11)) ?_
  refine kx (hT (bF c11)) ?_
  refine kv g0 (pkF (bF c11)) ?_
  refine kv g0 (mv) ?_
  refine kx (hT rfl) ?_
  refine kx (hT rfl) ?_
  refine kx (hT rfl) ?_
  refine kv g0 (pkF rfl) ?_
  refine kv g0 (asg) ?_
  refine wk_end ?_
  refine ac_next ?_
  refine aw_ret ?_
  obtain rfl := Option.some.inj H
  exact acr hE [.tmp 2] (.tmp .nil) (.one _) [] 9999
 rw [if_neg c8] at H
 refine kx (hT (eF c8)) ?_
 refine kx (hT (eF c8)) ?_
 refine kx (hT (eF c8)) ?_
 refine kv g0 (pkF (eF c8)) ?_
 refine kv g0 (mv) ?_
 refine kx (hT rfl) ?_
 refine kx (hT rfl) ?_
 refine kx (hT rfl) ?_
 refine kv g0 (pkF rfl) ?_
 refine kv g0 (mv) ?_
 refine kx (hT rfl) ?_
 refine kx (hT rfl) ?_
 refine kx (hT rfl) ?_
 refine kv g0 (pkF rfl) ?_
 refine kv g0 (asg) ?_
 refine wk_end ?_
 refine ac_next ?_
 refine aw_ret ?_
 obtain rfl := Option.some.inj H
 exact acr hE [.tmp 2] (.tmp .nil) (.one _) [] 9999
/-! spec_FrameOk -/
def spec_FrameOk.f (a0_0 : Int) (a0_1 : Int) (a0_2 : Int) (a0_3 : Int) (a0_4 : Int) (a0_5 : Int) (a0_6 : Int) : Option (Bool) := (spec_l01In.f a0_1 0 2).bind fun t1 => (if t1 = true then ((spec_l01In.f a0_2 1 1000000000).bind fun t4 => if t4 = true then if a0_0 = 1 then ((spec_ItemOk.f a0_3 a0_4 a0_5 a0_6).bind fun t8 => some t8) else if a0_0 = 2 then some (a0_3 == 0 && (a0_4 == 0 && (a0_5 == 0 && (a0_6 == 0)))) else some false else some false) else some false)
theorem spec_FrameOk.ok {a0_0 : Int} {a0_1 : Int} {a0_2 : Int} {a0_3 : Int} {a0_4 : Int} {a0_5 : Int} {a0_6 : Int} {r : Bool} (H : spec_FrameOk.f a0_0 a0_1 a0_2 a0_3 a0_4 a0_5 a0_6 = some r) : ACalls Try.prog 65 [] [.agg [.lit (.int .i64 a0_0), .lit (.int .i64 a0_1), .lit (.int .i64 a0_2), .lit (.int .i64 a0_3), .lit (.int .i64 a0_4), .lit (.int .i64 a0_5), .lit (.int .i64 a0_6)]] [] (.lit (.bool r)) := by
 refine acalls (fn := Try.f65) (nt := 28) Try.func65 rfl rfl (Nat.le_of_ble_eq_true rfl) fun E hE => ?_
 rw [spec_FrameOk.f] at H
 refine aw_grp1 ?_
 refine wk_start ?_
 refine kb g0 (bxA 0) ?_
 refine kv g0 (asg) ?_
 refine wk_end ?_
 refine ac_next ?_
 refine aw_grp1 ?_
 refine aw_grp1 ?_
 refine wk_start ?_
 refine kv g0 (faB 1 1) ?_
 refine kv g0 (ldB) ?_
 obtain ⟨t1, A2, H⟩ := of_bind H
 refine kcS0 5 (.lit (.bool t1)) [] g0 (cal (spec_l01In.ok A2) [] 9999 .n (hf := Try.func63)) rfl rfl ?_
 refine kv g0 (not_) ?_
 refine kv g0 (mv) ?_
 by_cases c3 : t1 = true
 ·rw [if_pos c3] at H
  refine kv (g1 (nF c3)) (faB 2 2) ?_
  refine kv (g1 (nF c3)) (ldB) ?_
  obtain ⟨t4, A5, H⟩ := of_bind H
  refine kcS0 10 (.lit (.bool t4)) [] (g1 (nF c3)) (cal (spec_l01In.ok A5) [] 9999 .n (hf := Try.func63)) rfl rfl ?_
  refine kv (g1 (nF c3)) (not_) ?_
  refine kv g0 (pkF (nF c3)) ?_
  refine wk_end ?_
  refine ac_next ?_
  by_cases c6 : t4 = true
  ·rw [if_pos c6] at H
   refine aw_ifF ?_ (nF c6)
   refine aw_skip ?_
   refine ac_next ?_
   refine aw_grp1 ?_
   refine aw_grp1 ?_
   refine wk_start ?_
   refine kv g0 (faB 0 0) ?_
   refine kv g0 (ldB) ?_
   refine kv g0 (eql) ?_
   refine wk_end ?_
   refine ac_next ?_
   by_cases c7 : a0_0 = 1
   ·rw [if_pos c7] at H
    refine aw_ifT ?_ (eT c7)
    refine aw_grp1 ?_
    refine wk_start ?_
    refine kv g0 (faB 3 3) ?_
    refine kv g0 (ldBA 4 [.lit (.int .i64 a0_3), .lit (.int .i64 a0_4), .lit (.int .i64 a0_5), .lit (.int .i64 a0_6)]) ?_
    obtain ⟨t8, A9, H⟩ := of_bind H
    refine kcS0 18 (.lit (.bool t8)) [] g0 (cal (spec_ItemOk.ok A9) [] 9999 .n (hf := Try.func69)) rfl rfl ?_
    refine kv g0 (asg) ?_
    refine wk_end ?_
    refine ac_next ?_
    refine aw_ret ?_
    refine ac_thenR ?_
    obtain rfl := Option.some.inj H
    exact acr hE [.tmp 2] (.tmp .nil) (.one _) [] 9999
   rw [if_neg c7] at H
   refine aw_ifF ?_ (eF c7)
   refine aw_skip ?_
   refine ac_next ?_
   refine aw_grp1 ?_
   refine wk_start ?_
   refine kv g0 (faB 0 0) ?_
   refine kv g0 (ldB) ?_
   refine kv g0 (eql) ?_
   refine kv g0 (mv) ?_
   by_cases c10 : a0_0 = 2
   ·rw [if_pos c10] at H
    refine kv (g1 (eT c10)) (faB 3 3) ?_
    refine kv (g1 (eT c10)) (ldBA 4 [.lit (.int .i64 a0_3), .lit (.int .i64 a0_4), .lit (.int .i64 a0_5), .lit (.int .i64 a0_6)]) ?_
    refine kv (g1 (eT c10)) (bld [(0, 1), (1, 1), (2, 1), (3, 1)] [.int .i64 0, .int .i64 0, .int .i64 0, .int .i64 0] [.lit (.int .i64 0), .lit (.int .i64 0), .lit (.int .i64 0), .lit (.int .i64 0)]) ?_
    refine kv (g1 (eT c10)) (eqS (fun w => eq34 _ w a0_3 a0_4 a0_5 a0_6 0 0 0 0)) ?_
    refine kv g0 (pkT (eT c10)) ?_
    refine kv g0 (asg) ?_
    refine wk_end ?_
    refine ac_next ?_
    refine aw_ret ?_
    obtain rfl := Option.some.inj H
    exact acr hE [.tmp 2] (.tmp .nil) (.one _) [] 9999
   rw [if_neg c10] at H
   refine kx (hT (eF c10)) ?_
   refine kx (hT (eF c10)) ?_
   refine kx (hT (eF c10)) ?_
   refine kx (hT (eF c10)) ?_
   refine kv g0 (pkF (eF c10)) ?_
   refine kv g0 (asg) ?_
   refine wk_end ?_
   refine ac_next ?_
   refine aw_ret ?_
   obtain rfl := Option.some.inj H
   exact acr hE [.tmp 2] (.tmp .nil) (.one _) [] 9999
  rw [if_neg c6] at H
  refine aw_ifT ?_ (nT (bF c6))
  refine aw_grp1 ?_
  refine wk_start ?_
  refine kv g0 (asg) ?_
  refine wk_end ?_
  refine ac_next ?_
  refine aw_ret ?_
  refine ac_thenR ?_
  obtain rfl := Option.some.inj H
  exact acr hE [.tmp 2] (.tmp .nil) (.one _) [] 9999
 rw [if_neg c3] at H
 refine kx (hF (nT (bF c3))) ?_
 refine kx (hF (nT (bF c3))) ?_
 refine kx (hF (nT (bF c3))) ?_
 refine kx (hF (nT (bF c3))) ?_
 refine kv g0 (pkT (nT (bF c3))) ?_
 refine wk_end ?_
 refine ac_next ?_
 refine aw_ifT ?_ rfl
 refine aw_grp1 ?_
 refine wk_start ?_
 refine kv g0 (asg) ?_
 refine wk_end ?_
 refine ac_next ?_
 refine aw_ret ?_
 refine ac_thenR ?_
 obtain rfl := Option.some.inj H
 exact acr hE [.tmp 2] (.tmp .nil) (.one _) [] 9999
/-! spec_l20Early -/
def spec_l20Early.l0 : Nat → (List S97) → Int → Int → Int → Option (Int)
 | 0, _, _, _, _ => none
 | k6 + 1, l0, a1, a2, p5 => if p5 < (l0.length : Int) then if 0 ≤ p5 then (if ((rd_T97 l0 p5).f0) = a1 then if ((rd_T97 l0 p5).f1) = a2 then some p5 else spec_l20Early.l0 k6 l0 a1 a2 (wrap64 (p5 + 1)) else spec_l20Early.l0 k6 l0 a1 a2 (wrap64 (p5 + 1))) else none else some (-1)
def spec_l20Early.f (k : Nat) (l0 : List S97) (a1 : Int) (a2 : Int) : Option (Int) := spec_l20Early.l0 k l0 a1 a2 0
theorem spec_l20Early.ok {k : Nat} {l0 : List S97} {a1 : Int} {a2 : Int} {r : Int} (H : spec_l20Early.f k l0 a1 a2 = some r) : ACalls Try.prog 66 [] [.sl .o 6 (l0.map e97), .lit (.int .i64 a1), .lit (.int .i64 a2)] [] (.lit (.int .i64 r)) := by
 refine acalls (fn := Try.f66) (nt := 31) Try.func66 rfl rfl (Nat.le_of_ble_eq_true rfl) fun E hE => ?_
 rw [spec_l20Early.f] at H
 refine aw_grp1 ?_
 refine wk_start ?_
 refine kv g0 (asg) ?_
 refine wk_end ?_
 refine ac_next ?_
 refine aw_grp1 ?_
 refine aw_grp1 ?_
 refine wk_start ?_
 refine kv g0 (asg) ?_
 refine wk_end ?_
 refine ac_next ?_
 refine aw_block ?_
 refine aw_loop1 (fun (k_ : Nat) (p5 : Int) => k_ ≤ k ∧ spec_l20Early.l0 k_ l0 a1 a2 p5 = some r) (fun (p5 : Int) => ⟨[(0, .sl .o 6 (l0.map e97)), (1, .lit (.int .i64 a1)), (2, .lit (.int .i64 a2)), (7, .lit (.int .i64 p5))], []⟩) k 0 ⟨Nat.le_refl _, H⟩ (fun K_ h_ => acw hE [] 9999 h_) (fun _ => by intro h_; have h_ := h_.2; rw [spec_l20Early.l0.eq_1] at h_; cases h_) ?_
 intro k6 p5 hq_ K11 hK12
 have hk6 := hq_.1
 have H := hq_.2
 clear hq_
 rw [spec_l20Early.l0.eq_2] at H
 refine aw_grp1 ?_
 refine aw_grp1 ?_
 refine wk_start ?_
 refine kv g0 (mv) ?_
 refine kv g0 (mv) ?_
 refine kv g0 (lnS lenE) ?_
 refine kv g0 (lss) ?_
 refine wk_end ?_
 refine ac_next ?_
 by_cases c7 : p5 < (l0.length : Int)
 ·rw [if_pos c7] at H
  refine aw_ifT ?_ (decide_eq_true c7)
  refine aw_skip ?_
  refine ac_next ?_
  refine aw_grp1 ?_
  refine aw_block ?_
  refine aw_grp1 ?_
  refine wk_start ?_
  refine kv g0 (mv) ?_
  refine kv g0 (mv) ?_
  obtain ⟨c8, H⟩ := of_if H
  refine kv g0 (ixS 97 (e97 (rd_T97 l0 p5)) c8 (getE (z := z97) c8 c7)) ?_
  refine kv g0 (faR 0 0) ?_
  refine kv g0 (ldR (.lit (.int .i64 ((rd_T97 l0 p5).f0)))) ?_
  refine kv g0 (mv) ?_
  refine kv g0 (eql) ?_
  refine kv g0 (mv) ?_
  by_cases c9 : ((rd_T97 l0 p5).f0) = a1
  ·rw [if_pos c9] at H
   refine kv (g1 (eT c9)) (mv) ?_
   refine kv (g1 (eT c9)) (mv) ?_
   refine kv (g1 (eT c9)) (ixS 97 (e97 (rd_T97 l0 p5)) c8 (getE (z := z97) c8 c7)) ?_
   refine kv (g1 (eT c9)) (faR 1 1) ?_
   refine kv (g1 (eT c9)) (ldR (.lit (.int .i64 ((rd_T97 l0 p5).f1)))) ?_
   refine kv (g1 (eT c9)) (mv) ?_
   refine kv (g1 (eT c9)) (eql) ?_
   refine kv g0 (pkT (eT c9)) ?_
   refine wk_end ?_
   refine ac_next ?_
   by_cases c10 : ((rd_T97 l0 p5).f1) = a2
   ·rw [if_pos c10] at H
    refine aw_ifT ?_ (eT c10)
    refine aw_grp1 ?_
    refine wk_start ?_
    refine kv g0 (mv) ?_
    refine kv g0 (asg) ?_
    refine wk_end ?_
    refine ac_next ?_
    refine aw_ret ?_
    refine ac_blkR ?_
    refine ac_thenR ?_
    refine ac_thenR ?_
    refine ac_blkR ?_
    refine ac_thenR ?_
    obtain rfl := Option.some.inj H
    exact acr hE [.tmp 6] (.tmp .nil) (.one _) [] 9999
   rw [if_neg c10] at H
   refine aw_ifF ?_ (eF c10)
   refine aw_skip ?_
   refine ac_blkN ?_
   refine ac_next ?_
   refine wk_start ?_
   refine kv g0 (mv) ?_
   refine kv g0 (add6) ?_
   refine kv g0 (asg) ?_
   refine wk_end ?_
   refine ac_k ?_
   exact acw hE [] 9999 (hK12 k6 (wrap64 (p5 + 1)) (Nat.le_refl _) ⟨by omega, H⟩)
  rw [if_neg c9] at H
  refine kx (hT (eF c9)) ?_
  refine kx (hT (eF c9)) ?_
  refine kx (hT (eF c9)) ?_
  refine kx (hT (eF c9)) ?_
  refine kx (hT (eF c9)) ?_
  refine kx (hT (eF c9)) ?_
  refine kx (hT (eF c9)) ?_
  refine kv g0 (pkF (eF c9)) ?_
  refine wk_end ?_
  refine ac_next ?_
  refine aw_ifF ?_ rfl
  refine aw_skip ?_
  refine ac_blkN ?_
  refine ac_next ?_
  refine wk_start ?_
  refine kv g0 (mv) ?_
  refine kv g0 (add6) ?_
  refine kv g0 (asg) ?_
  refine wk_end ?_
  refine ac_k ?_
  exact acw hE [] 9999 (hK12 k6 (wrap64 (p5 + 1)) (Nat.le_refl _) ⟨by omega, H⟩)
 rw [if_neg c7] at H
 refine aw_ifF ?_ (decide_eq_false c7)
 refine aw_exit ?_
 refine ac_then ?_
 refine ac_then ?_
 refine ac_hit rfl ?_
 refine ac_next ?_
 refine aw_grp1 ?_
 refine wk_start ?_
 refine kv g0 (asg) ?_
 refine wk_end ?_
 refine ac_next ?_
 refine aw_ret ?_
 obtain rfl := Option.some.inj H
 exact acr hE [.tmp 6] (.tmp .nil) (.one _) [] 9999
/-! spec_Kept -/
mutual
def spec_Kept.j0 : Nat → Int → Int → Int → Int → Int → Int → Int → ((List S98) × (List Int) × (List S97) × Int × (List Int)) → Bool → Option ((List S98) × (List Int) × (List S97) × Int × (List Int) × Bool)
 | 0, _, _, _, _, _, _, _, _, _ => none
 | k18 + 1, a1_0, a1_1, a1_2, a1_3, a1_4, a1_5, a1_6, t1, p17 => if p17 = true then (if t1.2.2.1.length + ([(⟨a1_1, a1_2, (⟨a1_3, a1_4, a1_5, a1_6⟩ : S34)⟩ : S97)] : List S97).length < 2932031007402 then some (t1.1, t1.2.1, t1.2.2.1 ++ ([(⟨a1_1, a1_2, (⟨a1_3, a1_4, a1_5, a1_6⟩ : S34)⟩ : S97)] : List S97), t1.2.2.2.1, t1.2.2.2.2, false) else none) else some (t1.1, t1.2.1, t1.2.2.1, t1.2.2.2.1, t1.2.2.2.2, false)
def spec_Kept.l0 : Nat → Int → Int → Int → Int → Int → Int → Int → ((List S98) × (List Int) × (List S97) × Int × (List Int)) → (List S98) → (List S97) → Int → Option ((List S98) × (List Int) × (List S97) × Int × (List Int) × Bool)
 | 0, _, _, _, _, _, _, _, _, _, _, _ => none
 | k39 + 1, a1_0, a1_1, a1_2, a1_3, a1_4, a1_5, a1_6, t1, q36, q37, p38 => if (q36.length : Int) < 200 then (spec_l20Early.f k39 q37 a1_1 p38).bind fun t41 => if t41 < 0 then spec_Kept.j1 k39 a1_0 a1_1 a1_2 a1_3 a1_4 a1_5 a1_6 t1 q36 q37 p38 else if 0 ≤ t41 then (if t41 < (q37.length : Int) then (if q36.length + ([(⟨a1_1, p38, (⟨(rd_T97 q37 t41).f2.f0, (rd_T97 q37 t41).f2.f1, (rd_T97 q37 t41).f2.f2, (rd_T97 q37 t41).f2.f3⟩ : S34)⟩ : S98)] : List S98).length < 2932031007402 then if t41 ≤ (q37.length : Int) then (if ([] : List S97).length + (q37.take t41.toNat).length < 2932031007402 then (if 0 ≤ (wrap64 (t41 + 1)) then (if (wrap64 (t41 + 1)) ≤ (q37.length : Int) then (if (([] : List S97) ++ (q37.take t41.toNat)).length + (q37.drop (wrap64 (t41 + 1)).toNat).length < 2932031007402 then spec_Kept.l0 k39 a1_0 a1_1 a1_2 a1_3 a1_4 a1_5 a1_6 t1 (q36 ++ ([(⟨a1_1, p38, (⟨(rd_T97 q37 t41).f2.f0, (rd_T97 q37 t41).f2.f1, (rd_T97 q37 t41).f2.f2, (rd_T97 q37 t41).f2.f3⟩ : S34)⟩ : S98)] : List S98)) ((([] : List S97) ++ (q37.take t41.toNat)) ++ (q37.drop (wrap64 (t41 + 1)).toNat)) (wrap64 (p38 + 1)) else none) else none) else none) else none) else none else none) else none) else none else spec_Kept.j1 k39 a1_0 a1_1 a1_2 a1_3 a1_4 a1_5 a1_6 t1 q36 q37 p38
def spec_Kept.j1 : Nat → Int → Int → Int → Int → Int → Int → Int → ((List S98) × (List Int) × (List S97) × Int × (List Int)) → (List S98) → (List S97) → Int → Option ((List S98) × (List Int) × (List S97) × Int × (List Int) × Bool)
 | 0, _, _, _, _, _, _, _, _, _, _, _ => none
 | k57 + 1, a1_0, a1_1, a1_2, a1_3, a1_4, a1_5, a1_6, t1, q54, q55, p56 => if a1_1 < (t1.2.1.length : Int) then some (q54, t1.2.1.set a1_1.toNat p56, q55, t1.2.2.2.1, t1.2.2.2.2, true) else none
end
def spec_Kept.f (k : Nat) (l0_0 : List S98) (l0_1 : List Int) (l0_2 : List S97) (a0_3 : Int) (l0_4 : List Int) (a1_0 : Int) (a1_1 : Int) (a1_2 : Int) (a1_3 : Int) (a1_4 : Int) (a1_5 : Int) (a1_6 : Int) : Option ((List S98) × (List Int) × (List S97) × Int × (List Int) × Bool) := (spec_l20Copy.f l0_0 l0_1 l0_2 a0_3 l0_4).bind fun t1 => (spec_FrameOk.f a1_0 a1_1 a1_2 a1_3 a1_4 a1_5 a1_6).bind fun t3 => (if t3 = true then (if a1_0 = 1 then (if a1_1 ≥ (l0_1.length : Int) then some (t1.1, t1.2.1, t1.2.2.1, t1.2.2.2.1, t1.2.2.2.2, false) else if (l0_0.length : Int) ≥ 200 then some (t1.1, t1.2.1, t1.2.2.1, t1.2.2.2.1, t1.2.2.2.2, false) else if 0 ≤ a1_1 then (if a1_1 < (l0_1.length : Int) then if a1_2 = (rd l0_1 a1_1) then if t1.1.length + ([(⟨a1_1, a1_2, (⟨a1_3, a1_4, a1_5, a1_6⟩ : S34)⟩ : S98)] : List S98).length < 2932031007402 then spec_Kept.l0 k a1_0 a1_1 a1_2 a1_3 a1_4 a1_5 a1_6 t1 (t1.1 ++ ([(⟨a1_1, a1_2, (⟨a1_3, a1_4, a1_5, a1_6⟩ : S34)⟩ : S98)] : List S98)) t1.2.2.1 (wrap64 ((rd l0_1 a1_1) + 1)) else none else (if a1_2 > (rd l0_1 a1_1) then (if (wrap64 (a1_2 - 3)) ≤ (rd l0_1 a1_1) then ((spec_l20Early.f k l0_2 a1_1 a1_2).bind fun t14 => (if t14 < 0 then spec_Kept.j0 k a1_0 a1_1 a1_2 a1_3 a1_4 a1_5 a1_6 t1 (decide ((l0_2.length : Int) < 3)) else spec_Kept.j0 k a1_0 a1_1 a1_2 a1_3 a1_4 a1_5 a1_6 t1 false)) else spec_Kept.j0 k a1_0 a1_1 a1_2 a1_3 a1_4 a1_5 a1_6 t1 false) else spec_Kept.j0 k a1_0 a1_1 a1_2 a1_3 a1_4 a1_5 a1_6 t1 false) else none) else none) else some (t1.1, t1.2.1, t1.2.2.1, t1.2.2.2.1, t1.2.2.2.2, false)) else some (t1.1, t1.2.1, t1.2.2.1, t1.2.2.2.1, t1.2.2.2.2, false))
theorem spec_Kept.ok {k : Nat} {l0_0 : List S98} {l0_1 : List Int} {l0_2 : List S97} {a0_3 : Int} {l0_4 : List Int} {a1_0 : Int} {a1_1 : Int} {a1_2 : Int} {a1_3 : Int} {a1_4 : Int} {a1_5 : Int} {a1_6 : Int} {r : (List S98) × (List Int) × (List S97) × Int × (List Int) × Bool} (H : spec_Kept.f k l0_0 l0_1 l0_2 a0_3 l0_4 a1_0 a1_1 a1_2 a1_3 a1_4 a1_5 a1_6 = some r) : ACalls Try.prog 21 [] [.agg [.sl .o 6 (l0_0.map e98), .sl .o 1 (l0_1.map (eI .i64)), .sl .o 6 (l0_2.map e97), .lit (.int .i64 a0_3), .sl .o 1 (l0_4.map (eI .i64))], .agg [.lit (.int .i64 a1_0), .lit (.int .i64 a1_1), .lit (.int .i64 a1_2), .lit (.int .i64 a1_3), .lit (.int .i64 a1_4), .lit (.int .i64 a1_5), .lit (.int .i64 a1_6)]] [(0, .row 98 6 (r.1.map e98)), (1, .row 3 1 (r.2.1.map (eI .i64))), (2, .row 97 6 (r.2.2.1.map e97)), (3, .row 3 1 (r.2.2.2.2.1.map (eI .i64)))] (.tup [.agg [.row 0, .row 1, .row 2, .lit (.int .i64 r.2.2.2.1), .row 3], .lit (.bool r.2.2.2.2.2)]) := by
 refine acalls (fn := Try.f21) (nt := 147) Try.func21 rfl rfl (Nat.le_of_ble_eq_true rfl) fun E hE => ?_
 rw [spec_Kept.f] at H
 refine aw_grp1 ?_
 refine wk_start ?_
 refine kb g0 (bxA 0) ?_
 refine kb g0 (bxA 1) ?_
 refine kb g0 (alc 2 [.slice none 0 0, .slice none 0 0, .slice none 0 0, .int .i64 0, .slice none 0 0] [.lit (.slice none 0 0), .lit (.slice none 0 0), .lit (.slice none 0 0), .lit (.int .i64 0), .lit (.slice none 0 0)]) ?_
 refine kv g0 (asg) ?_
 refine wk_end ?_
 refine ac_next ?_
 refine aw_grp1 ?_
 refine wk_start ?_
 refine kv g0 (ldBA 5 [.sl .o 6 (l0_0.map e98), .sl .o 1 (l0_1.map (eI .i64)), .sl .o 6 (l0_2.map e97), .lit (.int .i64 a0_3), .sl .o 1 (l0_4.map (eI .i64))]) ?_
 obtain ⟨t1, A2, H⟩ := of_bind H
 refine kcS4 10 (.agg [.row 3, .row 4, .row 5, .lit (.int .i64 t1.2.2.2.1), .row 6]) [(3, .row 98 6 (t1.1.map e98)), (4, .row 3 1 (t1.2.1.map (eI .i64))), (5, .row 97 6 (t1.2.2.1.map e97)), (6, .row 3 1 (t1.2.2.2.2.map (eI .i64)))] g0 (cal (spec_l20Copy.ok A2) [3, 4, 5, 6] 9999 .n (hf := Try.func64)) rfl rfl ?_
 refine kb g0 (alc 7 [.slice none 0 0, .slice none 0 0, .slice none 0 0, .int .i64 0, .slice none 0 0] [.lit (.slice none 0 0), .lit (.slice none 0 0), .lit (.slice none 0 0), .lit (.int .i64 0), .lit (.slice none 0 0)]) ?_
 refine ks g0 (stB 5 [.row 3, .row 4, .row 5, .lit (.int .i64 t1.2.2.2.1), .row 6]) ?_
 refine wk_end ?_
 refine ac_next ?_
 refine aw_grp1 ?_
 refine aw_grp1 ?_
 refine wk_start ?_
 refine kv g0 (ldBA 7 [.lit (.int .i64 a1_0), .lit (.int .i64 a1_1), .lit (.int .i64 a1_2), .lit (.int .i64 a1_3), .lit (.int .i64 a1_4), .lit (.int .i64 a1_5), .lit (.int .i64 a1_6)]) ?_
 obtain ⟨t3, A4, H⟩ := of_bind H
 refine kcS0 12 (.lit (.bool t3)) [] g0 (cal (spec_FrameOk.ok A4) [] 9999 .n (hf := Try.func65)) rfl rfl ?_
 refine kv g0 (not_) ?_
 refine kv g0 (mv) ?_
 by_cases c5 : t3 = true
 ·rw [if_pos c5] at H
  refine kv (g1 (nF c5)) (faB 0 0) ?_
  refine kv (g1 (nF c5)) (ldB) ?_
  refine kv (g1 (nF c5)) (neq) ?_
  refine kv g0 (pkF (nF c5)) ?_
  refine kv g0 (mv) ?_
  by_cases c6 : a1_0 = 1
  ·rw [if_pos c6] at H
   refine kv (g1 (eM c6)) (faB 1 1) ?_
   refine kv (g1 (eM c6)) (ldB) ?_
   refine kv (g1 (eM c6)) (faB 1 1) ?_
   refine kv (g1 (eM c6)) (ldB) ?_
   refine kv (g1 (eM c6)) (lnS lenE) ?_
   refine kv (g1 (eM c6)) (geq) ?_
   refine kv g0 (pkF (eM c6)) ?_
   refine kv g0 (mv) ?_
   by_cases c7 : a1_1 ≥ (l0_1.length : Int)
   ·rw [if_pos c7] at H
    refine kx (hF (decide_eq_true c7)) ?_
    refine kx (hF (decide_eq_true c7)) ?_
    refine kx (hF (decide_eq_true c7)) ?_
    refine kx (hF (decide_eq_true c7)) ?_
    refine kv g0 (pkT (decide_eq_true c7)) ?_
    refine wk_end ?_
    refine ac_next ?_
    refine aw_ifT ?_ rfl
    refine aw_grp1 ?_
    refine wk_start ?_
    refine kv g0 (ldBA 5 [.row 3, .row 4, .row 5, .lit (.int .i64 t1.2.2.2.1), .row 6]) ?_
    refine ks g0 (stB 5 [.row 3, .row 4, .row 5, .lit (.int .i64 t1.2.2.2.1), .row 6]) ?_
    refine kv g0 (asg) ?_
    refine wk_end ?_
    refine ac_next ?_
    refine aw_ret ?_
    refine ac_thenR ?_
    obtain rfl := Option.some.inj H
    exact acr hE [.cell 4 29, .tmp 5] (rcA 5 (.tmp .nil)) (.many _ _ _) [(0, 3), (1, 4), (2, 5), (3, 6)] 9999
   rw [if_neg c7] at H
   refine kv (g1 (decide_eq_false c7)) (faB 0 0) ?_
   refine kv (g1 (decide_eq_false c7)) (ldB) ?_
   refine kv (g1 (decide_eq_false c7)) (lnS lenE) ?_
   refine kv (g1 (decide_eq_false c7)) (geq) ?_
   refine kv g0 (pkF (decide_eq_false c7)) ?_
   refine wk_end ?_
   refine ac_next ?_
   by_cases c8 : (l0_0.length : Int) ≥ 200
   ·rw [if_pos c8] at H
    refine aw_ifT ?_ (decide_eq_true c8)
    refine aw_grp1 ?_
    refine wk_start ?_
    refine kv g0 (ldBA 5 [.row 3, .row 4, .row 5, .lit (.int .i64 t1.2.2.2.1), .row 6]) ?_
    refine ks g0 (stB 5 [.row 3, .row 4, .row 5, .lit (.int .i64 t1.2.2.2.1), .row 6]) ?_
    refine kv g0 (asg) ?_
    refine wk_end ?_
    refine ac_next ?_
    refine aw_ret ?_
    refine ac_thenR ?_
    obtain rfl := Option.some.inj H
    exact acr hE [.cell 4 29, .tmp 5] (rcA 5 (.tmp .nil)) (.many _ _ _) [(0, 3), (1, 4), (2, 5), (3, 6)] 9999
   rw [if_neg c8] at H
   refine aw_ifF ?_ (decide_eq_false c8)
   refine aw_skip ?_
   refine ac_next ?_
   refine aw_grp1 ?_
   refine wk_start ?_
   refine kv g0 (faB 1 1) ?_
   refine kv g0 (ldB) ?_
   refine kv g0 (faB 1 1) ?_
   refine kv g0 (ldB) ?_
   obtain ⟨c9, H⟩ := of_if H
   obtain ⟨c10, H⟩ := of_if H
   refine kv g0 (ixS 3 (eI .i64 (rd l0_1 a1_1)) c9 (getE (z := (0 : Int)) c9 c10)) ?_
   refine kv g0 (ldR (.lit (.int .i64 (rd l0_1 a1_1)))) ?_
   refine kv g0 (asg) ?_
   refine wk_end ?_
   refine ac_next ?_
   refine aw_grp1 ?_
   refine aw_grp1 ?_
   refine wk_start ?_
   refine kv g0 (faB 2 2) ?_
   refine kv g0 (ldB) ?_
   refine kv g0 (mv) ?_
   refine kv g0 (neq) ?_
   refine wk_end ?_
   refine ac_next ?_
   by_cases c11 : a1_2 = (rd l0_1 a1_1)
   ·rw [if_pos c11] at H
    refine aw_ifF ?_ (eM c11)
    refine aw_skip ?_
    refine ac_next ?_
    refine aw_grp1 ?_
    refine wk_start ?_
    refine kv g0 (faB 0 0) ?_
    refine kv g0 (ldB) ?_
    refine kv g0 (faB 1 1) ?_
    refine kv g0 (ldB) ?_
    refine kv g0 (faB 2 2) ?_
    refine kv g0 (ldB) ?_
    refine kv g0 (faB 3 3) ?_
    refine kv g0 (ldBA 4 [.lit (.int .i64 a1_3), .lit (.int .i64 a1_4), .lit (.int .i64 a1_5), .lit (.int .i64 a1_6)]) ?_
    refine kv g0 (bld [(0, 1), (1, 1), (2, 4)] [.int .i64 0, .int .i64 0, .int .i64 0, .int .i64 0, .int .i64 0, .int .i64 0] [.lit (.int .i64 a1_1), .lit (.int .i64 a1_2), .lit (.int .i64 a1_3), .lit (.int .i64 a1_4), .lit (.int .i64 a1_5), .lit (.int .i64 a1_6)]) ?_
    refine kb g0 (bsl 10 98 6 [.int .i64 0, .int .i64 0, .int .i64 0, .int .i64 0, .int .i64 0, .int .i64 0] (([(⟨a1_1, a1_2, (⟨a1_3, a1_4, a1_5, a1_6⟩ : S34)⟩ : S98)] : List S98).map e98)) ?_
    obtain ⟨c22, H⟩ := of_if H
    refine kc g0 (apR 11 98 6 48 [.int .i64 0, .int .i64 0, .int .i64 0, .int .i64 0, .int .i64 0, .int .i64 0] ((t1.1 ++ ([(⟨a1_1, a1_2, (⟨a1_3, a1_4, a1_5, a1_6⟩ : S34)⟩ : S98)] : List S98)).map e98) (.row rfl) (apb c22 rfl) appE) ?_
    refine kv g0 (faB 0 0) ?_
    refine ks g0 (stB 1 [.row 11, .row 4, .row 5, .lit (.int .i64 t1.2.2.2.1), .row 6]) ?_
    refine wk_end ?_
    refine ac_next ?_
    refine aw_grp1 ?_
    refine wk_start ?_
    refine kv g0 (mv) ?_
    refine kv g0 (add6) ?_
    refine kv g0 (asg) ?_
    refine wk_end ?_
    refine ac_next ?_
    refine aw_cut1 (J := fun K_ => ∀ (k_ : Nat) (q54 : List S98) (q55 : List S97) (p56 : Int), k_ ≤ k → spec_Kept.j1 k_ a1_0 a1_1 a1_2 a1_3 a1_4 a1_5 a1_6 t1 q54 q55 p56 = some r → ACont E 147 ⟨[(3, .box 1 0), (4, .box 2 0), (6, .box 7 0), (7, .lit (.int .i64 p56))], [(1, .box 36 [.lit (.int .i64 a1_0), .lit (.int .i64 a1_1), .lit (.int .i64 a1_2), .lit (.int .i64 a1_3), .lit (.int .i64 a1_4), .lit (.int .i64 a1_5), .lit (.int .i64 a1_6)]), (2, .box 29 [.lit (.slice none 0 0), .lit (.slice none 0 0), .lit (.slice none 0 0), .lit (.int .i64 0), .lit (.slice none 0 0)]), (4, .row 3 1 (t1.2.1.map (eI .i64))), (5, .row 97 6 (q55.map e97)), (6, .row 3 1 (t1.2.2.2.2.map (eI .i64))), (7, .box 29 [.row 11, .row 4, .row 5, .lit (.int .i64 t1.2.2.2.1), .row 6]), (11, .row 98 6 (q54.map e98))]⟩ K_) ?_ ?_
    ·intro K_ hJ59
     refine aw_block ?_
     refine aw_loop3 (fun (k_ : Nat) (q36 : List S98) (q37 : List S97) (p38 : Int) => k_ ≤ k ∧ spec_Kept.l0 k_ a1_0 a1_1 a1_2 a1_3 a1_4 a1_5 a1_6 t1 q36 q37 p38 = some r) (fun (q36 : List S98) (q37 : List S97) (p38 : Int) => ⟨[(3, .box 1 0), (4, .box 2 0), (6, .box 7 0), (7, .lit (.int .i64 p38))], [(1, .box 36 [.lit (.int .i64 a1_0), .lit (.int .i64 a1_1), .lit (.int .i64 a1_2), .lit (.int .i64 a1_3), .lit (.int .i64 a1_4), .lit (.int .i64 a1_5), .lit (.int .i64 a1_6)]), (2, .box 29 [.lit (.slice none 0 0), .lit (.slice none 0 0), .lit (.slice none 0 0), .lit (.int .i64 0), .lit (.slice none 0 0)]), (4, .row 3 1 (t1.2.1.map (eI .i64))), (5, .row 97 6 (q37.map e97)), (6, .row 3 1 (t1.2.2.2.2.map (eI .i64))), (7, .box 29 [.row 11, .row 4, .row 5, .lit (.int .i64 t1.2.2.2.1), .row 6]), (11, .row 98 6 (q36.map e98))]⟩) k (t1.1 ++ ([(⟨a1_1, a1_2, (⟨a1_3, a1_4, a1_5, a1_6⟩ : S34)⟩ : S98)] : List S98)) t1.2.2.1 (wrap64 ((rd l0_1 a1_1) + 1)) ⟨Nat.le_refl _, H⟩ (fun K_ h_ => acw hE [(1, 1), (2, 2), (4, 4), (5, 5), (6, 6), (7, 7), (11, 11)] 9999 h_) (fun _ _ _ => by intro h_; have h_ := h_.2; rw [spec_Kept.l0.eq_1] at h_; cases h_) ?_
     intro k39 q36 q37 p38 hq_ K52 hK53
     have hk39 := hq_.1
     have H := hq_.2
     clear hq_
     rw [spec_Kept.l0.eq_2] at H
     refine aw_grp1 ?_
     refine aw_grp1 ?_
     refine wk_start ?_
     refine kv g0 (faB 0 0) ?_
     refine kv g0 (ldB) ?_
     refine kv g0 (lnR lenE) ?_
     refine kv g0 (lss) ?_
     refine wk_end ?_
     refine ac_next ?_
     by_cases c40 : (q36.length : Int) < 200
     ·rw [if_pos c40] at H
      refine aw_ifT ?_ (decide_eq_true c40)
      refine aw_skip ?_
      refine ac_next ?_
      refine aw_block ?_
      refine aw_grp1 ?_
      refine wk_start ?_
      refine kv g0 (faB 2 2) ?_
      refine kv g0 (ldB) ?_
      refine kv g0 (faB 1 1) ?_
      refine kv g0 (ldB) ?_
      refine kv g0 (mv) ?_
      obtain ⟨t41, A42, H⟩ := of_bind H
      refine kcS0 107 (.lit (.int .i64 t41)) [] g0 (cal (spec_l20Early.ok A42) [] 9999 .n (hf := Try.func66)) rfl rfl ?_
      refine kv g0 (asg) ?_
      refine wk_end ?_
      refine ac_next ?_
      refine aw_grp1 ?_
      refine aw_grp1 ?_
      refine wk_start ?_
      refine kv g0 (mv) ?_
      refine kv g0 (lss) ?_
      refine wk_end ?_
      refine ac_next ?_
      by_cases c43 : t41 < 0
      ·rw [if_pos c43] at H
       refine aw_ifT ?_ (decide_eq_true c43)
       refine aw_exit ?_
       refine ac_then ?_
       refine ac_miss rfl ?_
       refine ac_then ?_
       refine ac_hit rfl ?_
       refine ac_k ?_
       exact acw hE [(1, 1), (2, 2), (4, 4), (5, 5), (6, 6), (7, 7), (11, 11)] 9999 (hJ59 k39 q36 q37 p38 (by omega) H)
      rw [if_neg c43] at H
      refine aw_ifF ?_ (decide_eq_false c43)
      refine aw_skip ?_
      refine ac_next ?_
      refine aw_grp1 ?_
      refine wk_start ?_
      refine kv g0 (faB 0 0) ?_
      refine kv g0 (ldB) ?_
      refine kv g0 (faB 1 1) ?_
      refine kv g0 (ldB) ?_
      refine kv g0 (mv) ?_
      refine kv g0 (faB 2 2) ?_
      refine kv g0 (ldB) ?_
      refine kv g0 (mv) ?_
      obtain ⟨c44, H⟩ := of_if H
      obtain ⟨c45, H⟩ := of_if H
      refine kv g0 (ixR 97 c44 (ltE c45)) ?_
      refine kv g0 (faE 2 2) ?_
      refine kv g0 (ldEA 4 (e97 (rd_T97 q37 t41)) [.lit (.int .i64 ((rd_T97 q37 t41).f2.f0)), .lit (.int .i64 ((rd_T97 q37 t41).f2.f1)), .lit (.int .i64 ((rd_T97 q37 t41).f2.f2)), .lit (.int .i64 ((rd_T97 q37 t41).f2.f3))] (getE (z := z97) c44 c45)) ?_
      refine kv g0 (bld [(0, 1), (1, 1), (2, 4)] [.int .i64 0, .int .i64 0, .int .i64 0, .int .i64 0, .int .i64 0, .int .i64 0] [.lit (.int .i64 a1_1), .lit (.int .i64 p38), .lit (.int .i64 ((rd_T97 q37 t41).f2.f0)), .lit (.int .i64 ((rd_T97 q37 t41).f2.f1)), .lit (.int .i64 ((rd_T97 q37 t41).f2.f2)), .lit (.int .i64 ((rd_T97 q37 t41).f2.f3))]) ?_
      refine kb g0 (bsl 12 98 6 [.int .i64 0, .int .i64 0, .int .i64 0, .int .i64 0, .int .i64 0, .int .i64 0] (([(⟨a1_1, p38, (⟨(rd_T97 q37 t41).f2.f0, (rd_T97 q37 t41).f2.f1, (rd_T97 q37 t41).f2.f2, (rd_T97 q37 t41).f2.f3⟩ : S34)⟩ : S98)] : List S98).map e98)) ?_
      obtain ⟨c46, H⟩ := of_if H
      refine kc g0 (apR 13 98 6 48 [.int .i64 0, .int .i64 0, .int .i64 0, .int .i64 0, .int .i64 0, .int .i64 0] ((q36 ++ ([(⟨a1_1, p38, (⟨(rd_T97 q37 t41).f2.f0, (rd_T97 q37 t41).f2.f1, (rd_T97 q37 t41).f2.f2, (rd_T97 q37 t41).f2.f3⟩ : S34)⟩ : S98)] : List S98)).map e98) (.row rfl) (apb c46 rfl) appE) ?_
      refine kv g0 (faB 0 0) ?_
      refine ks g0 (stB 1 [.row 13, .row 4, .row 5, .lit (.int .i64 t1.2.2.2.1), .row 6]) ?_
      refine wk_end_draw hM (by kernel_rfl) ?_
      refine ac_next ?_
      refine aw_grp1 ?_
      refine wk_start ?_
      refine kb g0 (bsl 14 97 6 [.int .i64 0, .int .i64 0, .int .i64 0, .int .i64 0, .int .i64 0, .int .i64 0] (([] : List S97).map e97)) ?_
      refine kv g0 (faB 2 2) ?_
      refine kv g0 (ldB) ?_
      refine kv g0 (mv) ?_
      obtain ⟨c47, H⟩ := of_if H
      refine kv g0 (srH 97 c44 c47) ?_
      obtain ⟨c48, H⟩ := of_if H
      refine kc g0 (apR 15 97 6 48 [.int .i64 0, .int .i64 0, .int .i64 0, .int .i64 0, .int .i64 0, .int .i64 0] ((([] : List S97) ++ (q37.take t41.toNat)).map e97) (nwS rfl mapT) (apb c48 rfl) appE) ?_
      refine kv g0 (faB 2 2) ?_
      refine kv g0 (ldB) ?_
      refine kv g0 (mv) ?_
      refine kv g0 (add6) ?_
      obtain ⟨c49, H⟩ := of_if H
      obtain ⟨c50, H⟩ := of_if H
      refine kv g0 (srL 97 c49 c50) ?_
      obtain ⟨c51, H⟩ := of_if H
      refine kc g0 (apR 16 97 6 48 [.int .i64 0, .int .i64 0, .int .i64 0, .int .i64 0, .int .i64 0, .int .i64 0] (((([] : List S97) ++ (q37.take t41.toNat)) ++ (q37.drop (wrap64 (t41 + 1)).toNat)).map e97) (nwS rfl mapD) (apb c51 rfl) appE) ?_
      refine kv g0 (faB 2 2) ?_
      refine ks g0 (stB 1 [.row 13, .row 4, .row 16, .lit (.int .i64 t1.2.2.2.1), .row 6]) ?_
      refine wk_end_draw hM (by kernel_rfl) ?_
      refine ac_next ?_
      refine wk_start ?_
      refine kv g0 (mv) ?_
      refine kv g0 (add6) ?_
      refine kv g0 (asg) ?_
      refine wk_end ?_
      refine ac_blkN ?_
      refine ac_k ?_
      exact acw hE [(1, 1), (2, 2), (4, 4), (5, 16), (6, 6), (7, 7), (11, 13)] 9999 (hK53 k39 (q36 ++ ([(⟨a1_1, p38, (⟨(rd_T97 q37 t41).f2.f0, (rd_T97 q37 t41).f2.f1, (rd_T97 q37 t41).f2.f2, (rd_T97 q37 t41).f2.f3⟩ : S34)⟩ : S98)] : List S98)) ((([] : List S97) ++ (q37.take t41.toNat)) ++ (q37.drop (wrap64 (t41 + 1)).toNat)) (wrap64 (p38 + 1)) (Nat.le_refl _) ⟨by omega, H⟩)
     rw [if_neg c40] at H
     refine aw_ifF ?_ (decide_eq_false c40)
     refine aw_exit ?_
     refine ac_then ?_
     refine ac_then ?_
     refine ac_hit rfl ?_
     refine ac_k ?_
     exact acw hE [(1, 1), (2, 2), (4, 4), (5, 5), (6, 6), (7, 7), (11, 11)] 9999 (hJ59 k39 q36 q37 p38 (by omega) H)
    intro k_ q54 q55 p56 hk_ H
    rcases k_ with _ | k57
    ·rw [spec_Kept.j1.eq_1] at H; cases H
    have hk57 : k57 ≤ k := by omega
    clear hk_
    rw [spec_Kept.j1.eq_2] at H
    refine aw_grp1 ?_
    refine wk_start ?_
    refine kv g0 (faB 1 1) ?_
    refine kv g0 (ldB) ?_
    refine kv g0 (faB 1 1) ?_
    refine kv g0 (ldB) ?_
    refine kv g0 (mv) ?_
    obtain ⟨c58, H⟩ := of_if H
    refine kv g0 (ixR 3 c9 (ltE c58)) ?_
    refine ks g0 (stE 1 (eI .i64 p56) ((t1.2.1.set a1_1.toNat p56).map (eI .i64)) (getE (z := (0 : Int)) c9 c58) setE) ?_
    refine wk_end ?_
    refine ac_next ?_
    refine aw_grp1 ?_
    refine wk_start ?_
    refine kv g0 (ldBA 5 [.row 11, .row 4, .row 5, .lit (.int .i64 t1.2.2.2.1), .row 6]) ?_
    refine ks g0 (stB 5 [.row 11, .row 4, .row 5, .lit (.int .i64 t1.2.2.2.1), .row 6]) ?_
    refine kv g0 (asg) ?_
    refine wk_end ?_
    refine ac_next ?_
    refine aw_ret ?_
    obtain rfl := Option.some.inj H
    exact acr hE [.cell 4 29, .tmp 5] (rcA 5 (.tmp .nil)) (.many _ _ _) [(0, 11), (1, 4), (2, 5), (3, 6)] 9999
   rw [if_neg c11] at H
   refine aw_ifT ?_ (eN c11)
   refine aw_grp1 ?_
   refine aw_cut1 (J := fun K_ => ∀ (k_ : Nat) (p17 : Bool), k_ ≤ k → spec_Kept.j0 k_ a1_0 a1_1 a1_2 a1_3 a1_4 a1_5 a1_6 t1 p17 = some r → ACont E 147 ⟨[(3, .box 1 0), (4, .box 2 0), (6, .box 7 0), (70, .lit (.bool p17))], [(1, .box 36 [.lit (.int .i64 a1_0), .lit (.int .i64 a1_1), .lit (.int .i64 a1_2), .lit (.int .i64 a1_3), .lit (.int .i64 a1_4), .lit (.int .i64 a1_5), .lit (.int .i64 a1_6)]), (2, .box 29 [.lit (.slice none 0 0), .lit (.slice none 0 0), .lit (.slice none 0 0), .lit (.int .i64 0), .lit (.slice none 0 0)]), (3, .row 98 6 (t1.1.map e98)), (4, .row 3 1 (t1.2.1.map (eI .i64))), (5, .row 97 6 (t1.2.2.1.map e97)), (6, .row 3 1 (t1.2.2.2.2.map (eI .i64))), (7, .box 29 [.row 3, .row 4, .row 5, .lit (.int .i64 t1.2.2.2.1), .row 6])]⟩ K_) ?_ ?_
   ·intro K_ hJ21
    refine wk_start ?_
    refine kv g0 (faB 2 2) ?_
    refine kv g0 (ldB) ?_
    refine kv g0 (mv) ?_
    refine kv g0 (gtr) ?_
    refine kv g0 (mv) ?_
    by_cases c12 : a1_2 > (rd l0_1 a1_1)
    ·rw [if_pos c12] at H
     refine kv (g1 (decide_eq_true c12)) (faB 2 2) ?_
     refine kv (g1 (decide_eq_true c12)) (ldB) ?_
     refine kv (g1 (decide_eq_true c12)) (sub6) ?_
     refine kv (g1 (decide_eq_true c12)) (mv) ?_
     refine kv (g1 (decide_eq_true c12)) (leq) ?_
     refine kv g0 (pkT (decide_eq_true c12)) ?_
     refine kv g0 (mv) ?_
     by_cases c13 : (wrap64 (a1_2 - 3)) ≤ (rd l0_1 a1_1)
     ·rw [if_pos c13] at H
      refine kv (g1 (decide_eq_true c13)) (faB 2 2) ?_
      refine kv (g1 (decide_eq_true c13)) (ldB) ?_
      refine kv (g1 (decide_eq_true c13)) (faB 1 1) ?_
      refine kv (g1 (decide_eq_true c13)) (ldB) ?_
      refine kv (g1 (decide_eq_true c13)) (faB 2 2) ?_
      refine kv (g1 (decide_eq_true c13)) (ldB) ?_
      obtain ⟨t14, A15, H⟩ := of_bind H
      refine kcS0 62 (.lit (.int .i64 t14)) [] (g1 (decide_eq_true c13)) (cal (spec_l20Early.ok A15) [] 9999 .n (hf := Try.func66)) rfl rfl ?_
      refine kv (g1 (decide_eq_true c13)) (lss) ?_
      refine kv g0 (pkT (decide_eq_true c13)) ?_
      refine kv g0 (mv) ?_
      by_cases c16 : t14 < 0
      ·rw [if_pos c16] at H
       refine kv (g1 (decide_eq_true c16)) (faB 2 2) ?_
       refine kv (g1 (decide_eq_true c16)) (ldB) ?_
       refine kv (g1 (decide_eq_true c16)) (lnS lenE) ?_
       refine kv (g1 (decide_eq_true c16)) (lss) ?_
       refine kv g0 (pkT (decide_eq_true c16)) ?_
       refine wk_end ?_
       refine ac_k ?_
       exact acw hE [(1, 1), (2, 2), (3, 3), (4, 4), (5, 5), (6, 6), (7, 7)] 9999 (hJ21 k (decide ((l0_2.length : Int) < 3)) (Nat.le_refl _) H)
      rw [if_neg c16] at H
      refine kx (hT (decide_eq_false c16)) ?_
      refine kx (hT (decide_eq_false c16)) ?_
      refine kx (hT (decide_eq_false c16)) ?_
      refine kx (hT (decide_eq_false c16)) ?_
      refine kv g0 (pkF (decide_eq_false c16)) ?_
      refine wk_end ?_
      refine ac_k ?_
      exact acw hE [(1, 1), (2, 2), (3, 3), (4, 4), (5, 5), (6, 6), (7, 7)] 9999 (hJ21 k false (Nat.le_refl _) H)
     rw [if_neg c13] at H
     refine kx (hT (decide_eq_false c13)) ?_
     refine kx (hT (decide_eq_false c13)) ?_
     refine kx (hT (decide_eq_false c13)) ?_
     refine kx (hT (decide_eq_false c13)) ?_
     refine kx (hT (decide_eq_false c13)) ?_
     refine kx (hT (decide_eq_false c13)) ?_
     refine kx (hT (decide_eq_false c13)) ?_
     refine kx (hT (decide_eq_false c13)) ?_
     refine kv g0 (pkF (decide_eq_false c13)) ?_
     refine kv g0 (mv) ?_
     refine kx (hT rfl) ?_
     refine kx (hT rfl) ?_
     refine kx (hT rfl) ?_
     refine kx (hT rfl) ?_
     refine kv g0 (pkF rfl) ?_
     refine wk_end ?_
     refine ac_k ?_
     exact acw hE [(1, 1), (2, 2), (3, 3), (4, 4), (5, 5), (6, 6), (7, 7)] 9999 (hJ21 k false (Nat.le_refl _) H)
    rw [if_neg c12] at H
    refine kx (hT (decide_eq_false c12)) ?_
    refine kx (hT (decide_eq_false c12)) ?_
    refine kx (hT (decide_eq_false c12)) ?_
    refine kx (hT (decide_eq_false c12)) ?_
    refine kx (hT (decide_eq_false c12)) ?_
    refine kv g0 (pkF (decide_eq_false c12)) ?_
    refine kv g0 (mv) ?_
    refine kx (hT rfl) ?_
    refine kx (hT rfl) ?_
    refine kx (hT rfl) ?_
    refine kx (hT rfl) ?_
    refine kx (hT rfl) ?_
    refine kx (hT rfl) ?_
    refine kx (hT rfl) ?_
    refine kx (hT rfl) ?_
    refine kv g0 (pkF rfl) ?_
    refine kv g0 (mv) ?_
    refine kx (hT rfl) ?_
    refine kx (hT rfl) ?_
    refine kx (hT rfl) ?_
    refine kx (hT rfl) ?_
    refine kv g0 (pkF rfl) ?_
    refine wk_end ?_
    refine ac_k ?_
    exact acw hE [(1, 1), (2, 2), (3, 3), (4, 4), (5, 5), (6, 6), (7, 7)] 9999 (hJ21 k false (Nat.le_refl _) H)
   intro k_ p17 hk_ H
   rcases k_ with _ | k18
   ·rw [spec_Kept.j0.eq_1] at H; cases H
   have hk18 : k18 ≤ k := by omega
   clear hk_
   rw [spec_Kept.j0.eq_2] at H
   by_cases c19 : p17 = true
   ·rw [if_pos c19] at H
    refine aw_ifT ?_ c19
    refine wk_start ?_
    refine kv g0 (faB 2 2) ?_
    refine kv g0 (ldB) ?_
    refine kv g0 (faB 1 1) ?_
    refine kv g0 (ldB) ?_
    refine kv g0 (faB 2 2) ?_
    refine kv g0 (ldB) ?_
    refine kv g0 (faB 3 3) ?_
    refine kv g0 (ldBA 4 [.lit (.int .i64 a1_3), .lit (.int .i64 a1_4), .lit (.int .i64 a1_5), .lit (.int .i64 a1_6)]) ?_
    refine kv g0 (bld [(0, 1), (1, 1), (2, 4)] [.int .i64 0, .int .i64 0, .int .i64 0, .int .i64 0, .int .i64 0, .int .i64 0] [.lit (.int .i64 a1_1), .lit (.int .i64 a1_2), .lit (.int .i64 a1_3), .lit (.int .i64 a1_4), .lit (.int .i64 a1_5), .lit (.int .i64 a1_6)]) ?_
    refine kb g0 (bsl 8 97 6 [.int .i64 0, .int .i64 0, .int .i64 0, .int .i64 0, .int .i64 0, .int .i64 0] (([(⟨a1_1, a1_2, (⟨a1_3, a1_4, a1_5, a1_6⟩ : S34)⟩ : S97)] : List S97).map e97)) ?_
    obtain ⟨c20, H⟩ := of_if H
    refine kc g0 (apR 9 97 6 48 [.int .i64 0, .int .i64 0, .int .i64 0, .int .i64 0, .int .i64 0, .int .i64 0] ((t1.2.2.1 ++ ([(⟨a1_1, a1_2, (⟨a1_3, a1_4, a1_5, a1_6⟩ : S34)⟩ : S97)] : List S97)).map e97) (.row rfl) (apb c20 rfl) appE) ?_
    refine kv g0 (faB 2 2) ?_
    refine ks g0 (stB 1 [.row 3, .row 4, .row 9, .lit (.int .i64 t1.2.2.2.1), .row 6]) ?_
    refine wk_end ?_
    refine ac_next ?_
    refine aw_grp1 ?_
    refine wk_start ?_
    refine kv g0 (ldBA 5 [.row 3, .row 4, .row 9, .lit (.int .i64 t1.2.2.2.1), .row 6]) ?_
    refine ks g0 (stB 5 [.row 3, .row 4, .row 9, .lit (.int .i64 t1.2.2.2.1), .row 6]) ?_
    refine kv g0 (asg) ?_
    refine wk_end ?_
    refine ac_next ?_
    refine aw_ret ?_
    refine ac_thenR ?_
    obtain rfl := Option.some.inj H
    exact acr hE [.cell 4 29, .tmp 5] (rcA 5 (.tmp .nil)) (.many _ _ _) [(0, 3), (1, 4), (2, 9), (3, 6)] 9999
   rw [if_neg c19] at H
   refine aw_ifF ?_ (bF c19)
   refine aw_skip ?_
   refine ac_next ?_
   refine aw_grp1 ?_
   refine wk_start ?_
   refine kv g0 (ldBA 5 [.row 3, .row 4, .row 5, .lit (.int .i64 t1.2.2.2.1), .row 6]) ?_
   refine ks g0 (stB 5 [.row 3, .row 4, .row 5, .lit (.int .i64 t1.2.2.2.1), .row 6]) ?_
   refine kv g0 (asg) ?_
   refine wk_end ?_
   refine ac_next ?_
   refine aw_ret ?_
   refine ac_thenR ?_
   obtain rfl := Option.some.inj H
   exact acr hE [.cell 4 29, .tmp 5] (rcA 5 (.tmp .nil)) (.many _ _ _) [(0, 3), (1, 4), (2, 5), (3, 6)] 9999
  rw [if_neg c6] at H
  refine kx (hF (eN c6)) ?_
  refine kx (hF (eN c6)) ?_
  refine kx (hF (eN c6)) ?_
  refine kx (hF (eN c6)) ?_
  refine kx (hF (eN c6)) ?_
  refine kx (hF (eN c6)) ?_
  refine kv g0 (pkT (eN c6)) ?_
  refine kv g0 (mv) ?_
  refine kx (hF rfl) ?_
  refine kx (hF rfl) ?_
  refine kx (hF rfl) ?_
  refine kx (hF rfl) ?_
  refine kv g0 (pkT rfl) ?_
  refine wk_end ?_
  refine ac_next ?_
  refine aw_ifT ?_ rfl
  refine aw_grp1 ?_
  refine wk_start ?_
  refine kv g0 (ldBA 5 [.row 3, .row 4, .row 5, .lit (.int .i64 t1.2.2.2.1), .row 6]) ?_
  refine ks g0 (stB 5 [.row 3, .row 4, .row 5, .lit (.int .i64 t1.2.2.2.1), .row 6]) ?_
  refine kv g0 (asg) ?_
  refine wk_end ?_
  refine ac_next ?_
  refine aw_ret ?_
  refine ac_thenR ?_
  obtain rfl := Option.some.inj H
  exact acr hE [.cell 4 29, .tmp 5] (rcA 5 (.tmp .nil)) (.many _ _ _) [(0, 3), (1, 4), (2, 5), (3, 6)] 9999
 rw [if_neg c5] at H
 refine kx (hF (nT (bF c5))) ?_
 refine kx (hF (nT (bF c5))) ?_
 refine kx (hF (nT (bF c5))) ?_
 refine kv g0 (pkT (nT (bF c5))) ?_
 refine kv g0 (mv) ?_
 refine kx (hF rfl) ?_
 refine kx (hF rfl) ?_
 refine kx (hF rfl) ?_
 refine kx (hF rfl) ?_
 refine kx (hF rfl) ?_
 refine kx (hF rfl) ?_
 refine kv g0 (pkT rfl) ?_
 refine kv g0 (mv) ?_
 refine kx (hF rfl) ?_
 refine kx (hF rfl) ?_
 refine kx (hF rfl) ?_
 refine kx (hF rfl) ?_
 refine kv g0 (pkT rfl) ?_
 refine wk_end ?_
 refine ac_next ?_
 refine aw_ifT ?_ rfl
 refine aw_grp1 ?_
 refine wk_start ?_
 refine kv g0 (ldBA 5 [.row 3, .row 4, .row 5, .lit (.int .i64 t1.2.2.2.1), .row 6]) ?_
 refine ks g0 (stB 5 [.row 3, .row 4, .row 5, .lit (.int .i64 t1.2.2.2.1), .row 6]) ?_
 refine kv g0 (asg) ?_
 refine wk_end ?_
 refine ac_next ?_
 refine aw_ret ?_
 refine ac_thenR ?_
 obtain rfl := Option.some.inj H
 exact acr hE [.cell 4 29, .tmp 5] (rcA 5 (.tmp .nil)) (.many _ _ _) [(0, 3), (1, 4), (2, 5), (3, 6)] 9999
/-! spec_l20Keeper -/
def spec_l20Keeper.l0 : Nat → (List Int) → Int → Int → (List S98) → (List Int) → (List S97) → Int → (List Int) → Int → Option ((List S98) × (List Int) × (List S97) × Int × (List Int) × (List Int) × Int × Int)
 | 0, _, _, _, _, _, _, _, _, _ => none
 | k34 + 1, q25, p26, p27, q28, q29, q30, p31, q32, p33 => (spec_l01Below.f q25 p26 p27 14).bind fun t35 => if p33 < t35.1 then (spec_l01Below.f t35.2.1 t35.2.2.1 t35.2.2.2 8).bind fun t38 => if t38.1 = 0 then ((spec_SaveKeeper.f q28 q29 q30 p31 q32).bind fun t41 => spec_l20Keeper.l0 k34 t38.2.1 t38.2.2.1 t38.2.2.2 t41.1 t41.2.1 t41.2.2.1 t41.2.2.2.1 t41.2.2.2.2 (wrap64 (p33 + 1))) else if t38.1 = 1 then ((spec_FallKeeper.f k34 q28 q29 q30 p31 q32).bind fun t44 => spec_l20Keeper.l0 k34 t38.2.1 t38.2.2.1 t38.2.2.2 t44.1 t44.2.1 t44.2.2.1 t44.2.2.2.1 t44.2.2.2.2 (wrap64 (p33 + 1))) else ((spec_l01Below.f t38.2.1 t38.2.2.1 t38.2.2.2 3).bind fun t46 => if 0 ≤ t46.1 then (if t46.1 < (q29.length : Int) then ((spec_l01PickInt.f t46.2.1 t46.2.2.1 t46.2.2.2 ([0, 0, 1, 2] : List Int)).bind fun t50 => ((spec_l17Item.f t50.2.1 t50.2.2.1 t50.2.2.2).bind fun t52 => ((spec_Kept.f k34 q28 q29 q30 p31 q32 1 t46.1 (wrap64 ((rd q29 t46.1) + t50.1)) t52.1 t52.2.1 t52.2.2.1 t52.2.2.2.1).bind fun t54 => spec_l20Keeper.l0 k34 t52.2.2.2.2.1 t52.2.2.2.2.2.1 t52.2.2.2.2.2.2 t54.1 t54.2.1 t54.2.2.1 t54.2.2.2.1 t54.2.2.2.2.1 (wrap64 (p33 + 1))))) else none) else none) else some (q28, q29, q30, p31, q32, t35.2.1, t35.2.2.1, t35.2.2.2)
def spec_l20Keeper.f (k : Nat) (l0_0 : List Int) (a0_1 : Int) (a0_2 : Int) : Option ((List S98) × (List Int) × (List S97) × Int × (List Int) × (List Int) × Int × Int) := (spec_KeeperNew.f k).bind fun t1 => spec_l20Keeper.l0 k l0_0 a0_1 a0_2 ([]) t1.1 ([]) t1.2.1 t1.2.2 0
theorem spec_l20Keeper.ok {k : Nat} {l0_0 : List Int} {a0_1 : Int} {a0_2 : Int} {r : (List S98) × (List Int) × (List S97) × Int × (List Int) × (List Int) × Int × Int} (H : spec_l20Keeper.f k l0_0 a0_1 a0_2 = some r) : ACalls Try.prog 58 [(0, .box 142 [.sl .u 1 (l0_0.map (eI .u8)), .lit (.int .i64 a0_1), .lit (.int .i64 a0_2)])] [.box 0 0] [(0, .box 142 [.sl .u 1 (r.2.2.2.2.2.1.map (eI .u8)), .lit (.int .i64 r.2.2.2.2.2.2.1), .lit (.int .i64 r.2.2.2.2.2.2.2)]), (1, .row 98 6 (r.1.map e98)), (2, .row 3 1 (r.2.1.map (eI .i64))), (3, .row 97 6 (r.2.2.1.map e97)), (4, .row 3 1 (r.2.2.2.2.1.map (eI .i64)))] (.agg [.row 1, .row 2, .row 3, .lit (.int .i64 r.2.2.2.1), .row 4]) := by
 refine acalls (fn := Try.f58) (nt := 44) Try.func58 rfl rfl (Nat.le_of_ble_eq_true rfl) fun E hE => ?_
 rw [spec_l20Keeper.f] at H
 refine aw_grp1 ?_
 refine wk_start ?_
 refine kb g0 (alc 1 [.slice none 0 0, .slice none 0 0, .slice none 0 0, .int .i64 0, .slice none 0 0] [.lit (.slice none 0 0), .lit (.slice none 0 0), .lit (.slice none 0 0), .lit (.int .i64 0), .lit (.slice none 0 0)]) ?_
 refine wk_end ?_
 refine ac_next ?_
 refine aw_grp1 ?_
 refine wk_start ?_
 obtain ⟨t1, A2, H⟩ := of_bind H
 refine kcS2 6 (.agg [.lit (.slice none 0 0), .row 2, .lit (.slice none 0 0), .lit (.int .i64 t1.2.1), .row 3]) [(2, .row 3 1 (t1.1.map (eI .i64))), (3, .row 3 1 (t1.2.2.map (eI .i64)))] g0 (cal (spec_KeeperNew.ok A2) [2, 3] 9999 .n (hf := Try.func114)) rfl rfl ?_
 refine kb g0 (alc 4 [.slice none 0 0, .slice none 0 0, .slice none 0 0, .int .i64 0, .slice none 0 0] [.lit (.slice none 0 0), .lit (.slice none 0 0), .lit (.slice none 0 0), .lit (.int .i64 0), .lit (.slice none 0 0)]) ?_
 refine ks g0 (stB 5 [.lit (.slice none 0 0), .row 2, .lit (.slice none 0 0), .lit (.int .i64 t1.2.1), .row 3]) ?_
 refine wk_end ?_
 refine ac_next ?_
 refine aw_grp1 ?_
 refine aw_grp1 ?_
 refine wk_start ?_
 refine kv g0 (asg) ?_
 refine wk_end ?_
 refine ac_next ?_
 refine aw_block ?_
 refine ac_nilB 4 0 18 98 6 [.row 18, .row 2, .lit (.slice none 0 0), .lit (.int .i64 t1.2.1), .row 3] ?_
 refine ac_nilB 4 2 19 97 6 [.row 18, .row 2, .row 19, .lit (.int .i64 t1.2.1), .row 3] ?_
 refine aw_loop9 (fun (k_ : Nat) (q25 : List Int) (p26 : Int) (p27 : Int) (q28 : List S98) (q29 : List Int) (q30 : List S97) (p31 : Int) (q32 : List Int) (p33 : Int) => k_ ≤ k ∧ spec_l20Keeper.l0 k_ q25 p26 p27 q28 q29 q30 p31 q32 p33 = some r) (fun (q25 : List Int) (p26 : Int) (p27 : Int) (q28 : List S98) (q29 : List Int) (q30 : List S97) (p31 : Int) (q32 : List Int) (p33 : Int) => ⟨[(0, .box 0 0), (2, .box 1 0), (3, .box 4 0), (4, .lit (.int .i64 p33))], [(0, .box 142 [.sl .u 1 (q25.map (eI .u8)), .lit (.int .i64 p26), .lit (.int .i64 p27)]), (1, .box 29 [.lit (.slice none 0 0), .lit (.slice none 0 0), .lit (.slice none 0 0), .lit (.int .i64 0), .lit (.slice none 0 0)]), (2, .row 3 1 (q29.map (eI .i64))), (3, .row 3 1 (q32.map (eI .i64))), (4, .box 29 [.row 18, .row 2, .row 19, .lit (.int .i64 p31), .row 3]), (18, .row 98 6 (q28.map e98)), (19, .row 97 6 (q30.map e97))]⟩) k l0_0 a0_1 a0_2 ([]) t1.1 ([]) t1.2.1 t1.2.2 0 ⟨Nat.le_refl _, H⟩ (fun K_ h_ => acw hE [(0, 0), (1, 1), (2, 2), (3, 3), (4, 4), (18, 18), (19, 19)] 9999 h_) (fun _ _ _ _ _ _ _ _ _ => by intro h_; have h_ := h_.2; rw [spec_l20Keeper.l0.eq_1] at h_; cases h_) ?_
 intro k34 q25 p26 p27 q28 q29 q30 p31 q32 p33 hq_ K56 hK57
 have hk34 := hq_.1
 have H := hq_.2
 clear hq_
 rw [spec_l20Keeper.l0.eq_2] at H
 refine aw_grp1 ?_
 refine aw_grp1 ?_
 refine wk_start ?_
 refine kv g0 (mv) ?_
 refine kv g0 (mv) ?_
 obtain ⟨t35, A36, H⟩ := of_bind H
 refine kcS1 9 (.lit (.int .i64 t35.1)) [(0, .box 142 [.sl .u 1 (t35.2.1.map (eI .u8)), .lit (.int .i64 t35.2.2.1), .lit (.int .i64 t35.2.2.2)])] g0 (cal (spec_l01Below.ok A36) [0] 9999 .u (hf := Try.func52)) rfl rfl ?_
 refine kv g0 (lss) ?_
 refine wk_end ?_
 refine ac_next ?_
 by_cases c37 : p33 < t35.1
 ·rw [if_pos c37] at H
  refine aw_ifT ?_ (decide_eq_true c37)
  refine aw_skip ?_
  refine ac_next ?_
  refine aw_grp1 ?_
  refine aw_block ?_
  refine aw_grp1 ?_
  refine wk_start ?_
  refine kv g0 (mv) ?_
  obtain ⟨t38, A39, H⟩ := of_bind H
  refine kcS1 14 (.lit (.int .i64 t38.1)) [(0, .box 142 [.sl .u 1 (t38.2.1.map (eI .u8)), .lit (.int .i64 t38.2.2.1), .lit (.int .i64 t38.2.2.2)])] g0 (cal (spec_l01Below.ok A39) [0] 9999 .u (hf := Try.func52)) rfl rfl ?_
  refine wk_end ?_
  refine ac_next ?_
  refine aw_block ?_
  refine aw_grp1 ?_
  refine wk_start ?_
  refine kv g0 (eql) ?_
  refine kv g0 (asg) ?_
  refine wk_end ?_
  refine ac_next ?_
  by_cases c40 : t38.1 = 0
  ·rw [if_pos c40] at H
   refine aw_ifT ?_ (eT c40)
   refine wk_start ?_
   refine kv g0 (ldBA 5 [.row 18, .row 2, .row 19, .lit (.int .i64 p31), .row 3]) ?_
   obtain ⟨t41, A42, H⟩ := of_bind H
   refine kcS4 38 (.agg [.row 20, .row 21, .row 22, .lit (.int .i64 t41.2.2.2.1), .row 23]) [(20, .row 98 6 (t41.1.map e98)), (21, .row 3 1 (t41.2.1.map (eI .i64))), (22, .row 97 6 (t41.2.2.1.map e97)), (23, .row 3 1 (t41.2.2.2.2.map (eI .i64)))] g0 (cal (spec_SaveKeeper.ok A42) [20, 21, 22, 23] 9999 .n (hf := Try.func27)) rfl rfl ?_
   refine ks g0 (stB 5 [.row 20, .row 21, .row 22, .lit (.int .i64 t41.2.2.2.1), .row 23]) ?_
   refine wk_end ?_
   refine ac_blkN ?_
   refine ac_blkN ?_
   refine ac_next ?_
   refine wk_start ?_
   refine kv g0 (mv) ?_
   refine kv g0 (add6) ?_
   refine kv g0 (asg) ?_
   refine wk_end ?_
   refine ac_k ?_
   exact acw hE [(0, 0), (1, 1), (2, 21), (3, 23), (4, 4), (18, 20), (19, 22)] 9999 (hK57 k34 t38.2.1 t38.2.2.1 t38.2.2.2 t41.1 t41.2.1 t41.2.2.1 t41.2.2.2.1 t41.2.2.2.2 (wrap64 (p33 + 1)) (Nat.le_refl _) ⟨by omega, H⟩)
  rw [if_neg c40] at H
  refine aw_ifF ?_ (eF c40)
  refine aw_grp1 ?_
  refine wk_start ?_
  refine kv g0 (eql) ?_
  refine kv g0 (asg) ?_
  refine wk_end ?_
  refine ac_next ?_
  by_cases c43 : t38.1 = 1
  ·rw [if_pos c43] at H
   refine aw_ifT ?_ (eT c43)
   refine wk_start ?_
   refine kv g0 (ldBA 5 [.row 18, .row 2, .row 19, .lit (.int .i64 p31), .row 3]) ?_
   obtain ⟨t44, A45, H⟩ := of_bind H
   refine kcS4 42 (.agg [.row 24, .row 25, .row 26, .lit (.int .i64 t44.2.2.2.1), .row 27]) [(24, .row 98 6 (t44.1.map e98)), (25, .row 3 1 (t44.2.1.map (eI .i64))), (26, .row 97 6 (t44.2.2.1.map e97)), (27, .row 3 1 (t44.2.2.2.2.map (eI .i64)))] g0 (cal (spec_FallKeeper.ok A45) [24, 25, 26, 27] 9999 .n (hf := Try.func28)) rfl rfl ?_
   refine ks g0 (stB 5 [.row 24, .row 25, .row 26, .lit (.int .i64 t44.2.2.2.1), .row 27]) ?_
   refine wk_end ?_
   refine ac_blkN ?_
   refine ac_blkN ?_
   refine ac_next ?_
   refine wk_start ?_
   refine kv g0 (mv) ?_
   refine kv g0 (add6) ?_
   refine kv g0 (asg) ?_
   refine wk_end ?_
   refine ac_k ?_
   exact acw hE [(0, 0), (1, 1), (2, 25), (3, 27), (4, 4), (18, 24), (19, 26)] 9999 (hK57 k34 t38.2.1 t38.2.2.1 t38.2.2.2 t44.1 t44.2.1 t44.2.2.1 t44.2.2.2.1 t44.2.2.2.2 (wrap64 (p33 + 1)) (Nat.le_refl _) ⟨by omega, H⟩)
  rw [if_neg c43] at H
  refine aw_ifF ?_ (eF c43)
  refine aw_grp1 ?_
  refine wk_start ?_
  refine kv g0 (mv) ?_
  obtain ⟨t46, A47, H⟩ := of_bind H
  refine kcS1 16 (.lit (.int .i64 t46.1)) [(0, .box 142 [.sl .u 1 (t46.2.1.map (eI .u8)), .lit (.int .i64 t46.2.2.1), .lit (.int .i64 t46.2.2.2)])] g0 (cal (spec_l01Below.ok A47) [0] 9999 .u (hf := Try.func52)) rfl rfl ?_
  refine kv g0 (asg) ?_
  refine wk_end ?_
  refine ac_next ?_
  refine wk_start ?_
  refine kv g0 (ldBA 5 [.row 18, .row 2, .row 19, .lit (.int .i64 p31), .row 3]) ?_
  refine kv g0 (mv) ?_
  refine kv g0 (faB 1 1) ?_
  refine kv g0 (ldB) ?_
  refine kv g0 (mv) ?_
  obtain ⟨c48, H⟩ := of_if H
  obtain ⟨c49, H⟩ := of_if H
  refine kv g0 (ixR 3 c48 (ltE c49)) ?_
  refine kv g0 (ldE (eI .i64 (rd q29 t46.1)) (.lit (.int .i64 (rd q29 t46.1))) (getE (z := (0 : Int)) c48 c49)) ?_
  refine kv g0 (mv) ?_
  refine kb g0 (bsl 28 3 1 [.int .i64 0] (([0, 0, 1, 2] : List Int).map (eI .i64))) ?_
  obtain ⟨t50, A51, H⟩ := of_bind H
  refine kcS1 27 (.lit (.int .i64 t50.1)) [(0, .box 142 [.sl .u 1 (t50.2.1.map (eI .u8)), .lit (.int .i64 t50.2.2.1), .lit (.int .i64 t50.2.2.2)])] g0 (cal (spec_l01PickInt.ok A51) [0] 9999 .u (hf := Try.func60)) rfl rfl ?_
  refine kv g0 (add6) ?_
  refine kv g0 (mv) ?_
  obtain ⟨t52, A53, H⟩ := of_bind H
  refine kcS1 30 (.agg [.lit (.int .i64 t52.1), .lit (.int .i64 t52.2.1), .lit (.int .i64 t52.2.2.1), .lit (.int .i64 t52.2.2.2.1)]) [(0, .box 142 [.sl .u 1 (t52.2.2.2.2.1.map (eI .u8)), .lit (.int .i64 t52.2.2.2.2.2.1), .lit (.int .i64 t52.2.2.2.2.2.2)])] g0 (cal (spec_l17Item.ok A53) [0] 9999 .u (hf := Try.func115)) rfl rfl ?_
  refine kv g0 (bld [(0, 1), (1, 1), (2, 1), (3, 4)] [.int .i64 0, .int .i64 0, .int .i64 0, .int .i64 0, .int .i64 0, .int .i64 0, .int .i64 0] [.lit (.int .i64 1), .lit (.int .i64 t46.1), .lit (.int .i64 (wrap64 ((rd q29 t46.1) + t50.1))), .lit (.int .i64 t52.1), .lit (.int .i64 t52.2.1), .lit (.int .i64 t52.2.2.1), .lit (.int .i64 t52.2.2.2.1)]) ?_
  obtain ⟨t54, A55, H⟩ := of_bind H
  refine kcS4 32 (.tup [.agg [.row 29, .row 30, .row 31, .lit (.int .i64 t54.2.2.2.1), .row 32], .lit (.bool t54.2.2.2.2.2)]) [(29, .row 98 6 (t54.1.map e98)), (30, .row 3 1 (t54.2.1.map (eI .i64))), (31, .row 97 6 (t54.2.2.1.map e97)), (32, .row 3 1 (t54.2.2.2.2.1.map (eI .i64)))] g0 (cal (spec_Kept.ok A55) [29, 30, 31, 32] 9999 .n (hf := Try.func21)) rfl rfl ?_
  refine kv g0 (mv) ?_
  refine kv g0 (ext) ?_
  refine kv g0 (ext) ?_
  refine ks g0 (stB 5 [.row 29, .row 30, .row 31, .lit (.int .i64 t54.2.2.2.1), .row 32]) ?_
  refine wk_end_draw hM (by kernel_rfl) ?_
  refine ac_blkN ?_
  refine ac_blkN ?_
  refine ac_next ?_
  refine wk_start ?_
  refine kv g0 (mv) ?_
  refine kv g0 (add6) ?_
  refine kv g0 (asg) ?_
  refine wk_end ?_
  refine ac_k ?_
  exact acw hE [(0, 0), (1, 1), (2, 30), (3, 32), (4, 4), (18, 29), (19, 31)] 9999 (hK57 k34 t52.2.2.2.2.1 t52.2.2.2.2.2.1 t52.2.2.2.2.2.2 t54.1 t54.2.1 t54.2.2.1 t54.2.2.2.1 t54.2.2.2.2.1 (wrap64 (p33 + 1)) (Nat.le_refl _) ⟨by omega, H⟩)
 rw [if_neg c37] at H
 refine aw_ifF ?_ (decide_eq_false c37)
 refine aw_exit ?_
 refine ac_then ?_
 refine ac_then ?_
 refine ac_hit rfl ?_
 refine ac_next ?_
 refine aw_grp1 ?_
 refine wk_start ?_
 refine kv g0 (ldBA 5 [.row 18, .row 2, .row 19, .lit (.int .i64 p31), .row 3]) ?_
 refine ks g0 (stB 5 [.row 18, .row 2, .row 19, .lit (.int .i64 p31), .row 3]) ?_
 refine wk_end ?_
 refine ac_next ?_
 refine aw_ret ?_
 obtain rfl := Option.some.inj H
 exact acr hE [.cell 2 29] (rcA 5 .nil) (.one _) [(0, 0), (1, 18), (2, 2), (3, 19), (4, 3)] 9999
/-! spec_l20Any -/
def spec_l20Any.j0 : Nat → (List Int) → Int → Int → (List S98) → (List Int) → (List S97) → Int → (List Int) → Option ((List S98) × (List Int) × (List S97) × Int × (List Int) × (List Int) × Int × Int)
 | 0, _, _, _, _, _, _, _, _ => none
 | k31 + 1, q23, p24, p25, q26, q27, q28, p29, q30 => some (q26, q27, q28, p29, q30, q23, p24, p25)
def spec_l20Any.f (k : Nat) (l0_0 : List Int) (a0_1 : Int) (a0_2 : Int) : Option ((List S98) × (List Int) × (List S97) × Int × (List Int) × (List Int) × Int × Int) := (spec_l01Below.f l0_0 a0_1 a0_2 12).bind fun t1 => (spec_l01Below.f t1.2.1 t1.2.2.1 t1.2.2.2 60).bind fun t3 => (spec_l20Keeper.f k t3.2.1 t3.2.2.1 t3.2.2.2).bind fun t5 => ((spec_l20Copy.f t5.1 t5.2.1 t5.2.2.1 t5.2.2.2.1 t5.2.2.2.2.1).bind fun t7 => if t1.1 = 0 then spec_l20Any.j0 k t5.2.2.2.2.2.1 t5.2.2.2.2.2.2.1 t5.2.2.2.2.2.2.2 t7.1 t7.2.1 t7.2.2.1 (wrap64 ((t3.1.tmod 9) - 1)) t7.2.2.2.2 else if t1.1 = 1 then (if 0 ≤ (t3.1.tmod 3) then (if (t3.1.tmod 3) < (t7.2.1.length : Int) then spec_l20Any.j0 k t5.2.2.2.2.2.1 t5.2.2.2.2.2.2.1 t5.2.2.2.2.2.2.2 t7.1 (t7.2.1.set (t3.1.tmod 3).toNat (t3.1.tmod 5)) t7.2.2.1 t7.2.2.2.1 t7.2.2.2.2 else none) else none) else if t1.1 = 2 then ((spec_l17Item.f t5.2.2.2.2.2.1 t5.2.2.2.2.2.2.1 t5.2.2.2.2.2.2.2).bind fun t14 => (if t7.1.length + ([(⟨t3.1.tmod 4, t3.1.tmod 5, (⟨t14.1, t14.2.1, t14.2.2.1, t14.2.2.2.1⟩ : S34)⟩ : S98)] : List S98).length < 2932031007402 then spec_l20Any.j0 k t14.2.2.2.2.1 t14.2.2.2.2.2.1 t14.2.2.2.2.2.2 (t7.1 ++ ([(⟨t3.1.tmod 4, t3.1.tmod 5, (⟨t14.1, t14.2.1, t14.2.2.1, t14.2.2.2.1⟩ : S34)⟩ : S98)] : List S98)) t7.2.1 t7.2.2.1 t7.2.2.2.1 t7.2.2.2.2 else none)) else if t1.1 = 3 then ((spec_l17Item.f t5.2.2.2.2.2.1 t5.2.2.2.2.2.2.1 t5.2.2.2.2.2.2.2).bind fun t18 => (if t7.2.2.1.length + ([(⟨t3.1.tmod 4, t3.1.tmod 9, (⟨t18.1, t18.2.1, t18.2.2.1, t18.2.2.2.1⟩ : S34)⟩ : S97)] : List S97).length < 2932031007402 then spec_l20Any.j0 k t18.2.2.2.2.1 t18.2.2.2.2.2.1 t18.2.2.2.2.2.2 t7.1 t7.2.1 (t7.2.2.1 ++ ([(⟨t3.1.tmod 4, t3.1.tmod 9, (⟨t18.1, t18.2.1, t18.2.2.1, t18.2.2.2.1⟩ : S34)⟩ : S97)] : List S97)) t7.2.2.2.1 t7.2.2.2.2 else none)) else if t1.1 = 4 then (if 1 ≤ (t7.2.2.2.2.length : Int) then spec_l20Any.j0 k t5.2.2.2.2.2.1 t5.2.2.2.2.2.2.1 t5.2.2.2.2.2.2.2 t7.1 t7.2.1 t7.2.2.1 t7.2.2.2.1 (t7.2.2.2.2.drop 1) else none) else spec_l20Any.j0 k t5.2.2.2.2.2.1 t5.2.2.2.2.2.2.1 t5.2.2.2.2.2.2.2 t7.1 t7.2.1 t7.2.2.1 t7.2.2.2.1 t7.2.2.2.2)
theorem spec_l20Any.ok {k : Nat} {l0_0 : List Int} {a0_1 : Int} {a0_2 : Int} {r : (List S98) × (List Int) × (List S97) × Int × (List Int) × (List Int) × Int × Int} (H : spec_l20Any.f k l0_0 a0_1 a0_2 = some r) : ACalls Try.prog 62 [(0, .box 142 [.sl .u 1 (l0_0.map (eI .u8)), .lit (.int .i64 a0_1), .lit (.int .i64 a0_2)])] [.box 0 0] [(0, .box 142 [.sl .u 1 (r.2.2.2.2.2.1.map (eI .u8)), .lit (.int .i64 r.2.2.2.2.2.2.1), .lit (.int .i64 r.2.2.2.2.2.2.2)]), (1, .row 98 6 (r.1.map e98)), (2, .row 3 1 (r.2.1.map (eI .i64))), (3, .row 97 6 (r.2.2.1.map e97))] (.agg [.row 1, .row 2, .row 3, .lit (.int .i64 r.2.2.2.1), .sl .n 1 (r.2.2.2.2.1.map (eI .i64))]) := by
 refine acalls (fn := Try.f62) (nt := 64) Try.func62 rfl rfl (Nat.le_of_ble_eq_true rfl) fun E hE => ?_
 rw [spec_l20Any.f] at H
 refine aw_grp1 ?_
 refine wk_start ?_
 refine kb g0 (alc 1 [.slice none 0 0, .slice none 0 0, .slice none 0 0, .int .i64 0, .slice none 0 0] [.lit (.slice none 0 0), .lit (.slice none 0 0), .lit (.slice none 0 0), .lit (.int .i64 0), .lit (.slice none 0 0)]) ?_
 refine wk_end ?_
 refine ac_next ?_
 refine aw_grp1 ?_
 refine wk_start ?_
 refine kv g0 (mv) ?_
 obtain ⟨t1, A2, H⟩ := of_bind H
 refine kcS1 7 (.lit (.int .i64 t1.1)) [(0, .box 142 [.sl .u 1 (t1.2.1.map (eI .u8)), .lit (.int .i64 t1.2.2.1), .lit (.int .i64 t1.2.2.2)])] g0 (cal (spec_l01Below.ok A2) [0] 9999 .u (hf := Try.func52)) rfl rfl ?_
 refine kv g0 (asg) ?_
 refine wk_end ?_
 refine ac_next ?_
 refine aw_grp1 ?_
 refine wk_start ?_
 refine kv g0 (mv) ?_
 obtain ⟨t3, A4, H⟩ := of_bind H
 refine kcS1 9 (.lit (.int .i64 t3.1)) [(0, .box 142 [.sl .u 1 (t3.2.1.map (eI .u8)), .lit (.int .i64 t3.2.2.1), .lit (.int .i64 t3.2.2.2)])] g0 (cal (spec_l01Below.ok A4) [0] 9999 .u (hf := Try.func52)) rfl rfl ?_
 refine kv g0 (asg) ?_
 refine wk_end ?_
 refine ac_next ?_
 refine aw_grp1 ?_
 refine wk_start ?_
 refine kv g0 (mv) ?_
 obtain ⟨t5, A6, H⟩ := of_bind H
 refine kcS5 11 (.agg [.row 2, .row 3, .row 4, .lit (.int .i64 t5.2.2.2.1), .row 5]) [(0, .box 142 [.sl .u 1 (t5.2.2.2.2.2.1.map (eI .u8)), .lit (.int .i64 t5.2.2.2.2.2.2.1), .lit (.int .i64 t5.2.2.2.2.2.2.2)]), (2, .row 98 6 (t5.1.map e98)), (3, .row 3 1 (t5.2.1.map (eI .i64))), (4, .row 97 6 (t5.2.2.1.map e97)), (5, .row 3 1 (t5.2.2.2.2.1.map (eI .i64)))] g0 (cal (spec_l20Keeper.ok A6) [0, 2, 3, 4, 5] 9999 .u (hf := Try.func58)) rfl rfl ?_
 obtain ⟨t7, A8, H⟩ := of_bind H
 refine kcS4 12 (.agg [.row 6, .row 7, .row 8, .lit (.int .i64 t7.2.2.2.1), .row 9]) [(6, .row 98 6 (t7.1.map e98)), (7, .row 3 1 (t7.2.1.map (eI .i64))), (8, .row 97 6 (t7.2.2.1.map e97)), (9, .row 3 1 (t7.2.2.2.2.map (eI .i64)))] g0 (cal (spec_l20Copy.ok A8) [6, 7, 8, 9] 9999 .n (hf := Try.func64)) rfl rfl ?_
 refine kb g0 (alc 10 [.slice none 0 0, .slice none 0 0, .slice none 0 0, .int .i64 0, .slice none 0 0] [.lit (.slice none 0 0), .lit (.slice none 0 0), .lit (.slice none 0 0), .lit (.int .i64 0), .lit (.slice none 0 0)]) ?_
 refine ks g0 (stB 5 [.row 6, .row 7, .row 8, .lit (.int .i64 t7.2.2.2.1), .row 9]) ?_
 refine wk_end ?_
 refine ac_next ?_
 refine aw_cut1 (J := fun K_ => ∀ (k_ : Nat) (q23 : List Int) (p24 : Int) (p25 : Int) (q26 : List S98) (q27 : List Int) (q28 : List S97) (p29 : Int) (q30 : List Int), k_ ≤ k → spec_l20Any.j0 k_ q23 p24 p25 q26 q27 q28 p29 q30 = some r → ACont E 64 ⟨[(2, .box 1 0), (5, .box 10 0)], [(0, .box 142 [.sl .u 1 (q23.map (eI .u8)), .lit (.int .i64 p24), .lit (.int .i64 p25)]), (1, .box 29 [.lit (.slice none 0 0), .lit (.slice none 0 0), .lit (.slice none 0 0), .lit (.int .i64 0), .lit (.slice none 0 0)]), (6, .row 98 6 (q26.map e98)), (7, .row 3 1 (q27.map (eI .i64))), (8, .row 97 6 (q28.map e97)), (10, .box 29 [.row 6, .row 7, .row 8, .lit (.int .i64 p29), .sl .n 1 (q30.map (eI .i64))])]⟩ K_) ?_ ?_
 ·intro K_ hJ32
  refine aw_grp1 ?_
  refine wk_start ?_
  refine kv g0 (mv) ?_
  refine wk_end ?_
  refine ac_next ?_
  refine aw_block ?_
  refine aw_grp1 ?_
  refine wk_start ?_
  refine kv g0 (eql) ?_
  refine kv g0 (asg) ?_
  refine wk_end ?_
  refine ac_next ?_
  by_cases c9 : t1.1 = 0
  ·rw [if_pos c9] at H
   refine aw_ifT ?_ (eT c9)
   refine wk_start ?_
   refine kv g0 (mv) ?_
   refine kv g0 (rem (by decide : (9 : Int) ≠ 0)) ?_
   refine kv g0 (sub6) ?_
   refine kv g0 (faB 3 3) ?_
   refine ks g0 (stB 1 [.row 6, .row 7, .row 8, .lit (.int .i64 (wrap64 ((t3.1.tmod 9) - 1))), .row 9]) ?_
   refine wk_end ?_
   refine ac_blkN ?_
   refine ac_frz 9 ?_
   refine ac_k ?_
   exact acw hE [(0, 0), (1, 1), (6, 6), (7, 7), (8, 8), (10, 10)] 9999 (hJ32 k t5.2.2.2.2.2.1 t5.2.2.2.2.2.2.1 t5.2.2.2.2.2.2.2 t7.1 t7.2.1 t7.2.2.1 (wrap64 ((t3.1.tmod 9) - 1)) t7.2.2.2.2 (Nat.le_refl _) H)
  rw [if_neg c9] at H
  refine aw_ifF ?_ (eF c9)
  refine aw_grp1 ?_
  refine wk_start ?_
  refine kv g0 (eql) ?_
  refine kv g0 (asg) ?_
  refine wk_end ?_
  refine ac_next ?_
  by_cases c10 : t1.1 = 1
  ·rw [if_pos c10] at H
   refine aw_ifT ?_ (eT c10)
   refine wk_start ?_
   refine kv g0 (faB 1 1) ?_
   refine kv g0 (ldB) ?_
   refine kv g0 (mv) ?_
   refine kv g0 (rem (by decide : (3 : Int) ≠ 0)) ?_
   refine kv g0 (mv) ?_
   refine kv g0 (rem (by decide : (5 : Int) ≠ 0)) ?_
   obtain ⟨c11, H⟩ := of_if H
   obtain ⟨c12, H⟩ := of_if H
   refine kv g0 (ixR 3 c11 (ltE c12)) ?_
   refine ks g0 (stE 1 (eI .i64 (t3.1.tmod 5)) ((t7.2.1.set (t3.1.tmod 3).toNat (t3.1.tmod 5)).map (eI .i64)) (getE (z := (0 : Int)) c11 c12) setE) ?_
   refine wk_end ?_
   refine ac_blkN ?_
   refine ac_frz 9 ?_
   refine ac_k ?_
   exact acw hE [(0, 0), (1, 1), (6, 6), (7, 7), (8, 8), (10, 10)] 9999 (hJ32 k t5.2.2.2.2.2.1 t5.2.2.2.2.2.2.1 t5.2.2.2.2.2.2.2 t7.1 (t7.2.1.set (t3.1.tmod 3).toNat (t3.1.tmod 5)) t7.2.2.1 t7.2.2.2.1 t7.2.2.2.2 (Nat.le_refl _) H)
  rw [if_neg c10] at H
  refine aw_ifF ?_ (eF c10)
  refine aw_grp1 ?_
  refine wk_start ?_
  refine kv g0 (eql) ?_
  refine kv g0 (asg) ?_
  refine wk_end ?_
  refine ac_next ?_
  by_cases c13 : t1.1 = 2
  ·rw [if_pos c13] at H
   refine aw_ifT ?_ (eT c13)
   refine wk_start ?_
   refine kv g0 (faB 0 0) ?_
   refine kv g0 (ldB) ?_
   refine kv g0 (mv) ?_
   refine kv g0 (rem (by decide : (4 : Int) ≠ 0)) ?_
   refine kv g0 (mv) ?_
   refine kv g0 (rem (by decide : (5 : Int) ≠ 0)) ?_
   refine kv g0 (mv) ?_
   obtain ⟨t14, A15, H⟩ := of_bind H
   refine kcS1 38 (.agg [.lit (.int .i64 t14.1), .lit (.int .i64 t14.2.1), .lit (.int .i64 t14.2.2.1), .lit (.int .i64 t14.2.2.2.1)]) [(0, .box 142 [.sl .u 1 (t14.2.2.2.2.1.map (eI .u8)), .lit (.int .i64 t14.2.2.2.2.2.1), .lit (.int .i64 t14.2.2.2.2.2.2)])] g0 (cal (spec_l17Item.ok A15) [0] 9999 .u (hf := Try.func115)) rfl rfl ?_
   refine kv g0 (bld [(0, 1), (1, 1), (2, 4)] [.int .i64 0, .int .i64 0, .int .i64 0, .int .i64 0, .int .i64 0, .int .i64 0] [.lit (.int .i64 (t3.1.tmod 4)), .lit (.int .i64 (t3.1.tmod 5)), .lit (.int .i64 t14.1), .lit (.int .i64 t14.2.1), .lit (.int .i64 t14.2.2.1), .lit (.int .i64 t14.2.2.2.1)]) ?_
   refine kb g0 (bsl 11 98 6 [.int .i64 0, .int .i64 0, .int .i64 0, .int .i64 0, .int .i64 0, .int .i64 0] (([(⟨t3.1.tmod 4, t3.1.tmod 5, (⟨t14.1, t14.2.1, t14.2.2.1, t14.2.2.2.1⟩ : S34)⟩ : S98)] : List S98).map e98)) ?_
   obtain ⟨c16, H⟩ := of_if H
   refine kc g0 (apR 12 98 6 48 [.int .i64 0, .int .i64 0, .int .i64 0, .int .i64 0, .int .i64 0, .int .i64 0] ((t7.1 ++ ([(⟨t3.1.tmod 4, t3.1.tmod 5, (⟨t14.1, t14.2.1, t14.2.2.1, t14.2.2.2.1⟩ : S34)⟩ : S98)] : List S98)).map e98) (.row rfl) (apb c16 rfl) appE) ?_
   refine kv g0 (faB 0 0) ?_
   refine ks g0 (stB 1 [.row 12, .row 7, .row 8, .lit (.int .i64 t7.2.2.2.1), .row 9]) ?_
   refine wk_end_draw hM (by kernel_rfl) ?_
   refine ac_blkN ?_
   refine ac_frz 9 ?_
   refine ac_k ?_
   exact acw hE [(0, 0), (1, 1), (6, 12), (7, 7), (8, 8), (10, 10)] 9999 (hJ32 k t14.2.2.2.2.1 t14.2.2.2.2.2.1 t14.2.2.2.2.2.2 (t7.1 ++ ([(⟨t3.1.tmod 4, t3.1.tmod 5, (⟨t14.1, t14.2.1, t14.2.2.1, t14.2.2.2.1⟩ : S34)⟩ : S98)] : List S98)) t7.2.1 t7.2.2.1 t7.2.2.2.1 t7.2.2.2.2 (Nat.le_refl _) H)
  rw [if_neg c13] at H
  refine aw_ifF ?_ (eF c13)
  refine aw_grp1 ?_
  refine wk_start ?_
  refine kv g0 (eql) ?_
  refine kv g0 (asg) ?_
  refine wk_end ?_
  refine ac_next ?_
  by_cases c17 : t1.1 = 3
  ·rw [if_pos c17] at H
   refine aw_ifT ?_ (eT c17)
   refine wk_start ?_
   refine kv g0 (faB 2 2) ?_
   refine kv g0 (ldB) ?_
   refine kv g0 (mv) ?_
   refine kv g0 (rem (by decide : (4 : Int) ≠ 0)) ?_
   refine kv g0 (mv) ?_
   refine kv g0 (rem (by decide : (9 : Int) ≠ 0)) ?_
   refine kv g0 (mv) ?_
   obtain ⟨t18, A19, H⟩ := of_bind H
   refine kcS1 52 (.agg [.lit (.int .i64 t18.1), .lit (.int .i64 t18.2.1), .lit (.int .i64 t18.2.2.1), .lit (.int .i64 t18.2.2.2.1)]) [(0, .box 142 [.sl .u 1 (t18.2.2.2.2.1.map (eI .u8)), .lit (.int .i64 t18.2.2.2.2.2.1), .lit (.int .i64 t18.2.2.2.2.2.2)])] g0 (cal (spec_l17Item.ok A19) [0] 9999 .u (hf := Try.func115)) rfl rfl ?_
   refine kv g0 (bld [(0, 1), (1, 1), (2, 4)] [.int .i64 0, .int .i64 0, .int .i64 0, .int .i64 0, .int .i64 0, .int .i64 0] [.lit (.int .i64 (t3.1.tmod 4)), .lit (.int .i64 (t3.1.tmod 9)), .lit (.int .i64 t18.1), .lit (.int .i64 t18.2.1), .lit (.int .i64 t18.2.2.1), .lit (.int .i64 t18.2.2.2.1)]) ?_
   refine kb g0 (bsl 13 97 6 [.int .i64 0, .int .i64 0, .int .i64 0, .int .i64 0, .int .i64 0, .int .i64 0] (([(⟨t3.1.tmod 4, t3.1.tmod 9, (⟨t18.1, t18.2.1, t18.2.2.1, t18.2.2.2.1⟩ : S34)⟩ : S97)] : List S97).map e97)) ?_
   obtain ⟨c20, H⟩ := of_if H
   refine kc g0 (apR 14 97 6 48 [.int .i64 0, .int .i64 0, .int .i64 0, .int .i64 0, .int .i64 0, .int .i64 0] ((t7.2.2.1 ++ ([(⟨t3.1.tmod 4, t3.1.tmod 9, (⟨t18.1, t18.2.1, t18.2.2.1, t18.2.2.2.1⟩ : S34)⟩ : S97)] : List S97)).map e97) (.row rfl) (apb c20 rfl) appE) ?_
   refine kv g0 (faB 2 2) ?_
   refine ks g0 (stB 1 [.row 6, .row 7, .row 14, .lit (.int .i64 t7.2.2.2.1), .row 9]) ?_
   refine wk_end_draw hM (by kernel_rfl) ?_
   refine ac_blkN ?_
   refine ac_frz 9 ?_
   refine ac_k ?_
   exact acw hE [(0, 0), (1, 1), (6, 6), (7, 7), (8, 14), (10, 10)] 9999 (hJ32 k t18.2.2.2.2.1 t18.2.2.2.2.2.1 t18.2.2.2.2.2.2 t7.1 t7.2.1 (t7.2.2.1 ++ ([(⟨t3.1.tmod 4, t3.1.tmod 9, (⟨t18.1, t18.2.1, t18.2.2.1, t18.2.2.2.1⟩ : S34)⟩ : S97)] : List S97)) t7.2.2.2.1 t7.2.2.2.2 (Nat.le_refl _) H)
  rw [if_neg c17] at H
  refine aw_ifF ?_ (eF c17)
  refine aw_grp1 ?_
  refine wk_start ?_
  refine kv g0 (eql) ?_
  refine kv g0 (asg) ?_
  refine wk_end ?_
  refine ac_next ?_
  by_cases c21 : t1.1 = 4
  ·rw [if_pos c21] at H
   refine aw_ifT ?_ (eT c21)
   refine wk_start ?_
   refine kv g0 (faB 4 4) ?_
   refine kv g0 (ldB) ?_
   obtain ⟨c22, H⟩ := of_if H
   refine kb g0 (srLz 3 (by decide : (0 : Int) ≤ 1) c22) ?_
   refine kv g0 (faB 4 4) ?_
   refine ks g0 (stB 1 [.row 6, .row 7, .row 8, .lit (.int .i64 t7.2.2.2.1), .sl .n 1 ((t7.2.2.2.2.drop 1).map (eI .i64))]) ?_
   refine wk_end ?_
   refine ac_blkN ?_
   refine ac_k ?_
   exact acw hE [(0, 0), (1, 1), (6, 6), (7, 7), (8, 8), (10, 10)] 9999 (hJ32 k t5.2.2.2.2.2.1 t5.2.2.2.2.2.2.1 t5.2.2.2.2.2.2.2 t7.1 t7.2.1 t7.2.2.1 t7.2.2.2.1 (t7.2.2.2.2.drop 1) (Nat.le_refl _) H)
  rw [if_neg c21] at H
  refine aw_ifF ?_ (eF c21)
  refine aw_skip ?_
  refine ac_blkN ?_
  refine ac_frz 9 ?_
  refine ac_k ?_
  exact acw hE [(0, 0), (1, 1), (6, 6), (7, 7), (8, 8), (10, 10)] 9999 (hJ32 k t5.2.2.2.2.2.1 t5.2.2.2.2.2.2.1 t5.2.2.2.2.2.2.2 t7.1 t7.2.1 t7.2.2.1 t7.2.2.2.1 t7.2.2.2.2 (Nat.le_refl _) H)
 intro k_ q23 p24 p25 q26 q27 q28 p29 q30 hk_ H
 rcases k_ with _ | k31
 ·rw [spec_l20Any.j0.eq_1] at H; cases H
 have hk31 : k31 ≤ k := by omega
 clear hk_
 rw [spec_l20Any.j0.eq_2] at H
 refine aw_grp1 ?_
 refine wk_start ?_
 refine kv g0 (ldBA 5 [.row 6, .row 7, .row 8, .lit (.int .i64 p29), .sl .n 1 (q30.map (eI .i64))]) ?_
 refine ks g0 (stB 5 [.row 6, .row 7, .row 8, .lit (.int .i64 p29), .sl .n 1 (q30.map (eI .i64))]) ?_
 refine wk_end ?_
 refine ac_next ?_
 refine aw_ret ?_
 obtain rfl := Option.some.inj H
 exact acr hE [.cell 2 29] (rcA 5 .nil) (.one _) [(0, 0), (1, 6), (2, 7), (3, 8)] 9999
end Go.Proofs.Ytfeaemlakniijaa.PFnKeepsTold
