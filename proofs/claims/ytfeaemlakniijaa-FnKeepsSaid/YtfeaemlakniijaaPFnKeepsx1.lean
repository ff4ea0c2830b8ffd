import Derived.Test.YtfeaemlakniijaaPFnKeepsx0
set_option linter.unusedVariables false
set_option linter.unusedSimpArgs false
set_option maxRecDepth 100000
namespace Go.Proofs.Ytfeaemlakniijaa.PFnKeeps
open Go Go.RowKit Go.Proofs.YtfeaemlakniijaaA
/-! laws_big -/
def laws_big.f (l0 : List Int) : Option (Bool) := some (decide ((l0.length : Int) > 1048576))
theorem laws_big.ok {l0 : List Int} {r : Bool} (H : laws_big.f l0 = some r) : ACalls Try.prog 8 [] [.sl .o 1 (l0.map (eI .u8))] [] (.lit (.bool r)) := by
 refine acalls (fn := Try.f8) (nt := 6) Try.func8 rfl rfl (Nat.le_of_ble_eq_true rfl) fun E hE => ?_
 rw [laws_big.f] at H
 refine aw_grp1 ?_
 refine wk_start ?_
 refine kv g0 (asg) ?_
 refine wk_end ?_
 refine ac_next ?_
 refine aw_grp1 ?_
 refine wk_start ?_
 refine kv g0 (mv) ?_
 refine kv g0 (lnS lenE) ?_
 refine kv g0 (gtr) ?_
 refine kv g0 (asg) ?_
 refine wk_end ?_
 refine ac_next ?_
 refine aw_ret ?_
 obtain rfl := Option.some.inj H
 exact acr hE [.tmp 2] (.tmp .nil) (.one _) [] 9999
/-! spec_l01New -/
def spec_l01New.l0 : Nat → (List Int) → Int → Int → Option ((List Int) × Int × Int)
 | 0, _, _, _ => none
 | k5 + 1, l0, p3, p4 => if p4 < (l0.length : Int) then if p4 < 4000 then if 0 ≤ p4 then spec_l01New.l0 k5 l0 (bits .and .i64 (wrap64 ((wrap64 ((wrap64 (p3 * 131)) + (wrap64 (rd l0 p4)))) + 7)) 1073741823) (wrap64 (p4 + 1)) else none else some (l0, 0, p3) else some (l0, 0, p3)
def spec_l01New.f (k : Nat) (l0 : List Int) : Option ((List Int) × Int × Int) := spec_l01New.l0 k l0 (wrap64 (78801 + (l0.length : Int))) 0
theorem spec_l01New.ok {k : Nat} {l0 : List Int} {r : (List Int) × Int × Int} (H : spec_l01New.f k l0 = some r) : ACalls Try.prog 50 [] [.sl .u 1 (l0.map (eI .u8))] [(0, .box 142 [.sl .u 1 (r.1.map (eI .u8)), .lit (.int .i64 r.2.1), .lit (.int .i64 r.2.2)])] (.box 0 0) := by
 refine acalls (fn := Try.f50) (nt := 32) Try.func50 rfl rfl (Nat.le_of_ble_eq_true rfl) fun E hE => ?_
 rw [spec_l01New.f] at H
 refine aw_grp1 ?_
 refine wk_start ?_
 refine kv g0 (asg) ?_
 refine wk_end ?_
 refine ac_next ?_
 refine aw_grp1 ?_
 refine wk_start ?_
 refine kv g0 (mv) ?_
 refine kv g0 (lnS lenE) ?_
 refine kv g0 (add6) ?_
 refine kv g0 (asg) ?_
 refine wk_end ?_
 refine ac_next ?_
 refine aw_grp1 ?_
 refine aw_grp1 ?_
 refine wk_start ?_
 refine kv g0 (asg) ?_
 refine wk_end ?_
 refine ac_next ?_
 refine aw_block ?_
 refine aw_loop2 (fun (k_ : Nat) (p3 : Int) (p4 : Int) => k_ ≤ k ∧ spec_l01New.l0 k_ l0 p3 p4 = some r) (fun (p3 : Int) (p4 : Int) => ⟨[(0, .sl .u 1 (l0.map (eI .u8))), (3, .lit (.int .i64 p3)), (4, .lit (.int .i64 p4))], []⟩) k (wrap64 (78801 + (l0.length : Int))) 0 ⟨Nat.le_refl _, H⟩ (fun K_ h_ => acw hE [] 9999 h_) (fun _ _ => by intro h_; have h_ := h_.2; rw [spec_l01New.l0.eq_1] at h_; cases h_) ?_
 intro k5 p3 p4 hq_ K9 hK10
 have hk5 := hq_.1
 have H := hq_.2
 clear hq_
 rw [spec_l01New.l0.eq_2] at H
 refine aw_grp1 ?_
 refine aw_grp1 ?_
 refine wk_start ?_
 refine kv g0 (mv) ?_
 refine kv g0 (mv) ?_
 refine kv g0 (lnS lenE) ?_
 refine kv g0 (lss) ?_
 refine kv g0 (mv) ?_
 by_cases c6 : p4 < (l0.length : Int)
 ·rw [if_pos c6] at H
  refine kv (g1 (decide_eq_true c6)) (mv) ?_
  refine kv (g1 (decide_eq_true c6)) (lss) ?_
  refine kv g0 (pkT (decide_eq_true c6)) ?_
  refine wk_end ?_
  refine ac_next ?_
  by_cases c7 : p4 < 4000
  ·rw [if_pos c7] at H
   refine aw_ifT ?_ (decide_eq_true c7)
   refine aw_skip ?_
   refine ac_next ?_
   refine aw_grp1 ?_
   refine aw_block ?_
   refine wk_start ?_
   refine kv g0 (mv) ?_
   refine kv g0 (mul6) ?_
   refine kv g0 (mv) ?_
   refine kv g0 (mv) ?_
   obtain ⟨c8, H⟩ := of_if H
   refine kv g0 (ixS 5 (eI .u8 (rd l0 p4)) c8 (getE (z := (0 : Int)) c8 c6)) ?_
   refine kv g0 (ldR (.lit (.int .u8 (rd l0 p4)))) ?_
   refine kv g0 (cnv6) ?_
   refine kv g0 (add6) ?_
   refine kv g0 (add6) ?_
   refine kv g0 (band) ?_
   refine kv g0 (asg) ?_
   refine wk_end ?_
   refine ac_blkN ?_
   refine ac_next ?_
   refine wk_start ?_
   refine kv g0 (mv) ?_
   refine kv g0 (add6) ?_
   refine kv g0 (asg) ?_
   refine wk_end ?_
   refine ac_k ?_
   exact acw hE [] 9999 (hK10 k5 (bits .and .i64 (wrap64 ((wrap64 ((wrap64 (p3 * 131)) + (wrap64 (rd l0 p4)))) + 7)) 1073741823) (wrap64 (p4 + 1)) (Nat.le_refl _) ⟨by omega, H⟩)
  rw [if_neg c7] at H
  refine aw_ifF ?_ (decide_eq_false c7)
  refine aw_exit ?_
  refine ac_then ?_
  refine ac_then ?_
  refine ac_hit rfl ?_
  refine ac_next ?_
  refine aw_grp1 ?_
  refine wk_start ?_
  refine kv g0 (mv) ?_
  refine kv g0 (mv) ?_
  refine kv g0 (bld [(0, 1), (1, 1), (2, 1)] [.slice none 0 0, .int .i64 0, .int .i64 0] [.sl .u 1 (l0.map (eI .u8)), .lit (.int .i64 0), .lit (.int .i64 p3)]) ?_
  refine kb g0 (bxA 0) ?_
  refine kv g0 (asg) ?_
  refine wk_end ?_
  refine ac_next ?_
  refine aw_ret ?_
  obtain rfl := Option.some.inj H
  exact acr hE [.tmp 2] (.tmp .nil) (.one _) [(0, 0)] 9999
 rw [if_neg c6] at H
 refine kx (hT (decide_eq_false c6)) ?_
 refine kx (hT (decide_eq_false c6)) ?_
 refine kv g0 (pkF (decide_eq_false c6)) ?_
 refine wk_end ?_
 refine ac_next ?_
 refine aw_ifF ?_ rfl
 refine aw_exit ?_
 refine ac_then ?_
 refine ac_then ?_
 refine ac_hit rfl ?_
 refine ac_next ?_
 refine aw_grp1 ?_
 refine wk_start ?_
 refine kv g0 (mv) ?_
 refine kv g0 (mv) ?_
 refine kv g0 (bld [(0, 1), (1, 1), (2, 1)] [.slice none 0 0, .int .i64 0, .int .i64 0] [.sl .u 1 (l0.map (eI .u8)), .lit (.int .i64 0), .lit (.int .i64 p3)]) ?_
 refine kb g0 (bxA 1) ?_
 refine kv g0 (asg) ?_
 refine wk_end ?_
 refine ac_next ?_
 refine aw_ret ?_
 obtain rfl := Option.some.inj H
 exact acr hE [.tmp 2] (.tmp .nil) (.one _) [(0, 1)] 9999
/-! spec_l01Byte -/
def spec_l01Byte.f (l0_0 : List Int) (a0_1 : Int) (a0_2 : Int) : Option (Int × (List Int) × Int × Int) := if a0_1 < (l0_0.length : Int) then (if 0 ≤ a0_1 then some (bits .and .i64 (wrap64 ((bits .and .i64 (bits .xor .i64 ((wrap64 ((wrap64 (a0_2 * 6364136223846793005)) + 1442695040888963407)).fdiv (2 ^ 33)) ((wrap64 ((wrap64 (a0_2 * 6364136223846793005)) + 1442695040888963407)).fdiv (2 ^ 45))) 255) + (wrap64 (rd l0_0 a0_1)))) 255, l0_0, wrap64 (a0_1 + 1), wrap64 ((wrap64 (a0_2 * 6364136223846793005)) + 1442695040888963407)) else none) else some (bits .and .i64 (bits .xor .i64 ((wrap64 ((wrap64 (a0_2 * 6364136223846793005)) + 1442695040888963407)).fdiv (2 ^ 33)) ((wrap64 ((wrap64 (a0_2 * 6364136223846793005)) + 1442695040888963407)).fdiv (2 ^ 45))) 255, l0_0, a0_1, wrap64 ((wrap64 (a0_2 * 6364136223846793005)) + 1442695040888963407))
theorem spec_l01Byte.ok {l0_0 : List Int} {a0_1 : Int} {a0_2 : Int} {r : Int × (List Int) × Int × Int} (H : spec_l01Byte.f l0_0 a0_1 a0_2 = some r) : ACalls Try.prog 51 [(0, .box 142 [.sl .u 1 (l0_0.map (eI .u8)), .lit (.int .i64 a0_1), .lit (.int .i64 a0_2)])] [.box 0 0] [(0, .box 142 [.sl .u 1 (r.2.1.map (eI .u8)), .lit (.int .i64 r.2.2.1), .lit (.int .i64 r.2.2.2)])] (.lit (.int .i64 r.1)) := by
 refine acalls (fn := Try.f51) (nt := 58) Try.func51 rfl rfl (Nat.le_of_ble_eq_true rfl) fun E hE => ?_
 rw [spec_l01Byte.f] at H
 refine aw_grp1 ?_
 refine wk_start ?_
 refine kv g0 (asg) ?_
 refine wk_end ?_
 refine ac_next ?_
 refine aw_grp1 ?_
 refine wk_start ?_
 refine kv g0 (mv) ?_
 refine kv g0 (mv) ?_
 refine kv g0 (nilB) ?_
 refine kv g0 (faB 2 2) ?_
 refine kv g0 (ldB) ?_
 refine kv g0 (mul6) ?_
 refine kv g0 (add6) ?_
 refine kv g0 (nilB) ?_
 refine kv g0 (faB 2 2) ?_
 refine ks g0 (stB 1 [.sl .u 1 (l0_0.map (eI .u8)), .lit (.int .i64 a0_1), .lit (.int .i64 (wrap64 ((wrap64 (a0_2 * 6364136223846793005)) + 1442695040888963407)))]) ?_
 refine wk_end ?_
 refine ac_next ?_
 refine aw_grp1 ?_
 refine wk_start ?_
 refine kv g0 (mv) ?_
 refine kv g0 (nilB) ?_
 refine kv g0 (faB 2 2) ?_
 refine kv g0 (ldB) ?_
 refine kv g0 (shr (by decide : (0 : Int) ≤ 33)) ?_
 refine kv g0 (mv) ?_
 refine kv g0 (nilB) ?_
 refine kv g0 (faB 2 2) ?_
 refine kv g0 (ldB) ?_
 refine kv g0 (shr (by decide : (0 : Int) ≤ 45)) ?_
 refine kv g0 (bxor) ?_
 refine kv g0 (band) ?_
 refine kv g0 (asg) ?_
 refine wk_end_draw hM (by kernel_rfl) ?_
 refine ac_next ?_
 refine aw_grp1 ?_
 refine aw_grp1 ?_
 refine wk_start ?_
 refine kv g0 (mv) ?_
 refine kv g0 (nilB) ?_
 refine kv g0 (faB 1 1) ?_
 refine kv g0 (ldB) ?_
 refine kv g0 (mv) ?_
 refine kv g0 (nilB) ?_
 refine kv g0 (faB 0 0) ?_
 refine kv g0 (ldB) ?_
 refine kv g0 (lnS lenE) ?_
 refine kv g0 (lss) ?_
 refine wk_end_draw hM (by kernel_rfl) ?_
 refine ac_next ?_
 by_cases c1 : a0_1 < (l0_0.length : Int)
 ·rw [if_pos c1] at H
  refine aw_ifT ?_ (decide_eq_true c1)
  refine aw_grp1 ?_
  refine wk_start ?_
  refine kv g0 (mv) ?_
  refine kv g0 (mv) ?_
  refine kv g0 (nilB) ?_
  refine kv g0 (faB 0 0) ?_
  refine kv g0 (ldB) ?_
  refine kv g0 (mv) ?_
  refine kv g0 (nilB) ?_
  refine kv g0 (faB 1 1) ?_
  refine kv g0 (ldB) ?_
  obtain ⟨c2, H⟩ := of_if H
  refine kv g0 (ixS 5 (eI .u8 (rd l0_0 a0_1)) c2 (getE (z := (0 : Int)) c2 c1)) ?_
  refine kv g0 (ldR (.lit (.int .u8 (rd l0_0 a0_1)))) ?_
  refine kv g0 (cnv6) ?_
  refine kv g0 (add6) ?_
  refine kv g0 (band) ?_
  refine kv g0 (asg) ?_
  refine wk_end_draw hM (by kernel_rfl) ?_
  refine ac_next ?_
  refine wk_start ?_
  refine kv g0 (mv) ?_
  refine kv g0 (mv) ?_
  refine kv g0 (nilB) ?_
  refine kv g0 (faB 1 1) ?_
  refine kv g0 (ldB) ?_
  refine kv g0 (add6) ?_
  refine kv g0 (nilB) ?_
  refine kv g0 (faB 1 1) ?_
  refine ks g0 (stB 1 [.sl .u 1 (l0_0.map (eI .u8)), .lit (.int .i64 (wrap64 (a0_1 + 1))), .lit (.int .i64 (wrap64 ((wrap64 (a0_2 * 6364136223846793005)) + 1442695040888963407)))]) ?_
  refine wk_end ?_
  refine ac_next ?_
  refine aw_grp1 ?_
  refine wk_start ?_
  refine kv g0 (mv) ?_
  refine kv g0 (asg) ?_
  refine wk_end ?_
  refine ac_next ?_
  refine aw_ret ?_
  obtain rfl := Option.some.inj H
  exact acr hE [.tmp 2] (.tmp .nil) (.one _) [(0, 0)] 9999
 rw [if_neg c1] at H
 refine aw_ifF ?_ (decide_eq_false c1)
 refine aw_skip ?_
 refine ac_next ?_
 refine aw_grp1 ?_
 refine wk_start ?_
 refine kv g0 (mv) ?_
 refine kv g0 (asg) ?_
 refine wk_end ?_
 refine ac_next ?_
 refine aw_ret ?_
 obtain rfl := Option.some.inj H
 exact acr hE [.tmp 2] (.tmp .nil) (.one _) [(0, 0)] 9999
/-! spec_l01Below -/
def spec_l01Below.f (l0_0 : List Int) (a0_1 : Int) (a0_2 : Int) (a1 : Int) : Option (Int × (List Int) × Int × Int) := if a1 ≤ 0 then some (0, l0_0, a0_1, a0_2) else if a1 ≤ 256 then ((spec_l01Byte.f l0_0 a0_1 a0_2).bind fun t3 => (if a1 ≠ 0 then some (t3.1.tmod a1, t3.2.1, t3.2.2.1, t3.2.2.2) else none)) else (spec_l01Byte.f l0_0 a0_1 a0_2).bind fun t6 => (spec_l01Byte.f t6.2.1 t6.2.2.1 t6.2.2.2).bind fun t8 => (spec_l01Byte.f t8.2.1 t8.2.2.1 t8.2.2.2).bind fun t10 => (spec_l01Byte.f t10.2.1 t10.2.2.1 t10.2.2.2).bind fun t12 => if a1 ≠ 0 then some ((wrap64 ((wrap64 ((wrap64 ((wrap64 (t6.1 * 16777216)) + (wrap64 (t8.1 * 65536)))) + (wrap64 (t10.1 * 256)))) + t12.1)).tmod a1, t12.2.1, t12.2.2.1, t12.2.2.2) else none
theorem spec_l01Below.ok {l0_0 : List Int} {a0_1 : Int} {a0_2 : Int} {a1 : Int} {r : Int × (List Int) × Int × Int} (H : spec_l01Below.f l0_0 a0_1 a0_2 a1 = some r) : ACalls Try.prog 52 [(0, .box 142 [.sl .u 1 (l0_0.map (eI .u8)), .lit (.int .i64 a0_1), .lit (.int .i64 a0_2)])] [.box 0 0, .lit (.int .i64 a1)] [(0, .box 142 [.sl .u 1 (r.2.1.map (eI .u8)), .lit (.int .i64 r.2.2.1), .lit (.int .i64 r.2.2.2)])] (.lit (.int .i64 r.1)) := by
 refine acalls (fn := Try.f52) (nt := 37) Try.func52 rfl rfl (Nat.le_of_ble_eq_true rfl) fun E hE => ?_
 rw [spec_l01Below.f] at H
 refine aw_grp1 ?_
 refine wk_start ?_
 refine kv g0 (asg) ?_
 refine wk_end ?_
 refine ac_next ?_
 refine aw_grp1 ?_
 refine aw_grp1 ?_
 refine wk_start ?_
 refine kv g0 (mv) ?_
 refine kv g0 (leq) ?_
 refine wk_end ?_
 refine ac_next ?_
 by_cases c1 : a1 ≤ 0
 ·rw [if_pos c1] at H
  refine aw_ifT ?_ (decide_eq_true c1)
  refine aw_grp1 ?_
  refine wk_start ?_
  refine kv g0 (asg) ?_
  refine wk_end ?_
  refine ac_next ?_
  refine aw_ret ?_
  refine ac_thenR ?_
  obtain rfl := Option.some.inj H
  exact acr hE [.tmp 4] (.tmp .nil) (.one _) [(0, 0)] 9999
 rw [if_neg c1] at H
 refine aw_ifF ?_ (decide_eq_false c1)
 refine aw_skip ?_
 refine ac_next ?_
 refine aw_grp1 ?_
 refine aw_grp1 ?_
 refine wk_start ?_
 refine kv g0 (mv) ?_
 refine kv g0 (leq) ?_
 refine wk_end ?_
 refine ac_next ?_
 by_cases c2 : a1 ≤ 256
 ·rw [if_pos c2] at H
  refine aw_ifT ?_ (decide_eq_true c2)
  refine aw_grp1 ?_
  refine wk_start ?_
  refine kv g0 (mv) ?_
  obtain ⟨t3, A4, H⟩ := of_bind H
  refine kcS1 14 (.lit (.int .i64 t3.1)) [(0, .box 142 [.sl .u 1 (t3.2.1.map (eI .u8)), .lit (.int .i64 t3.2.2.1), .lit (.int .i64 t3.2.2.2)])] g0 (cal (spec_l01Byte.ok A4) [0] 9999 .u (hf := Try.func51)) rfl rfl ?_
  refine kv g0 (mv) ?_
  obtain ⟨c5, H⟩ := of_if H
  refine kv g0 (rem c5) ?_
  refine kv g0 (asg) ?_
  refine wk_end ?_
  refine ac_next ?_
  refine aw_ret ?_
  refine ac_thenR ?_
  obtain rfl := Option.some.inj H
  exact acr hE [.tmp 4] (.tmp .nil) (.one _) [(0, 0)] 9999
 rw [if_neg c2] at H
 refine aw_ifF ?_ (decide_eq_false c2)
 refine aw_skip ?_
 refine ac_next ?_
 refine aw_grp1 ?_
 refine wk_start ?_
 refine kv g0 (mv) ?_
 obtain ⟨t6, A7, H⟩ := of_bind H
 refine kcS1 18 (.lit (.int .i64 t6.1)) [(0, .box 142 [.sl .u 1 (t6.2.1.map (eI .u8)), .lit (.int .i64 t6.2.2.1), .lit (.int .i64 t6.2.2.2)])] g0 (cal (spec_l01Byte.ok A7) [0] 9999 .u (hf := Try.func51)) rfl rfl ?_
 refine kv g0 (asg) ?_
 refine wk_end ?_
 refine ac_next ?_
 refine aw_grp1 ?_
 refine wk_start ?_
 refine kv g0 (mv) ?_
 obtain ⟨t8, A9, H⟩ := of_bind H
 refine kcS1 20 (.lit (.int .i64 t8.1)) [(0, .box 142 [.sl .u 1 (t8.2.1.map (eI .u8)), .lit (.int .i64 t8.2.2.1), .lit (.int .i64 t8.2.2.2)])] g0 (cal (spec_l01Byte.ok A9) [0] 9999 .u (hf := Try.func51)) rfl rfl ?_
 refine kv g0 (asg) ?_
 refine wk_end ?_
 refine ac_next ?_
 refine aw_grp1 ?_
 refine wk_start ?_
 refine kv g0 (mv) ?_
 obtain ⟨t10, A11, H⟩ := of_bind H
 refine kcS1 22 (.lit (.int .i64 t10.1)) [(0, .box 142 [.sl .u 1 (t10.2.1.map (eI .u8)), .lit (.int .i64 t10.2.2.1), .lit (.int .i64 t10.2.2.2)])] g0 (cal (spec_l01Byte.ok A11) [0] 9999 .u (hf := Try.func51)) rfl rfl ?_
 refine kv g0 (asg) ?_
 refine wk_end ?_
 refine ac_next ?_
 refine aw_grp1 ?_
 refine wk_start ?_
 refine kv g0 (mv) ?_
 obtain ⟨t12, A13, H⟩ := of_bind H
 refine kcS1 24 (.lit (.int .i64 t12.1)) [(0, .box 142 [.sl .u 1 (t12.2.1.map (eI .u8)), .lit (.int .i64 t12.2.2.1), .lit (.int .i64 t12.2.2.2)])] g0 (cal (spec_l01Byte.ok A13) [0] 9999 .u (hf := Try.func51)) rfl rfl ?_
 refine kv g0 (asg) ?_
 refine wk_end ?_
 refine ac_next ?_
 refine aw_grp1 ?_
 refine wk_start ?_
 refine kv g0 (mv) ?_
 refine kv g0 (mul6) ?_
 refine kv g0 (mv) ?_
 refine kv g0 (mul6) ?_
 refine kv g0 (add6) ?_
 refine kv g0 (mv) ?_
 refine kv g0 (mul6) ?_
 refine kv g0 (add6) ?_
 refine kv g0 (mv) ?_
 refine kv g0 (add6) ?_
 refine kv g0 (mv) ?_
 obtain ⟨c14, H⟩ := of_if H
 refine kv g0 (rem c14) ?_
 refine kv g0 (asg) ?_
 refine wk_end ?_
 refine ac_next ?_
 refine aw_ret ?_
 obtain rfl := Option.some.inj H
 exact acr hE [.tmp 4] (.tmp .nil) (.one _) [(0, 0)] 9999
/-! spec_DrawPlaces -/
def spec_DrawPlaces.l0 : Nat → (List Int) → Int → Int → (List Int) → Int → Option ((List Int))
 | 0, _, _, _, _, _ => none
 | k14 + 1, q9, p10, p11, q12, p13 => if p13 < 12 then (spec_l01Below.f q9 p10 p11 10000).bind fun t16 => (if q12.length + ([t16.1] : List Int).length < 17592186044416 then spec_DrawPlaces.l0 k14 t16.2.1 t16.2.2.1 t16.2.2.2 (q12 ++ ([t16.1] : List Int)) (wrap64 (p13 + 1)) else none) else some q12
def spec_DrawPlaces.f (k : Nat) (l0 : List Int) : Option ((List Int)) := (spec_l01New.f k l0).bind fun t1 => (spec_l01Byte.f t1.1 t1.2.1 t1.2.2).bind fun t3 => spec_DrawPlaces.l0 k t3.2.1 t3.2.2.1 t3.2.2.2 ([] : List Int) 0
theorem spec_DrawPlaces.ok {k : Nat} {l0 : List Int} {r : (List Int)} (H : spec_DrawPlaces.f k l0 = some r) : ACalls Try.prog 9 [] [.sl .o 1 (l0.map (eI .u8))] [(0, .row 3 1 (r.map (eI .i64)))] (.row 0) := by
 refine acalls (fn := Try.f9) (nt := 21) Try.func9 rfl rfl (Nat.le_of_ble_eq_true rfl) fun E hE => ?_
 rw [spec_DrawPlaces.f] at H
 refine aw_grp1 ?_
 refine wk_start ?_
 refine kv g0 (asg) ?_
 refine wk_end ?_
 refine ac_next ?_
 refine aw_grp1 ?_
 refine wk_start ?_
 refine kv g0 (mv) ?_
 obtain ⟨t1, A2, H⟩ := of_bind H
 refine kcS1 7 (.box 0 0) [(0, .box 142 [.sl .o 1 (t1.1.map (eI .u8)), .lit (.int .i64 t1.2.1), .lit (.int .i64 t1.2.2)])] g0 (cal (spec_l01New.ok A2) [0] 9999 .o (hf := Try.func50)) rfl rfl ?_
 refine kv g0 (asg) ?_
 refine wk_end ?_
 refine ac_next ?_
 refine aw_grp1 ?_
 refine wk_start ?_
 refine kv g0 (mv) ?_
 obtain ⟨t3, A4, H⟩ := of_bind H
 refine kcS1 9 (.lit (.int .i64 t3.1)) [(0, .box 142 [.sl .o 1 (t3.2.1.map (eI .u8)), .lit (.int .i64 t3.2.2.1), .lit (.int .i64 t3.2.2.2)])] g0 (cal (spec_l01Byte.ok A4) [0] 9999 .o (hf := Try.func51)) rfl rfl ?_
 refine wk_end ?_
 refine ac_next ?_
 refine aw_grp1 ?_
 refine wk_start ?_
 refine kb g0 (bsl 1 3 1 [.int .i64 0] (([] : List Int).map (eI .i64))) ?_
 refine kv g0 (asg) ?_
 refine wk_end ?_
 refine ac_next ?_
 refine aw_grp1 ?_
 refine aw_grp1 ?_
 refine wk_start ?_
 refine kv g0 (asg) ?_
 refine wk_end ?_
 refine ac_next ?_
 refine aw_block ?_
 refine aw_loop5 (fun (k_ : Nat) (q9 : List Int) (p10 : Int) (p11 : Int) (q12 : List Int) (p13 : Int) => k_ ≤ k ∧ spec_DrawPlaces.l0 k_ q9 p10 p11 q12 p13 = some r) (fun (q9 : List Int) (p10 : Int) (p11 : Int) (q12 : List Int) (p13 : Int) => ⟨[(3, .box 0 0), (4, .row 1), (5, .lit (.int .i64 p13))], [(0, .box 142 [.sl .o 1 (q9.map (eI .u8)), .lit (.int .i64 p10), .lit (.int .i64 p11)]), (1, .row 3 1 (q12.map (eI .i64)))]⟩) k t3.2.1 t3.2.2.1 t3.2.2.2 ([] : List Int) 0 ⟨Nat.le_refl _, H⟩ (fun K_ h_ => acw hE [(0, 0), (1, 1)] 9999 h_) (fun _ _ _ _ _ => by intro h_; have h_ := h_.2; rw [spec_DrawPlaces.l0.eq_1] at h_; cases h_) ?_
 intro k14 q9 p10 p11 q12 p13 hq_ K19 hK20
 have hk14 := hq_.1
 have H := hq_.2
 clear hq_
 rw [spec_DrawPlaces.l0.eq_2] at H
 refine aw_grp1 ?_
 refine aw_grp1 ?_
 refine wk_start ?_
 refine kv g0 (mv) ?_
 refine kv g0 (lss) ?_
 refine wk_end ?_
 refine ac_next ?_
 by_cases c15 : p13 < 12
 ·rw [if_pos c15] at H
  refine aw_ifT ?_ (decide_eq_true c15)
  refine aw_skip ?_
  refine ac_next ?_
  refine aw_grp1 ?_
  refine aw_block ?_
  refine wk_start ?_
  refine kv g0 (mv) ?_
  refine kv g0 (mv) ?_
  obtain ⟨t16, A17, H⟩ := of_bind H
  refine kcS1 17 (.lit (.int .i64 t16.1)) [(0, .box 142 [.sl .o 1 (t16.2.1.map (eI .u8)), .lit (.int .i64 t16.2.2.1), .lit (.int .i64 t16.2.2.2)])] g0 (cal (spec_l01Below.ok A17) [0] 9999 .o (hf := Try.func52)) rfl rfl ?_
  refine kb g0 (bsl 2 3 1 [.int .i64 0] (([t16.1] : List Int).map (eI .i64))) ?_
  obtain ⟨c18, H⟩ := of_if H
  refine kc g0 (apR 3 3 1 8 [.int .i64 0] ((q12 ++ ([t16.1] : List Int)).map (eI .i64)) (.row rfl) (apb c18 rfl) appE) ?_
  refine kv g0 (asg) ?_
  refine wk_end ?_
  refine ac_blkN ?_
  refine ac_next ?_
  refine wk_start ?_
  refine kv g0 (mv) ?_
  refine kv g0 (add6) ?_
  refine kv g0 (asg) ?_
  refine wk_end ?_
  refine ac_k ?_
  exact acw hE [(0, 0), (1, 3)] 9999 (hK20 k14 t16.2.1 t16.2.2.1 t16.2.2.2 (q12 ++ ([t16.1] : List Int)) (wrap64 (p13 + 1)) (Nat.le_refl _) ⟨by omega, H⟩)
 rw [if_neg c15] at H
 refine aw_ifF ?_ (decide_eq_false c15)
 refine aw_exit ?_
 refine ac_then ?_
 refine ac_then ?_
 refine ac_hit rfl ?_
 refine ac_next ?_
 refine aw_grp1 ?_
 refine wk_start ?_
 refine kv g0 (mv) ?_
 refine kv g0 (asg) ?_
 refine wk_end ?_
 refine ac_next ?_
 refine aw_ret ?_
 obtain rfl := Option.some.inj H
 exact acr hE [.tmp 2] (.tmp .nil) (.one _) [(0, 1)] 9999
/-! impl_KeeperNew -/
def impl_KeeperNew.f  : Option ((List Int) × Int × (List Int)) := some (([1, 1, 1] : List Int), 0, ([1, 1, 1] : List Int))
theorem impl_KeeperNew.ok {r : (List Int) × Int × (List Int)} (H : impl_KeeperNew.f = some r) : ACalls Try.prog 10 [] [] [(0, .row 3 1 (r.1.map (eI .i64))), (1, .row 3 1 (r.2.2.map (eI .i64)))] (.agg [.lit (.slice none 0 0), .row 0, .lit (.slice none 0 0), .lit (.int .i64 r.2.1), .row 1]) := by
 refine acalls (fn := Try.f10) (nt := 4) Try.func10 rfl rfl (Nat.le_of_ble_eq_true rfl) fun E hE => ?_
 rw [impl_KeeperNew.f] at H
 refine aw_grp1 ?_
 refine wk_start ?_
 refine kb g0 (alc 0 [.slice none 0 0, .slice none 0 0, .slice none 0 0, .int .i64 0, .slice none 0 0] [.lit (.slice none 0 0), .lit (.slice none 0 0), .lit (.slice none 0 0), .lit (.int .i64 0), .lit (.slice none 0 0)]) ?_
 refine wk_end ?_
 refine ac_next ?_
 refine aw_grp1 ?_
 refine wk_start ?_
 refine kb g0 (bsl 1 3 1 [.int .i64 0] (([1, 1, 1] : List Int).map (eI .i64))) ?_
 refine kb g0 (bsl 2 3 1 [.int .i64 0] (([1, 1, 1] : List Int).map (eI .i64))) ?_
 refine kv g0 (bld [(0, 1), (1, 1), (2, 1), (3, 1), (4, 1)] [.slice none 0 0, .slice none 0 0, .slice none 0 0, .int .i64 0, .slice none 0 0] [.lit (.slice none 0 0), .row 1, .lit (.slice none 0 0), .lit (.int .i64 0), .row 2]) ?_
 refine ks g0 (stB 5 [.lit (.slice none 0 0), .row 1, .lit (.slice none 0 0), .lit (.int .i64 0), .row 2]) ?_
 refine wk_end ?_
 refine ac_next ?_
 refine aw_ret ?_
 obtain rfl := Option.some.inj H
 exact acr hE [.cell 0 29] (rcA 5 .nil) (.one _) [(0, 1), (1, 2)] 9999
/-! impl_copyInts -/
def impl_copyInts.f (l0 : List Int) : Option ((List Int)) := if ([] : List Int).length + l0.length < 17592186044416 then some (([] : List Int) ++ l0) else none
theorem impl_copyInts.ok {l0 : List Int} {r : (List Int)} (H : impl_copyInts.f l0 = some r) : ACalls Try.prog 59 [] [.sl .o 1 (l0.map (eI .i64))] [(0, .row 3 1 (r.map (eI .i64)))] (.row 0) := by
 refine acalls (fn := Try.f59) (nt := 6) Try.func59 rfl rfl (Nat.le_of_ble_eq_true rfl) fun E hE => ?_
 rw [impl_copyInts.f] at H
 refine aw_grp1 ?_
 refine wk_start ?_
 refine kv g0 (asg) ?_
 refine wk_end ?_
 refine ac_next ?_
 refine aw_grp1 ?_
 refine wk_start ?_
 refine kb g0 (bsl 0 3 1 [.int .i64 0] (([] : List Int).map (eI .i64))) ?_
 refine kv g0 (mv) ?_
 obtain ⟨c1, H⟩ := of_if H
 refine kc g0 (apR 1 3 1 8 [.int .i64 0] ((([] : List Int) ++ l0).map (eI .i64)) (.slF (flI)) (apb c1 rfl) appE) ?_
 refine kv g0 (asg) ?_
 refine wk_end ?_
 refine ac_next ?_
 refine aw_ret ?_
 obtain rfl := Option.some.inj H
 exact acr hE [.tmp 2] (.tmp .nil) (.one _) [(0, 1)] 9999
/-! impl_copyKeeper -/
def impl_copyKeeper.f (l0_0 : List S98) (l0_1 : List Int) (l0_2 : List S97) (a0_3 : Int) (l0_4 : List Int) : Option ((List S98) × (List Int) × (List S97) × Int × (List Int)) := if ([] : List S98).length + l0_0.length < 2932031007402 then ((impl_copyInts.f l0_1).bind fun t2 => (if ([] : List S97).length + l0_2.length < 2932031007402 then ((impl_copyInts.f l0_4).bind fun t5 => some (([] : List S98) ++ l0_0, t2, ([] : List S97) ++ l0_2, a0_3, t5)) else none)) else none
theorem impl_copyKeeper.ok {l0_0 : List S98} {l0_1 : List Int} {l0_2 : List S97} {a0_3 : Int} {l0_4 : List Int} {r : (List S98) × (List Int) × (List S97) × Int × (List Int)} (H : impl_copyKeeper.f l0_0 l0_1 l0_2 a0_3 l0_4 = some r) : ACalls Try.prog 53 [] [.agg [.sl .o 6 (l0_0.map e98), .sl .o 1 (l0_1.map (eI .i64)), .sl .o 6 (l0_2.map e97), .lit (.int .i64 a0_3), .sl .o 1 (l0_4.map (eI .i64))]] [(0, .row 98 6 (r.1.map e98)), (1, .row 3 1 (r.2.1.map (eI .i64))), (2, .row 97 6 (r.2.2.1.map e97)), (3, .row 3 1 (r.2.2.2.2.map (eI .i64)))] (.agg [.row 0, .row 1, .row 2, .lit (.int .i64 r.2.2.2.1), .row 3]) := by
 refine acalls (fn := Try.f53) (nt := 20) Try.func53 rfl rfl (Nat.le_of_ble_eq_true rfl) fun E hE => ?_
 rw [impl_copyKeeper.f] at H
 refine aw_grp1 ?_
 refine wk_start ?_
 refine kb g0 (bxA 0) ?_
 refine kb g0 (alc 1 [.slice none 0 0, .slice none 0 0, .slice none 0 0, .int .i64 0, .slice none 0 0] [.lit (.slice none 0 0), .lit (.slice none 0 0), .lit (.slice none 0 0), .lit (.int .i64 0), .lit (.slice none 0 0)]) ?_
 refine wk_end ?_
 refine ac_next ?_
 refine aw_grp1 ?_
 refine wk_start ?_
 refine kb g0 (bsl 2 98 6 [.int .i64 0, .int .i64 0, .int .i64 0, .int .i64 0, .int .i64 0, .int .i64 0] (([] : List S98).map e98)) ?_
 refine kv g0 (faB 0 0) ?_
 refine kv g0 (ldB) ?_
 obtain ⟨c1, H⟩ := of_if H
 refine kc g0 (apR 3 98 6 48 [.int .i64 0, .int .i64 0, .int .i64 0, .int .i64 0, .int .i64 0, .int .i64 0] ((([] : List S98) ++ l0_0).map e98) (.slF (fl98)) (apb c1 rfl) appE) ?_
 refine kv g0 (faB 1 1) ?_
 refine kv g0 (ldB) ?_
 obtain ⟨t2, A3, H⟩ := of_bind H
 refine kcS1 9 (.row 4) [(4, .row 3 1 (t2.map (eI .i64)))] g0 (cal (impl_copyInts.ok A3) [4] 9999 .n (hf := Try.func59)) rfl rfl ?_
 refine kb g0 (bsl 5 97 6 [.int .i64 0, .int .i64 0, .int .i64 0, .int .i64 0, .int .i64 0, .int .i64 0] (([] : List S97).map e97)) ?_
 refine kv g0 (faB 2 2) ?_
 refine kv g0 (ldB) ?_
 obtain ⟨c4, H⟩ := of_if H
 refine kc g0 (apR 6 97 6 48 [.int .i64 0, .int .i64 0, .int .i64 0, .int .i64 0, .int .i64 0, .int .i64 0] ((([] : List S97) ++ l0_2).map e97) (.slF (fl97)) (apb c4 rfl) appE) ?_
 refine kv g0 (faB 3 3) ?_
 refine kv g0 (ldB) ?_
 refine kv g0 (faB 4 4) ?_
 refine kv g0 (ldB) ?_
 obtain ⟨t5, A6, H⟩ := of_bind H
 refine kcS1 18 (.row 7) [(7, .row 3 1 (t5.map (eI .i64)))] g0 (cal (impl_copyInts.ok A6) [7] 9999 .n (hf := Try.func59)) rfl rfl ?_
 refine kv g0 (bld [(0, 1), (1, 1), (2, 1), (3, 1), (4, 1)] [.slice none 0 0, .slice none 0 0, .slice none 0 0, .int .i64 0, .slice none 0 0] [.row 3, .row 4, .row 6, .lit (.int .i64 a0_3), .row 7]) ?_
 refine ks g0 (stB 5 [.row 3, .row 4, .row 6, .lit (.int .i64 a0_3), .row 7]) ?_
 refine wk_end_draw hM (by kernel_rfl) ?_
 refine ac_next ?_
 refine aw_ret ?_
 obtain rfl := Option.some.inj H
 exact acr hE [.cell 2 29] (rcA 5 .nil) (.one _) [(0, 3), (1, 4), (2, 6), (3, 7)] 9999
/-! impl_within -/
def impl_within.f (a0 : Int) (a1 : Int) (a2 : Int) : Option (Bool) := if a0 ≥ a1 then some (decide (a0 ≤ a2)) else some false
theorem impl_within.ok {a0 : Int} {a1 : Int} {a2 : Int} {r : Bool} (H : impl_within.f a0 a1 a2 = some r) : ACalls Try.prog 55 [] [.lit (.int .i64 a0), .lit (.int .i64 a1), .lit (.int .i64 a2)] [] (.lit (.bool r)) := by
 refine acalls (fn := Try.f55) (nt := 15) Try.func55 rfl rfl (Nat.le_of_ble_eq_true rfl) fun E hE => ?_
 rw [impl_within.f] at H
 refine aw_grp1 ?_
 refine wk_start ?_
 refine kv g0 (asg) ?_
 refine wk_end ?_
 refine ac_next ?_
 refine aw_grp1 ?_
 refine wk_start ?_
 refine kv g0 (mv) ?_
 refine kv g0 (mv) ?_
 refine kv g0 (geq) ?_
 refine kv g0 (mv) ?_
 by_cases c1 : a0 ≥ a1
 ·rw [if_pos c1] at H
  refine kv (g1 (decide_eq_true c1)) (mv) ?_
  refine kv (g1 (decide_eq_true c1)) (mv) ?_
  refine kv (g1 (decide_eq_true c1)) (leq) ?_
  refine kv g0 (pkT (decide_eq_true c1)) ?_
  refine kv g0 (asg) ?_
  refine wk_end ?_
  refine ac_next ?_
  refine aw_ret ?_
  obtain rfl := Option.some.inj H
  exact acr hE [.tmp 6] (.tmp .nil) (.one _) [] 9999
 rw [if_neg c1] at H
 refine kx (hT (decide_eq_false c1)) ?_
 refine kx (hT (decide_eq_false c1)) ?_
 refine kx (hT (decide_eq_false c1)) ?_
 refine kv g0 (pkF (decide_eq_false c1)) ?_
 refine kv g0 (asg) ?_
 refine wk_end ?_
 refine ac_next ?_
 refine aw_ret ?_
 obtain rfl := Option.some.inj H
 exact acr hE [.tmp 6] (.tmp .nil) (.one _) [] 9999
/-! impl_isPid -/
def impl_isPid.f (a0 : Int) : Option (Bool) := (impl_within.f a0 0 2).bind fun t1 => some t1
theorem impl_isPid.ok {a0 : Int} {r : Bool} (H : impl_isPid.f a0 = some r) : ACalls Try.prog 56 [] [.lit (.int .i64 a0)] [] (.lit (.bool r)) := by
 refine acalls (fn := Try.f56) (nt := 5) Try.func56 rfl rfl (Nat.le_of_ble_eq_true rfl) fun E hE => ?_
 rw [impl_isPid.f] at H
 refine aw_grp1 ?_
 refine wk_start ?_
 refine kv g0 (asg) ?_
 refine wk_end ?_
 refine ac_next ?_
 refine aw_grp1 ?_
 refine wk_start ?_
 refine kv g0 (mv) ?_
 obtain ⟨t1, A2, H⟩ := of_bind H
 refine kcS0 4 (.lit (.bool t1)) [] g0 (cal (impl_within.ok A2) [] 9999 .n (hf := Try.func55)) rfl rfl ?_
 refine kv g0 (asg) ?_
 refine wk_end ?_
 refine ac_next ?_
 refine aw_ret ?_
 obtain rfl := Option.some.inj H
 exact acr hE [.tmp 2] (.tmp .nil) (.one _) [] 9999
/-! impl_HalfOk -/
def impl_HalfOk.f (a0 : Int) : Option (Bool) := (impl_within.f a0 0 4294967295).bind fun t1 => some t1
theorem impl_HalfOk.ok {a0 : Int} {r : Bool} (H : impl_HalfOk.f a0 = some r) : ACalls Try.prog 113 [] [.lit (.int .i64 a0)] [] (.lit (.bool r)) := by
 refine acalls (fn := Try.f113) (nt := 5) Try.func113 rfl rfl (Nat.le_of_ble_eq_true rfl) fun E hE => ?_
 rw [impl_HalfOk.f] at H
 refine aw_grp1 ?_
 refine wk_start ?_
 refine kv g0 (asg) ?_
 refine wk_end ?_
 refine ac_next ?_
 refine aw_grp1 ?_
 refine wk_start ?_
 refine kv g0 (mv) ?_
 obtain ⟨t1, A2, H⟩ := of_bind H
 refine kcS0 4 (.lit (.bool t1)) [] g0 (cal (impl_within.ok A2) [] 9999 .n (hf := Try.func55)) rfl rfl ?_
 refine kv g0 (asg) ?_
 refine wk_end ?_
 refine ac_next ?_
 refine aw_ret ?_
 obtain rfl := Option.some.inj H
 exact acr hE [.tmp 2] (.tmp .nil) (.one _) [] 9999
/-! impl_ItemOk -/
def impl_ItemOk.f (a0_0 : Int) (a0_1 : Int) (a0_2 : Int) (a0_3 : Int) : Option (Bool) := if a0_0 = 1 then ((impl_HalfOk.f a0_1).bind fun t2 => (if t2 = true then ((impl_HalfOk.f a0_2).bind fun t5 => (if t5 = true then some (a0_3 == 0) else some false)) else some false)) else if a0_0 = 2 then ((impl_within.f a0_3 1 1000000000).bind fun t9 => (if t9 = true then (if a0_1 = 0 then some (a0_2 == 0) else some false) else some false)) else some false
theorem impl_ItemOk.ok {a0_0 : Int} {a0_1 : Int} {a0_2 : Int} {a0_3 : Int} {r : Bool} (H : impl_ItemOk.f a0_0 a0_1 a0_2 a0_3 = some r) : ACalls Try.prog 57 [] [.agg [.lit (.int .i64 a0_0), .lit (.int .i64 a0_1), .lit (.int .i64 a0_2), .lit (.int .i64 a0_3)]] [] (.lit (.bool r)) := by
 refine acalls (fn := Try.f57) (nt := 35) Try.func57 rfl rfl (Nat.le_of_ble_eq_true rfl) fun E hE => ?_
 rw [impl_ItemOk.f] at H
 refine aw_grp1 ?_
 refine wk_start ?_
 refine kb g0 (bxA 0) ?_
 refine kv g0 (asg) ?_
 refine wk_end ?_
 refine ac_next ?_
 refine aw_grp1 ?_
 refine aw_grp1 ?_
 refine wk_start ?_
 refine kv g0 (faB 0 0) ?_
 refine kv g0 (ldB) ?_
 refine wk_end ?_
 refine ac_next ?_
 refine aw_block ?_
 refine aw_grp1 ?_
 refine wk_start ?_
 refine kv g0 (eql) ?_
 refine kv g0 (asg) ?_
 refine wk_end ?_
 refine ac_next ?_
 by_cases c1 : a0_0 = 1
 ·rw [if_pos c1] at H
  refine aw_ifT ?_ (eT c1)
  refine aw_grp1 ?_
  refine wk_start ?_
  refine kv g0 (faB 1 1) ?_
  refine kv g0 (ldB) ?_
  obtain ⟨t2, A3, H⟩ := of_bind H
  refine kcS0 9 (.lit (.bool t2)) [] g0 (cal (impl_HalfOk.ok A3) [] 9999 .n (hf := Try.func113)) rfl rfl ?_
  refine kv g0 (mv) ?_
  by_cases c4 : t2 = true
  ·rw [if_pos c4] at H
   refine kv (g1 c4) (faB 2 2) ?_
   refine kv (g1 c4) (ldB) ?_
   obtain ⟨t5, A6, H⟩ := of_bind H
   refine kcS0 13 (.lit (.bool t5)) [] (g1 c4) (cal (impl_HalfOk.ok A6) [] 9999 .n (hf := Try.func113)) rfl rfl ?_
   refine kv g0 (pkT c4) ?_
   refine kv g0 (mv) ?_
   by_cases c7 : t5 = true
   ·rw [if_pos c7] at H
    refine kv (g1 c7) (faB 3 3) ?_
    refine kv (g1 c7) (ldB) ?_
    refine kv (g1 c7) (eql) ?_
    refine kv g0 (pkT c7) ?_
    refine kv g0 (asg) ?_
    refine wk_end ?_
    refine ac_next ?_
    refine aw_ret ?_
    refine ac_blkR ?_
    refine ac_thenR ?_
    obtain rfl := Option.some.inj H
    exact acr hE [.tmp 2] (.tmp .nil) (.one _) [] 9999
   rw [if_neg c7] at H
   refine kx (hT (bF c7)) ?_
   refine kx (hT (bF c7)) ?_
   refine kx (hT (bF c7)) ?_
   refine kv g0 (pkF (bF c7)) ?_
   refine kv g0 (asg) ?_
   refine wk_end ?_
   refine ac_next ?_
   refine aw_ret ?_
   refine ac_blkR ?_
   refine ac_thenR ?_
   obtain rfl := Option.some.inj H
   exact acr hE [.tmp 2] (.tmp .nil) (.one _) [] 9999
  rw [if_neg c4] at H
  refine kx (hT (bF c4)) ?_
  refine kx (hT (bF c4)) ?_
  refine kx (hT (bF c4)) ?_
  refine kv g0 (pkF (bF c4)) ?_
  refine kv g0 (mv) ?_
  refine kx (hT rfl) ?_
  refine kx (hT rfl) ?_
  refine kx (hT rfl) ?_
  refine kv g0 (pkF rfl) ?_
  refine kv g0 (asg) ?_
  refine wk_end ?_
  refine ac_next ?_
  refine aw_ret ?_
  refine ac_blkR ?_
  refine ac_thenR ?_
  obtain rfl := Option.some.inj H
  exact acr hE [.tmp 2] (.tmp .nil) (.one _) [] 9999
 rw [if_neg c1] at H
 refine aw_ifF ?_ (eF c1)
 refine aw_grp1 ?_
 refine wk_start ?_
 refine kv g0 (eql) ?_
 refine kv g0 (asg) ?_
 refine wk_end ?_
 refine ac_next ?_
 by_cases c8 : a0_0 = 2
 ·rw [if_pos c8] at H
  refine aw_ifT ?_ (eT c8)
  refine aw_grp1 ?_
  refine wk_start ?_
  refine kv g0 (faB 3 3) ?_
  refine kv g0 (ldB) ?_
  obtain ⟨t9, A10, H⟩ := of_bind H
  refine kcS0 24 (.lit (.bool t9)) [] g0 (cal (impl_within.ok A10) [] 9999 .n (hf := Try.func55)) rfl rfl ?_
  refine kv g0 (mv) ?_
  by_cases c11 : t9 = true
  ·rw [if_pos c11] at H
   refine kv (g1 c11) (faB 1 1) ?_
   refine kv (g1 c11) (ldB) ?_
   refine kv (g1 c11) (eql) ?_
   refine kv g0 (pkT c11) ?_
   refine kv g0 (mv) ?_
   by_cases c12 : a0_1 = 0
   ·rw [if_pos c12] at H
    refine kv (g1 (eT c12)) (faB 2 2) ?_
    refine kv (g1 (eT c12)) (ldB) ?_
    refine kv (g1 (eT c12)) (eql) ?_
    refine kv g0 (pkT (eT c12)) ?_
    refine kv g0 (asg) ?_
    refine wk_end ?_
    refine ac_next ?_
    refine aw_ret ?_
    refine ac_blkR ?_
    refine ac_thenR ?_
    obtain rfl := Option.some.inj H
    exact acr hE [.tmp 2] (.tmp .nil) (.one _) [] 9999
   rw [if_neg c12] at H
   refine kx (hT (eF c12)) ?_
   refine kx (hT (eF c12)) ?_
   refine kx (hT (eF c12)) ?_
   refine kv g0 (pkF (eF c12)) ?_
   refine kv g0 (asg) ?_
   refine wk_end ?_
   refine ac_next ?_
   refine aw_ret ?_
   refine ac_blkR ?_
   refine ac_thenR ?_
   obtain rfl := Option.some.inj H
   exact acr hE [.tmp 2] (.tmp .nil) (.one _) [] 9999
  rw [if_neg c11] at H
  refine kx (hT (bF c11)) ?_
  refine kx (hT (bF c11)) ?_
  refine kx (hT (bF c11)) ?_
  refine kv g0 (pkF (bF c11)) ?_
  refine kv g0 (mv) ?_
  refine kx (hT rfl) ?_
  refine kx (hT rfl) ?_
  refine kx (hT rfl) ?_
  refine kv g0 (pkF rfl) ?_
  refine kv g0 (asg) ?_
  refine wk_end ?_
  refine ac_next ?_
  refine aw_ret ?_
  refine ac_blkR ?_
  refine ac_thenR ?_
  obtain rfl := Option.some.inj H
  exact acr hE [.tmp 2] (.tmp .nil) (.one _) [] 9999
 rw [if_neg c8] at H
 refine aw_ifF ?_ (eF c8)
 refine aw_skip ?_
 refine ac_blkN ?_
 refine ac_next ?_
 refine aw_grp1 ?_
 refine wk_start ?_
 refine kv g0 (asg) ?_
 refine wk_end ?_
 refine ac_next ?_
 refine aw_ret ?_
 obtain rfl := Option.some.inj H
 exact acr hE [.tmp 2] (.tmp .nil) (.one _) [] 9999
/-! impl_FrameOk -/
def impl_FrameOk.f (a0_0 : Int) (a0_1 : Int) (a0_2 : Int) (a0_3 : Int) (a0_4 : Int) (a0_5 : Int) (a0_6 : Int) : Option (Bool) := (impl_isPid.f a0_1).bind fun t1 => (if t1 = true then ((impl_within.f a0_2 1 1000000000).bind fun t4 => if t4 = true then if a0_0 = 1 then ((impl_ItemOk.f a0_3 a0_4 a0_5 a0_6).bind fun t8 => some t8) else if a0_0 = 2 then some (a0_3 == 0 && (a0_4 == 0 && (a0_5 == 0 && (a0_6 == 0)))) else some false else some false) else some false)
theorem impl_FrameOk.ok {a0_0 : Int} {a0_1 : Int} {a0_2 : Int} {a0_3 : Int} {a0_4 : Int} {a0_5 : Int} {a0_6 : Int} {r : Bool} (H : impl_FrameOk.f a0_0 a0_1 a0_2 a0_3 a0_4 a0_5 a0_6 = some r) : ACalls Try.prog 49 [] [.agg [.lit (.int .i64 a0_0), .lit (.int .i64 a0_1), .lit (.int .i64 a0_2), .lit (.int .i64 a0_3), .lit (.int .i64 a0_4), .lit (.int .i64 a0_5), .lit (.int .i64 a0_6)]] [] (.lit (.bool r)) := by
 refine acalls (fn := Try.f49) (nt := 26) Try.func49 rfl rfl (Nat.le_of_ble_eq_true rfl) fun E hE => ?_
 rw [impl_FrameOk.f] at H
 refine aw_grp1 ?_
 refine wk_start ?_
 refine kb g0 (bxA 0) ?_
 refine kv g0 (asg) ?_
 refine wk_end ?_
 refine ac_next ?_
 refine aw_grp1 ?_
 refine aw_grp1 ?_
 refine wk_start ?_
 refine kv g0 (faB 1 1) ?_
 refine kv g0 (ldB) ?_
 obtain ⟨t1, A2, H⟩ := of_bind H
 refine kcS0 5 (.lit (.bool t1)) [] g0 (cal (impl_isPid.ok A2) [] 9999 .n (hf := Try.func56)) rfl rfl ?_
 refine kv g0 (not_) ?_
 refine kv g0 (mv) ?_
 by_cases c3 : t1 = true
 ·rw [if_pos c3] at H
  refine kv (g1 (nF c3)) (faB 2 2) ?_
  refine kv (g1 (nF c3)) (ldB) ?_
  obtain ⟨t4, A5, H⟩ := of_bind H
  refine kcS0 10 (.lit (.bool t4)) [] (g1 (nF c3)) (cal (impl_within.ok A5) [] 9999 .n (hf := Try.func55)) rfl rfl ?_
  refine kv (g1 (nF c3)) (not_) ?_
  refine kv g0 (pkF (nF c3)) ?_
  refine wk_end ?_
  refine ac_next ?_
  by_cases c6 : t4 = true
  ·rw [if_pos c6] at H
   refine aw_ifF ?_ (nF c6)
   refine aw_skip ?_
   refine ac_next ?_
   refine aw_grp1 ?_
   refine aw_grp1 ?_
   refine wk_start ?_
   refine kv g0 (faB 0 0) ?_
   refine kv g0 (ldB) ?_
   refine wk_end ?_
   refine ac_next ?_
   refine aw_block ?_
   refine aw_grp1 ?_
   refine wk_start ?_
   refine kv g0 (eql) ?_
   refine kv g0 (asg) ?_
   refine wk_end ?_
   refine ac_next ?_
   by_cases c7 : a0_0 = 1
   ·rw [if_pos c7] at H
    refine aw_ifT ?_ (eT c7)
    refine aw_grp1 ?_
    refine wk_start ?_
    refine kv g0 (faB 3 3) ?_
    refine kv g0 (ldBA 4 [.lit (.int .i64 a0_3), .lit (.int .i64 a0_4), .lit (.int .i64 a0_5), .lit (.int .i64 a0_6)]) ?_
    obtain ⟨t8, A9, H⟩ := of_bind H
    refine kcS0 19 (.lit (.bool t8)) [] g0 (cal (impl_ItemOk.ok A9) [] 9999 .n (hf := Try.func57)) rfl rfl ?_
    refine kv g0 (asg) ?_
    refine wk_end ?_
    refine ac_next ?_
    refine aw_ret ?_
    refine ac_blkR ?_
    refine ac_thenR ?_
    obtain rfl := Option.some.inj H
    exact acr hE [.tmp 2] (.tmp .nil) (.one _) [] 9999
   rw [if_neg c7] at H
   refine aw_ifF ?_ (eF c7)
   refine aw_grp1 ?_
   refine wk_start ?_
   refine kv g0 (eql) ?_
   refine kv g0 (asg) ?_
   refine wk_end ?_
   refine ac_next ?_
   by_cases c10 : a0_0 = 2
   ·rw [if_pos c10] at H
    refine aw_ifT ?_ (eT c10)
    refine aw_grp1 ?_
    refine wk_start ?_
    refine kv g0 (faB 3 3) ?_
    refine kv g0 (ldBA 4 [.lit (.int .i64 a0_3), .lit (.int .i64 a0_4), .lit (.int .i64 a0_5), .lit (.int .i64 a0_6)]) ?_
    refine kv g0 (bld [(0, 1), (1, 1), (2, 1), (3, 1)] [.int .i64 0, .int .i64 0, .int .i64 0, .int .i64 0] [.lit (.int .i64 0), .lit (.int .i64 0), .lit (.int .i64 0), .lit (.int .i64 0)]) ?_
    refine kv g0 (eqS (fun w => eq34 _ w a0_3 a0_4 a0_5 a0_6 0 0 0 0)) ?_
    refine kv g0 (asg) ?_
    refine wk_end ?_
    refine ac_next ?_
    refine aw_ret ?_
    refine ac_blkR ?_
    refine ac_thenR ?_
    obtain rfl := Option.some.inj H
    exact acr hE [.tmp 2] (.tmp .nil) (.one _) [] 9999
   rw [if_neg c10] at H
   refine aw_ifF ?_ (eF c10)
   refine aw_skip ?_
   refine ac_blkN ?_
   refine ac_next ?_
   refine aw_grp1 ?_
   refine wk_start ?_
   refine kv g0 (asg) ?_
   refine wk_end ?_
   refine ac_next ?_
   refine aw_ret ?_
   obtain rfl := Option.some.inj H
   exact acr hE [.tmp 2] (.tmp .nil) (.one _) [] 9999
  rw [if_neg c6] at H
  refine aw_ifT ?_ (nT (bF c6))
  refine aw_grp1 ?_
  refine wk_start ?_
  refine kv g0 (asg) ?_
  refine wk_end ?_
  refine ac_next ?_
  refine aw_ret ?_
  refine ac_thenR ?_
  obtain rfl := Option.some.inj H
  exact acr hE [.tmp 2] (.tmp .nil) (.one _) [] 9999
 rw [if_neg c3] at H
 refine kx (hF (nT (bF c3))) ?_
 refine kx (hF (nT (bF c3))) ?_
 refine kx (hF (nT (bF c3))) ?_
 refine kx (hF (nT (bF c3))) ?_
 refine kv g0 (pkT (nT (bF c3))) ?_
 refine wk_end ?_
 refine ac_next ?_
 refine aw_ifT ?_ rfl
 refine aw_grp1 ?_
 refine wk_start ?_
 refine kv g0 (asg) ?_
 refine wk_end ?_
 refine ac_next ?_
 refine aw_ret ?_
 refine ac_thenR ?_
 obtain rfl := Option.some.inj H
 exact acr hE [.tmp 2] (.tmp .nil) (.one _) [] 9999
/-! impl_earlyAt -/
def impl_earlyAt.l0 : Nat → (List S97) → Int → Int → Int → Option (Int)
 | 0, _, _, _, _ => none
 | k6 + 1, l0, a1, a2, p5 => if p5 < (l0.length : Int) then if 0 ≤ p5 then if ((rd_T97 l0 p5).f0) = a1 then if ((rd_T97 l0 p5).f1) = a2 then some p5 else impl_earlyAt.l0 k6 l0 a1 a2 (wrap64 (p5 + 1)) else impl_earlyAt.l0 k6 l0 a1 a2 (wrap64 (p5 + 1)) else none else some (-1)
def impl_earlyAt.f (k : Nat) (l0 : List S97) (a1 : Int) (a2 : Int) : Option (Int) := impl_earlyAt.l0 k l0 a1 a2 0
theorem impl_earlyAt.ok {k : Nat} {l0 : List S97} {a1 : Int} {a2 : Int} {r : Int} (H : impl_earlyAt.f k l0 a1 a2 = some r) : ACalls Try.prog 54 [] [.sl .o 6 (l0.map e97), .lit (.int .i64 a1), .lit (.int .i64 a2)] [] (.lit (.int .i64 r)) := by
 refine acalls (fn := Try.f54) (nt := 28) Try.func54 rfl rfl (Nat.le_of_ble_eq_true rfl) fun E hE => ?_
 rw [impl_earlyAt.f] at H
 refine aw_grp1 ?_
 refine wk_start ?_
 refine kv g0 (asg) ?_
 refine wk_end ?_
 refine ac_next ?_
 refine aw_grp1 ?_
 refine aw_grp1 ?_
 refine wk_start ?_
 refine kv g0 (mv) ?_
 refine kv g0 (lnS lenE) ?_
 refine kv g0 (mv) ?_
 refine wk_end ?_
 refine ac_next ?_
 refine aw_block ?_
 refine aw_loop1 (fun (k_ : Nat) (p5 : Int) => k_ ≤ k ∧ impl_earlyAt.l0 k_ l0 a1 a2 p5 = some r) (fun (p5 : Int) => ⟨[(1, .lit (.int .i64 a1)), (2, .lit (.int .i64 a2)), (9, .sl .o 6 (l0.map e97)), (10, .lit (.int .i64 (l0.length : Int))), (11, .lit (.int .i64 p5))], []⟩) k 0 ⟨Nat.le_refl _, H⟩ (fun K_ h_ => acw hE [] 9999 h_) (fun _ => by intro h_; have h_ := h_.2; rw [impl_earlyAt.l0.eq_1] at h_; cases h_) ?_
 intro k6 p5 hq_ K11 hK12
 have hk6 := hq_.1
 have H := hq_.2
 clear hq_
 rw [impl_earlyAt.l0.eq_2] at H
 refine aw_grp1 ?_
 refine wk_start ?_
 refine kv g0 (lss) ?_
 refine wk_end ?_
 refine ac_next ?_
 refine aw_grp1 ?_
 by_cases c7 : p5 < (l0.length : Int)
 ·rw [if_pos c7] at H
  refine aw_ifT ?_ (decide_eq_true c7)
  refine aw_skip ?_
  refine ac_next ?_
  refine aw_grp1 ?_
  refine aw_block ?_
  refine aw_grp1 ?_
  refine wk_start ?_
  refine kv g0 (mv) ?_
  obtain ⟨c8, H⟩ := of_if H
  refine kv g0 (ixS 97 (e97 (rd_T97 l0 p5)) c8 (getE (z := z97) c8 c7)) ?_
  refine kv g0 (ldRA 6 [.lit (.int .i64 ((rd_T97 l0 p5).f0)), .lit (.int .i64 ((rd_T97 l0 p5).f1)), .lit (.int .i64 ((rd_T97 l0 p5).f2.f0)), .lit (.int .i64 ((rd_T97 l0 p5).f2.f1)), .lit (.int .i64 ((rd_T97 l0 p5).f2.f2)), .lit (.int .i64 ((rd_T97 l0 p5).f2.f3))]) ?_
  refine kb g0 (alc 0 [.int .i64 0, .int .i64 0, .int .i64 0, .int .i64 0, .int .i64 0, .int .i64 0] [.lit (.int .i64 0), .lit (.int .i64 0), .lit (.int .i64 0), .lit (.int .i64 0), .lit (.int .i64 0), .lit (.int .i64 0)]) ?_
  refine kv g0 (asg) ?_
  refine ks g0 (stB 6 [.lit (.int .i64 ((rd_T97 l0 p5).f0)), .lit (.int .i64 ((rd_T97 l0 p5).f1)), .lit (.int .i64 ((rd_T97 l0 p5).f2.f0)), .lit (.int .i64 ((rd_T97 l0 p5).f2.f1)), .lit (.int .i64 ((rd_T97 l0 p5).f2.f2)), .lit (.int .i64 ((rd_T97 l0 p5).f2.f3))]) ?_
  refine wk_end ?_
  refine ac_next ?_
  refine aw_grp1 ?_
  refine wk_start ?_
  refine kv g0 (faB 0 0) ?_
  refine kv g0 (ldB) ?_
  refine kv g0 (mv) ?_
  refine kv g0 (eql) ?_
  refine kv g0 (mv) ?_
  by_cases c9 : ((rd_T97 l0 p5).f0) = a1
  ·rw [if_pos c9] at H
   refine kv (g1 (eT c9)) (faB 1 1) ?_
   refine kv (g1 (eT c9)) (ldB) ?_
   refine kv (g1 (eT c9)) (mv) ?_
   refine kv (g1 (eT c9)) (eql) ?_
   refine kv g0 (pkT (eT c9)) ?_
   refine wk_end ?_
   refine ac_next ?_
   by_cases c10 : ((rd_T97 l0 p5).f1) = a2
   ·rw [if_pos c10] at H
    refine aw_ifT ?_ (eT c10)
    refine aw_grp1 ?_
    refine wk_start ?_
    refine kv g0 (mv) ?_
    refine kv g0 (asg) ?_
    refine wk_end ?_
    refine ac_next ?_
    refine aw_ret ?_
    refine ac_blkR ?_
    refine ac_thenR ?_
    refine ac_thenR ?_
    refine ac_blkR ?_
    refine ac_thenR ?_
    obtain rfl := Option.some.inj H
    exact acr hE [.tmp 6] (.tmp .nil) (.one _) [] 9999
   rw [if_neg c10] at H
   refine aw_ifF ?_ (eF c10)
   refine aw_skip ?_
   refine ac_blkN ?_
   refine ac_next ?_
   refine wk_start ?_
   refine kv g0 (add6) ?_
   refine kv g0 (mv) ?_
   refine wk_end ?_
   refine ac_k ?_
   exact acw hE [] 9999 (hK12 k6 (wrap64 (p5 + 1)) (Nat.le_refl _) ⟨by omega, H⟩)
  rw [if_neg c9] at H
  refine kx (hT (eF c9)) ?_
  refine kx (hT (eF c9)) ?_
  refine kx (hT (eF c9)) ?_
  refine kx (hT (eF c9)) ?_
  refine kv g0 (pkF (eF c9)) ?_
  refine wk_end ?_
  refine ac_next ?_
  refine aw_ifF ?_ rfl
  refine aw_skip ?_
  refine ac_blkN ?_
  refine ac_next ?_
  refine wk_start ?_
  refine kv g0 (add6) ?_
  refine kv g0 (mv) ?_
  refine wk_end ?_
  refine ac_k ?_
  exact acw hE [] 9999 (hK12 k6 (wrap64 (p5 + 1)) (Nat.le_refl _) ⟨by omega, H⟩)
 rw [if_neg c7] at H
 refine aw_ifF ?_ (decide_eq_false c7)
 refine aw_exit ?_
 refine ac_then ?_
 refine ac_then ?_
 refine ac_hit rfl ?_
 refine ac_next ?_
 refine aw_grp1 ?_
 refine wk_start ?_
 refine kv g0 (asg) ?_
 refine wk_end ?_
 refine ac_next ?_
 refine aw_ret ?_
 obtain rfl := Option.some.inj H
 exact acr hE [.tmp 6] (.tmp .nil) (.one _) [] 9999
/-! impl_Kept -/
mutual
def impl_Kept.j0 : Nat → Int → Int → Int → Int → Int → Int → Int → ((List S98) × (List Int) × (List S97) × Int × (List Int)) → Bool → Option ((List S98) × (List Int) × (List S97) × Int × (List Int) × Bool)
 | 0, _, _, _, _, _, _, _, _, _ => none
 | k18 + 1, a1_0, a1_1, a1_2, a1_3, a1_4, a1_5, a1_6, t1, p17 => if p17 = true then (if t1.2.2.1.length + ([(⟨a1_1, a1_2, (⟨a1_3, a1_4, a1_5, a1_6⟩ : S34)⟩ : S97)] : List S97).length < 2932031007402 then some (t1.1, t1.2.1, t1.2.2.1 ++ ([(⟨a1_1, a1_2, (⟨a1_3, a1_4, a1_5, a1_6⟩ : S34)⟩ : S97)] : List S97), t1.2.2.2.1, t1.2.2.2.2, false) else none) else some (t1.1, t1.2.1, t1.2.2.1, t1.2.2.2.1, t1.2.2.2.2, false)
def impl_Kept.l0 : Nat → Int → Int → Int → Int → Int → Int → Int → ((List S98) × (List Int) × (List S97) × Int × (List Int)) → (List S98) → (List Int) → (List S97) → Option ((List S98) × (List Int) × (List S97) × Int × (List Int) × Bool)
 | 0, _, _, _, _, _, _, _, _, _, _, _ => none
 | k40 + 1, a1_0, a1_1, a1_2, a1_3, a1_4, a1_5, a1_6, t1, q37, q38, q39 => if (q37.length : Int) < 200 then if a1_1 < (q38.length : Int) then ((impl_earlyAt.f k40 q39 a1_1 (rd q38 a1_1)).bind fun t43 => if t43 < 0 then some (q37, q38, q39, t1.2.2.2.1, t1.2.2.2.2, true) else if 0 ≤ t43 then (if t43 < (q39.length : Int) then if t43 ≤ (q39.length : Int) then (if 0 ≤ (wrap64 (t43 + 1)) then (if (wrap64 (t43 + 1)) ≤ (q39.length : Int) then (if (q39.take t43.toNat).length + (q39.drop (wrap64 (t43 + 1)).toNat).length < 2932031007402 then if q37.length + ([(⟨(rd_T97 q39 t43).f0, (rd_T97 q39 t43).f1, (⟨(rd_T97 q39 t43).f2.f0, (rd_T97 q39 t43).f2.f1, (rd_T97 q39 t43).f2.f2, (rd_T97 q39 t43).f2.f3⟩ : S34)⟩ : S98)] : List S98).length < 2932031007402 then impl_Kept.l0 k40 a1_0 a1_1 a1_2 a1_3 a1_4 a1_5 a1_6 t1 (q37 ++ ([(⟨(rd_T97 q39 t43).f0, (rd_T97 q39 t43).f1, (⟨(rd_T97 q39 t43).f2.f0, (rd_T97 q39 t43).f2.f1, (rd_T97 q39 t43).f2.f2, (rd_T97 q39 t43).f2.f3⟩ : S34)⟩ : S98)] : List S98)) (q38.set a1_1.toNat (wrap64 ((rd q38 a1_1) + 1))) ((q39.take t43.toNat) ++ (q39.drop (wrap64 (t43 + 1)).toNat)) else none else none) else none) else none) else none else none) else none) else none else some (q37, q38, q39, t1.2.2.2.1, t1.2.2.2.2, true)
end
def impl_Kept.f (k : Nat) (l0_0 : List S98) (l0_1 : List Int) (l0_2 : List S97) (a0_3 : Int) (l0_4 : List Int) (a1_0 : Int) (a1_1 : Int) (a1_2 : Int) (a1_3 : Int) (a1_4 : Int) (a1_5 : Int) (a1_6 : Int) : Option ((List S98) × (List Int) × (List S97) × Int × (List Int) × Bool) := (impl_copyKeeper.f l0_0 l0_1 l0_2 a0_3 l0_4).bind fun t1 => (impl_FrameOk.f a1_0 a1_1 a1_2 a1_3 a1_4 a1_5 a1_6).bind fun t3 => (if t3 = true then (if a1_0 = 1 then (if a1_1 ≥ (l0_1.length : Int) then some (t1.1, t1.2.1, t1.2.2.1, t1.2.2.2.1, t1.2.2.2.2, false) else if (l0_0.length : Int) ≥ 200 then some (t1.1, t1.2.1, t1.2.2.1, t1.2.2.2.1, t1.2.2.2.2, false) else if 0 ≤ a1_1 then (if a1_1 < (l0_1.length : Int) then if a1_2 = (rd l0_1 a1_1) then if t1.1.length + ([(⟨a1_1, a1_2, (⟨a1_3, a1_4, a1_5, a1_6⟩ : S34)⟩ : S98)] : List S98).length < 2932031007402 then if a1_1 < (t1.2.1.length : Int) then impl_Kept.l0 k a1_0 a1_1 a1_2 a1_3 a1_4 a1_5 a1_6 t1 (t1.1 ++ ([(⟨a1_1, a1_2, (⟨a1_3, a1_4, a1_5, a1_6⟩ : S34)⟩ : S98)] : List S98)) (t1.2.1.set a1_1.toNat (wrap64 ((rd t1.2.1 a1_1) + 1))) t1.2.2.1 else none else none else (if a1_2 > (rd l0_1 a1_1) then (if a1_2 ≤ (wrap64 ((rd l0_1 a1_1) + 3)) then ((impl_earlyAt.f k l0_2 a1_1 a1_2).bind fun t14 => (if t14 < 0 then impl_Kept.j0 k a1_0 a1_1 a1_2 a1_3 a1_4 a1_5 a1_6 t1 (decide ((l0_2.length : Int) < 3)) else impl_Kept.j0 k a1_0 a1_1 a1_2 a1_3 a1_4 a1_5 a1_6 t1 false)) else impl_Kept.j0 k a1_0 a1_1 a1_2 a1_3 a1_4 a1_5 a1_6 t1 false) else impl_Kept.j0 k a1_0 a1_1 a1_2 a1_3 a1_4 a1_5 a1_6 t1 false) else none) else none) else some (t1.1, t1.2.1, t1.2.2.1, t1.2.2.2.1, t1.2.2.2.2, false)) else some (t1.1, t1.2.1, t1.2.2.1, t1.2.2.2.1, t1.2.2.2.2, false))
theorem impl_Kept.ok {k : Nat} {l0_0 : List S98} {l0_1 : List Int} {l0_2 : List S97} {a0_3 : Int} {l0_4 : List Int} {a1_0 : Int} {a1_1 : Int} {a1_2 : Int} {a1_3 : Int} {a1_4 : Int} {a1_5 : Int} {a1_6 : Int} {r : (List S98) × (List Int) × (List S97) × Int × (List Int) × Bool} (H : impl_Kept.f k l0_0 l0_1 l0_2 a0_3 l0_4 a1_0 a1_1 a1_2 a1_3 a1_4 a1_5 a1_6 = some r) : ACalls Try.prog 11 [] [.agg [.sl .o 6 (l0_0.map e98), .sl .o 1 (l0_1.map (eI .i64)), .sl .o 6 (l0_2.map e97), .lit (.int .i64 a0_3), .sl .o 1 (l0_4.map (eI .i64))], .agg [.lit (.int .i64 a1_0), .lit (.int .i64 a1_1), .lit (.int .i64 a1_2), .lit (.int .i64 a1_3), .lit (.int .i64 a1_4), .lit (.int .i64 a1_5), .lit (.int .i64 a1_6)]] [(0, .row 98 6 (r.1.map e98)), (1, .row 3 1 (r.2.1.map (eI .i64))), (2, .row 97 6 (r.2.2.1.map e97)), (3, .row 3 1 (r.2.2.2.2.1.map (eI .i64)))] (.tup [.agg [.row 0, .row 1, .row 2, .lit (.int .i64 r.2.2.2.1), .row 3], .lit (.bool r.2.2.2.2.2)]) := by
 refine acalls (fn := Try.f11) (nt := 159) Try.func11 rfl rfl (Nat.le_of_ble_eq_true rfl) fun E hE => ?_
 rw [impl_Kept.f] at H
 refine aw_grp1 ?_
 refine wk_start ?_
 refine kb g0 (bxA 0) ?_
 refine kb g0 (bxA 1) ?_
 refine kb g0 (alc 2 [.slice none 0 0, .slice none 0 0, .slice none 0 0, .int .i64 0, .slice none 0 0] [.lit (.slice none 0 0), .lit (.slice none 0 0), .lit (.slice none 0 0), .lit (.int .i64 0), .lit (.slice none 0 0)]) ?_
 refine kv g0 (asg) ?_
 refine wk_end ?_
 refine ac_next ?_
 refine aw_grp1 ?_
 refine wk_start ?_
 refine kv g0 (ldBA 5 [.sl .o 6 (l0_0.map e98), .sl .o 1 (l0_1.map (eI .i64)), .sl .o 6 (l0_2.map e97), .lit (.int .i64 a0_3), .sl .o 1 (l0_4.map (eI .i64))]) ?_
 obtain ⟨t1, A2, H⟩ := of_bind H
 refine kcS4 11 (.agg [.row 3, .row 4, .row 5, .lit (.int .i64 t1.2.2.2.1), .row 6]) [(3, .row 98 6 (t1.1.map e98)), (4, .row 3 1 (t1.2.1.map (eI .i64))), (5, .row 97 6 (t1.2.2.1.map e97)), (6, .row 3 1 (t1.2.2.2.2.map (eI .i64)))] g0 (cal (impl_copyKeeper.ok A2) [3, 4, 5, 6] 9999 .n (hf := Try.func53)) rfl rfl ?_
 refine kb g0 (alc 7 [.slice none 0 0, .slice none 0 0, .slice none 0 0, .int .i64 0, .slice none 0 0] [.lit (.slice none 0 0), .lit (.slice none 0 0), .lit (.slice none 0 0), .lit (.int .i64 0), .lit (.slice none 0 0)]) ?_
 refine ks g0 (stB 5 [.row 3, .row 4, .row 5, .lit (.int .i64 t1.2.2.2.1), .row 6]) ?_
 refine wk_end ?_
 refine ac_next ?_
 refine aw_grp1 ?_
 refine aw_grp1 ?_
 refine wk_start ?_
 refine kv g0 (ldBA 7 [.lit (.int .i64 a1_0), .lit (.int .i64 a1_1), .lit (.int .i64 a1_2), .lit (.int .i64 a1_3), .lit (.int .i64 a1_4), .lit (.int .i64 a1_5), .lit (.int .i64 a1_6)]) ?_
 obtain ⟨t3, A4, H⟩ := of_bind H
 refine kcS0 13 (.lit (.bool t3)) [] g0 (cal (impl_FrameOk.ok A4) [] 9999 .n (hf := Try.func49)) rfl rfl ?_
 refine kv g0 (not_) ?_
 refine kv g0 (mv) ?_
 by_cases c5 : t3 = true
 ·rw [if_pos c5] at H
  refine kv (g1 (nF c5)) (faB 0 0) ?_
  refine kv (g1 (nF c5)) (ldB) ?_
  refine kv (g1 (nF c5)) (neq) ?_
  refine kv g0 (pkF (nF c5)) ?_
  refine kv g0 (mv) ?_
  by_cases c6 : a1_0 = 1
  ·rw [if_pos c6] at H
   refine kv (g1 (eM c6)) (faB 1 1) ?_
   refine kv (g1 (eM c6)) (ldB) ?_
   refine kv (g1 (eM c6)) (faB 1 1) ?_
   refine kv (g1 (eM c6)) (ldB) ?_
   refine kv (g1 (eM c6)) (lnS lenE) ?_
   refine kv (g1 (eM c6)) (geq) ?_
   refine kv g0 (pkF (eM c6)) ?_
   refine kv g0 (mv) ?_
   by_cases c7 : a1_1 ≥ (l0_1.length : Int)
   ·rw [if_pos c7] at H
    refine kx (hF (decide_eq_true c7)) ?_
    refine kx (hF (decide_eq_true c7)) ?_
    refine kx (hF (decide_eq_true c7)) ?_
    refine kx (hF (decide_eq_true c7)) ?_
    refine kv g0 (pkT (decide_eq_true c7)) ?_
    refine wk_end ?_
    refine ac_next ?_
    refine aw_ifT ?_ rfl
    refine aw_grp1 ?_
    refine wk_start ?_
    refine kv g0 (ldBA 5 [.row 3, .row 4, .row 5, .lit (.int .i64 t1.2.2.2.1), .row 6]) ?_
    refine ks g0 (stB 5 [.row 3, .row 4, .row 5, .lit (.int .i64 t1.2.2.2.1), .row 6]) ?_
    refine kv g0 (asg) ?_
    refine wk_end ?_
    refine ac_next ?_
    refine aw_ret ?_
    refine ac_thenR ?_
    obtain rfl := Option.some.inj H
    exact acr hE [.cell 4 29, .tmp 5] (rcA 5 (.tmp .nil)) (.many _ _ _) [(0, 3), (1, 4), (2, 5), (3, 6)] 9999
   rw [if_neg c7] at H
   refine kv (g1 (decide_eq_false c7)) (faB 0 0) ?_
   refine kv (g1 (decide_eq_false c7)) (ldB) ?_
   refine kv (g1 (decide_eq_false c7)) (lnS lenE) ?_
   refine kv (g1 (decide_eq_false c7)) (geq) ?_
   refine kv g0 (pkF (decide_eq_false c7)) ?_
   refine wk_end ?_
   refine ac_next ?_
   by_cases c8 : (l0_0.length : Int) ≥ 200
   ·rw [if_pos c8] at H
    refine aw_ifT ?_ (decide_eq_true c8)
    refine aw_grp1 ?_
    refine wk_start ?_
    refine kv g0 (ldBA 5 [.row 3, .row 4, .row 5, .lit (.int .i64 t1.2.2.2.1), .row 6]) ?_
    refine ks g0 (stB 5 [.row 3, .row 4, .row 5, .lit (.int .i64 t1.2.2.2.1), .row 6]) ?_
    refine kv g0 (asg) ?_
    refine wk_end ?_
    refine ac_next ?_
    refine aw_ret ?_
    refine ac_thenR ?_
    obtain rfl := Option.some.inj H
    exact acr hE [.cell 4 29, .tmp 5] (rcA 5 (.tmp .nil)) (.many _ _ _) [(0, 3), (1, 4), (2, 5), (3, 6)] 9999
   rw [if_neg c8] at H
   refine aw_ifF ?_ (decide_eq_false c8)
   refine aw_skip ?_
   refine ac_next ?_
   refine aw_grp1 ?_
   refine wk_start ?_
   refine kv g0 (faB 1 1) ?_
   refine kv g0 (ldB) ?_
   refine kv g0 (faB 1 1) ?_
   refine kv g0 (ldB) ?_
   obtain ⟨c9, H⟩ := of_if H
   obtain ⟨c10, H⟩ := of_if H
   refine kv g0 (ixS 3 (eI .i64 (rd l0_1 a1_1)) c9 (getE (z := (0 : Int)) c9 c10)) ?_
   refine kv g0 (ldR (.lit (.int .i64 (rd l0_1 a1_1)))) ?_
   refine kv g0 (asg) ?_
   refine wk_end ?_
   refine ac_next ?_
   refine aw_grp1 ?_
   refine aw_grp1 ?_
   refine wk_start ?_
   refine kv g0 (faB 2 2) ?_
   refine kv g0 (ldB) ?_
   refine kv g0 (mv) ?_
   refine kv g0 (neq) ?_
   refine wk_end ?_
   refine ac_next ?_
   by_cases c11 : a1_2 = (rd l0_1 a1_1)
   ·rw [if_pos c11] at H
    refine aw_ifF ?_ (eM c11)
    refine aw_skip ?_
    refine ac_next ?_
    refine aw_grp1 ?_
    refine wk_start ?_
    refine kv g0 (faB 0 0) ?_
    refine kv g0 (ldB) ?_
    refine kv g0 (faB 1 1) ?_
    refine kv g0 (ldB) ?_
    refine kv g0 (faB 2 2) ?_
    refine kv g0 (ldB) ?_
    refine kv g0 (faB 3 3) ?_
    refine kv g0 (ldBA 4 [.lit (.int .i64 a1_3), .lit (.int .i64 a1_4), .lit (.int .i64 a1_5), .lit (.int .i64 a1_6)]) ?_
    refine kv g0 (bld [(0, 1), (1, 1), (2, 4)] [.int .i64 0, .int .i64 0, .int .i64 0, .int .i64 0, .int .i64 0, .int .i64 0] [.lit (.int .i64 a1_1), .lit (.int .i64 a1_2), .lit (.int .i64 a1_3), .lit (.int .i64 a1_4), .lit (.int .i64 a1_5), .lit (.int .i64 a1_6)]) ?_
    refine kb g0 (bsl 10 98 6 [.int .i64 0, .int .i64 0, .int .i64 0, .int .i64 0, .int .i64 0, .int .i64 0] (([(⟨a1_1, a1_2, (⟨a1_3, a1_4, a1_5, a1_6⟩ : S34)⟩ : S98)] : List S98).map e98)) ?_
    obtain ⟨c22, H⟩ := of_if H
    refine kc g0 (apR 11 98 6 48 [.int .i64 0, .int .i64 0, .int .i64 0, .int .i64 0, .int .i64 0, .int .i64 0] ((t1.1 ++ ([(⟨a1_1, a1_2, (⟨a1_3, a1_4, a1_5, a1_6⟩ : S34)⟩ : S98)] : List S98)).map e98) (.row rfl) (apb c22 rfl) appE) ?_
    refine kv g0 (faB 0 0) ?_
    refine ks g0 (stB 1 [.row 11, .row 4, .row 5, .lit (.int .i64 t1.2.2.2.1), .row 6]) ?_
    refine wk_end ?_
    refine ac_next ?_
    refine aw_grp1 ?_
    refine wk_start ?_
    refine kv g0 (faB 1 1) ?_
    refine kv g0 (ldB) ?_
    refine kv g0 (faB 1 1) ?_
    refine kv g0 (ldB) ?_
    obtain ⟨c23, H⟩ := of_if H
    refine kv g0 (ixR 3 c9 (ltE c23)) ?_
    refine kv g0 (ldE (eI .i64 (rd t1.2.1 a1_1)) (.lit (.int .i64 (rd t1.2.1 a1_1))) (getE (z := (0 : Int)) c9 c23)) ?_
    refine kv g0 (add6) ?_
    refine kv g0 (ixR 3 c9 (ltE c23)) ?_
    refine ks g0 (stE 1 (eI .i64 (wrap64 ((rd t1.2.1 a1_1) + 1))) ((t1.2.1.set a1_1.toNat (wrap64 ((rd t1.2.1 a1_1) + 1))).map (eI .i64)) (getE (z := (0 : Int)) c9 c23) setE) ?_
    refine wk_end ?_
    refine ac_next ?_
    refine aw_grp1 ?_
    refine aw_block ?_
    refine aw_loop3 (fun (k_ : Nat) (q37 : List S98) (q38 : List Int) (q39 : List S97) => k_ ≤ k ∧ impl_Kept.l0 k_ a1_0 a1_1 a1_2 a1_3 a1_4 a1_5 a1_6 t1 q37 q38 q39 = some r) (fun (q37 : List S98) (q38 : List Int) (q39 : List S97) => ⟨[(3, .box 1 0), (4, .box 2 0), (6, .box 7 0)], [(1, .box 36 [.lit (.int .i64 a1_0), .lit (.int .i64 a1_1), .lit (.int .i64 a1_2), .lit (.int .i64 a1_3), .lit (.int .i64 a1_4), .lit (.int .i64 a1_5), .lit (.int .i64 a1_6)]), (2, .box 29 [.lit (.slice none 0 0), .lit (.slice none 0 0), .lit (.slice none 0 0), .lit (.int .i64 0), .lit (.slice none 0 0)]), (4, .row 3 1 (q38.map (eI .i64))), (5, .row 97 6 (q39.map e97)), (6, .row 3 1 (t1.2.2.2.2.map (eI .i64))), (7, .box 29 [.row 11, .row 4, .row 5, .lit (.int .i64 t1.2.2.2.1), .row 6]), (11, .row 98 6 (q37.map e98))]⟩) k (t1.1 ++ ([(⟨a1_1, a1_2, (⟨a1_3, a1_4, a1_5, a1_6⟩ : S34)⟩ : S98)] : List S98)) (t1.2.1.set a1_1.toNat (wrap64 ((rd t1.2.1 a1_1) + 1))) t1.2.2.1 ⟨Nat.le_refl _, H⟩ (fun K_ h_ => acw hE [(1, 1), (2, 2), (4, 4), (5, 5), (6, 6), (7, 7), (11, 11)] 9999 h_) (fun _ _ _ => by intro h_; have h_ := h_.2; rw [impl_Kept.l0.eq_1] at h_; cases h_) ?_
    intro k40 q37 q38 q39 hq_ K53 hK54
    have hk40 := hq_.1
    have H := hq_.2
    clear hq_
    rw [impl_Kept.l0.eq_2] at H
    refine aw_grp1 ?_
    refine aw_grp1 ?_
    refine wk_start ?_
    refine kv g0 (faB 0 0) ?_
    refine kv g0 (ldB) ?_
    refine kv g0 (lnR lenE) ?_
    refine kv g0 (lss) ?_
    refine wk_end ?_
    refine ac_next ?_
    by_cases c41 : (q37.length : Int) < 200
    ·rw [if_pos c41] at H
     refine aw_ifT ?_ (decide_eq_true c41)
     refine aw_skip ?_
     refine ac_next ?_
     refine aw_block ?_
     refine aw_grp1 ?_
     refine wk_start ?_
     refine kv g0 (faB 2 2) ?_
     refine kv g0 (ldB) ?_
     refine kv g0 (faB 1 1) ?_
     refine kv g0 (ldB) ?_
     refine kv g0 (faB 1 1) ?_
     refine kv g0 (ldB) ?_
     refine kv g0 (faB 1 1) ?_
     refine kv g0 (ldB) ?_
     obtain ⟨c42, H⟩ := of_if H
     refine kv g0 (ixR 3 c9 (ltE c42)) ?_
     refine kv g0 (ldE (eI .i64 (rd q38 a1_1)) (.lit (.int .i64 (rd q38 a1_1))) (getE (z := (0 : Int)) c9 c42)) ?_
     obtain ⟨t43, A44, H⟩ := of_bind H
     refine kcS0 119 (.lit (.int .i64 t43)) [] g0 (cal (impl_earlyAt.ok A44) [] 9999 .n (hf := Try.func54)) rfl rfl ?_
     refine kv g0 (asg) ?_
     refine wk_end_draw hM (by kernel_rfl) ?_
     refine ac_next ?_
     refine aw_grp1 ?_
     refine aw_grp1 ?_
     refine wk_start ?_
     refine kv g0 (mv) ?_
     refine kv g0 (lss) ?_
     refine wk_end ?_
     refine ac_next ?_
     by_cases c45 : t43 < 0
     ·rw [if_pos c45] at H
      refine aw_ifT ?_ (decide_eq_true c45)
      refine aw_exit ?_
      refine ac_then ?_
      refine ac_miss rfl ?_
      refine ac_then ?_
      refine ac_hit rfl ?_
      refine ac_next ?_
      refine aw_grp1 ?_
      refine wk_start ?_
      refine kv g0 (ldBA 5 [.row 11, .row 4, .row 5, .lit (.int .i64 t1.2.2.2.1), .row 6]) ?_
      refine ks g0 (stB 5 [.row 11, .row 4, .row 5, .lit (.int .i64 t1.2.2.2.1), .row 6]) ?_
      refine kv g0 (asg) ?_
      refine wk_end ?_
      refine ac_next ?_
      refine aw_ret ?_
      obtain rfl := Option.some.inj H
      exact acr hE [.cell 4 29, .tmp 5] (rcA 5 (.tmp .nil)) (.many _ _ _) [(0, 11), (1, 4), (2, 5), (3, 6)] 9999
     rw [if_neg c45] at H
     refine aw_ifF ?_ (decide_eq_false c45)
     refine aw_skip ?_
     refine ac_next ?_
     refine aw_grp1 ?_
     refine wk_start ?_
     refine kv g0 (faB 2 2) ?_
     refine kv g0 (ldB) ?_
     refine kv g0 (mv) ?_
     obtain ⟨c46, H⟩ := of_if H
     obtain ⟨c47, H⟩ := of_if H
     refine kv g0 (ixR 97 c46 (ltE c47)) ?_
     refine kv g0 (ldEA 6 (e97 (rd_T97 q39 t43)) [.lit (.int .i64 ((rd_T97 q39 t43).f0)), .lit (.int .i64 ((rd_T97 q39 t43).f1)), .lit (.int .i64 ((rd_T97 q39 t43).f2.f0)), .lit (.int .i64 ((rd_T97 q39 t43).f2.f1)), .lit (.int .i64 ((rd_T97 q39 t43).f2.f2)), .lit (.int .i64 ((rd_T97 q39 t43).f2.f3))] (getE (z := z97) c46 c47)) ?_
     refine kb g0 (alc 12 [.int .i64 0, .int .i64 0, .int .i64 0, .int .i64 0, .int .i64 0, .int .i64 0] [.lit (.int .i64 0), .lit (.int .i64 0), .lit (.int .i64 0), .lit (.int .i64 0), .lit (.int .i64 0), .lit (.int .i64 0)]) ?_
     refine ks g0 (stB 6 [.lit (.int .i64 ((rd_T97 q39 t43).f0)), .lit (.int .i64 ((rd_T97 q39 t43).f1)), .lit (.int .i64 ((rd_T97 q39 t43).f2.f0)), .lit (.int .i64 ((rd_T97 q39 t43).f2.f1)), .lit (.int .i64 ((rd_T97 q39 t43).f2.f2)), .lit (.int .i64 ((rd_T97 q39 t43).f2.f3))]) ?_
     refine wk_end ?_
     refine ac_next ?_
     refine aw_grp1 ?_
     refine wk_start ?_
     refine kv g0 (faB 2 2) ?_
     refine kv g0 (ldB) ?_
     refine kv g0 (mv) ?_
     obtain ⟨c48, H⟩ := of_if H
     refine kv g0 (srH 97 c46 c48) ?_
     refine kv g0 (faB 2 2) ?_
     refine kv g0 (ldB) ?_
     refine kv g0 (mv) ?_
     refine kv g0 (add6) ?_
     obtain ⟨c49, H⟩ := of_if H
     obtain ⟨c50, H⟩ := of_if H
     refine kv g0 (srL 97 c49 c50) ?_
     obtain ⟨c51, H⟩ := of_if H
     refine kc g0 (apS 13 97 6 48 [.int .i64 0, .int .i64 0, .int .i64 0, .int .i64 0, .int .i64 0, .int .i64 0] (((q39.take t43.toNat) ++ (q39.drop (wrap64 (t43 + 1)).toNat)).map e97) (frl c48) (nwS rfl mapD) (apbS c51 (frl' c48) rfl) appS) ?_
     refine kv g0 (faB 2 2) ?_
     refine ks g0 (stB 1 [.row 11, .row 4, .row 13, .lit (.int .i64 t1.2.2.2.1), .row 6]) ?_
     refine wk_end_draw hM (by kernel_rfl) ?_
     refine ac_next ?_
     refine aw_grp1 ?_
     refine wk_start ?_
     refine kv g0 (faB 0 0) ?_
     refine kv g0 (ldB) ?_
     refine kv g0 (faB 0 0) ?_
     refine kv g0 (ldB) ?_
     refine kv g0 (faB 1 1) ?_
     refine kv g0 (ldB) ?_
     refine kv g0 (faB 2 2) ?_
     refine kv g0 (ldBA 4 [.lit (.int .i64 ((rd_T97 q39 t43).f2.f0)), .lit (.int .i64 ((rd_T97 q39 t43).f2.f1)), .lit (.int .i64 ((rd_T97 q39 t43).f2.f2)), .lit (.int .i64 ((rd_T97 q39 t43).f2.f3))]) ?_
     refine kv g0 (bld [(0, 1), (1, 1), (2, 4)] [.int .i64 0, .int .i64 0, .int .i64 0, .int .i64 0, .int .i64 0, .int .i64 0] [.lit (.int .i64 ((rd_T97 q39 t43).f0)), .lit (.int .i64 ((rd_T97 q39 t43).f1)), .lit (.int .i64 ((rd_T97 q39 t43).f2.f0)), .lit (.int .i64 ((rd_T97 q39 t43).f2.f1)), .lit (.int .i64 ((rd_T97 q39 t43).f2.f2)), .lit (.int .i64 ((rd_T97 q39 t43).f2.f3))]) ?_
     refine kb g0 (bsl 14 98 6 [.int .i64 0, .int .i64 0, .int .i64 0, .int .i64 0, .int .i64 0, .int .i64 0] (([(⟨(rd_T97 q39 t43).f0, (rd_T97 q39 t43).f1, (⟨(rd_T97 q39 t43).f2.f0, (rd_T97 q39 t43).f2.f1, (rd_T97 q39 t43).f2.f2, (rd_T97 q39 t43).f2.f3⟩ : S34)⟩ : S98)] : List S98).map e98)) ?_
     obtain ⟨c52, H⟩ := of_if H
     refine kc g0 (apR 15 98 6 48 [.int .i64 0, .int .i64 0, .int .i64 0, .int .i64 0, .int .i64 0, .int .i64 0] ((q37 ++ ([(⟨(rd_T97 q39 t43).f0, (rd_T97 q39 t43).f1, (⟨(rd_T97 q39 t43).f2.f0, (rd_T97 q39 t43).f2.f1, (rd_T97 q39 t43).f2.f2, (rd_T97 q39 t43).f2.f3⟩ : S34)⟩ : S98)] : List S98)).map e98) (.row rfl) (apb c52 rfl) appE) ?_
     refine kv g0 (faB 0 0) ?_
     refine ks g0 (stB 1 [.row 15, .row 4, .row 13, .lit (.int .i64 t1.2.2.2.1), .row 6]) ?_
     refine wk_end ?_
     refine ac_next ?_
     refine wk_start ?_
     refine kv g0 (faB 1 1) ?_
     refine kv g0 (ldB) ?_
     refine kv g0 (faB 1 1) ?_
     refine kv g0 (ldB) ?_
     refine kv g0 (ixR 3 c9 (ltE c42)) ?_
     refine kv g0 (ldE (eI .i64 (rd q38 a1_1)) (.lit (.int .i64 (rd q38 a1_1))) (getE (z := (0 : Int)) c9 c42)) ?_
     refine kv g0 (add6) ?_
     refine kv g0 (ixR 3 c9 (ltE c42)) ?_
     refine ks g0 (stE 1 (eI .i64 (wrap64 ((rd q38 a1_1) + 1))) ((q38.set a1_1.toNat (wrap64 ((rd q38 a1_1) + 1))).map (eI .i64)) (getE (z := (0 : Int)) c9 c42) setE) ?_
     refine wk_end ?_
     refine ac_blkN ?_
     refine ac_k ?_
     exact acw hE [(1, 1), (2, 2), (4, 4), (5, 13), (6, 6), (7, 7), (11, 15)] 9999 (hK54 k40 (q37 ++ ([(⟨(rd_T97 q39 t43).f0, (rd_T97 q39 t43).f1, (⟨(rd_T97 q39 t43).f2.f0, (rd_T97 q39 t43).f2.f1, (rd_T97 q39 t43).f2.f2, (rd_T97 q39 t43).f2.f3⟩ : S34)⟩ : S98)] : List S98)) (q38.set a1_1.toNat (wrap64 ((rd q38 a1_1) + 1))) ((q39.take t43.toNat) ++ (q39.drop (wrap64 (t43 + 1)).toNat)) (Nat.le_refl _) ⟨by omega, H⟩)
    rw [if_neg c41] at H
    refine aw_ifF ?_ (decide_eq_false c41)
    refine aw_exit ?_
    refine ac_then ?_
    refine ac_then ?_
    refine ac_hit rfl ?_
    refine ac_next ?_
    refine aw_grp1 ?_
    refine wk_start ?_
    refine kv g0 (ldBA 5 [.row 11, .row 4, .row 5, .lit (.int .i64 t1.2.2.2.1), .row 6]) ?_
    refine ks g0 (stB 5 [.row 11, .row 4, .row 5, .lit (.int .i64 t1.2.2.2.1), .row 6]) ?_
    refine kv g0 (asg) ?_
    refine wk_end ?_
    refine ac_next ?_
    refine aw_ret ?_
    obtain rfl := Option.some.inj H
    exact acr hE [.cell 4 29, .tmp 5] (rcA 5 (.tmp .nil)) (.many _ _ _) [(0, 11), (1, 4), (2, 5), (3, 6)] 9999
   rw [if_neg c11] at H
   refine aw_ifT ?_ (eN c11)
   refine aw_grp1 ?_
   refine aw_cut1 (J := fun K_ => ∀ (k_ : Nat) (p17 : Bool), k_ ≤ k → impl_Kept.j0 k_ a1_0 a1_1 a1_2 a1_3 a1_4 a1_5 a1_6 t1 p17 = some r → ACont E 159 ⟨[(3, .box 1 0), (4, .box 2 0), (6, .box 7 0), (71, .lit (.bool p17))], [(1, .box 36 [.lit (.int .i64 a1_0), .lit (.int .i64 a1_1), .lit (.int .i64 a1_2), .lit (.int .i64 a1_3), .lit (.int .i64 a1_4), .lit (.int .i64 a1_5), .lit (.int .i64 a1_6)]), (2, .box 29 [.lit (.slice none 0 0), .lit (.slice none 0 0), .lit (.slice none 0 0), .lit (.int .i64 0), .lit (.slice none 0 0)]), (3, .row 98 6 (t1.1.map e98)), (4, .row 3 1 (t1.2.1.map (eI .i64))), (5, .row 97 6 (t1.2.2.1.map e97)), (6, .row 3 1 (t1.2.2.2.2.map (eI .i64))), (7, .box 29 [.row 3, .row 4, .row 5, .lit (.int .i64 t1.2.2.2.1), .row 6])]⟩ K_) ?_ ?_
   ·intro K_ hJ21
    refine wk_start ?_
    refine kv g0 (faB 2 2) ?_
    refine kv g0 (ldB) ?_
    refine kv g0 (mv) ?_
    refine kv g0 (gtr) ?_
    refine kv g0 (mv) ?_
    by_cases c12 : a1_2 > (rd l0_1 a1_1)
    ·rw [if_pos c12] at H
     refine kv (g1 (decide_eq_true c12)) (faB 2 2) ?_
     refine kv (g1 (decide_eq_true c12)) (ldB) ?_
     refine kv (g1 (decide_eq_true c12)) (mv) ?_
     refine kv (g1 (decide_eq_true c12)) (add6) ?_
     refine kv (g1 (decide_eq_true c12)) (leq) ?_
     refine kv g0 (pkT (decide_eq_true c12)) ?_
     refine kv g0 (mv) ?_
     by_cases c13 : a1_2 ≤ (wrap64 ((rd l0_1 a1_1) + 3))
     ·rw [if_pos c13] at H
      refine kv (g1 (decide_eq_true c13)) (faB 2 2) ?_
      refine kv (g1 (decide_eq_true c13)) (ldB) ?_
      refine kv (g1 (decide_eq_true c13)) (faB 1 1) ?_
      refine kv (g1 (decide_eq_true c13)) (ldB) ?_
      refine kv (g1 (decide_eq_true c13)) (faB 2 2) ?_
      refine kv (g1 (decide_eq_true c13)) (ldB) ?_
      obtain ⟨t14, A15, H⟩ := of_bind H
      refine kcS0 63 (.lit (.int .i64 t14)) [] (g1 (decide_eq_true c13)) (cal (impl_earlyAt.ok A15) [] 9999 .n (hf := Try.func54)) rfl rfl ?_
      refine kv (g1 (decide_eq_true c13)) (lss) ?_
      refine kv g0 (pkT (decide_eq_true c13)) ?_
      refine kv g0 (mv) ?_
      by_cases c16 : t14 < 0
      ·rw [if_pos c16] at H
       refine kv (g1 (decide_eq_true c16)) (faB 2 2) ?_
       refine kv (g1 (decide_eq_true c16)) (ldB) ?_
       refine kv (g1 (decide_eq_true c16)) (lnS lenE) ?_
       refine kv (g1 (decide_eq_true c16)) (lss) ?_
       refine kv g0 (pkT (decide_eq_true c16)) ?_
       refine wk_end ?_
       refine ac_k ?_
       exact acw hE [(1, 1), (2, 2), (3, 3), (4, 4), (5, 5), (6, 6), (7, 7)] 9999 (hJ21 k (decide ((l0_2.length : Int) < 3)) (Nat.le_refl _) H)
      rw [if_neg c16] at H
      refine kx (hT (decide_eq_false c16)) ?_
      refine kx (hT (decide_eq_false c16)) ?_
      refine kx (hT (decide_eq_false c16)) ?_
      refine kx (hT (decide_eq_false c16)) ?_
      refine kv g0 (pkF (decide_eq_false c16)) ?_
      refine wk_end ?_
      refine ac_k ?_
      exact acw hE [(1, 1), (2, 2), (3, 3), (4, 4), (5, 5), (6, 6), (7, 7)] 9999 (hJ21 k false (Nat.le_refl _) H)
     rw [if_neg c13] at H
     refine kx (hT (decide_eq_false c13)) ?_
     refine kx (hT (decide_eq_false c13)) ?_
     refine kx (hT (decide_eq_false c13)) ?_
     refine kx (hT (decide_eq_false c13)) ?_
     refine kx (hT (decide_eq_false c13)) ?_
     refine kx (hT (decide_eq_false c13)) ?_
     refine kx (hT (decide_eq_false c13)) ?_
     refine kx (hT (decide_eq_false c13)) ?_
     refine kv g0 (pkF (decide_eq_false c13)) ?_
     refine kv g0 (mv) ?_
     refine kx (hT rfl) ?_
     refine kx (hT rfl) ?_
     refine kx (hT rfl) ?_
     refine kx (hT rfl) ?_
     refine kv g0 (pkF rfl) ?_
     refine wk_end ?_
     refine ac_k ?_
     exact acw hE [(1, 1), (2, 2), (3, 3), (4, 4), (5, 5), (6, 6), (7, 7)] 9999 (hJ21 k false (Nat.le_refl _) H)
    rw [if_neg c12] at H
    refine kx (hT (decide_eq_false c12)) ?_
    refine kx (hT (decide_eq_false c12)) ?_
    refine kx (hT (decide_eq_false c12)) ?_
    refine kx (hT (decide_eq_false c12)) ?_
    refine kx (hT (decide_eq_false c12)) ?_
    refine kv g0 (pkF (decide_eq_false c12)) ?_
    refine kv g0 (mv) ?_
    refine kx (hT rfl) ?_
    refine kx (hT rfl) ?_
    refine kx (hT rfl) ?_
    refine kx (hT rfl) ?_
    refine kx (hT rfl) ?_
    refine kx (hT rfl) ?_
    refine kx (hT rfl) ?_
    refine kx (hT rfl) ?_
    refine kv g0 (pkF rfl) ?_
    refine kv g0 (mv) ?_
    refine kx (hT rfl) ?_
    refine kx (hT rfl) ?_
    refine kx (hT rfl) ?_
    refine kx (hT rfl) ?_
    refine kv g0 (pkF rfl) ?_
    refine wk_end ?_
    refine ac_k ?_
    exact acw hE [(1, 1), (2, 2), (3, 3), (4, 4), (5, 5), (6, 6), (7, 7)] 9999 (hJ21 k false (Nat.le_refl _) H)
   intro k_ p17 hk_ H
   rcases k_ with _ | k18
   ·rw [impl_Kept.j0.eq_1] at H; cases H
   have hk18 : k18 ≤ k := by omega
   clear hk_
   rw [impl_Kept.j0.eq_2] at H
   by_cases c19 : p17 = true
   ·rw [if_pos c19] at H
    refine aw_ifT ?_ c19
    refine wk_start ?_
    refine kv g0 (faB 2 2) ?_
    refine kv g0 (ldB) ?_
    refine kv g0 (faB 1 1) ?_
    refine kv g0 (ldB) ?_
    refine kv g0 (faB 2 2) ?_
    refine kv g0 (ldB) ?_
    refine kv g0 (faB 3 3) ?_
    refine kv g0 (ldBA 4 [.lit (.int .i64 a1_3), .lit (.int .i64 a1_4), .lit (.int .i64 a1_5), .lit (.int .i64 a1_6)]) ?_
    refine kv g0 (bld [(0, 1), (1, 1), (2, 4)] [.int .i64 0, .int .i64 0, .int .i64 0, .int .i64 0, .int .i64 0, .int .i64 0] [.lit (.int .i64 a1_1), .lit (.int .i64 a1_2), .lit (.int .i64 a1_3), .lit (.int .i64 a1_4), .lit (.int .i64 a1_5), .lit (.int .i64 a1_6)]) ?_
    refine kb g0 (bsl 8 97 6 [.int .i64 0, .int .i64 0, .int .i64 0, .int .i64 0, .int .i64 0, .int .i64 0] (([(⟨a1_1, a1_2, (⟨a1_3, a1_4, a1_5, a1_6⟩ : S34)⟩ : S97)] : List S97).map e97)) ?_
    obtain ⟨c20, H⟩ := of_if H
    refine kc g0 (apR 9 97 6 48 [.int .i64 0, .int .i64 0, .int .i64 0, .int .i64 0, .int .i64 0, .int .i64 0] ((t1.2.2.1 ++ ([(⟨a1_1, a1_2, (⟨a1_3, a1_4, a1_5, a1_6⟩ : S34)⟩ : S97)] : List S97)).map e97) (.row rfl) (apb c20 rfl) appE) ?_
    refine kv g0 (faB 2 2) ?_
    refine ks g0 (stB 1 [.row 3, .row 4, .row 9, .lit (.int .i64 t1.2.2.2.1), .row 6]) ?_
    refine wk_end ?_
    refine ac_next ?_
    refine aw_grp1 ?_
    refine wk_start ?_
    refine kv g0 (ldBA 5 [.row 3, .row 4, .row 9, .lit (.int .i64 t1.2.2.2.1), .row 6]) ?_
    refine ks g0 (stB 5 [.row 3, .row 4, .row 9, .lit (.int .i64 t1.2.2.2.1), .row 6]) ?_
    refine kv g0 (asg) ?_
    refine wk_end ?_
    refine ac_next ?_
    refine aw_ret ?_
    refine ac_thenR ?_
    obtain rfl := Option.some.inj H
    exact acr hE [.cell 4 29, .tmp 5] (rcA 5 (.tmp .nil)) (.many _ _ _) [(0, 3), (1, 4), (2, 9), (3, 6)] 9999
   rw [if_neg c19] at H
   refine aw_ifF ?_ (bF c19)
   refine aw_skip ?_
   refine ac_next ?_
   refine aw_grp1 ?_
   refine wk_start ?_
   refine kv g0 (ldBA 5 [.row 3, .row 4, .row 5, .lit (.int .i64 t1.2.2.2.1), .row 6]) ?_
   refine ks g0 (stB 5 [.row 3, .row 4, .row 5, .lit (.int .i64 t1.2.2.2.1), .row 6]) ?_
   refine kv g0 (asg) ?_
   refine wk_end ?_
   refine ac_next ?_
   refine aw_ret ?_
   refine ac_thenR ?_
   obtain rfl := Option.some.inj H
   exact acr hE [.cell 4 29, .tmp 5] (rcA 5 (.tmp .nil)) (.many _ _ _) [(0, 3), (1, 4), (2, 5), (3, 6)] 9999
  rw [if_neg c6] at H
  refine kx (hF (eN c6)) ?_
  refine kx (hF (eN c6)) ?_
  refine kx (hF (eN c6)) ?_
  refine kx (hF (eN c6)) ?_
  refine kx (hF (eN c6)) ?_
  refine kx (hF (eN c6)) ?_
  refine kv g0 (pkT (eN c6)) ?_
  refine kv g0 (mv) ?_
  refine kx (hF rfl) ?_
  refine kx (hF rfl) ?_
  refine kx (hF rfl) ?_
  refine kx (hF rfl) ?_
  refine kv g0 (pkT rfl) ?_
  refine wk_end ?_
  refine ac_next ?_
  refine aw_ifT ?_ rfl
  refine aw_grp1 ?_
  refine wk_start ?_
  refine kv g0 (ldBA 5 [.row 3, .row 4, .row 5, .lit (.int .i64 t1.2.2.2.1), .row 6]) ?_
  refine ks g0 (stB 5 [.row 3, .row 4, .row 5, .lit (.int .i64 t1.2.2.2.1), .row 6]) ?_
  refine kv g0 (asg) ?_
  refine wk_end ?_
  refine ac_next ?_
  refine aw_ret ?_
  refine ac_thenR ?_
  obtain rfl := Option.some.inj H
  exact acr hE [.cell 4 29, .tmp 5] (rcA 5 (.tmp .nil)) (.many _ _ _) [(0, 3), (1, 4), (2, 5), (3, 6)] 9999
 rw [if_neg c5] at H
 refine kx (hF (nT (bF c5))) ?_
 refine kx (hF (nT (bF c5))) ?_
 refine kx (hF (nT (bF c5))) ?_
 refine kv g0 (pkT (nT (bF c5))) ?_
 refine kv g0 (mv) ?_
 refine kx (hF rfl) ?_
 refine kx (hF rfl) ?_
 refine kx (hF rfl) ?_
 refine kx (hF rfl) ?_
 refine kx (hF rfl) ?_
 refine kx (hF rfl) ?_
 refine kv g0 (pkT rfl) ?_
 refine kv g0 (mv) ?_
 refine kx (hF rfl) ?_
 refine kx (hF rfl) ?_
 refine kx (hF rfl) ?_
 refine kx (hF rfl) ?_
 refine kv g0 (pkT rfl) ?_
 refine wk_end ?_
 refine ac_next ?_
 refine aw_ifT ?_ rfl
 refine aw_grp1 ?_
 refine wk_start ?_
 refine kv g0 (ldBA 5 [.row 3, .row 4, .row 5, .lit (.int .i64 t1.2.2.2.1), .row 6]) ?_
 refine ks g0 (stB 5 [.row 3, .row 4, .row 5, .lit (.int .i64 t1.2.2.2.1), .row 6]) ?_
 refine kv g0 (asg) ?_
 refine wk_end ?_
 refine ac_next ?_
 refine aw_ret ?_
 refine ac_thenR ?_
 obtain rfl := Option.some.inj H
 exact acr hE [.cell 4 29, .tmp 5] (rcA 5 (.tmp .nil)) (.many _ _ _) [(0, 3), (1, 4), (2, 5), (3, 6)] 9999
/-! impl_KeeperOk -/
mutual
def impl_KeeperOk.l0 : Nat → (List S98) → (List Int) → (List S97) → Int → (List Int) → Int → Option (Bool)
 | 0, _, _, _, _, _, _ => none
 | k18 + 1, l0_0, l0_1, l0_2, a0_3, l0_4, p17 => if p17 < 3 then if 0 ≤ p17 then (if p17 < (l0_1.length : Int) then ((impl_within.f (rd l0_1 p17) 1 1000000000).bind fun t22 => (if t22 = true then (if p17 < (l0_4.length : Int) then ((impl_within.f (rd l0_4 p17) 1 (rd l0_1 p17)).bind fun t26 => if t26 = true then impl_KeeperOk.l0 k18 l0_0 l0_1 l0_2 a0_3 l0_4 (wrap64 (p17 + 1)) else some false) else none) else some false)) else none) else none else impl_KeeperOk.l1 k18 l0_0 l0_1 l0_2 a0_3 l0_4 (List.replicate 3 (0 : Int)) (List.replicate 3 (0 : Int)) 0
def impl_KeeperOk.j0 : Nat → (List S98) → (List Int) → (List S97) → Int → (List Int) → (List Int) → Int → (List Int) → Option (Bool)
 | 0, _, _, _, _, _, _, _, _ => none
 | k66 + 1, l0_0, l0_1, l0_2, a0_3, l0_4, q48, p50, q65 => if ((rd_T98 l0_0 p50).f0) < ((q48.set ((rd_T98 l0_0 p50).f0).toNat (wrap64 ((rd q48 ((rd_T98 l0_0 p50).f0)) + 1))).length : Int) then if ((rd_T98 l0_0 p50).f1) = (rd (q48.set ((rd_T98 l0_0 p50).f0).toNat (wrap64 ((rd q48 ((rd_T98 l0_0 p50).f0)) + 1))) ((rd_T98 l0_0 p50).f0)) then impl_KeeperOk.l1 k66 l0_0 l0_1 l0_2 a0_3 l0_4 (q48.set ((rd_T98 l0_0 p50).f0).toNat (wrap64 ((rd q48 ((rd_T98 l0_0 p50).f0)) + 1))) q65 (wrap64 (p50 + 1)) else some false else none
def impl_KeeperOk.l1 : Nat → (List S98) → (List Int) → (List S97) → Int → (List Int) → (List Int) → (List Int) → Int → Option (Bool)
 | 0, _, _, _, _, _, _, _, _ => none
 | k51 + 1, l0_0, l0_1, l0_2, a0_3, l0_4, q48, q49, p50 => if p50 < (l0_0.length : Int) then if 0 ≤ p50 then (impl_isPid.f ((rd_T98 l0_0 p50).f0)).bind fun t54 => (if t54 = true then ((impl_ItemOk.f ((rd_T98 l0_0 p50).f2.f0) ((rd_T98 l0_0 p50).f2.f1) ((rd_T98 l0_0 p50).f2.f2) ((rd_T98 l0_0 p50).f2.f3)).bind fun t57 => if t57 = true then if 0 ≤ ((rd_T98 l0_0 p50).f0) then (if ((rd_T98 l0_0 p50).f0) < 3 then (if ((rd_T98 l0_0 p50).f0) < (q48.length : Int) then if p50 < a0_3 then (if ((rd_T98 l0_0 p50).f0) < (q49.length : Int) then impl_KeeperOk.j0 k51 l0_0 l0_1 l0_2 a0_3 l0_4 q48 p50 (q49.set ((rd_T98 l0_0 p50).f0).toNat (wrap64 ((rd q49 ((rd_T98 l0_0 p50).f0)) + 1))) else none) else impl_KeeperOk.j0 k51 l0_0 l0_1 l0_2 a0_3 l0_4 q48 p50 q49 else none) else none) else none else some false) else some false) else none else impl_KeeperOk.l2 k51 l0_0 l0_1 l0_2 a0_3 l0_4 q48 q49 0
def impl_KeeperOk.l2 : Nat → (List S98) → (List Int) → (List S97) → Int → (List Int) → (List Int) → (List Int) → Int → Option (Bool)
 | 0, _, _, _, _, _, _, _, _ => none
 | k81 + 1, l0_0, l0_1, l0_2, a0_3, l0_4, q48, q49, p80 => if p80 < 3 then if 0 ≤ p80 then (if p80 < (q48.length : Int) then (if p80 < (l0_1.length : Int) then (if (rd q48 p80) = (wrap64 ((rd l0_1 p80) - 1)) then (if p80 < (q49.length : Int) then (if p80 < (l0_4.length : Int) then if (rd q49 p80) = (wrap64 ((rd l0_4 p80) - 1)) then impl_KeeperOk.l2 k81 l0_0 l0_1 l0_2 a0_3 l0_4 q48 q49 (wrap64 (p80 + 1)) else some false else none) else none) else some false) else none) else none) else none else impl_KeeperOk.l3 k81 l0_0 l0_1 l0_2 a0_3 l0_4 0
def impl_KeeperOk.l3 : Nat → (List S98) → (List Int) → (List S97) → Int → (List Int) → Int → Option (Bool)
 | 0, _, _, _, _, _, _ => none
 | k109 + 1, l0_0, l0_1, l0_2, a0_3, l0_4, p108 => if p108 < (l0_2.length : Int) then if 0 ≤ p108 then (impl_isPid.f ((rd_T97 l0_2 p108).f0)).bind fun t112 => (if t112 = true then ((impl_ItemOk.f ((rd_T97 l0_2 p108).f2.f0) ((rd_T97 l0_2 p108).f2.f1) ((rd_T97 l0_2 p108).f2.f2) ((rd_T97 l0_2 p108).f2.f3)).bind fun t115 => (if t115 = true then (if 0 ≤ ((rd_T97 l0_2 p108).f0) then (if ((rd_T97 l0_2 p108).f0) < (l0_1.length : Int) then (if ((rd_T97 l0_2 p108).f1) ≤ (rd l0_1 ((rd_T97 l0_2 p108).f0)) then some false else (if ((rd_T97 l0_2 p108).f1) > 1000000000 then some false else (if p108 ≤ (l0_2.length : Int) then ((impl_earlyAt.f k109 (l0_2.take p108.toNat) ((rd_T97 l0_2 p108).f0) ((rd_T97 l0_2 p108).f1)).bind fun t123 => if t123 ≥ 0 then some false else impl_KeeperOk.l3 k109 l0_0 l0_1 l0_2 a0_3 l0_4 (wrap64 (p108 + 1))) else none))) else none) else none) else some false)) else some false) else none else some true
end
def impl_KeeperOk.f (k : Nat) (l0_0 : List S98) (l0_1 : List Int) (l0_2 : List S97) (a0_3 : Int) (l0_4 : List Int) : Option (Bool) := if (l0_1.length : Int) = 3 then (if (l0_4.length : Int) = 3 then (if (l0_0.length : Int) > 200 then some false else ((impl_within.f a0_3 0 (l0_0.length : Int)).bind fun t4 => (if t4 = true then if (l0_2.length : Int) > 3 then some false else impl_KeeperOk.l0 k l0_0 l0_1 l0_2 a0_3 l0_4 0 else some false))) else some false) else some false
theorem impl_KeeperOk.ok {k : Nat} {l0_0 : List S98} {l0_1 : List Int} {l0_2 : List S97} {a0_3 : Int} {l0_4 : List Int} {r : Bool} (H : impl_KeeperOk.f k l0_0 l0_1 l0_2 a0_3 l0_4 = some r) : ACalls Try.prog 12 [] [.agg [.sl .o 6 (l0_0.map e98), .sl .o 1 (l0_1.map (eI .i64)), .sl .o 6 (l0_2.map e97), .lit (.int .i64 a0_3), .sl .o 1 (l0_4.map (eI .i64))]] [] (.lit (.bool r)) := by
 refine acalls (fn := Try.f12) (nt := 182) Try.func12 rfl rfl (Nat.le_of_ble_eq_true rfl) fun E hE => ?_
 rw [impl_KeeperOk.f] at H
 refine aw_grp1 ?_
 refine wk_start ?_
 refine kb g0 (bxA 0) ?_
 refine kv g0 (asg) ?_
 refine wk_end ?_
 refine ac_next ?_
 refine aw_grp1 ?_
 refine aw_grp1 ?_
 refine wk_start ?_
 refine kv g0 (faB 1 1) ?_
 refine kv g0 (ldB) ?_
 refine kv g0 (lnS lenE) ?_
 refine kv g0 (neq) ?_
 refine kv g0 (mv) ?_
 by_cases c1 : (l0_1.length : Int) = 3
 ·rw [if_pos c1] at H
  refine kv (g1 (eM c1)) (faB 4 4) ?_
  refine kv (g1 (eM c1)) (ldB) ?_
  refine kv (g1 (eM c1)) (lnS lenE) ?_
  refine kv (g1 (eM c1)) (neq) ?_
  refine kv g0 (pkF (eM c1)) ?_
  refine kv g0 (mv) ?_
  by_cases c2 : (l0_4.length : Int) = 3
  ·rw [if_pos c2] at H
   refine kv (g1 (eM c2)) (faB 0 0) ?_
   refine kv (g1 (eM c2)) (ldB) ?_
   refine kv (g1 (eM c2)) (lnS lenE) ?_
   refine kv (g1 (eM c2)) (gtr) ?_
   refine kv g0 (pkF (eM c2)) ?_
   refine kv g0 (mv) ?_
   by_cases c3 : (l0_0.length : Int) > 200
   ·rw [if_pos c3] at H
    refine kx (hF (decide_eq_true c3)) ?_
    refine kx (hF (decide_eq_true c3)) ?_
    refine kx (hF (decide_eq_true c3)) ?_
    refine kx (hF (decide_eq_true c3)) ?_
    refine kx (hF (decide_eq_true c3)) ?_
    refine kx (hF (decide_eq_true c3)) ?_
    refine kx (hF (decide_eq_true c3)) ?_
    refine kv g0 (pkT (decide_eq_true c3)) ?_
    refine kv g0 (mv) ?_
    refine kx (hF rfl) ?_
    refine kx (hF rfl) ?_
    refine kx (hF rfl) ?_
    refine kx (hF rfl) ?_
    refine kv g0 (pkT rfl) ?_
    refine wk_end ?_
    refine ac_next ?_
    refine aw_ifT ?_ rfl
    refine aw_grp1 ?_
    refine wk_start ?_
    refine kv g0 (asg) ?_
    refine wk_end ?_
    refine ac_next ?_
    refine aw_ret ?_
    refine ac_thenR ?_
    obtain rfl := Option.some.inj H
    exact acr hE [.tmp 2] (.tmp .nil) (.one _) [] 9999
   rw [if_neg c3] at H
   refine kv (g1 (decide_eq_false c3)) (faB 3 3) ?_
   refine kv (g1 (decide_eq_false c3)) (ldB) ?_
   refine kv (g1 (decide_eq_false c3)) (faB 0 0) ?_
   refine kv (g1 (decide_eq_false c3)) (ldB) ?_
   refine kv (g1 (decide_eq_false c3)) (lnS lenE) ?_
   obtain ⟨t4, A5, H⟩ := of_bind H
   refine kcS0 33 (.lit (.bool t4)) [] (g1 (decide_eq_false c3)) (cal (impl_within.ok A5) [] 9999 .n (hf := Try.func55)) rfl rfl ?_
   refine kv (g1 (decide_eq_false c3)) (not_) ?_
   refine kv g0 (pkF (decide_eq_false c3)) ?_
   refine kv g0 (mv) ?_
   by_cases c6 : t4 = true
   ·rw [if_pos c6] at H
    refine kv (g1 (nF c6)) (faB 2 2) ?_
    refine kv (g1 (nF c6)) (ldB) ?_
    refine kv (g1 (nF c6)) (lnS lenE) ?_
    refine kv (g1 (nF c6)) (gtr) ?_
    refine kv g0 (pkF (nF c6)) ?_
    refine wk_end ?_
    refine ac_next ?_
    by_cases c7 : (l0_2.length : Int) > 3
    ·rw [if_pos c7] at H
     refine aw_ifT ?_ (decide_eq_true c7)
     refine aw_grp1 ?_
     refine wk_start ?_
     refine kv g0 (asg) ?_
     refine wk_end ?_
     refine ac_next ?_
     refine aw_ret ?_
     refine ac_thenR ?_
     obtain rfl := Option.some.inj H
     exact acr hE [.tmp 2] (.tmp .nil) (.one _) [] 9999
    rw [if_neg c7] at H
    refine aw_ifF ?_ (decide_eq_false c7)
    refine aw_skip ?_
    refine ac_next ?_
    refine aw_grp1 ?_
    refine aw_grp1 ?_
    refine wk_start ?_
    refine kv g0 (mv) ?_
    refine wk_end ?_
    refine ac_next ?_
    refine aw_block ?_
    refine aw_loop1 (fun (k_ : Nat) (p17 : Int) => k_ ≤ k ∧ impl_KeeperOk.l0 k_ l0_0 l0_1 l0_2 a0_3 l0_4 p17 = some r) (fun (p17 : Int) => ⟨[(1, .box 0 0), (42, .lit (.int .i64 p17))], [(0, .box 29 [.sl .o 6 (l0_0.map e98), .sl .o 1 (l0_1.map (eI .i64)), .sl .o 6 (l0_2.map e97), .lit (.int .i64 a0_3), .sl .o 1 (l0_4.map (eI .i64))])]⟩) k 0 ⟨Nat.le_refl _, H⟩ (fun K_ h_ => acw hE [(0, 0)] 9999 h_) (fun _ => by intro h_; have h_ := h_.2; rw [impl_KeeperOk.l0.eq_1] at h_; cases h_) ?_
    intro k18 p17 hq_ K29 hK30
    have hk18 := hq_.1
    have H := hq_.2
    clear hq_
    rw [impl_KeeperOk.l0.eq_2] at H
    refine aw_grp1 ?_
    refine wk_start ?_
    refine kv g0 (lss) ?_
    refine wk_end ?_
    refine ac_next ?_
    refine aw_grp1 ?_
    by_cases c19 : p17 < 3
    ·rw [if_pos c19] at H
     refine aw_ifT ?_ (decide_eq_true c19)
     refine aw_skip ?_
     refine ac_next ?_
     refine aw_grp1 ?_
     refine aw_block ?_
     refine aw_grp1 ?_
     refine wk_start ?_
     refine kv g0 (mv) ?_
     refine kv g0 (asg) ?_
     refine wk_end ?_
     refine ac_next ?_
     refine aw_grp1 ?_
     refine wk_start ?_
     refine kv g0 (faB 1 1) ?_
     refine kv g0 (ldB) ?_
     refine kv g0 (mv) ?_
     obtain ⟨c20, H⟩ := of_if H
     obtain ⟨c21, H⟩ := of_if H
     refine kv g0 (ixS 3 (eI .i64 (rd l0_1 p17)) c20 (getE (z := (0 : Int)) c20 c21)) ?_
     refine kv g0 (ldR (.lit (.int .i64 (rd l0_1 p17)))) ?_
     obtain ⟨t22, A23, H⟩ := of_bind H
     refine kcS0 50 (.lit (.bool t22)) [] g0 (cal (impl_within.ok A23) [] 9999 .n (hf := Try.func55)) rfl rfl ?_
     refine kv g0 (not_) ?_
     refine kv g0 (mv) ?_
     by_cases c24 : t22 = true
     ·rw [if_pos c24] at H
      refine kv (g1 (nF c24)) (faB 4 4) ?_
      refine kv (g1 (nF c24)) (ldB) ?_
      refine kv (g1 (nF c24)) (mv) ?_
      obtain ⟨c25, H⟩ := of_if H
      refine kv (g1 (nF c24)) (ixS 3 (eI .i64 (rd l0_4 p17)) c20 (getE (z := (0 : Int)) c20 c25)) ?_
      refine kv (g1 (nF c24)) (ldR (.lit (.int .i64 (rd l0_4 p17)))) ?_
      refine kv (g1 (nF c24)) (faB 1 1) ?_
      refine kv (g1 (nF c24)) (ldB) ?_
      refine kv (g1 (nF c24)) (mv) ?_
      refine kv (g1 (nF c24)) (ixS 3 (eI .i64 (rd l0_1 p17)) c20 (getE (z := (0 : Int)) c20 c21)) ?_
      refine kv (g1 (nF c24)) (ldR (.lit (.int .i64 (rd l0_1 p17)))) ?_
      obtain ⟨t26, A27, H⟩ := of_bind H
      refine kcS0 63 (.lit (.bool t26)) [] (g1 (nF c24)) (cal (impl_within.ok A27) [] 9999 .n (hf := Try.func55)) rfl rfl ?_
      refine kv (g1 (nF c24)) (not_) ?_
      refine kv g0 (pkF (nF c24)) ?_
      refine wk_end_draw hM (by kernel_rfl) ?_
      refine ac_next ?_
      by_cases c28 : t26 = true
      ·rw [if_pos c28] at H
       refine aw_ifF ?_ (nF c28)
       refine aw_skip ?_
       refine ac_blkN ?_
       refine ac_next ?_
       refine wk_start ?_
       refine kv g0 (add6) ?_
       refine kv g0 (mv) ?_
       refine wk_end ?_
       refine ac_k ?_
       exact acw hE [(0, 0)] 9999 (hK30 k18 (wrap64 (p17 + 1)) (Nat.le_refl _) ⟨by omega, H⟩)
      rw [if_neg c28] at H
      refine aw_ifT ?_ (nT (bF c28))
      refine aw_grp1 ?_
      refine wk_start ?_
      refine kv g0 (asg) ?_
      refine wk_end ?_
      refine ac_next ?_
      refine aw_ret ?_
      refine ac_blkR ?_
      refine ac_thenR ?_
      refine ac_thenR ?_
      refine ac_blkR ?_
      refine ac_thenR ?_
      obtain rfl := Option.some.inj H
      exact acr hE [.tmp 2] (.tmp .nil) (.one _) [] 9999
     rw [if_neg c24] at H
     refine kx (hF (nT (bF c24))) ?_
     refine kx (hF (nT (bF c24))) ?_
     refine kx (hF (nT (bF c24))) ?_
     refine kx (hF (nT (bF c24))) ?_
     refine kx (hF (nT (bF c24))) ?_
     refine kx (hF (nT (bF c24))) ?_
     refine kx (hF (nT (bF c24))) ?_
     refine kx (hF (nT (bF c24))) ?_
     refine kx (hF (nT (bF c24))) ?_
     refine kx (hF (nT (bF c24))) ?_
     refine kx (hF (nT (bF c24))) ?_
     refine kx (hF (nT (bF c24))) ?_
     refine kv g0 (pkT (nT (bF c24))) ?_
     refine wk_end_draw hM (by kernel_rfl) ?_
     refine ac_next ?_
     refine aw_ifT ?_ rfl
     refine aw_grp1 ?_
     refine wk_start ?_
     refine kv g0 (asg) ?_
     refine wk_end ?_
     refine ac_next ?_
     refine aw_ret ?_
     refine ac_blkR ?_
     refine ac_thenR ?_
     refine ac_thenR ?_
     refine ac_blkR ?_
     refine ac_thenR ?_
     obtain rfl := Option.some.inj H
     exact acr hE [.tmp 2] (.tmp .nil) (.one _) [] 9999
    rw [if_neg c19] at H
    refine aw_ifF ?_ (decide_eq_false c19)
    refine aw_exit ?_
    refine ac_then ?_
    refine ac_then ?_
    refine ac_hit rfl ?_
    refine ac_next ?_
    refine aw_grp1 ?_
    refine wk_start ?_
    refine kb g0 (alc 1 [.int .i64 0, .int .i64 0, .int .i64 0] ((List.replicate 3 (0 : Int)).map (eI .i64))) ?_
    refine kb g0 (alc 2 [.int .i64 0, .int .i64 0, .int .i64 0] ((List.replicate 3 (0 : Int)).map (eI .i64))) ?_
    refine wk_end ?_
    refine ac_next ?_
    refine aw_grp1 ?_
    refine aw_grp1 ?_
    refine wk_start ?_
    refine kv g0 (faB 0 0) ?_
    refine kv g0 (ldB) ?_
    refine kv g0 (lnS lenE) ?_
    refine kv g0 (mv) ?_
    refine wk_end ?_
    refine ac_next ?_
    refine aw_block ?_
    refine aw_loop3 (fun (k_ : Nat) (q48 : List Int) (q49 : List Int) (p50 : Int) => k_ ≤ k18 ∧ impl_KeeperOk.l1 k_ l0_0 l0_1 l0_2 a0_3 l0_4 q48 q49 p50 = some r) (fun (q48 : List Int) (q49 : List Int) (p50 : Int) => ⟨[(1, .box 0 0), (4, .box 1 0), (5, .box 2 0), (68, .sl .o 6 (l0_0.map e98)), (69, .lit (.int .i64 (l0_0.length : Int))), (70, .lit (.int .i64 p50))], [(0, .box 29 [.sl .o 6 (l0_0.map e98), .sl .o 1 (l0_1.map (eI .i64)), .sl .o 6 (l0_2.map e97), .lit (.int .i64 a0_3), .sl .o 1 (l0_4.map (eI .i64))]), (1, .box 100 (q48.map (eI .i64))), (2, .box 100 (q49.map (eI .i64)))]⟩) k18 (List.replicate 3 (0 : Int)) (List.replicate 3 (0 : Int)) 0 ⟨Nat.le_refl _, H⟩ (fun K_ h_ => acw hE [(0, 0), (1, 1), (2, 2)] 9999 h_) (fun _ _ _ => by intro h_; have h_ := h_.2; rw [impl_KeeperOk.l1.eq_1] at h_; cases h_) ?_
    intro k51 q48 q49 p50 hq_ K70 hK71
    have hk51 := hq_.1
    have H := hq_.2
    clear hq_
    rw [impl_KeeperOk.l1.eq_2] at H
    refine aw_grp1 ?_
    refine wk_start ?_
    refine kv g0 (lss) ?_
    refine wk_end ?_
    refine ac_next ?_
    refine aw_grp1 ?_
    by_cases c52 : p50 < (l0_0.length : Int)
    ·rw [if_pos c52] at H
     refine aw_ifT ?_ (decide_eq_true c52)
     refine aw_skip ?_
     refine ac_next ?_
     refine aw_grp1 ?_
     refine aw_block ?_
     refine aw_grp1 ?_
     refine wk_start ?_
     refine kv g0 (mv) ?_
     obtain ⟨c53, H⟩ := of_if H
     refine kv g0 (ixS 98 (e98 (rd_T98 l0_0 p50)) c53 (getE (z := z98) c53 c52)) ?_
     refine kv g0 (ldRA 6 [.lit (.int .i64 ((rd_T98 l0_0 p50).f0)), .lit (.int .i64 ((rd_T98 l0_0 p50).f1)), .lit (.int .i64 ((rd_T98 l0_0 p50).f2.f0)), .lit (.int .i64 ((rd_T98 l0_0 p50).f2.f1)), .lit (.int .i64 ((rd_T98 l0_0 p50).f2.f2)), .lit (.int .i64 ((rd_T98 l0_0 p50).f2.f3))]) ?_
     refine kb g0 (alc 3 [.int .i64 0, .int .i64 0, .int .i64 0, .int .i64 0, .int .i64 0, .int .i64 0] [.lit (.int .i64 0), .lit (.int .i64 0), .lit (.int .i64 0), .lit (.int .i64 0), .lit (.int .i64 0), .lit (.int .i64 0)]) ?_
     refine kv g0 (asg) ?_
     refine ks g0 (stB 6 [.lit (.int .i64 ((rd_T98 l0_0 p50).f0)), .lit (.int .i64 ((rd_T98 l0_0 p50).f1)), .lit (.int .i64 ((rd_T98 l0_0 p50).f2.f0)), .lit (.int .i64 ((rd_T98 l0_0 p50).f2.f1)), .lit (.int .i64 ((rd_T98 l0_0 p50).f2.f2)), .lit (.int .i64 ((rd_T98 l0_0 p50).f2.f3))]) ?_
     refine wk_end ?_
     refine ac_next ?_
     refine aw_grp1 ?_
     refine aw_grp1 ?_
     refine wk_start ?_
     refine kv g0 (faB 0 0) ?_
     refine kv g0 (ldB) ?_
     obtain ⟨t54, A55, H⟩ := of_bind H
     refine kcS0 77 (.lit (.bool t54)) [] g0 (cal (impl_isPid.ok A55) [] 9999 .n (hf := Try.func56)) rfl rfl ?_
     refine kv g0 (not_) ?_
     refine kv g0 (mv) ?_
     by_cases c56 : t54 = true
     ·rw [if_pos c56] at H
      refine kv (g1 (nF c56)) (faB 2 2) ?_
      refine kv (g1 (nF c56)) (ldBA 4 [.lit (.int .i64 ((rd_T98 l0_0 p50).f2.f0)), .lit (.int .i64 ((rd_T98 l0_0 p50).f2.f1)), .lit (.int .i64 ((rd_T98 l0_0 p50).f2.f2)), .lit (.int .i64 ((rd_T98 l0_0 p50).f2.f3))]) ?_
      obtain ⟨t57, A58, H⟩ := of_bind H
      refine kcS0 82 (.lit (.bool t57)) [] (g1 (nF c56)) (cal (impl_ItemOk.ok A58) [] 9999 .n (hf := Try.func57)) rfl rfl ?_
      refine kv (g1 (nF c56)) (not_) ?_
      refine kv g0 (pkF (nF c56)) ?_
      refine wk_end ?_
      refine ac_next ?_
      by_cases c59 : t57 = true
      ·rw [if_pos c59] at H
       refine aw_ifF ?_ (nF c59)
       refine aw_skip ?_
       refine ac_next ?_
       refine aw_grp1 ?_
       refine wk_start ?_
       refine kv g0 (faB 0 0) ?_
       refine kv g0 (ldB) ?_
       obtain ⟨c60, H⟩ := of_if H
       obtain ⟨c61, H⟩ := of_if H
       obtain ⟨c62, H⟩ := of_if H
       refine kv g0 (ixX 3 c60 c61) ?_
       refine kv g0 (ldX (z := (0 : Int)) c60 c62 (.lit (.int .i64 (rd q48 ((rd_T98 l0_0 p50).f0)))) rfl) ?_
       refine kv g0 (add6) ?_
       refine kv g0 (ixX 3 c60 c61) ?_
       refine ks g0 (stX (e := wrap64 ((rd q48 ((rd_T98 l0_0 p50).f0)) + 1)) c60 c62 rfl) ?_
       refine wk_end ?_
       refine ac_next ?_
       refine aw_cut1 (J := fun K_ => ∀ (k_ : Nat) (q65 : List Int), k_ ≤ k51 → impl_KeeperOk.j0 k_ l0_0 l0_1 l0_2 a0_3 l0_4 q48 p50 q65 = some r → ACont E 182 ⟨[(1, .box 0 0), (4, .box 1 0), (5, .box 2 0), (7, .box 3 0), (68, .sl .o 6 (l0_0.map e98)), (69, .lit (.int .i64 (l0_0.length : Int))), (70, .lit (.int .i64 p50))], [(0, .box 29 [.sl .o 6 (l0_0.map e98), .sl .o 1 (l0_1.map (eI .i64)), .sl .o 6 (l0_2.map e97), .lit (.int .i64 a0_3), .sl .o 1 (l0_4.map (eI .i64))]), (1, .box 100 ((q48.set ((rd_T98 l0_0 p50).f0).toNat (wrap64 ((rd q48 ((rd_T98 l0_0 p50).f0)) + 1))).map (eI .i64))), (2, .box 100 (q65.map (eI .i64))), (3, .box 98 [.lit (.int .i64 ((rd_T98 l0_0 p50).f0)), .lit (.int .i64 ((rd_T98 l0_0 p50).f1)), .lit (.int .i64 ((rd_T98 l0_0 p50).f2.f0)), .lit (.int .i64 ((rd_T98 l0_0 p50).f2.f1)), .lit (.int .i64 ((rd_T98 l0_0 p50).f2.f2)), .lit (.int .i64 ((rd_T98 l0_0 p50).f2.f3))])]⟩ K_) ?_ ?_
       ·intro K_ hJ69
        refine aw_grp1 ?_
        refine wk_start ?_
        refine kv g0 (mv) ?_
        refine kv g0 (faB 3 3) ?_
        refine kv g0 (ldB) ?_
        refine kv g0 (lss) ?_
        refine wk_end ?_
        refine ac_next ?_
        by_cases c63 : p50 < a0_3
        ·rw [if_pos c63] at H
         refine aw_ifT ?_ (decide_eq_true c63)
         refine wk_start ?_
         refine kv g0 (faB 0 0) ?_
         refine kv g0 (ldB) ?_
         obtain ⟨c64, H⟩ := of_if H
         refine kv g0 (ixX 3 c60 c61) ?_
         refine kv g0 (ldX (z := (0 : Int)) c60 c64 (.lit (.int .i64 (rd q49 ((rd_T98 l0_0 p50).f0)))) rfl) ?_
         refine kv g0 (add6) ?_
         refine kv g0 (ixX 3 c60 c61) ?_
         refine ks g0 (stX (e := wrap64 ((rd q49 ((rd_T98 l0_0 p50).f0)) + 1)) c60 c64 rfl) ?_
         refine wk_end ?_
         refine ac_k ?_
         exact acw hE [(0, 0), (1, 1), (2, 2), (3, 3)] 9999 (hJ69 k51 (q49.set ((rd_T98 l0_0 p50).f0).toNat (wrap64 ((rd q49 ((rd_T98 l0_0 p50).f0)) + 1))) (Nat.le_refl _) H)
        rw [if_neg c63] at H
        refine aw_ifF ?_ (decide_eq_false c63)
        refine aw_skip ?_
        refine ac_k ?_
        exact acw hE [(0, 0), (1, 1), (2, 2), (3, 3)] 9999 (hJ69 k51 q49 (Nat.le_refl _) H)
       intro k_ q65 hk_ H
       rcases k_ with _ | k66
       ·rw [impl_KeeperOk.j0.eq_1] at H; cases H
       have hk66 : k66 ≤ k51 := by omega
       clear hk_
       rw [impl_KeeperOk.j0.eq_2] at H
       refine aw_grp1 ?_
       refine wk_start ?_
       refine kv g0 (faB 1 1) ?_
       refine kv g0 (ldB) ?_
       refine kv g0 (faB 0 0) ?_
       refine kv g0 (ldB) ?_
       obtain ⟨c67, H⟩ := of_if H
       refine kv g0 (ixX 3 c60 c61) ?_
       refine kv g0 (ldX (z := (0 : Int)) c60 c67 (.lit (.int .i64 (rd (q48.set ((rd_T98 l0_0 p50).f0).toNat (wrap64 ((rd q48 ((rd_T98 l0_0 p50).f0)) + 1))) ((rd_T98 l0_0 p50).f0)))) rfl) ?_
       refine kv g0 (neq) ?_
       refine wk_end_draw hM (by kernel_rfl) ?_
       refine ac_next ?_
       by_cases c68 : ((rd_T98 l0_0 p50).f1) = (rd (q48.set ((rd_T98 l0_0 p50).f0).toNat (wrap64 ((rd q48 ((rd_T98 l0_0 p50).f0)) + 1))) ((rd_T98 l0_0 p50).f0))
       ·rw [if_pos c68] at H
        refine aw_ifF ?_ (eM c68)
        refine aw_skip ?_
        refine ac_blkN ?_
        refine ac_next ?_
        refine wk_start ?_
        refine kv g0 (add6) ?_
        refine kv g0 (mv) ?_
        refine wk_end ?_
        refine ac_k ?_
        exact acw hE [(0, 0), (1, 1), (2, 2)] 9999 (hK71 k66 (q48.set ((rd_T98 l0_0 p50).f0).toNat (wrap64 ((rd q48 ((rd_T98 l0_0 p50).f0)) + 1))) q65 (wrap64 (p50 + 1)) (by omega) ⟨by omega, H⟩)
       rw [if_neg c68] at H
       refine aw_ifT ?_ (eN c68)
       refine aw_grp1 ?_
       refine wk_start ?_
       refine kv g0 (asg) ?_
       refine wk_end ?_
       refine ac_next ?_
       refine aw_ret ?_
       refine ac_blkR ?_
       refine ac_thenR ?_
       refine ac_thenR ?_
       refine ac_blkR ?_
       refine ac_thenR ?_
       obtain rfl := Option.some.inj H
       exact acr hE [.tmp 2] (.tmp .nil) (.one _) [] 9999
      rw [if_neg c59] at H
      refine aw_ifT ?_ (nT (bF c59))
      refine aw_grp1 ?_
      refine wk_start ?_
      refine kv g0 (asg) ?_
      refine wk_end ?_
      refine ac_next ?_
      refine aw_ret ?_
      refine ac_thenR ?_
      refine ac_blkR ?_
      refine ac_thenR ?_
      refine ac_thenR ?_
      refine ac_blkR ?_
      refine ac_thenR ?_
      obtain rfl := Option.some.inj H
      exact acr hE [.tmp 2] (.tmp .nil) (.one _) [] 9999
     rw [if_neg c56] at H
     refine kx (hF (nT (bF c56))) ?_
     refine kx (hF (nT (bF c56))) ?_
     refine kx (hF (nT (bF c56))) ?_
     refine kx (hF (nT (bF c56))) ?_
     refine kv g0 (pkT (nT (bF c56))) ?_
     refine wk_end ?_
     refine ac_next ?_
     refine aw_ifT ?_ rfl
     refine aw_grp1 ?_
     refine wk_start ?_
     refine kv g0 (asg) ?_
     refine wk_end ?_
     refine ac_next ?_
     refine aw_ret ?_
     refine ac_thenR ?_
     refine ac_blkR ?_
     refine ac_thenR ?_
     refine ac_thenR ?_
     refine ac_blkR ?_
     refine ac_thenR ?_
     obtain rfl := Option.some.inj H
     exact acr hE [.tmp 2] (.tmp .nil) (.one _) [] 9999
    rw [if_neg c52] at H
    refine aw_ifF ?_ (decide_eq_false c52)
    refine aw_exit ?_
    refine ac_then ?_
    refine ac_then ?_
    refine ac_hit rfl ?_
    refine ac_next ?_
    refine aw_grp1 ?_
    refine aw_grp1 ?_
    refine wk_start ?_
    refine kv g0 (mv) ?_
    refine wk_end ?_
    refine ac_next ?_
    refine aw_block ?_
    refine aw_loop1 (fun (k_ : Nat) (p80 : Int) => k_ ≤ k51 ∧ impl_KeeperOk.l2 k_ l0_0 l0_1 l0_2 a0_3 l0_4 q48 q49 p80 = some r) (fun (p80 : Int) => ⟨[(1, .box 0 0), (4, .box 1 0), (5, .box 2 0), (109, .lit (.int .i64 p80))], [(0, .box 29 [.sl .o 6 (l0_0.map e98), .sl .o 1 (l0_1.map (eI .i64)), .sl .o 6 (l0_2.map e97), .lit (.int .i64 a0_3), .sl .o 1 (l0_4.map (eI .i64))]), (1, .box 100 (q48.map (eI .i64))), (2, .box 100 (q49.map (eI .i64)))]⟩) k51 0 ⟨Nat.le_refl _, H⟩ (fun K_ h_ => acw hE [(0, 0), (1, 1), (2, 2)] 9999 h_) (fun _ => by intro h_; have h_ := h_.2; rw [impl_KeeperOk.l2.eq_1] at h_; cases h_) ?_
    intro k81 p80 hq_ K90 hK91
    have hk81 := hq_.1
    have H := hq_.2
    clear hq_
    rw [impl_KeeperOk.l2.eq_2] at H
    refine aw_grp1 ?_
    refine wk_start ?_
    refine kv g0 (lss) ?_
    refine wk_end ?_
    refine ac_next ?_
    refine aw_grp1 ?_
    by_cases c82 : p80 < 3
    ·rw [if_pos c82] at H
     refine aw_ifT ?_ (decide_eq_true c82)
     refine aw_skip ?_
     refine ac_next ?_
     refine aw_grp1 ?_
     refine aw_block ?_
     refine aw_grp1 ?_
     refine wk_start ?_
     refine kv g0 (mv) ?_
     refine kv g0 (asg) ?_
     refine wk_end ?_
     refine ac_next ?_
     refine aw_grp1 ?_
     refine wk_start ?_
     refine kv g0 (mv) ?_
     obtain ⟨c83, H⟩ := of_if H
     obtain ⟨c84, H⟩ := of_if H
     refine kv g0 (ixX 3 c83 c82) ?_
     refine kv g0 (ldX (z := (0 : Int)) c83 c84 (.lit (.int .i64 (rd q48 p80))) rfl) ?_
     refine kv g0 (faB 1 1) ?_
     refine kv g0 (ldB) ?_
     refine kv g0 (mv) ?_
     obtain ⟨c85, H⟩ := of_if H
     refine kv g0 (ixS 3 (eI .i64 (rd l0_1 p80)) c83 (getE (z := (0 : Int)) c83 c85)) ?_
     refine kv g0 (ldR (.lit (.int .i64 (rd l0_1 p80)))) ?_
     refine kv g0 (sub6) ?_
     refine kv g0 (neq) ?_
     refine kv g0 (mv) ?_
     by_cases c86 : (rd q48 p80) = (wrap64 ((rd l0_1 p80) - 1))
     ·rw [if_pos c86] at H
      refine kv (g1 (eM c86)) (mv) ?_
      obtain ⟨c87, H⟩ := of_if H
      refine kv (g1 (eM c86)) (ixX 3 c83 c82) ?_
      refine kv (g1 (eM c86)) (ldX (z := (0 : Int)) c83 c87 (.lit (.int .i64 (rd q49 p80))) rfl) ?_
      refine kv (g1 (eM c86)) (faB 4 4) ?_
      refine kv (g1 (eM c86)) (ldB) ?_
      refine kv (g1 (eM c86)) (mv) ?_
      obtain ⟨c88, H⟩ := of_if H
      refine kv (g1 (eM c86)) (ixS 3 (eI .i64 (rd l0_4 p80)) c83 (getE (z := (0 : Int)) c83 c88)) ?_
      refine kv (g1 (eM c86)) (ldR (.lit (.int .i64 (rd l0_4 p80)))) ?_
      refine kv (g1 (eM c86)) (sub6) ?_
      refine kv (g1 (eM c86)) (neq) ?_
      refine kv g0 (pkF (eM c86)) ?_
      refine wk_end_draw hM (by kernel_rfl) ?_
      refine ac_next ?_
      by_cases c89 : (rd q49 p80) = (wrap64 ((rd l0_4 p80) - 1))
      ·rw [if_pos c89] at H
       refine aw_ifF ?_ (eM c89)
       refine aw_skip ?_
       refine ac_blkN ?_
       refine ac_next ?_
       refine wk_start ?_
       refine kv g0 (add6) ?_
       refine kv g0 (mv) ?_
       refine wk_end ?_
       refine ac_k ?_
       exact acw hE [(0, 0), (1, 1), (2, 2)] 9999 (hK91 k81 (wrap64 (p80 + 1)) (Nat.le_refl _) ⟨by omega, H⟩)
      rw [if_neg c89] at H
      refine aw_ifT ?_ (eN c89)
      refine aw_grp1 ?_
      refine wk_start ?_
      refine kv g0 (asg) ?_
      refine wk_end ?_
      refine ac_next ?_
      refine aw_ret ?_
      refine ac_blkR ?_
      refine ac_thenR ?_
      refine ac_thenR ?_
      refine ac_blkR ?_
      refine ac_thenR ?_
      obtain rfl := Option.some.inj H
      exact acr hE [.tmp 2] (.tmp .nil) (.one _) [] 9999
     rw [if_neg c86] at H
     refine kx (hF (eN c86)) ?_
     refine kx (hF (eN c86)) ?_
     refine kx (hF (eN c86)) ?_
     refine kx (hF (eN c86)) ?_
     refine kx (hF (eN c86)) ?_
     refine kx (hF (eN c86)) ?_
     refine kx (hF (eN c86)) ?_
     refine kx (hF (eN c86)) ?_
     refine kx (hF (eN c86)) ?_
     refine kx (hF (eN c86)) ?_
     refine kv g0 (pkT (eN c86)) ?_
     refine wk_end_draw hM (by kernel_rfl) ?_
     refine ac_next ?_
     refine aw_ifT ?_ rfl
     refine aw_grp1 ?_
     refine wk_start ?_
     refine kv g0 (asg) ?_
     refine wk_end ?_
     refine ac_next ?_
     refine aw_ret ?_
     refine ac_blkR ?_
     refine ac_thenR ?_
     refine ac_thenR ?_
     refine ac_blkR ?_
     refine ac_thenR ?_
     obtain rfl := Option.some.inj H
     exact acr hE [.tmp 2] (.tmp .nil) (.one _) [] 9999
    rw [if_neg c82] at H
    refine aw_ifF ?_ (decide_eq_false c82)
    refine aw_exit ?_
    refine ac_then ?_
    refine ac_then ?_
    refine ac_hit rfl ?_
    refine ac_next ?_
    refine aw_grp1 ?_
    refine aw_grp1 ?_
    refine wk_start ?_
    refine kv g0 (faB 2 2) ?_
    refine kv g0 (ldB) ?_
    refine kv g0 (lnS lenE) ?_
    refine kv g0 (mv) ?_
    refine wk_end ?_
    refine ac_next ?_
    refine aw_block ?_
    refine aw_loop1 (fun (k_ : Nat) (p108 : Int) => k_ ≤ k81 ∧ impl_KeeperOk.l3 k_ l0_0 l0_1 l0_2 a0_3 l0_4 p108 = some r) (fun (p108 : Int) => ⟨[(1, .box 0 0), (136, .sl .o 6 (l0_2.map e97)), (137, .lit (.int .i64 (l0_2.length : Int))), (138, .lit (.int .i64 p108))], [(0, .box 29 [.sl .o 6 (l0_0.map e98), .sl .o 1 (l0_1.map (eI .i64)), .sl .o 6 (l0_2.map e97), .lit (.int .i64 a0_3), .sl .o 1 (l0_4.map (eI .i64))])]⟩) k81 0 ⟨Nat.le_refl _, H⟩ (fun K_ h_ => acw hE [(0, 0)] 9999 h_) (fun _ => by intro h_; have h_ := h_.2; rw [impl_KeeperOk.l3.eq_1] at h_; cases h_) ?_
    intro k109 p108 hq_ K126 hK127
    have hk109 := hq_.1
    have H := hq_.2
    clear hq_
    rw [impl_KeeperOk.l3.eq_2] at H
    refine aw_grp1 ?_
    refine wk_start ?_
    refine kv g0 (lss) ?_
    refine wk_end ?_
    refine ac_next ?_
    refine aw_grp1 ?_
    by_cases c110 : p108 < (l0_2.length : Int)
    ·rw [if_pos c110] at H
     refine aw_ifT ?_ (decide_eq_true c110)
     refine aw_skip ?_
     refine ac_next ?_
     refine aw_grp1 ?_
     refine aw_block ?_
     refine aw_grp1 ?_
     refine wk_start ?_
     refine kv g0 (mv) ?_
     obtain ⟨c111, H⟩ := of_if H
     refine kv g0 (ixS 97 (e97 (rd_T97 l0_2 p108)) c111 (getE (z := z97) c111 c110)) ?_
     refine kv g0 (ldRA 6 [.lit (.int .i64 ((rd_T97 l0_2 p108).f0)), .lit (.int .i64 ((rd_T97 l0_2 p108).f1)), .lit (.int .i64 ((rd_T97 l0_2 p108).f2.f0)), .lit (.int .i64 ((rd_T97 l0_2 p108).f2.f1)), .lit (.int .i64 ((rd_T97 l0_2 p108).f2.f2)), .lit (.int .i64 ((rd_T97 l0_2 p108).f2.f3))]) ?_
     refine kb g0 (alc 4 [.int .i64 0, .int .i64 0, .int .i64 0, .int .i64 0, .int .i64 0, .int .i64 0] [.lit (.int .i64 0), .lit (.int .i64 0), .lit (.int .i64 0), .lit (.int .i64 0), .lit (.int .i64 0), .lit (.int .i64 0)]) ?_
     refine kv g0 (asg) ?_
     refine ks g0 (stB 6 [.lit (.int .i64 ((rd_T97 l0_2 p108).f0)), .lit (.int .i64 ((rd_T97 l0_2 p108).f1)), .lit (.int .i64 ((rd_T97 l0_2 p108).f2.f0)), .lit (.int .i64 ((rd_T97 l0_2 p108).f2.f1)), .lit (.int .i64 ((rd_T97 l0_2 p108).f2.f2)), .lit (.int .i64 ((rd_T97 l0_2 p108).f2.f3))]) ?_
     refine wk_end ?_
     refine ac_next ?_
     refine aw_grp1 ?_
     refine wk_start ?_
     refine kv g0 (faB 0 0) ?_
     refine kv g0 (ldB) ?_
     obtain ⟨t112, A113, H⟩ := of_bind H
     refine kcS0 145 (.lit (.bool t112)) [] g0 (cal (impl_isPid.ok A113) [] 9999 .n (hf := Try.func56)) rfl rfl ?_
     refine kv g0 (not_) ?_
     refine kv g0 (mv) ?_
     by_cases c114 : t112 = true
     ·rw [if_pos c114] at H
      refine kv (g1 (nF c114)) (faB 2 2) ?_
      refine kv (g1 (nF c114)) (ldBA 4 [.lit (.int .i64 ((rd_T97 l0_2 p108).f2.f0)), .lit (.int .i64 ((rd_T97 l0_2 p108).f2.f1)), .lit (.int .i64 ((rd_T97 l0_2 p108).f2.f2)), .lit (.int .i64 ((rd_T97 l0_2 p108).f2.f3))]) ?_
      obtain ⟨t115, A116, H⟩ := of_bind H
      refine kcS0 150 (.lit (.bool t115)) [] (g1 (nF c114)) (cal (impl_ItemOk.ok A116) [] 9999 .n (hf := Try.func57)) rfl rfl ?_
      refine kv (g1 (nF c114)) (not_) ?_
      refine kv g0 (pkF (nF c114)) ?_
      refine kv g0 (mv) ?_
      by_cases c117 : t115 = true
      ·rw [if_pos c117] at H
       refine kv (g1 (nF c117)) (faB 1 1) ?_
       refine kv (g1 (nF c117)) (ldB) ?_
       refine kv (g1 (nF c117)) (faB 1 1) ?_
       refine kv (g1 (nF c117)) (ldB) ?_
       refine kv (g1 (nF c117)) (faB 0 0) ?_
       refine kv (g1 (nF c117)) (ldB) ?_
       obtain ⟨c118, H⟩ := of_if H
       obtain ⟨c119, H⟩ := of_if H
       refine kv (g1 (nF c117)) (ixS 3 (eI .i64 (rd l0_1 ((rd_T97 l0_2 p108).f0))) c118 (getE (z := (0 : Int)) c118 c119)) ?_
       refine kv (g1 (nF c117)) (ldR (.lit (.int .i64 (rd l0_1 ((rd_T97 l0_2 p108).f0))))) ?_
       refine kv (g1 (nF c117)) (leq) ?_
       refine kv g0 (pkF (nF c117)) ?_
       refine kv g0 (mv) ?_
       by_cases c120 : ((rd_T97 l0_2 p108).f1) ≤ (rd l0_1 ((rd_T97 l0_2 p108).f0))
       ·rw [if_pos c120] at H
        refine kx (hF (decide_eq_true c120)) ?_
        refine kx (hF (decide_eq_true c120)) ?_
        refine kx (hF (decide_eq_true c120)) ?_
        refine kv g0 (pkT (decide_eq_true c120)) ?_
        refine kv g0 (mv) ?_
        refine kx (hF rfl) ?_
        refine kx (hF rfl) ?_
        refine kx (hF rfl) ?_
        refine kx (hF rfl) ?_
        refine kx (hF rfl) ?_
        refine kx (hF rfl) ?_
        refine kx (hF rfl) ?_
        refine kx (hF rfl) ?_
        refine kx (hF rfl) ?_
        refine kx (hF rfl) ?_
        refine kv g0 (pkT rfl) ?_
        refine wk_end_draw hM (by kernel_rfl) ?_
        refine ac_next ?_
        refine aw_ifT ?_ rfl
        refine aw_grp1 ?_
        refine wk_start ?_
        refine kv g0 (asg) ?_
        refine wk_end ?_
        refine ac_next ?_
        refine aw_ret ?_
        refine ac_blkR ?_
        refine ac_thenR ?_
        refine ac_thenR ?_
        refine ac_blkR ?_
        refine ac_thenR ?_
        obtain rfl := Option.some.inj H
        exact acr hE [.tmp 2] (.tmp .nil) (.one _) [] 9999
       rw [if_neg c120] at H
       refine kv (g1 (decide_eq_false c120)) (faB 1 1) ?_
       refine kv (g1 (decide_eq_false c120)) (ldB) ?_
       refine kv (g1 (decide_eq_false c120)) (gtr) ?_
       refine kv g0 (pkF (decide_eq_false c120)) ?_
       refine kv g0 (mv) ?_
       by_cases c121 : ((rd_T97 l0_2 p108).f1) > 1000000000
       ·rw [if_pos c121] at H
        refine kx (hF (decide_eq_true c121)) ?_
        refine kx (hF (decide_eq_true c121)) ?_
        refine kx (hF (decide_eq_true c121)) ?_
        refine kx (hF (decide_eq_true c121)) ?_
        refine kx (hF (decide_eq_true c121)) ?_
        refine kx (hF (decide_eq_true c121)) ?_
        refine kx (hF (decide_eq_true c121)) ?_
        refine kx (hF (decide_eq_true c121)) ?_
        refine kx (hF (decide_eq_true c121)) ?_
        refine kx (hF (decide_eq_true c121)) ?_
        refine kv g0 (pkT (decide_eq_true c121)) ?_
        refine wk_end_draw hM (by kernel_rfl) ?_
        refine ac_next ?_
        refine aw_ifT ?_ rfl
        refine aw_grp1 ?_
        refine wk_start ?_
        refine kv g0 (asg) ?_
        refine wk_end ?_
        refine ac_next ?_
        refine aw_ret ?_
        refine ac_blkR ?_
        refine ac_thenR ?_
        refine ac_thenR ?_
        refine ac_blkR ?_
        refine ac_thenR ?_
        obtain rfl := Option.some.inj H
        exact acr hE [.tmp 2] (.tmp .nil) (.one _) [] 9999
       rw [if_neg c121] at H
       refine kv (g1 (decide_eq_false c121)) (faB 2 2) ?_
       refine kv (g1 (decide_eq_false c121)) (ldB) ?_
       refine kv (g1 (decide_eq_false c121)) (mv) ?_
       obtain ⟨c122, H⟩ := of_if H
       refine kv (g1 (decide_eq_false c121)) (slH 97 c111 c122) ?_
       refine kv (g1 (decide_eq_false c121)) (faB 0 0) ?_
       refine kv (g1 (decide_eq_false c121)) (ldB) ?_
       refine kv (g1 (decide_eq_false c121)) (faB 1 1) ?_
       refine kv (g1 (decide_eq_false c121)) (ldB) ?_
       obtain ⟨t123, A124, H⟩ := of_bind H
       refine kcS0 178 (.lit (.int .i64 t123)) [] (g1 (decide_eq_false c121)) (cal (impl_earlyAt.ok A124) [] 9999 .n (hf := Try.func54)) rfl rfl ?_
       refine kv (g1 (decide_eq_false c121)) (geq) ?_
       refine kv g0 (pkF (decide_eq_false c121)) ?_
       refine wk_end_draw hM (by kernel_rfl) ?_
       refine ac_next ?_
       by_cases c125 : t123 ≥ 0
       ·rw [if_pos c125] at H
        refine aw_ifT ?_ (decide_eq_true c125)
        refine aw_grp1 ?_
        refine wk_start ?_
        refine kv g0 (asg) ?_
        refine wk_end ?_
        refine ac_next ?_
        refine aw_ret ?_
        refine ac_blkR ?_
        refine ac_thenR ?_
        refine ac_thenR ?_
        refine ac_blkR ?_
        refine ac_thenR ?_
        obtain rfl := Option.some.inj H
        exact acr hE [.tmp 2] (.tmp .nil) (.one _) [] 9999
       rw [if_neg c125] at H
       refine aw_ifF ?_ (decide_eq_false c125)
       refine aw_skip ?_
       refine ac_blkN ?_
       refine ac_next ?_
       refine wk_start ?_
       refine kv g0 (add6) ?_
       refine kv g0 (mv) ?_
       refine wk_end ?_
       refine ac_k ?_
       exact acw hE [(0, 0)] 9999 (hK127 k109 (wrap64 (p108 + 1)) (Nat.le_refl _) ⟨by omega, H⟩)
      rw [if_neg c117] at H
      refine kx (hF (nT (bF c117))) ?_
      refine kx (hF (nT (bF c117))) ?_
      refine kx (hF (nT (bF c117))) ?_
      refine kx (hF (nT (bF c117))) ?_
      refine kx (hF (nT (bF c117))) ?_
      refine kx (hF (nT (bF c117))) ?_
      refine kx (hF (nT (bF c117))) ?_
      refine kx (hF (nT (bF c117))) ?_
      refine kx (hF (nT (bF c117))) ?_
      refine kv g0 (pkT (nT (bF c117))) ?_
      refine kv g0 (mv) ?_
      refine kx (hF rfl) ?_
      refine kx (hF rfl) ?_
      refine kx (hF rfl) ?_
      refine kv g0 (pkT rfl) ?_
      refine kv g0 (mv) ?_
      refine kx (hF rfl) ?_
      refine kx (hF rfl) ?_
      refine kx (hF rfl) ?_
      refine kx (hF rfl) ?_
      refine kx (hF rfl) ?_
      refine kx (hF rfl) ?_
      refine kx (hF rfl) ?_
      refine kx (hF rfl) ?_
      refine kx (hF rfl) ?_
      refine kx (hF rfl) ?_
      refine kv g0 (pkT rfl) ?_
      refine wk_end_draw hM (by kernel_rfl) ?_
      refine ac_next ?_
      refine aw_ifT ?_ rfl
      refine aw_grp1 ?_
      refine wk_start ?_
      refine kv g0 (asg) ?_
      refine wk_end ?_
      refine ac_next ?_
      refine aw_ret ?_
      refine ac_blkR ?_
      refine ac_thenR ?_
      refine ac_thenR ?_
      refine ac_blkR ?_
      refine ac_thenR ?_
      obtain rfl := Option.some.inj H
      exact acr hE [.tmp 2] (.tmp .nil) (.one _) [] 9999
     rw [if_neg c114] at H
     refine kx (hF (nT (bF c114))) ?_
     refine kx (hF (nT (bF c114))) ?_
     refine kx (hF (nT (bF c114))) ?_
     refine kx (hF (nT (bF c114))) ?_
     refine kv g0 (pkT (nT (bF c114))) ?_
     refine kv g0 (mv) ?_
     refine kx (hF rfl) ?_
     refine kx (hF rfl) ?_
     refine kx (hF rfl) ?_
     refine kx (hF rfl) ?_
     refine kx (hF rfl) ?_
     refine kx (hF rfl) ?_
     refine kx (hF rfl) ?_
     refine kx (hF rfl) ?_
     refine kx (hF rfl) ?_
     refine kv g0 (pkT rfl) ?_
     refine kv g0 (mv) ?_
     refine kx (hF rfl) ?_
     refine kx (hF rfl) ?_
     refine kx (hF rfl) ?_
     refine kv g0 (pkT rfl) ?_
     refine kv g0 (mv) ?_
     refine kx (hF rfl) ?_
     refine kx (hF rfl) ?_
     refine kx (hF rfl) ?_
     refine kx (hF rfl) ?_
     refine kx (hF rfl) ?_
     refine kx (hF rfl) ?_
     refine kx (hF rfl) ?_
     refine kx (hF rfl) ?_
     refine kx (hF rfl) ?_
     refine kx (hF rfl) ?_
     refine kv g0 (pkT rfl) ?_
     refine wk_end_draw hM (by kernel_rfl) ?_
     refine ac_next ?_
     refine aw_ifT ?_ rfl
     refine aw_grp1 ?_
     refine wk_start ?_
     refine kv g0 (asg) ?_
     refine wk_end ?_
     refine ac_next ?_
     refine aw_ret ?_
     refine ac_blkR ?_
     refine ac_thenR ?_
     refine ac_thenR ?_
     refine ac_blkR ?_
     refine ac_thenR ?_
     obtain rfl := Option.some.inj H
     exact acr hE [.tmp 2] (.tmp .nil) (.one _) [] 9999
    rw [if_neg c110] at H
    refine aw_ifF ?_ (decide_eq_false c110)
    refine aw_exit ?_
    refine ac_then ?_
    refine ac_then ?_
    refine ac_hit rfl ?_
    refine ac_next ?_
    refine aw_grp1 ?_
    refine wk_start ?_
    refine kv g0 (asg) ?_
    refine wk_end ?_
    refine ac_next ?_
    refine aw_ret ?_
    obtain rfl := Option.some.inj H
    exact acr hE [.tmp 2] (.tmp .nil) (.one _) [] 9999
   rw [if_neg c6] at H
   refine kx (hF (nT (bF c6))) ?_
   refine kx (hF (nT (bF c6))) ?_
   refine kx (hF (nT (bF c6))) ?_
   refine kx (hF (nT (bF c6))) ?_
   refine kv g0 (pkT (nT (bF c6))) ?_
   refine wk_end ?_
   refine ac_next ?_
   refine aw_ifT ?_ rfl
   refine aw_grp1 ?_
   refine wk_start ?_
   refine kv g0 (asg) ?_
   refine wk_end ?_
   refine ac_next ?_
   refine aw_ret ?_
   refine ac_thenR ?_
   obtain rfl := Option.some.inj H
   exact acr hE [.tmp 2] (.tmp .nil) (.one _) [] 9999
  rw [if_neg c2] at H
  refine kx (hF (eN c2)) ?_
  refine kx (hF (eN c2)) ?_
  refine kx (hF (eN c2)) ?_
  refine kx (hF (eN c2)) ?_
  refine kv g0 (pkT (eN c2)) ?_
  refine kv g0 (mv) ?_
  refine kx (hF rfl) ?_
  refine kx (hF rfl) ?_
  refine kx (hF rfl) ?_
  refine kx (hF rfl) ?_
  refine kx (hF rfl) ?_
  refine kx (hF rfl) ?_
  refine kx (hF rfl) ?_
  refine kv g0 (pkT rfl) ?_
  refine kv g0 (mv) ?_
  refine kx (hF rfl) ?_
  refine kx (hF rfl) ?_
  refine kx (hF rfl) ?_
  refine kx (hF rfl) ?_
  refine kv g0 (pkT rfl) ?_
  refine wk_end ?_
  refine ac_next ?_
  refine aw_ifT ?_ rfl
  refine aw_grp1 ?_
  refine wk_start ?_
  refine kv g0 (asg) ?_
  refine wk_end ?_
  refine ac_next ?_
  refine aw_ret ?_
  refine ac_thenR ?_
  obtain rfl := Option.some.inj H
  exact acr hE [.tmp 2] (.tmp .nil) (.one _) [] 9999
 rw [if_neg c1] at H
 refine kx (hF (eN c1)) ?_
 refine kx (hF (eN c1)) ?_
 refine kx (hF (eN c1)) ?_
 refine kx (hF (eN c1)) ?_
 refine kv g0 (pkT (eN c1)) ?_
 refine kv g0 (mv) ?_
 refine kx (hF rfl) ?_
 refine kx (hF rfl) ?_
 refine kx (hF rfl) ?_
 refine kx (hF rfl) ?_
 refine kv g0 (pkT rfl) ?_
 refine kv g0 (mv) ?_
 refine kx (hF rfl) ?_
 refine kx (hF rfl) ?_
 refine kx (hF rfl) ?_
 refine kx (hF rfl) ?_
 refine kx (hF rfl) ?_
 refine kx (hF rfl) ?_
 refine kx (hF rfl) ?_
 refine kv g0 (pkT rfl) ?_
 refine kv g0 (mv) ?_
 refine kx (hF rfl) ?_
 refine kx (hF rfl) ?_
 refine kx (hF rfl) ?_
 refine kx (hF rfl) ?_
 refine kv g0 (pkT rfl) ?_
 refine wk_end ?_
 refine ac_next ?_
 refine aw_ifT ?_ rfl
 refine aw_grp1 ?_
 refine wk_start ?_
 refine kv g0 (asg) ?_
 refine wk_end ?_
 refine ac_next ?_
 refine aw_ret ?_
 refine ac_thenR ?_
 obtain rfl := Option.some.inj H
 exact acr hE [.tmp 2] (.tmp .nil) (.one _) [] 9999
/-! impl_EntriesOf -/
def impl_EntriesOf.l0 : Nat → (List S98) → Int → (List S34) → Int → Option ((List S34))
 | 0, _, _, _, _ => none
 | k7 + 1, l0_0, a1, q5, p6 => if p6 < (l0_0.length : Int) then if 0 ≤ p6 then if ((rd_T98 l0_0 p6).f0) = a1 then (if q5.length + ([(⟨(rd_T98 l0_0 p6).f2.f0, (rd_T98 l0_0 p6).f2.f1, (rd_T98 l0_0 p6).f2.f2, (rd_T98 l0_0 p6).f2.f3⟩ : S34)] : List S34).length < 4398046511104 then impl_EntriesOf.l0 k7 l0_0 a1 (q5 ++ ([(⟨(rd_T98 l0_0 p6).f2.f0, (rd_T98 l0_0 p6).f2.f1, (rd_T98 l0_0 p6).f2.f2, (rd_T98 l0_0 p6).f2.f3⟩ : S34)] : List S34)) (wrap64 (p6 + 1)) else none) else impl_EntriesOf.l0 k7 l0_0 a1 q5 (wrap64 (p6 + 1)) else none else some q5
def impl_EntriesOf.f (k : Nat) (l0_0 : List S98) (l0_1 : List Int) (l0_2 : List S97) (a0_3 : Int) (l0_4 : List Int) (a1 : Int) : Option ((List S34)) := impl_EntriesOf.l0 k l0_0 a1 ([] : List S34) 0
theorem impl_EntriesOf.ok {k : Nat} {l0_0 : List S98} {l0_1 : List Int} {l0_2 : List S97} {a0_3 : Int} {l0_4 : List Int} {a1 : Int} {r : (List S34)} (H : impl_EntriesOf.f k l0_0 l0_1 l0_2 a0_3 l0_4 a1 = some r) : ACalls Try.prog 13 [] [.agg [.sl .o 6 (l0_0.map e98), .sl .o 1 (l0_1.map (eI .i64)), .sl .o 6 (l0_2.map e97), .lit (.int .i64 a0_3), .sl .o 1 (l0_4.map (eI .i64))], .lit (.int .i64 a1)] [(0, .row 34 4 (r.map e34))] (.row 0) := by
 refine acalls (fn := Try.f13) (nt := 27) Try.func13 rfl rfl (Nat.le_of_ble_eq_true rfl) fun E hE => ?_
 rw [impl_EntriesOf.f] at H
 refine aw_grp1 ?_
 refine wk_start ?_
 refine kb g0 (bxA 0) ?_
 refine kv g0 (asg) ?_
 refine wk_end ?_
 refine ac_next ?_
 refine aw_grp1 ?_
 refine wk_start ?_
 refine kb g0 (bsl 1 34 4 [.int .i64 0, .int .i64 0, .int .i64 0, .int .i64 0] (([] : List S34).map e34)) ?_
 refine kv g0 (asg) ?_
 refine wk_end ?_
 refine ac_next ?_
 refine aw_grp1 ?_
 refine aw_grp1 ?_
 refine wk_start ?_
 refine kv g0 (faB 0 0) ?_
 refine kv g0 (ldB) ?_
 refine kv g0 (lnS lenE) ?_
 refine kv g0 (mv) ?_
 refine wk_end ?_
 refine ac_next ?_
 refine aw_block ?_
 refine aw_loop2 (fun (k_ : Nat) (q5 : List S34) (p6 : Int) => k_ ≤ k ∧ impl_EntriesOf.l0 k_ l0_0 a1 q5 p6 = some r) (fun (q5 : List S34) (p6 : Int) => ⟨[(1, .lit (.int .i64 a1)), (5, .row 1), (10, .sl .o 6 (l0_0.map e98)), (11, .lit (.int .i64 (l0_0.length : Int))), (12, .lit (.int .i64 p6))], [(1, .row 34 4 (q5.map e34))]⟩) k ([] : List S34) 0 ⟨Nat.le_refl _, H⟩ (fun K_ h_ => acw hE [(1, 1)] 9999 h_) (fun _ _ => by intro h_; have h_ := h_.2; rw [impl_EntriesOf.l0.eq_1] at h_; cases h_) ?_
 intro k7 q5 p6 hq_ K12 hK13
 have hk7 := hq_.1
 have H := hq_.2
 clear hq_
 rw [impl_EntriesOf.l0.eq_2] at H
 refine aw_grp1 ?_
 refine wk_start ?_
 refine kv g0 (lss) ?_
 refine wk_end ?_
 refine ac_next ?_
 refine aw_grp1 ?_
 by_cases c8 : p6 < (l0_0.length : Int)
 ·rw [if_pos c8] at H
  refine aw_ifT ?_ (decide_eq_true c8)
  refine aw_skip ?_
  refine ac_next ?_
  refine aw_grp1 ?_
  refine aw_block ?_
  refine aw_grp1 ?_
  refine wk_start ?_
  obtain ⟨c9, H⟩ := of_if H
  refine kv g0 (ixS 98 (e98 (rd_T98 l0_0 p6)) c9 (getE (z := z98) c9 c8)) ?_
  refine kv g0 (ldRA 6 [.lit (.int .i64 ((rd_T98 l0_0 p6).f0)), .lit (.int .i64 ((rd_T98 l0_0 p6).f1)), .lit (.int .i64 ((rd_T98 l0_0 p6).f2.f0)), .lit (.int .i64 ((rd_T98 l0_0 p6).f2.f1)), .lit (.int .i64 ((rd_T98 l0_0 p6).f2.f2)), .lit (.int .i64 ((rd_T98 l0_0 p6).f2.f3))]) ?_
  refine kb g0 (alc 2 [.int .i64 0, .int .i64 0, .int .i64 0, .int .i64 0, .int .i64 0, .int .i64 0] [.lit (.int .i64 0), .lit (.int .i64 0), .lit (.int .i64 0), .lit (.int .i64 0), .lit (.int .i64 0), .lit (.int .i64 0)]) ?_
  refine ks g0 (stB 6 [.lit (.int .i64 ((rd_T98 l0_0 p6).f0)), .lit (.int .i64 ((rd_T98 l0_0 p6).f1)), .lit (.int .i64 ((rd_T98 l0_0 p6).f2.f0)), .lit (.int .i64 ((rd_T98 l0_0 p6).f2.f1)), .lit (.int .i64 ((rd_T98 l0_0 p6).f2.f2)), .lit (.int .i64 ((rd_T98 l0_0 p6).f2.f3))]) ?_
  refine wk_end ?_
  refine ac_next ?_
  refine aw_grp1 ?_
  refine wk_start ?_
  refine kv g0 (faB 0 0) ?_
  refine kv g0 (ldB) ?_
  refine kv g0 (mv) ?_
  refine kv g0 (eql) ?_
  refine wk_end ?_
  refine ac_next ?_
  by_cases c10 : ((rd_T98 l0_0 p6).f0) = a1
  ·rw [if_pos c10] at H
   refine aw_ifT ?_ (eT c10)
   refine wk_start ?_
   refine kv g0 (mv) ?_
   refine kv g0 (faB 2 2) ?_
   refine kv g0 (ldBA 4 [.lit (.int .i64 ((rd_T98 l0_0 p6).f2.f0)), .lit (.int .i64 ((rd_T98 l0_0 p6).f2.f1)), .lit (.int .i64 ((rd_T98 l0_0 p6).f2.f2)), .lit (.int .i64 ((rd_T98 l0_0 p6).f2.f3))]) ?_
   refine kb g0 (bsl 3 34 4 [.int .i64 0, .int .i64 0, .int .i64 0, .int .i64 0] (([(⟨(rd_T98 l0_0 p6).f2.f0, (rd_T98 l0_0 p6).f2.f1, (rd_T98 l0_0 p6).f2.f2, (rd_T98 l0_0 p6).f2.f3⟩ : S34)] : List S34).map e34)) ?_
   obtain ⟨c11, H⟩ := of_if H
   refine kc g0 (apR 4 34 4 32 [.int .i64 0, .int .i64 0, .int .i64 0, .int .i64 0] ((q5 ++ ([(⟨(rd_T98 l0_0 p6).f2.f0, (rd_T98 l0_0 p6).f2.f1, (rd_T98 l0_0 p6).f2.f2, (rd_T98 l0_0 p6).f2.f3⟩ : S34)] : List S34)).map e34) (.row rfl) (apb c11 rfl) appE) ?_
   refine kv g0 (asg) ?_
   refine wk_end ?_
   refine ac_blkN ?_
   refine ac_next ?_
   refine wk_start ?_
   refine kv g0 (add6) ?_
   refine kv g0 (mv) ?_
   refine wk_end ?_
   refine ac_k ?_
   exact acw hE [(1, 4)] 9999 (hK13 k7 (q5 ++ ([(⟨(rd_T98 l0_0 p6).f2.f0, (rd_T98 l0_0 p6).f2.f1, (rd_T98 l0_0 p6).f2.f2, (rd_T98 l0_0 p6).f2.f3⟩ : S34)] : List S34)) (wrap64 (p6 + 1)) (Nat.le_refl _) ⟨by omega, H⟩)
  rw [if_neg c10] at H
  refine aw_ifF ?_ (eF c10)
  refine aw_skip ?_
  refine ac_blkN ?_
  refine ac_next ?_
  refine wk_start ?_
  refine kv g0 (add6) ?_
  refine kv g0 (mv) ?_
  refine wk_end ?_
  refine ac_k ?_
  exact acw hE [(1, 1)] 9999 (hK13 k7 q5 (wrap64 (p6 + 1)) (Nat.le_refl _) ⟨by omega, H⟩)
 rw [if_neg c8] at H
 refine aw_ifF ?_ (decide_eq_false c8)
 refine aw_exit ?_
 refine ac_then ?_
 refine ac_then ?_
 refine ac_hit rfl ?_
 refine ac_next ?_
 refine aw_grp1 ?_
 refine wk_start ?_
 refine kv g0 (mv) ?_
 refine kv g0 (asg) ?_
 refine wk_end ?_
 refine ac_next ?_
 refine aw_ret ?_
 obtain rfl := Option.some.inj H
 exact acr hE [.tmp 4] (.tmp .nil) (.one _) [(0, 1)] 9999
/-! spec_KeeperNew -/
def spec_KeeperNew.l0 : Nat → (List Int) → (List Int) → Int → Option ((List Int) × Int × (List Int))
 | 0, _, _, _ => none
 | k6 + 1, q3, q4, p5 => if p5 < 3 then if q3.length + ([1] : List Int).length < 17592186044416 then if q4.length + ([1] : List Int).length < 17592186044416 then spec_KeeperNew.l0 k6 (q3 ++ ([1] : List Int)) (q4 ++ ([1] : List Int)) (wrap64 (p5 + 1)) else none else none else some (q3, 0, q4)
def spec_KeeperNew.f (k : Nat)  : Option ((List Int) × Int × (List Int)) := spec_KeeperNew.l0 k ([]) ([]) 0
theorem spec_KeeperNew.ok {k : Nat} {r : (List Int) × Int × (List Int)} (H : spec_KeeperNew.f k = some r) : ACalls Try.prog 114 [] [] [(0, .row 3 1 (r.1.map (eI .i64))), (1, .row 3 1 (r.2.2.map (eI .i64)))] (.agg [.lit (.slice none 0 0), .row 0, .lit (.slice none 0 0), .lit (.int .i64 r.2.1), .row 1]) := by
 refine acalls (fn := Try.f114) (nt := 19) Try.func114 rfl rfl (Nat.le_of_ble_eq_true rfl) fun E hE => ?_
 rw [spec_KeeperNew.f] at H
 refine aw_grp1 ?_
 refine wk_start ?_
 refine kb g0 (alc 0 [.slice none 0 0, .slice none 0 0, .slice none 0 0, .int .i64 0, .slice none 0 0] [.lit (.slice none 0 0), .lit (.slice none 0 0), .lit (.slice none 0 0), .lit (.int .i64 0), .lit (.slice none 0 0)]) ?_
 refine wk_end ?_
 refine ac_next ?_
 refine aw_grp1 ?_
 refine wk_start ?_
 refine kv g0 (bld [(0, 1), (1, 1), (2, 1), (3, 1), (4, 1)] [.slice none 0 0, .slice none 0 0, .slice none 0 0, .int .i64 0, .slice none 0 0] [.lit (.slice none 0 0), .lit (.slice none 0 0), .lit (.slice none 0 0), .lit (.int .i64 0), .lit (.slice none 0 0)]) ?_
 refine kb g0 (alc 1 [.slice none 0 0, .slice none 0 0, .slice none 0 0, .int .i64 0, .slice none 0 0] [.lit (.slice none 0 0), .lit (.slice none 0 0), .lit (.slice none 0 0), .lit (.int .i64 0), .lit (.slice none 0 0)]) ?_
 refine ks g0 (stB 5 [.lit (.slice none 0 0), .lit (.slice none 0 0), .lit (.slice none 0 0), .lit (.int .i64 0), .lit (.slice none 0 0)]) ?_
 refine wk_end ?_
 refine ac_next ?_
 refine aw_grp1 ?_
 refine aw_grp1 ?_
 refine wk_start ?_
 refine kv g0 (asg) ?_
 refine wk_end ?_
 refine ac_next ?_
 refine aw_block ?_
 refine ac_nilB 1 1 6 3 1 [.lit (.slice none 0 0), .row 6, .lit (.slice none 0 0), .lit (.int .i64 0), .lit (.slice none 0 0)] ?_
 refine ac_nilB 1 4 7 3 1 [.lit (.slice none 0 0), .row 6, .lit (.slice none 0 0), .lit (.int .i64 0), .row 7] ?_
 refine aw_loop3 (fun (k_ : Nat) (q3 : List Int) (q4 : List Int) (p5 : Int) => k_ ≤ k ∧ spec_KeeperNew.l0 k_ q3 q4 p5 = some r) (fun (q3 : List Int) (q4 : List Int) (p5 : Int) => ⟨[(0, .box 0 0), (1, .box 1 0), (2, .lit (.int .i64 p5))], [(0, .box 29 [.lit (.slice none 0 0), .lit (.slice none 0 0), .lit (.slice none 0 0), .lit (.int .i64 0), .lit (.slice none 0 0)]), (1, .box 29 [.lit (.slice none 0 0), .row 6, .lit (.slice none 0 0), .lit (.int .i64 0), .row 7]), (6, .row 3 1 (q3.map (eI .i64))), (7, .row 3 1 (q4.map (eI .i64)))]⟩) k ([]) ([]) 0 ⟨Nat.le_refl _, H⟩ (fun K_ h_ => acw hE [(0, 0), (1, 1), (6, 6), (7, 7)] 9999 h_) (fun _ _ _ => by intro h_; have h_ := h_.2; rw [spec_KeeperNew.l0.eq_1] at h_; cases h_) ?_
 intro k6 q3 q4 p5 hq_ K10 hK11
 have hk6 := hq_.1
 have H := hq_.2
 clear hq_
 rw [spec_KeeperNew.l0.eq_2] at H
 refine aw_grp1 ?_
 refine aw_grp1 ?_
 refine wk_start ?_
 refine kv g0 (mv) ?_
 refine kv g0 (lss) ?_
 refine wk_end ?_
 refine ac_next ?_
 by_cases c7 : p5 < 3
 ·rw [if_pos c7] at H
  refine aw_ifT ?_ (decide_eq_true c7)
  refine aw_skip ?_
  refine ac_next ?_
  refine aw_grp1 ?_
  refine aw_block ?_
  refine aw_grp1 ?_
  refine wk_start ?_
  refine kv g0 (faB 1 1) ?_
  refine kv g0 (ldB) ?_
  refine kb g0 (bsl 8 3 1 [.int .i64 0] (([1] : List Int).map (eI .i64))) ?_
  obtain ⟨c8, H⟩ := of_if H
  refine kc g0 (apR 9 3 1 8 [.int .i64 0] ((q3 ++ ([1] : List Int)).map (eI .i64)) (.row rfl) (apb c8 rfl) appE) ?_
  refine kv g0 (faB 1 1) ?_
  refine ks g0 (stB 1 [.lit (.slice none 0 0), .row 9, .lit (.slice none 0 0), .lit (.int .i64 0), .row 7]) ?_
  refine wk_end ?_
  refine ac_next ?_
  refine wk_start ?_
  refine kv g0 (faB 4 4) ?_
  refine kv g0 (ldB) ?_
  refine kb g0 (bsl 10 3 1 [.int .i64 0] (([1] : List Int).map (eI .i64))) ?_
  obtain ⟨c9, H⟩ := of_if H
  refine kc g0 (apR 11 3 1 8 [.int .i64 0] ((q4 ++ ([1] : List Int)).map (eI .i64)) (.row rfl) (apb c9 rfl) appE) ?_
  refine kv g0 (faB 4 4) ?_
  refine ks g0 (stB 1 [.lit (.slice none 0 0), .row 9, .lit (.slice none 0 0), .lit (.int .i64 0), .row 11]) ?_
  refine wk_end ?_
  refine ac_blkN ?_
  refine ac_next ?_
  refine wk_start ?_
  refine kv g0 (mv) ?_
  refine kv g0 (add6) ?_
  refine kv g0 (asg) ?_
  refine wk_end ?_
  refine ac_k ?_
  exact acw hE [(0, 0), (1, 1), (6, 9), (7, 11)] 9999 (hK11 k6 (q3 ++ ([1] : List Int)) (q4 ++ ([1] : List Int)) (wrap64 (p5 + 1)) (Nat.le_refl _) ⟨by omega, H⟩)
 rw [if_neg c7] at H
 refine aw_ifF ?_ (decide_eq_false c7)
 refine aw_exit ?_
 refine ac_then ?_
 refine ac_then ?_
 refine ac_hit rfl ?_
 refine ac_next ?_
 refine aw_grp1 ?_
 refine wk_start ?_
 refine kv g0 (ldBA 5 [.lit (.slice none 0 0), .row 6, .lit (.slice none 0 0), .lit (.int .i64 0), .row 7]) ?_
 refine ks g0 (stB 5 [.lit (.slice none 0 0), .row 6, .lit (.slice none 0 0), .lit (.int .i64 0), .row 7]) ?_
 refine wk_end ?_
 refine ac_next ?_
 refine aw_ret ?_
 obtain rfl := Option.some.inj H
 exact acr hE [.cell 0 29] (rcA 5 .nil) (.one _) [(0, 6), (1, 7)] 9999
/-! spec_l20Copy -/
def spec_l20Copy.f (l0_0 : List S98) (l0_1 : List Int) (l0_2 : List S97) (a0_3 : Int) (l0_4 : List Int) : Option ((List S98) × (List Int) × (List S97) × Int × (List Int)) := if ([] : List S98).length + l0_0.length < 2932031007402 then (if ([] : List Int).length + l0_1.length < 17592186044416 then (if ([] : List S97).length + l0_2.length < 2932031007402 then (if ([] : List Int).length + l0_4.length < 17592186044416 then some (([] : List S98) ++ l0_0, ([] : List Int) ++ l0_1, ([] : List S97) ++ l0_2, a0_3, ([] : List Int) ++ l0_4) else none) else none) else none) else none
theorem spec_l20Copy.ok {l0_0 : List S98} {l0_1 : List Int} {l0_2 : List S97} {a0_3 : Int} {l0_4 : List Int} {r : (List S98) × (List Int) × (List S97) × Int × (List Int)} (H : spec_l20Copy.f l0_0 l0_1 l0_2 a0_3 l0_4 = some r) : ACalls Try.prog 64 [] [.agg [.sl .o 6 (l0_0.map e98), .sl .o 1 (l0_1.map (eI .i64)), .sl .o 6 (l0_2.map e97), .lit (.int .i64 a0_3), .sl .o 1 (l0_4.map (eI .i64))]] [(0, .row 98 6 (r.1.map e98)), (1, .row 3 1 (r.2.1.map (eI .i64))), (2, .row 97 6 (r.2.2.1.map e97)), (3, .row 3 1 (r.2.2.2.2.map (eI .i64)))] (.agg [.row 0, .row 1, .row 2, .lit (.int .i64 r.2.2.2.1), .row 3]) := by
 refine acalls (fn := Try.f64) (nt := 22) Try.func64 rfl rfl (Nat.le_of_ble_eq_true rfl) fun E hE => ?_
 rw [spec_l20Copy.f] at H
 refine aw_grp1 ?_
 refine wk_start ?_
 refine kb g0 (bxA 0) ?_
 refine kb g0 (alc 1 [.slice none 0 0, .slice none 0 0, .slice none 0 0, .int .i64 0, .slice none 0 0] [.lit (.slice none 0 0), .lit (.slice none 0 0), .lit (.slice none 0 0), .lit (.int .i64 0), .lit (.slice none 0 0)]) ?_
 refine wk_end ?_
 refine ac_next ?_
 refine aw_grp1 ?_
 refine wk_start ?_
 refine kb g0 (bsl 2 98 6 [.int .i64 0, .int .i64 0, .int .i64 0, .int .i64 0, .int .i64 0, .int .i64 0] (([] : List S98).map e98)) ?_
 refine kv g0 (faB 0 0) ?_
 refine kv g0 (ldB) ?_
 obtain ⟨c1, H⟩ := of_if H
 refine kc g0 (apR 3 98 6 48 [.int .i64 0, .int .i64 0, .int .i64 0, .int .i64 0, .int .i64 0, .int .i64 0] ((([] : List S98) ++ l0_0).map e98) (.slF (fl98)) (apb c1 rfl) appE) ?_
 refine kb g0 (bsl 4 3 1 [.int .i64 0] (([] : List Int).map (eI .i64))) ?_
 refine kv g0 (faB 1 1) ?_
 refine kv g0 (ldB) ?_
 obtain ⟨c2, H⟩ := of_if H
 refine kc g0 (apR 5 3 1 8 [.int .i64 0] ((([] : List Int) ++ l0_1).map (eI .i64)) (.slF (flI)) (apb c2 rfl) appE) ?_
 refine kb g0 (bsl 6 97 6 [.int .i64 0, .int .i64 0, .int .i64 0, .int .i64 0, .int .i64 0, .int .i64 0] (([] : List S97).map e97)) ?_
 refine kv g0 (faB 2 2) ?_
 refine kv g0 (ldB) ?_
 obtain ⟨c3, H⟩ := of_if H
 refine kc g0 (apR 7 97 6 48 [.int .i64 0, .int .i64 0, .int .i64 0, .int .i64 0, .int .i64 0, .int .i64 0] ((([] : List S97) ++ l0_2).map e97) (.slF (fl97)) (apb c3 rfl) appE) ?_
 refine kv g0 (faB 3 3) ?_
 refine kv g0 (ldB) ?_
 refine kb g0 (bsl 8 3 1 [.int .i64 0] (([] : List Int).map (eI .i64))) ?_
 refine kv g0 (faB 4 4) ?_
 refine kv g0 (ldB) ?_
 obtain ⟨c4, H⟩ := of_if H
 refine kc g0 (apR 9 3 1 8 [.int .i64 0] ((([] : List Int) ++ l0_4).map (eI .i64)) (.slF (flI)) (apb c4 rfl) appE) ?_
 refine kv g0 (bld [(0, 1), (1, 1), (2, 1), (3, 1), (4, 1)] [.slice none 0 0, .slice none 0 0, .slice none 0 0, .int .i64 0, .slice none 0 0] [.row 3, .row 5, .row 7, .lit (.int .i64 a0_3), .row 9]) ?_
 refine ks g0 (stB 5 [.row 3, .row 5, .row 7, .lit (.int .i64 a0_3), .row 9]) ?_
 refine wk_end_draw hM (by kernel_rfl) ?_
 refine ac_next ?_
 refine aw_ret ?_
 obtain rfl := Option.some.inj H
 exact acr hE [.cell 2 29] (rcA 5 .nil) (.one _) [(0, 3), (1, 5), (2, 7), (3, 9)] 9999
/-! spec_SaveKeeper -/
def spec_SaveKeeper.f (l0_0 : List S98) (l0_1 : List Int) (l0_2 : List S97) (a0_3 : Int) (l0_4 : List Int) : Option ((List S98) × (List Int) × (List S97) × Int × (List Int)) := (spec_l20Copy.f l0_0 l0_1 l0_2 a0_3 l0_4).bind fun t1 => if ([] : List Int).length + l0_1.length < 17592186044416 then some (t1.1, t1.2.1, t1.2.2.1, (l0_0.length : Int), ([] : List Int) ++ l0_1) else none
theorem spec_SaveKeeper.ok {l0_0 : List S98} {l0_1 : List Int} {l0_2 : List S97} {a0_3 : Int} {l0_4 : List Int} {r : (List S98) × (List Int) × (List S97) × Int × (List Int)} (H : spec_SaveKeeper.f l0_0 l0_1 l0_2 a0_3 l0_4 = some r) : ACalls Try.prog 27 [] [.agg [.sl .o 6 (l0_0.map e98), .sl .o 1 (l0_1.map (eI .i64)), .sl .o 6 (l0_2.map e97), .lit (.int .i64 a0_3), .sl .o 1 (l0_4.map (eI .i64))]] [(0, .row 98 6 (r.1.map e98)), (1, .row 3 1 (r.2.1.map (eI .i64))), (2, .row 97 6 (r.2.2.1.map e97)), (3, .row 3 1 (r.2.2.2.2.map (eI .i64)))] (.agg [.row 0, .row 1, .row 2, .lit (.int .i64 r.2.2.2.1), .row 3]) := by
 refine acalls (fn := Try.f27) (nt := 16) Try.func27 rfl rfl (Nat.le_of_ble_eq_true rfl) fun E hE => ?_
 rw [spec_SaveKeeper.f] at H
 refine aw_grp1 ?_
 refine wk_start ?_
 refine kb g0 (bxA 0) ?_
 refine kb g0 (alc 1 [.slice none 0 0, .slice none 0 0, .slice none 0 0, .int .i64 0, .slice none 0 0] [.lit (.slice none 0 0), .lit (.slice none 0 0), .lit (.slice none 0 0), .lit (.int .i64 0), .lit (.slice none 0 0)]) ?_
 refine wk_end ?_
 refine ac_next ?_
 refine aw_grp1 ?_
 refine wk_start ?_
 refine kv g0 (ldBA 5 [.sl .o 6 (l0_0.map e98), .sl .o 1 (l0_1.map (eI .i64)), .sl .o 6 (l0_2.map e97), .lit (.int .i64 a0_3), .sl .o 1 (l0_4.map (eI .i64))]) ?_
 obtain ⟨t1, A2, H⟩ := of_bind H
 refine kcS4 5 (.agg [.row 2, .row 3, .row 4, .lit (.int .i64 t1.2.2.2.1), .row 5]) [(2, .row 98 6 (t1.1.map e98)), (3, .row 3 1 (t1.2.1.map (eI .i64))), (4, .row 97 6 (t1.2.2.1.map e97)), (5, .row 3 1 (t1.2.2.2.2.map (eI .i64)))] g0 (cal (spec_l20Copy.ok A2) [2, 3, 4, 5] 9999 .n (hf := Try.func64)) rfl rfl ?_
 refine kb g0 (alc 6 [.slice none 0 0, .slice none 0 0, .slice none 0 0, .int .i64 0, .slice none 0 0] [.lit (.slice none 0 0), .lit (.slice none 0 0), .lit (.slice none 0 0), .lit (.int .i64 0), .lit (.slice none 0 0)]) ?_
 refine ks g0 (stB 5 [.row 2, .row 3, .row 4, .lit (.int .i64 t1.2.2.2.1), .row 5]) ?_
 refine wk_end ?_
 refine ac_next ?_
 refine aw_grp1 ?_
 refine wk_start ?_
 refine kv g0 (faB 0 0) ?_
 refine kv g0 (ldB) ?_
 refine kv g0 (lnS lenE) ?_
 refine kv g0 (faB 3 3) ?_
 refine ks g0 (stB 1 [.row 2, .row 3, .row 4, .lit (.int .i64 (l0_0.length : Int)), .row 5]) ?_
 refine wk_end ?_
 refine ac_next ?_
 refine aw_grp1 ?_
 refine wk_start ?_
 refine kb g0 (bsl 7 3 1 [.int .i64 0] (([] : List Int).map (eI .i64))) ?_
 refine kv g0 (faB 1 1) ?_
 refine kv g0 (ldB) ?_
 obtain ⟨c3, H⟩ := of_if H
 refine kc g0 (apR 8 3 1 8 [.int .i64 0] ((([] : List Int) ++ l0_1).map (eI .i64)) (.slF (flI)) (apb c3 rfl) appE) ?_
 refine kv g0 (faB 4 4) ?_
 refine ks g0 (stB 1 [.row 2, .row 3, .row 4, .lit (.int .i64 (l0_0.length : Int)), .row 8]) ?_
 refine wk_end ?_
 refine ac_next ?_
 refine aw_grp1 ?_
 refine wk_start ?_
 refine kv g0 (ldBA 5 [.row 2, .row 3, .row 4, .lit (.int .i64 (l0_0.length : Int)), .row 8]) ?_
 refine ks g0 (stB 5 [.row 2, .row 3, .row 4, .lit (.int .i64 (l0_0.length : Int)), .row 8]) ?_
 refine wk_end ?_
 refine ac_next ?_
 refine aw_ret ?_
 obtain rfl := Option.some.inj H
 exact acr hE [.cell 2 29] (rcA 5 .nil) (.one _) [(0, 2), (1, 3), (2, 4), (3, 8)] 9999
/-! spec_l01In -/
def spec_l01In.f (a0 : Int) (a1 : Int) (a2 : Int) : Option (Bool) := if a0 ≥ a1 then some (decide (a0 ≤ a2)) else some false
theorem spec_l01In.ok {a0 : Int} {a1 : Int} {a2 : Int} {r : Bool} (H : spec_l01In.f a0 a1 a2 = some r) : ACalls Try.prog 63 [] [.lit (.int .i64 a0), .lit (.int .i64 a1), .lit (.int .i64 a2)] [] (.lit (.bool r)) := by
 refine acalls (fn := Try.f63) (nt := 15) Try.func63 rfl rfl (Nat.le_of_ble_eq_true rfl) fun E hE => ?_
 rw [spec_l01In.f] at H
 refine aw_grp1 ?_
 refine wk_start ?_
 refine kv g0 (asg) ?_
 refine wk_end ?_
 refine ac_next ?_
 refine aw_grp1 ?_
 refine wk_start ?_
 refine kv g0 (mv) ?_
 refine kv g0 (mv) ?_
 refine kv g0 (geq) ?_
 refine kv g0 (mv) ?_
 by_cases c1 : a0 ≥ a1
 ·rw [if_pos c1] at H
  refine kv (g1 (decide_eq_true c1)) (mv) ?_
  refine kv (g1 (decide_eq_true c1)) (mv) ?_
  refine kv (g1 (decide_eq_true c1)) (leq) ?_
  refine kv g0 (pkT (decide_eq_true c1)) ?_
  refine kv g0 (asg) ?_
  refine wk_end ?_
  refine ac_next ?_
  refine aw_ret ?_
  obtain rfl := Option.some.inj H
  exact acr hE [.tmp 6] (.tmp .nil) (.one _) [] 9999
 rw [if_neg c1] at H
 refine kx (hT (decide_eq_false c1)) ?_
 refine kx (hT (decide_eq_false c1)) ?_
 refine kx (hT (decide_eq_false c1)) ?_
 refine kv g0 (pkF (decide_eq_false c1)) ?_
 refine kv g0 (asg) ?_
 refine wk_end ?_
 refine ac_next ?_
 refine aw_ret ?_
 obtain rfl := Option.some.inj H
 exact acr hE [.tmp 6] (.tmp .nil) (.one _) [] 9999
end Go.Proofs.Ytfeaemlakniijaa.PFnKeeps
