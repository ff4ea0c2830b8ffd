import Derived.Test.YtfeaemlakniijaaPFnSendersx0
set_option linter.unusedVariables false
set_option linter.unusedSimpArgs false
set_option maxRecDepth 100000
namespace Go.Proofs.Ytfeaemlakniijaa.PFnSenders
open Go Go.RowKit Go.Proofs.YtfeaemlakniijaaA
/-! laws_big -/
def laws_big.f (l0 : List Int) : Option (Bool) := some (decide ((l0.length : Int) > 1048576))
theorem laws_big.ok {l0 : List Int} {r : Bool} (H : laws_big.f l0 = some r) : ACalls Try.prog 8 [] [.sl .o 1 (l0.map (eI .u8))] [] (.lit (.bool r)) := by
 refine acalls (fn := Try.f8) (nt := 6) Try.func8 rfl rfl (Nat.le_of_ble_eq_true rfl) fun E hE => ?_
 rw [laws_big.f] at H
 refine aw_grp1 ?_
 refine wk_start ?_
 refine kv g0 (asg) ?_
 refine wk_end ?_
 refine ac_next ?_
 refine aw_grp1 ?_
 refine wk_start ?_
 refine kv g0 (mv) ?_
 refine kv g0 (lnS lenE) ?_
 refine kv g0 (gtr) ?_
 refine kv g0 (asg) ?_
 refine wk_end ?_
 refine ac_next ?_
 refine aw_ret ?_
 obtain rfl := Option.some.inj H
 exact acr hE [.tmp 2] (.tmp .nil) (.one _) [] 9999
/-! spec_l01New -/
def spec_l01New.l0 : Nat → (List Int) → Int → Int → Option ((List Int) × Int × Int)
 | 0, _, _, _ => none
 | k5 + 1, l0, p3, p4 => if p4 < (l0.length : Int) then if p4 < 4000 then if 0 ≤ p4 then spec_l01New.l0 k5 l0 (bits .and .i64 (wrap64 ((wrap64 ((wrap64 (p3 * 131)) + (wrap64 (rd l0 p4)))) + 7)) 1073741823) (wrap64 (p4 + 1)) else none else some (l0, 0, p3) else some (l0, 0, p3)
def spec_l01New.f (k : Nat) (l0 : List Int) : Option ((List Int) × Int × Int) := spec_l01New.l0 k l0 (wrap64 (78801 + (l0.length : Int))) 0
theorem spec_l01New.ok {k : Nat} {l0 : List Int} {r : (List Int) × Int × Int} (H : spec_l01New.f k l0 = some r) : ACalls Try.prog 50 [] [.sl .u 1 (l0.map (eI .u8))] [(0, .box 142 [.sl .u 1 (r.1.map (eI .u8)), .lit (.int .i64 r.2.1), .lit (.int .i64 r.2.2)])] (.box 0 0) := by
 refine acalls (fn := Try.f50) (nt := 32) Try.func50 rfl rfl (Nat.le_of_ble_eq_true rfl) fun E hE => ?_
 rw [spec_l01New.f] at H
 refine aw_grp1 ?_
 refine wk_start ?_
 refine kv g0 (asg) ?_
 refine wk_end ?_
 refine ac_next ?_
 refine aw_grp1 ?_
 refine wk_start ?_
 refine kv g0 (mv) ?_
 refine kv g0 (lnS lenE) ?_
 refine kv g0 (add6) ?_
 refine kv g0 (asg) ?_
 refine wk_end ?_
 refine ac_next ?_
 refine aw_grp1 ?_
 refine aw_grp1 ?_
 refine wk_start ?_
 refine kv g0 (asg) ?_
 refine wk_end ?_
 refine ac_next ?_
 refine aw_block ?_
 refine aw_loop2 (fun (k_ : Nat) (p3 : Int) (p4 : Int) => k_ ≤ k ∧ spec_l01New.l0 k_ l0 p3 p4 = some r) (fun (p3 : Int) (p4 : Int) => ⟨[(0, .sl .u 1 (l0.map (eI .u8))), (3, .lit (.int .i64 p3)), (4, .lit (.int .i64 p4))], []⟩) k (wrap64 (78801 + (l0.length : Int))) 0 ⟨Nat.le_refl _, H⟩ (fun K_ h_ => acw hE [] 9999 h_) (fun _ _ => by intro h_; have h_ := h_.2; rw [spec_l01New.l0.eq_1] at h_; cases h_) ?_
 intro k5 p3 p4 hq_ K9 hK10
 have hk5 := hq_.1
 have H := hq_.2
 clear hq_
 rw [spec_l01New.l0.eq_2] at H
 refine aw_grp1 ?_
 refine aw_grp1 ?_
 refine wk_start ?_
 refine kv g0 (mv) ?_
 refine kv g0 (mv) ?_
 refine kv g0 (lnS lenE) ?_
 refine kv g0 (lss) ?_
 refine kv g0 (mv) ?_
 by_cases c6 : p4 < (l0.length : Int)
 ·rw [if_pos c6] at H
  refine kv (g1 (decide_eq_true c6)) (mv) ?_
  refine kv (g1 (decide_eq_true c6)) (lss) ?_
  refine kv g0 (pkT (decide_eq_true c6)) ?_
  refine wk_end ?_
  refine ac_next ?_
  by_cases c7 : p4 < 4000
  ·rw [if_pos c7] at H
   refine aw_ifT ?_ (decide_eq_true c7)
   refine aw_skip ?_
   refine ac_next ?_
   refine aw_grp1 ?_
   refine aw_block ?_
   refine wk_start ?_
   refine kv g0 (mv) ?_
   refine kv g0 (mul6) ?_
   refine kv g0 (mv) ?_
   refine kv g0 (mv) ?_
   obtain ⟨c8, H⟩ := of_if H
   refine kv g0 (ixS 5 (eI .u8 (rd l0 p4)) c8 (getE (z := (0 : Int)) c8 c6)) ?_
   refine kv g0 (ldR (.lit (.int .u8 (rd l0 p4)))) ?_
   refine kv g0 (cnv6) ?_
   refine kv g0 (add6) ?_
   refine kv g0 (add6) ?_
   refine kv g0 (band) ?_
   refine kv g0 (asg) ?_
   refine wk_end ?_
   refine ac_blkN ?_
   refine ac_next ?_
   refine wk_start ?_
   refine kv g0 (mv) ?_
   refine kv g0 (add6) ?_
   refine kv g0 (asg) ?_
   refine wk_end ?_
   refine ac_k ?_
   exact acw hE [] 9999 (hK10 k5 (bits .and .i64 (wrap64 ((wrap64 ((wrap64 (p3 * 131)) + (wrap64 (rd l0 p4)))) + 7)) 1073741823) (wrap64 (p4 + 1)) (Nat.le_refl _) ⟨by omega, H⟩)
  rw [if_neg c7] at H
  refine aw_ifF ?_ (decide_eq_false c7)
  refine aw_exit ?_
  refine ac_then ?_
  refine ac_then ?_
  refine ac_hit rfl ?_
  refine ac_next ?_
  refine aw_grp1 ?_
  refine wk_start ?_
  refine kv g0 (mv) ?_
  refine kv g0 (mv) ?_
  refine kv g0 (bld [(0, 1), (1, 1), (2, 1)] [.slice none 0 0, .int .i64 0, .int .i64 0] [.sl .u 1 (l0.map (eI .u8)), .lit (.int .i64 0), .lit (.int .i64 p3)]) ?_
  refine kb g0 (bxA 0) ?_
  refine kv g0 (asg) ?_
  refine wk_end ?_
  refine ac_next ?_
  refine aw_ret ?_
  obtain rfl := Option.some.inj H
  exact acr hE [.tmp 2] (.tmp .nil) (.one _) [(0, 0)] 9999
 rw [if_neg c6] at H
 refine kx (hT (decide_eq_false c6)) ?_
 refine kx (hT (decide_eq_false c6)) ?_
 refine kv g0 (pkF (decide_eq_false c6)) ?_
 refine wk_end ?_
 refine ac_next ?_
 refine aw_ifF ?_ rfl
 refine aw_exit ?_
 refine ac_then ?_
 refine ac_then ?_
 refine ac_hit rfl ?_
 refine ac_next ?_
 refine aw_grp1 ?_
 refine wk_start ?_
 refine kv g0 (mv) ?_
 refine kv g0 (mv) ?_
 refine kv g0 (bld [(0, 1), (1, 1), (2, 1)] [.slice none 0 0, .int .i64 0, .int .i64 0] [.sl .u 1 (l0.map (eI .u8)), .lit (.int .i64 0), .lit (.int .i64 p3)]) ?_
 refine kb g0 (bxA 1) ?_
 refine kv g0 (asg) ?_
 refine wk_end ?_
 refine ac_next ?_
 refine aw_ret ?_
 obtain rfl := Option.some.inj H
 exact acr hE [.tmp 2] (.tmp .nil) (.one _) [(0, 1)] 9999
/-! spec_l01Byte -/
def spec_l01Byte.f (l0_0 : List Int) (a0_1 : Int) (a0_2 : Int) : Option (Int × (List Int) × Int × Int) := if a0_1 < (l0_0.length : Int) then (if 0 ≤ a0_1 then some (bits .and .i64 (wrap64 ((bits .and .i64 (bits .xor .i64 ((wrap64 ((wrap64 (a0_2 * 6364136223846793005)) + 1442695040888963407)).fdiv (2 ^ 33)) ((wrap64 ((wrap64 (a0_2 * 6364136223846793005)) + 1442695040888963407)).fdiv (2 ^ 45))) 255) + (wrap64 (rd l0_0 a0_1)))) 255, l0_0, wrap64 (a0_1 + 1), wrap64 ((wrap64 (a0_2 * 6364136223846793005)) + 1442695040888963407)) else none) else some (bits .and .i64 (bits .xor .i64 ((wrap64 ((wrap64 (a0_2 * 6364136223846793005)) + 1442695040888963407)).fdiv (2 ^ 33)) ((wrap64 ((wrap64 (a0_2 * 6364136223846793005)) + 1442695040888963407)).fdiv (2 ^ 45))) 255, l0_0, a0_1, wrap64 ((wrap64 (a0_2 * 6364136223846793005)) + 1442695040888963407))
theorem spec_l01Byte.ok {l0_0 : List Int} {a0_1 : Int} {a0_2 : Int} {r : Int × (List Int) × Int × Int} (H : spec_l01Byte.f l0_0 a0_1 a0_2 = some r) : ACalls Try.prog 51 [(0, .box 142 [.sl .u 1 (l0_0.map (eI .u8)), .lit (.int .i64 a0_1), .lit (.int .i64 a0_2)])] [.box 0 0] [(0, .box 142 [.sl .u 1 (r.2.1.map (eI .u8)), .lit (.int .i64 r.2.2.1), .lit (.int .i64 r.2.2.2)])] (.lit (.int .i64 r.1)) := by
 refine acalls (fn := Try.f51) (nt := 58) Try.func51 rfl rfl (Nat.le_of_ble_eq_true rfl) fun E hE => ?_
 rw [spec_l01Byte.f] at H
 refine aw_grp1 ?_
 refine wk_start ?_
 refine kv g0 (asg) ?_
 refine wk_end ?_
 refine ac_next ?_
 refine aw_grp1 ?_
 refine wk_start ?_
 refine kv g0 (mv) ?_
 refine kv g0 (mv) ?_
 refine kv g0 (nilB) ?_
 refine kv g0 (faB 2 2) ?_
 refine kv g0 (ldB) ?_
 refine kv g0 (mul6) ?_
 refine kv g0 (add6) ?_
 refine kv g0 (nilB) ?_
 refine kv g0 (faB 2 2) ?_
 refine ks g0 (stB 1 [.sl .u 1 (l0_0.map (eI .u8)), .lit (.int .i64 a0_1), .lit (.int .i64 (wrap64 ((wrap64 (a0_2 * 6364136223846793005)) + 1442695040888963407)))]) ?_
 refine wk_end ?_
 refine ac_next ?_
 refine aw_grp1 ?_
 refine wk_start ?_
 refine kv g0 (mv) ?_
 refine kv g0 (nilB) ?_
 refine kv g0 (faB 2 2) ?_
 refine kv g0 (ldB) ?_
 refine kv g0 (shr (by decide : (0 : Int) ≤ 33)) ?_
 refine kv g0 (mv) ?_
 refine kv g0 (nilB) ?_
 refine kv g0 (faB 2 2) ?_
 refine kv g0 (ldB) ?_
 refine kv g0 (shr (by decide : (0 : Int) ≤ 45)) ?_
 refine kv g0 (bxor) ?_
 refine kv g0 (band) ?_
 refine kv g0 (asg) ?_
 refine wk_end_draw hM (by kernel_rfl) ?_
 refine ac_next ?_
 refine aw_grp1 ?_
 refine aw_grp1 ?_
 refine wk_start ?_
 refine kv g0 (mv) ?_
 refine kv g0 (nilB) ?_
 refine kv g0 (faB 1 1) ?_
 refine kv g0 (ldB) ?_
 refine kv g0 (mv) ?_
 refine kv g0 (nilB) ?_
 refine kv g0 (faB 0 0) ?_
 refine kv g0 (ldB) ?_
 refine kv g0 (lnS lenE) ?_
 refine kv g0 (lss) ?_
 refine wk_end_draw hM (by kernel_rfl) ?_
 refine ac_next ?_
 by_cases c1 : a0_1 < (l0_0.length : Int)
 ·rw [if_pos c1] at H
  refine aw_ifT ?_ (decide_eq_true c1)
  refine aw_grp1 ?_
  refine wk_start ?_
  refine kv g0 (mv) ?_
  refine kv g0 (mv) ?_
  refine kv g0 (nilB) ?_
  refine kv g0 (faB 0 0) ?_
  refine kv g0 (ldB) ?_
  refine kv g0 (mv) ?_
  refine kv g0 (nilB) ?_
  refine kv g0 (faB 1 1) ?_
  refine kv g0 (ldB) ?_
  obtain ⟨c2, H⟩ := of_if H
  refine kv g0 (ixS 5 (eI .u8 (rd l0_0 a0_1)) c2 (getE (z := (0 : Int)) c2 c1)) ?_
  refine kv g0 (ldR (.lit (.int .u8 (rd l0_0 a0_1)))) ?_
  refine kv g0 (cnv6) ?_
  refine kv g0 (add6) ?_
  refine kv g0 (band) ?_
  refine kv g0 (asg) ?_
  refine wk_end_draw hM (by kernel_rfl) ?_
  refine ac_next ?_
  refine wk_start ?_
  refine kv g0 (mv) ?_
  refine kv g0 (mv) ?_
  refine kv g0 (nilB) ?_
  refine kv g0 (faB 1 1) ?_
  refine kv g0 (ldB) ?_
  refine kv g0 (add6) ?_
  refine kv g0 (nilB) ?_
  refine kv g0 (faB 1 1) ?_
  refine ks g0 (stB 1 [.sl .u 1 (l0_0.map (eI .u8)), .lit (.int .i64 (wrap64 (a0_1 + 1))), .lit (.int .i64 (wrap64 ((wrap64 (a0_2 * 6364136223846793005)) + 1442695040888963407)))]) ?_
  refine wk_end ?_
  refine ac_next ?_
  refine aw_grp1 ?_
  refine wk_start ?_
  refine kv g0 (mv) ?_
  refine kv g0 (asg) ?_
  refine wk_end ?_
  refine ac_next ?_
  refine aw_ret ?_
  obtain rfl := Option.some.inj H
  exact acr hE [.tmp 2] (.tmp .nil) (.one _) [(0, 0)] 9999
 rw [if_neg c1] at H
 refine aw_ifF ?_ (decide_eq_false c1)
 refine aw_skip ?_
 refine ac_next ?_
 refine aw_grp1 ?_
 refine wk_start ?_
 refine kv g0 (mv) ?_
 refine kv g0 (asg) ?_
 refine wk_end ?_
 refine ac_next ?_
 refine aw_ret ?_
 obtain rfl := Option.some.inj H
 exact acr hE [.tmp 2] (.tmp .nil) (.one _) [(0, 0)] 9999
/-! spec_l01Below -/
def spec_l01Below.f (l0_0 : List Int) (a0_1 : Int) (a0_2 : Int) (a1 : Int) : Option (Int × (List Int) × Int × Int) := if a1 ≤ 0 then some (0, l0_0, a0_1, a0_2) else if a1 ≤ 256 then ((spec_l01Byte.f l0_0 a0_1 a0_2).bind fun t3 => (if a1 ≠ 0 then some (t3.1.tmod a1, t3.2.1, t3.2.2.1, t3.2.2.2) else none)) else (spec_l01Byte.f l0_0 a0_1 a0_2).bind fun t6 => (spec_l01Byte.f t6.2.1 t6.2.2.1 t6.2.2.2).bind fun t8 => (spec_l01Byte.f t8.2.1 t8.2.2.1 t8.2.2.2).bind fun t10 => (spec_l01Byte.f t10.2.1 t10.2.2.1 t10.2.2.2).bind fun t12 => if a1 ≠ 0 then some ((wrap64 ((wrap64 ((wrap64 ((wrap64 (t6.1 * 16777216)) + (wrap64 (t8.1 * 65536)))) + (wrap64 (t10.1 * 256)))) + t12.1)).tmod a1, t12.2.1, t12.2.2.1, t12.2.2.2) else none
theorem spec_l01Below.ok {l0_0 : List Int} {a0_1 : Int} {a0_2 : Int} {a1 : Int} {r : Int × (List Int) × Int × Int} (H : spec_l01Below.f l0_0 a0_1 a0_2 a1 = some r) : ACalls Try.prog 52 [(0, .box 142 [.sl .u 1 (l0_0.map (eI .u8)), .lit (.int .i64 a0_1), .lit (.int .i64 a0_2)])] [.box 0 0, .lit (.int .i64 a1)] [(0, .box 142 [.sl .u 1 (r.2.1.map (eI .u8)), .lit (.int .i64 r.2.2.1), .lit (.int .i64 r.2.2.2)])] (.lit (.int .i64 r.1)) := by
 refine acalls (fn := Try.f52) (nt := 37) Try.func52 rfl rfl (Nat.le_of_ble_eq_true rfl) fun E hE => ?_
 rw [spec_l01Below.f] at H
 refine aw_grp1 ?_
 refine wk_start ?_
 refine kv g0 (asg) ?_
 refine wk_end ?_
 refine ac_next ?_
 refine aw_grp1 ?_
 refine aw_grp1 ?_
 refine wk_start ?_
 refine kv g0 (mv) ?_
 refine kv g0 (leq) ?_
 refine wk_end ?_
 refine ac_next ?_
 by_cases c1 : a1 ≤ 0
 ·rw [if_pos c1] at H
  refine aw_ifT ?_ (decide_eq_true c1)
  refine aw_grp1 ?_
  refine wk_start ?_
  refine kv g0 (asg) ?_
  refine wk_end ?_
  refine ac_next ?_
  refine aw_ret ?_
  refine ac_thenR ?_
  obtain rfl := Option.some.inj H
  exact acr hE [.tmp 4] (.tmp .nil) (.one _) [(0, 0)] 9999
 rw [if_neg c1] at H
 refine aw_ifF ?_ (decide_eq_false c1)
 refine aw_skip ?_
 refine ac_next ?_
 refine aw_grp1 ?_
 refine aw_grp1 ?_
 refine wk_start ?_
 refine kv g0 (mv) ?_
 refine kv g0 (leq) ?_
 refine wk_end ?_
 refine ac_next ?_
 by_cases c2 : a1 ≤ 256
 ·rw [if_pos c2] at H
  refine aw_ifT ?_ (decide_eq_true c2)
  refine aw_grp1 ?_
  refine wk_start ?_
  refine kv g0 (mv) ?_
  obtain ⟨t3, A4, H⟩ := of_bind H
  refine kcS1 14 (.lit (.int .i64 t3.1)) [(0, .box 142 [.sl .u 1 (t3.2.1.map (eI .u8)), .lit (.int .i64 t3.2.2.1), .lit (.int .i64 t3.2.2.2)])] g0 (cal (spec_l01Byte.ok A4) [0] 9999 .u (hf := Try.func51)) rfl rfl ?_
  refine kv g0 (mv) ?_
  obtain ⟨c5, H⟩ := of_if H
  refine kv g0 (rem c5) ?_
  refine kv g0 (asg) ?_
  refine wk_end ?_
  refine ac_next ?_
  refine aw_ret ?_
  refine ac_thenR ?_
  obtain rfl := Option.some.inj H
  exact acr hE [.tmp 4] (.tmp .nil) (.one _) [(0, 0)] 9999
 rw [if_neg c2] at H
 refine aw_ifF ?_ (decide_eq_false c2)
 refine aw_skip ?_
 refine ac_next ?_
 refine aw_grp1 ?_
 refine wk_start ?_
 refine kv g0 (mv) ?_
 obtain ⟨t6, A7, H⟩ := of_bind H
 refine kcS1 18 (.lit (.int .i64 t6.1)) [(0, .box 142 [.sl .u 1 (t6.2.1.map (eI .u8)), .lit (.int .i64 t6.2.2.1), .lit (.int .i64 t6.2.2.2)])] g0 (cal (spec_l01Byte.ok A7) [0] 9999 .u (hf := Try.func51)) rfl rfl ?_
 refine kv g0 (asg) ?_
 refine wk_end ?_
 refine ac_next ?_
 refine aw_grp1 ?_
 refine wk_start ?_
 refine kv g0 (mv) ?_
 obtain ⟨t8, A9, H⟩ := of_bind H
 refine kcS1 20 (.lit (.int .i64 t8.1)) [(0, .box 142 [.sl .u 1 (t8.2.1.map (eI .u8)), .lit (.int .i64 t8.2.2.1), .lit (.int .i64 t8.2.2.2)])] g0 (cal (spec_l01Byte.ok A9) [0] 9999 .u (hf := Try.func51)) rfl rfl ?_
 refine kv g0 (asg) ?_
 refine wk_end ?_
 refine ac_next ?_
 refine aw_grp1 ?_
 refine wk_start ?_
 refine kv g0 (mv) ?_
 obtain ⟨t10, A11, H⟩ := of_bind H
 refine kcS1 22 (.lit (.int .i64 t10.1)) [(0, .box 142 [.sl .u 1 (t10.2.1.map (eI .u8)), .lit (.int .i64 t10.2.2.1), .lit (.int .i64 t10.2.2.2)])] g0 (cal (spec_l01Byte.ok A11) [0] 9999 .u (hf := Try.func51)) rfl rfl ?_
 refine kv g0 (asg) ?_
 refine wk_end ?_
 refine ac_next ?_
 refine aw_grp1 ?_
 refine wk_start ?_
 refine kv g0 (mv) ?_
 obtain ⟨t12, A13, H⟩ := of_bind H
 refine kcS1 24 (.lit (.int .i64 t12.1)) [(0, .box 142 [.sl .u 1 (t12.2.1.map (eI .u8)), .lit (.int .i64 t12.2.2.1), .lit (.int .i64 t12.2.2.2)])] g0 (cal (spec_l01Byte.ok A13) [0] 9999 .u (hf := Try.func51)) rfl rfl ?_
 refine kv g0 (asg) ?_
 refine wk_end ?_
 refine ac_next ?_
 refine aw_grp1 ?_
 refine wk_start ?_
 refine kv g0 (mv) ?_
 refine kv g0 (mul6) ?_
 refine kv g0 (mv) ?_
 refine kv g0 (mul6) ?_
 refine kv g0 (add6) ?_
 refine kv g0 (mv) ?_
 refine kv g0 (mul6) ?_
 refine kv g0 (add6) ?_
 refine kv g0 (mv) ?_
 refine kv g0 (add6) ?_
 refine kv g0 (mv) ?_
 obtain ⟨c14, H⟩ := of_if H
 refine kv g0 (rem c14) ?_
 refine kv g0 (asg) ?_
 refine wk_end ?_
 refine ac_next ?_
 refine aw_ret ?_
 obtain rfl := Option.some.inj H
 exact acr hE [.tmp 4] (.tmp .nil) (.one _) [(0, 0)] 9999
/-! spec_SenderNew -/
def spec_SenderNew.f (a0 : Int) : Option (Int × Int × Int × Int) := some (a0, 1, 0, 1)
theorem spec_SenderNew.ok {a0 : Int} {r : Int × Int × Int × Int} (H : spec_SenderNew.f a0 = some r) : ACalls Try.prog 139 [] [.lit (.int .i64 a0)] [] (.agg [.lit (.int .i64 r.1), .lit (.int .i64 r.2.1), .lit (.slice none 0 0), .lit (.int .i64 r.2.2.1), .lit (.int .i64 r.2.2.2)]) := by
 refine acalls (fn := Try.f139) (nt := 5) Try.func139 rfl rfl (Nat.le_of_ble_eq_true rfl) fun E hE => ?_
 rw [spec_SenderNew.f] at H
 refine aw_grp1 ?_
 refine wk_start ?_
 refine kb g0 (alc 0 [.int .i64 0, .int .i64 0, .slice none 0 0, .int .i64 0, .int .i64 0] [.lit (.int .i64 0), .lit (.int .i64 0), .lit (.slice none 0 0), .lit (.int .i64 0), .lit (.int .i64 0)]) ?_
 refine wk_end ?_
 refine ac_next ?_
 refine aw_grp1 ?_
 refine wk_start ?_
 refine kv g0 (mv) ?_
 refine kv g0 (bld [(0, 1), (1, 1), (2, 1), (3, 1), (4, 1)] [.int .i64 0, .int .i64 0, .slice none 0 0, .int .i64 0, .int .i64 0] [.lit (.int .i64 a0), .lit (.int .i64 1), .lit (.slice none 0 0), .lit (.int .i64 0), .lit (.int .i64 1)]) ?_
 refine ks g0 (stB 5 [.lit (.int .i64 a0), .lit (.int .i64 1), .lit (.slice none 0 0), .lit (.int .i64 0), .lit (.int .i64 1)]) ?_
 refine wk_end ?_
 refine ac_next ?_
 refine aw_ret ?_
 obtain rfl := Option.some.inj H
 exact acr hE [.cell 2 75] (rcA 5 .nil) (.one _) [] 9999
/-! spec_RingNew -/
def spec_RingNew.f  : Option (Int × Int × Int) := some (5, 0, 0)
theorem spec_RingNew.ok {r : Int × Int × Int} (H : spec_RingNew.f = some r) : ACalls Try.prog 160 [] [] [] (.agg [.lit (.slice none 0 0), .lit (.int .i64 r.1), .lit (.int .i64 r.2.1), .lit (.int .i64 r.2.2)]) := by
 refine acalls (fn := Try.f160) (nt := 2) Try.func160 rfl rfl (Nat.le_of_ble_eq_true rfl) fun E hE => ?_
 rw [spec_RingNew.f] at H
 refine aw_grp1 ?_
 refine wk_start ?_
 refine kb g0 (alc 0 [.slice none 0 0, .int .i64 0, .int .i64 0, .int .i64 0] [.lit (.slice none 0 0), .lit (.int .i64 0), .lit (.int .i64 0), .lit (.int .i64 0)]) ?_
 refine wk_end ?_
 refine ac_next ?_
 refine aw_grp1 ?_
 refine wk_start ?_
 refine kv g0 (bld [(0, 1), (1, 1), (2, 1), (3, 1)] [.slice none 0 0, .int .i64 0, .int .i64 0, .int .i64 0] [.lit (.slice none 0 0), .lit (.int .i64 5), .lit (.int .i64 0), .lit (.int .i64 0)]) ?_
 refine ks g0 (stB 4 [.lit (.slice none 0 0), .lit (.int .i64 5), .lit (.int .i64 0), .lit (.int .i64 0)]) ?_
 refine wk_end ?_
 refine ac_next ?_
 refine aw_ret ?_
 obtain rfl := Option.some.inj H
 exact acr hE [.cell 0 164] (rcA 4 .nil) (.one _) [] 9999
/-! spec_l16Copy -/
def spec_l16Copy.f (l0_0 : List S34) (a0_1 : Int) (a0_2 : Int) (a0_3 : Int) : Option ((List S34) × Int × Int × Int) := if ([] : List S34).length + l0_0.length < 4398046511104 then some (([] : List S34) ++ l0_0, a0_1, a0_2, a0_3) else none
theorem spec_l16Copy.ok {l0_0 : List S34} {a0_1 : Int} {a0_2 : Int} {a0_3 : Int} {r : (List S34) × Int × Int × Int} (H : spec_l16Copy.f l0_0 a0_1 a0_2 a0_3 = some r) : ACalls Try.prog 167 [] [.agg [.sl .o 4 (l0_0.map e34), .lit (.int .i64 a0_1), .lit (.int .i64 a0_2), .lit (.int .i64 a0_3)]] [(0, .row 34 4 (r.1.map e34))] (.agg [.row 0, .lit (.int .i64 r.2.1), .lit (.int .i64 r.2.2.1), .lit (.int .i64 r.2.2.2)]) := by
 refine acalls (fn := Try.f167) (nt := 11) Try.func167 rfl rfl (Nat.le_of_ble_eq_true rfl) fun E hE => ?_
 rw [spec_l16Copy.f] at H
 refine aw_grp1 ?_
 refine wk_start ?_
 refine kb g0 (bxA 0) ?_
 refine kb g0 (alc 1 [.slice none 0 0, .int .i64 0, .int .i64 0, .int .i64 0] [.lit (.slice none 0 0), .lit (.int .i64 0), .lit (.int .i64 0), .lit (.int .i64 0)]) ?_
 refine wk_end ?_
 refine ac_next ?_
 refine aw_grp1 ?_
 refine wk_start ?_
 refine kv g0 (ldBA 4 [.sl .o 4 (l0_0.map e34), .lit (.int .i64 a0_1), .lit (.int .i64 a0_2), .lit (.int .i64 a0_3)]) ?_
 refine kb g0 (alc 2 [.slice none 0 0, .int .i64 0, .int .i64 0, .int .i64 0] [.lit (.slice none 0 0), .lit (.int .i64 0), .lit (.int .i64 0), .lit (.int .i64 0)]) ?_
 refine ks g0 (stB 4 [.sl .o 4 (l0_0.map e34), .lit (.int .i64 a0_1), .lit (.int .i64 a0_2), .lit (.int .i64 a0_3)]) ?_
 refine wk_end ?_
 refine ac_next ?_
 refine aw_grp1 ?_
 refine wk_start ?_
 refine kb g0 (bsl 3 34 4 [.int .i64 0, .int .i64 0, .int .i64 0, .int .i64 0] (([] : List S34).map e34)) ?_
 refine kv g0 (faB 0 0) ?_
 refine kv g0 (ldB) ?_
 obtain ⟨c1, H⟩ := of_if H
 refine kc g0 (apR 4 34 4 32 [.int .i64 0, .int .i64 0, .int .i64 0, .int .i64 0] ((([] : List S34) ++ l0_0).map e34) (.slF (fl34)) (apb c1 rfl) appE) ?_
 refine kv g0 (faB 0 0) ?_
 refine ks g0 (stB 1 [.row 4, .lit (.int .i64 a0_1), .lit (.int .i64 a0_2), .lit (.int .i64 a0_3)]) ?_
 refine wk_end ?_
 refine ac_next ?_
 refine aw_grp1 ?_
 refine wk_start ?_
 refine kv g0 (ldBA 4 [.row 4, .lit (.int .i64 a0_1), .lit (.int .i64 a0_2), .lit (.int .i64 a0_3)]) ?_
 refine ks g0 (stB 4 [.row 4, .lit (.int .i64 a0_1), .lit (.int .i64 a0_2), .lit (.int .i64 a0_3)]) ?_
 refine wk_end ?_
 refine ac_next ?_
 refine aw_ret ?_
 obtain rfl := Option.some.inj H
 exact acr hE [.cell 2 164] (rcA 4 .nil) (.one _) [(0, 4)] 9999
/-! spec_Refilled -/
def spec_Refilled.f (l0_0 : List S34) (a0_1 : Int) (a0_2 : Int) (a0_3 : Int) (a1 : Int) : Option ((List S34) × Int × Int × Int) := (spec_l16Copy.f l0_0 a0_1 a0_2 a0_3).bind fun t1 => if a1 < 0 then some (t1.1, t1.2.1, t1.2.2.1, t1.2.2.2) else if a1 > 5 then some (t1.1, 5, t1.2.2.1, t1.2.2.2) else if a0_1 > (wrap64 (5 - a1)) then some (t1.1, 5, t1.2.2.1, t1.2.2.2) else some (t1.1, wrap64 (a0_1 + a1), t1.2.2.1, t1.2.2.2)
theorem spec_Refilled.ok {l0_0 : List S34} {a0_1 : Int} {a0_2 : Int} {a0_3 : Int} {a1 : Int} {r : (List S34) × Int × Int × Int} (H : spec_Refilled.f l0_0 a0_1 a0_2 a0_3 a1 = some r) : ACalls Try.prog 161 [] [.agg [.sl .o 4 (l0_0.map e34), .lit (.int .i64 a0_1), .lit (.int .i64 a0_2), .lit (.int .i64 a0_3)], .lit (.int .i64 a1)] [(0, .row 34 4 (r.1.map e34))] (.agg [.row 0, .lit (.int .i64 r.2.1), .lit (.int .i64 r.2.2.1), .lit (.int .i64 r.2.2.2)]) := by
 refine acalls (fn := Try.f161) (nt := 27) Try.func161 rfl rfl (Nat.le_of_ble_eq_true rfl) fun E hE => ?_
 rw [spec_Refilled.f] at H
 refine aw_grp1 ?_
 refine wk_start ?_
 refine kb g0 (bxA 0) ?_
 refine kb g0 (alc 1 [.slice none 0 0, .int .i64 0, .int .i64 0, .int .i64 0] [.lit (.slice none 0 0), .lit (.int .i64 0), .lit (.int .i64 0), .lit (.int .i64 0)]) ?_
 refine wk_end ?_
 refine ac_next ?_
 refine aw_grp1 ?_
 refine wk_start ?_
 refine kv g0 (ldBA 4 [.sl .o 4 (l0_0.map e34), .lit (.int .i64 a0_1), .lit (.int .i64 a0_2), .lit (.int .i64 a0_3)]) ?_
 obtain ⟨t1, A2, H⟩ := of_bind H
 refine kcS1 7 (.agg [.row 2, .lit (.int .i64 t1.2.1), .lit (.int .i64 t1.2.2.1), .lit (.int .i64 t1.2.2.2)]) [(2, .row 34 4 (t1.1.map e34))] g0 (cal (spec_l16Copy.ok A2) [2] 9999 .n (hf := Try.func167)) rfl rfl ?_
 refine kb g0 (alc 3 [.slice none 0 0, .int .i64 0, .int .i64 0, .int .i64 0] [.lit (.slice none 0 0), .lit (.int .i64 0), .lit (.int .i64 0), .lit (.int .i64 0)]) ?_
 refine ks g0 (stB 4 [.row 2, .lit (.int .i64 t1.2.1), .lit (.int .i64 t1.2.2.1), .lit (.int .i64 t1.2.2.2)]) ?_
 refine wk_end ?_
 refine ac_next ?_
 refine aw_grp1 ?_
 refine aw_grp1 ?_
 refine wk_start ?_
 refine kv g0 (mv) ?_
 refine kv g0 (lss) ?_
 refine wk_end ?_
 refine ac_next ?_
 by_cases c3 : a1 < 0
 ·rw [if_pos c3] at H
  refine aw_ifT ?_ (decide_eq_true c3)
  refine aw_grp1 ?_
  refine wk_start ?_
  refine kv g0 (ldBA 4 [.row 2, .lit (.int .i64 t1.2.1), .lit (.int .i64 t1.2.2.1), .lit (.int .i64 t1.2.2.2)]) ?_
  refine ks g0 (stB 4 [.row 2, .lit (.int .i64 t1.2.1), .lit (.int .i64 t1.2.2.1), .lit (.int .i64 t1.2.2.2)]) ?_
  refine wk_end ?_
  refine ac_next ?_
  refine aw_ret ?_
  refine ac_thenR ?_
  obtain rfl := Option.some.inj H
  exact acr hE [.cell 4 164] (rcA 4 .nil) (.one _) [(0, 2)] 9999
 rw [if_neg c3] at H
 refine aw_ifF ?_ (decide_eq_false c3)
 refine aw_skip ?_
 refine ac_next ?_
 refine aw_grp1 ?_
 refine aw_grp1 ?_
 refine wk_start ?_
 refine kv g0 (mv) ?_
 refine kv g0 (gtr) ?_
 refine kv g0 (mv) ?_
 by_cases c4 : a1 > 5
 ·rw [if_pos c4] at H
  refine kx (hF (decide_eq_true c4)) ?_
  refine kx (hF (decide_eq_true c4)) ?_
  refine kx (hF (decide_eq_true c4)) ?_
  refine kx (hF (decide_eq_true c4)) ?_
  refine kx (hF (decide_eq_true c4)) ?_
  refine kv g0 (pkT (decide_eq_true c4)) ?_
  refine wk_end ?_
  refine ac_next ?_
  refine aw_ifT ?_ rfl
  refine wk_start ?_
  refine kv g0 (faB 1 1) ?_
  refine ks g0 (stB 1 [.row 2, .lit (.int .i64 5), .lit (.int .i64 t1.2.2.1), .lit (.int .i64 t1.2.2.2)]) ?_
  refine wk_end ?_
  refine ac_next ?_
  refine aw_grp1 ?_
  refine wk_start ?_
  refine kv g0 (ldBA 4 [.row 2, .lit (.int .i64 5), .lit (.int .i64 t1.2.2.1), .lit (.int .i64 t1.2.2.2)]) ?_
  refine ks g0 (stB 4 [.row 2, .lit (.int .i64 5), .lit (.int .i64 t1.2.2.1), .lit (.int .i64 t1.2.2.2)]) ?_
  refine wk_end ?_
  refine ac_next ?_
  refine aw_ret ?_
  obtain rfl := Option.some.inj H
  exact acr hE [.cell 4 164] (rcA 4 .nil) (.one _) [(0, 2)] 9999
 rw [if_neg c4] at H
 refine kv (g1 (decide_eq_false c4)) (faB 1 1) ?_
 refine kv (g1 (decide_eq_false c4)) (ldB) ?_
 refine kv (g1 (decide_eq_false c4)) (mv) ?_
 refine kv (g1 (decide_eq_false c4)) (sub6) ?_
 refine kv (g1 (decide_eq_false c4)) (gtr) ?_
 refine kv g0 (pkF (decide_eq_false c4)) ?_
 refine wk_end ?_
 refine ac_next ?_
 by_cases c5 : a0_1 > (wrap64 (5 - a1))
 ·rw [if_pos c5] at H
  refine aw_ifT ?_ (decide_eq_true c5)
  refine wk_start ?_
  refine kv g0 (faB 1 1) ?_
  refine ks g0 (stB 1 [.row 2, .lit (.int .i64 5), .lit (.int .i64 t1.2.2.1), .lit (.int .i64 t1.2.2.2)]) ?_
  refine wk_end ?_
  refine ac_next ?_
  refine aw_grp1 ?_
  refine wk_start ?_
  refine kv g0 (ldBA 4 [.row 2, .lit (.int .i64 5), .lit (.int .i64 t1.2.2.1), .lit (.int .i64 t1.2.2.2)]) ?_
  refine ks g0 (stB 4 [.row 2, .lit (.int .i64 5), .lit (.int .i64 t1.2.2.1), .lit (.int .i64 t1.2.2.2)]) ?_
  refine wk_end ?_
  refine ac_next ?_
  refine aw_ret ?_
  obtain rfl := Option.some.inj H
  exact acr hE [.cell 4 164] (rcA 4 .nil) (.one _) [(0, 2)] 9999
 rw [if_neg c5] at H
 refine aw_ifF ?_ (decide_eq_false c5)
 refine wk_start ?_
 refine kv g0 (faB 1 1) ?_
 refine kv g0 (ldB) ?_
 refine kv g0 (mv) ?_
 refine kv g0 (add6) ?_
 refine kv g0 (faB 1 1) ?_
 refine ks g0 (stB 1 [.row 2, .lit (.int .i64 (wrap64 (a0_1 + a1))), .lit (.int .i64 t1.2.2.1), .lit (.int .i64 t1.2.2.2)]) ?_
 refine wk_end ?_
 refine ac_next ?_
 refine aw_grp1 ?_
 refine wk_start ?_
 refine kv g0 (ldBA 4 [.row 2, .lit (.int .i64 (wrap64 (a0_1 + a1))), .lit (.int .i64 t1.2.2.1), .lit (.int .i64 t1.2.2.2)]) ?_
 refine ks g0 (stB 4 [.row 2, .lit (.int .i64 (wrap64 (a0_1 + a1))), .lit (.int .i64 t1.2.2.1), .lit (.int .i64 t1.2.2.2)]) ?_
 refine wk_end ?_
 refine ac_next ?_
 refine aw_ret ?_
 obtain rfl := Option.some.inj H
 exact acr hE [.cell 4 164] (rcA 4 .nil) (.one _) [(0, 2)] 9999
/-! spec_Drained -/
def spec_Drained.f (l0_0 : List S34) (a0_1 : Int) (a0_2 : Int) (a0_3 : Int) : Option ((List S34) × Int × Int × Int × Int × Int × Int × Int × Bool) := (spec_l16Copy.f l0_0 a0_1 a0_2 a0_3).bind fun t1 => if (l0_0.length : Int) > 0 then (if 0 < (l0_0.length : Int) then if 1 ≤ (l0_0.length : Int) then (if ([] : List S34).length + (l0_0.drop 1).length < 4398046511104 then some (([] : List S34) ++ (l0_0.drop 1), t1.2.1, t1.2.2.1, t1.2.2.2, (rd_T34 l0_0 0).f0, (rd_T34 l0_0 0).f1, (rd_T34 l0_0 0).f2, (rd_T34 l0_0 0).f3, true) else none) else none else none) else if a0_2 = 0 then some (t1.1, t1.2.1, t1.2.2.1, t1.2.2.2, 0, 0, 0, 0, false) else some (t1.1, t1.2.1, 0, t1.2.2.2, 2, 0, 0, a0_2, true)
theorem spec_Drained.ok {l0_0 : List S34} {a0_1 : Int} {a0_2 : Int} {a0_3 : Int} {r : (List S34) × Int × Int × Int × Int × Int × Int × Int × Bool} (H : spec_Drained.f l0_0 a0_1 a0_2 a0_3 = some r) : ACalls Try.prog 162 [] [.agg [.sl .o 4 (l0_0.map e34), .lit (.int .i64 a0_1), .lit (.int .i64 a0_2), .lit (.int .i64 a0_3)]] [(0, .row 34 4 (r.1.map e34))] (.tup [.agg [.row 0, .lit (.int .i64 r.2.1), .lit (.int .i64 r.2.2.1), .lit (.int .i64 r.2.2.2.1)], .agg [.lit (.int .i64 r.2.2.2.2.1), .lit (.int .i64 r.2.2.2.2.2.1), .lit (.int .i64 r.2.2.2.2.2.2.1), .lit (.int .i64 r.2.2.2.2.2.2.2.1)], .lit (.bool r.2.2.2.2.2.2.2.2)]) := by
 refine acalls (fn := Try.f162) (nt := 35) Try.func162 rfl rfl (Nat.le_of_ble_eq_true rfl) fun E hE => ?_
 rw [spec_Drained.f] at H
 refine aw_grp1 ?_
 refine wk_start ?_
 refine kb g0 (bxA 0) ?_
 refine kb g0 (alc 1 [.slice none 0 0, .int .i64 0, .int .i64 0, .int .i64 0] [.lit (.slice none 0 0), .lit (.int .i64 0), .lit (.int .i64 0), .lit (.int .i64 0)]) ?_
 refine kb g0 (alc 2 [.int .i64 0, .int .i64 0, .int .i64 0, .int .i64 0] [.lit (.int .i64 0), .lit (.int .i64 0), .lit (.int .i64 0), .lit (.int .i64 0)]) ?_
 refine kv g0 (asg) ?_
 refine wk_end ?_
 refine ac_next ?_
 refine aw_grp1 ?_
 refine wk_start ?_
 refine kv g0 (ldBA 4 [.sl .o 4 (l0_0.map e34), .lit (.int .i64 a0_1), .lit (.int .i64 a0_2), .lit (.int .i64 a0_3)]) ?_
 obtain ⟨t1, A2, H⟩ := of_bind H
 refine kcS1 8 (.agg [.row 3, .lit (.int .i64 t1.2.1), .lit (.int .i64 t1.2.2.1), .lit (.int .i64 t1.2.2.2)]) [(3, .row 34 4 (t1.1.map e34))] g0 (cal (spec_l16Copy.ok A2) [3] 9999 .n (hf := Try.func167)) rfl rfl ?_
 refine kb g0 (alc 4 [.slice none 0 0, .int .i64 0, .int .i64 0, .int .i64 0] [.lit (.slice none 0 0), .lit (.int .i64 0), .lit (.int .i64 0), .lit (.int .i64 0)]) ?_
 refine ks g0 (stB 4 [.row 3, .lit (.int .i64 t1.2.1), .lit (.int .i64 t1.2.2.1), .lit (.int .i64 t1.2.2.2)]) ?_
 refine wk_end ?_
 refine ac_next ?_
 refine aw_grp1 ?_
 refine aw_grp1 ?_
 refine wk_start ?_
 refine kv g0 (faB 0 0) ?_
 refine kv g0 (ldB) ?_
 refine kv g0 (lnS lenE) ?_
 refine kv g0 (gtr) ?_
 refine wk_end ?_
 refine ac_next ?_
 by_cases c3 : (l0_0.length : Int) > 0
 ·rw [if_pos c3] at H
  refine aw_ifT ?_ (decide_eq_true c3)
  refine aw_grp1 ?_
  refine wk_start ?_
  refine kv g0 (faB 0 0) ?_
  refine kv g0 (ldB) ?_
  obtain ⟨c4, H⟩ := of_if H
  refine kv g0 (ixS 34 (e34 (rd_T34 l0_0 0)) (by decide : (0 : Int) ≤ 0) (getE (z := z34) (by decide : (0 : Int) ≤ 0) c4)) ?_
  refine kv g0 (ldRA 4 [.lit (.int .i64 ((rd_T34 l0_0 0).f0)), .lit (.int .i64 ((rd_T34 l0_0 0).f1)), .lit (.int .i64 ((rd_T34 l0_0 0).f2)), .lit (.int .i64 ((rd_T34 l0_0 0).f3))]) ?_
  refine kb g0 (alc 5 [.int .i64 0, .int .i64 0, .int .i64 0, .int .i64 0] [.lit (.int .i64 0), .lit (.int .i64 0), .lit (.int .i64 0), .lit (.int .i64 0)]) ?_
  refine ks g0 (stB 4 [.lit (.int .i64 ((rd_T34 l0_0 0).f0)), .lit (.int .i64 ((rd_T34 l0_0 0).f1)), .lit (.int .i64 ((rd_T34 l0_0 0).f2)), .lit (.int .i64 ((rd_T34 l0_0 0).f3))]) ?_
  refine wk_end ?_
  refine ac_next ?_
  refine aw_grp1 ?_
  refine wk_start ?_
  refine kb g0 (bsl 6 34 4 [.int .i64 0, .int .i64 0, .int .i64 0, .int .i64 0] (([] : List S34).map e34)) ?_
  refine kv g0 (faB 0 0) ?_
  refine kv g0 (ldB) ?_
  obtain ⟨c5, H⟩ := of_if H
  refine kv g0 (slL 34 (by decide : (0 : Int) ≤ 1) c5) ?_
  obtain ⟨c6, H⟩ := of_if H
  refine kc g0 (apR 7 34 4 32 [.int .i64 0, .int .i64 0, .int .i64 0, .int .i64 0] ((([] : List S34) ++ (l0_0.drop 1)).map e34) (.slF (fl34)) (apb c6 rfl) appE) ?_
  refine kv g0 (faB 0 0) ?_
  refine ks g0 (stB 1 [.row 7, .lit (.int .i64 t1.2.1), .lit (.int .i64 t1.2.2.1), .lit (.int .i64 t1.2.2.2)]) ?_
  refine wk_end ?_
  refine ac_next ?_
  refine aw_grp1 ?_
  refine wk_start ?_
  refine kv g0 (ldBA 4 [.row 7, .lit (.int .i64 t1.2.1), .lit (.int .i64 t1.2.2.1), .lit (.int .i64 t1.2.2.2)]) ?_
  refine kv g0 (ldBA 4 [.lit (.int .i64 ((rd_T34 l0_0 0).f0)), .lit (.int .i64 ((rd_T34 l0_0 0).f1)), .lit (.int .i64 ((rd_T34 l0_0 0).f2)), .lit (.int .i64 ((rd_T34 l0_0 0).f3))]) ?_
  refine ks g0 (stB 4 [.row 7, .lit (.int .i64 t1.2.1), .lit (.int .i64 t1.2.2.1), .lit (.int .i64 t1.2.2.2)]) ?_
  refine ks g0 (stB 4 [.lit (.int .i64 ((rd_T34 l0_0 0).f0)), .lit (.int .i64 ((rd_T34 l0_0 0).f1)), .lit (.int .i64 ((rd_T34 l0_0 0).f2)), .lit (.int .i64 ((rd_T34 l0_0 0).f3))]) ?_
  refine kv g0 (asg) ?_
  refine wk_end_draw hM (by kernel_rfl) ?_
  refine ac_next ?_
  refine aw_ret ?_
  refine ac_thenR ?_
  obtain rfl := Option.some.inj H
  exact acr hE [.cell 2 164, .cell 3 34, .tmp 4] (rcA 4 (rcA 4 (.tmp .nil))) (.many _ _ _) [(0, 7)] 9999
 rw [if_neg c3] at H
 refine aw_ifF ?_ (decide_eq_false c3)
 refine aw_skip ?_
 refine ac_next ?_
 refine aw_grp1 ?_
 refine aw_grp1 ?_
 refine wk_start ?_
 refine kv g0 (faB 2 2) ?_
 refine kv g0 (ldB) ?_
 refine kv g0 (neq) ?_
 refine wk_end ?_
 refine ac_next ?_
 by_cases c7 : a0_2 = 0
 ·rw [if_pos c7] at H
  refine aw_ifF ?_ (eM c7)
  refine aw_skip ?_
  refine ac_next ?_
  refine aw_grp1 ?_
  refine wk_start ?_
  refine kv g0 (ldBA 4 [.row 3, .lit (.int .i64 t1.2.1), .lit (.int .i64 t1.2.2.1), .lit (.int .i64 t1.2.2.2)]) ?_
  refine kv g0 (bld [(0, 1), (1, 1), (2, 1), (3, 1)] [.int .i64 0, .int .i64 0, .int .i64 0, .int .i64 0] [.lit (.int .i64 0), .lit (.int .i64 0), .lit (.int .i64 0), .lit (.int .i64 0)]) ?_
  refine ks g0 (stB 4 [.row 3, .lit (.int .i64 t1.2.1), .lit (.int .i64 t1.2.2.1), .lit (.int .i64 t1.2.2.2)]) ?_
  refine ks g0 (stB 4 [.lit (.int .i64 0), .lit (.int .i64 0), .lit (.int .i64 0), .lit (.int .i64 0)]) ?_
  refine kv g0 (asg) ?_
  refine wk_end ?_
  refine ac_next ?_
  refine aw_ret ?_
  obtain rfl := Option.some.inj H
  exact acr hE [.cell 2 164, .cell 3 34, .tmp 4] (rcA 4 (rcA 4 (.tmp .nil))) (.many _ _ _) [(0, 3)] 9999
 rw [if_neg c7] at H
 refine aw_ifT ?_ (eN c7)
 refine aw_grp1 ?_
 refine wk_start ?_
 refine kv g0 (faB 2 2) ?_
 refine ks g0 (stB 1 [.row 3, .lit (.int .i64 t1.2.1), .lit (.int .i64 0), .lit (.int .i64 t1.2.2.2)]) ?_
 refine wk_end ?_
 refine ac_next ?_
 refine aw_grp1 ?_
 refine wk_start ?_
 refine kv g0 (ldBA 4 [.row 3, .lit (.int .i64 t1.2.1), .lit (.int .i64 0), .lit (.int .i64 t1.2.2.2)]) ?_
 refine kv g0 (faB 2 2) ?_
 refine kv g0 (ldB) ?_
 refine kv g0 (bld [(0, 1), (1, 1), (2, 1), (3, 1)] [.int .i64 0, .int .i64 0, .int .i64 0, .int .i64 0] [.lit (.int .i64 2), .lit (.int .i64 0), .lit (.int .i64 0), .lit (.int .i64 a0_2)]) ?_
 refine ks g0 (stB 4 [.row 3, .lit (.int .i64 t1.2.1), .lit (.int .i64 0), .lit (.int .i64 t1.2.2.2)]) ?_
 refine ks g0 (stB 4 [.lit (.int .i64 2), .lit (.int .i64 0), .lit (.int .i64 0), .lit (.int .i64 a0_2)]) ?_
 refine kv g0 (asg) ?_
 refine wk_end_draw hM (by kernel_rfl) ?_
 refine ac_next ?_
 refine aw_ret ?_
 refine ac_thenR ?_
 obtain rfl := Option.some.inj H
 exact acr hE [.cell 2 164, .cell 3 34, .tmp 4] (rcA 4 (rcA 4 (.tmp .nil))) (.many _ _ _) [(0, 3)] 9999
/-! spec_l01In -/
def spec_l01In.f (a0 : Int) (a1 : Int) (a2 : Int) : Option (Bool) := if a0 ≥ a1 then some (decide (a0 ≤ a2)) else some false
theorem spec_l01In.ok {a0 : Int} {a1 : Int} {a2 : Int} {r : Bool} (H : spec_l01In.f a0 a1 a2 = some r) : ACalls Try.prog 63 [] [.lit (.int .i64 a0), .lit (.int .i64 a1), .lit (.int .i64 a2)] [] (.lit (.bool r)) := by
 refine acalls (fn := Try.f63) (nt := 15) Try.func63 rfl rfl (Nat.le_of_ble_eq_true rfl) fun E hE => ?_
 rw [spec_l01In.f] at H
 refine aw_grp1 ?_
 refine wk_start ?_
 refine kv g0 (asg) ?_
 refine wk_end ?_
 refine ac_next ?_
 refine aw_grp1 ?_
 refine wk_start ?_
 refine kv g0 (mv) ?_
 refine kv g0 (mv) ?_
 refine kv g0 (geq) ?_
 refine kv g0 (mv) ?_
 by_cases c1 : a0 ≥ a1
 ·rw [if_pos c1] at H
  refine kv (g1 (decide_eq_true c1)) (mv) ?_
  refine kv (g1 (decide_eq_true c1)) (mv) ?_
  refine kv (g1 (decide_eq_true c1)) (leq) ?_
  refine kv g0 (pkT (decide_eq_true c1)) ?_
  refine kv g0 (asg) ?_
  refine wk_end ?_
  refine ac_next ?_
  refine aw_ret ?_
  obtain rfl := Option.some.inj H
  exact acr hE [.tmp 6] (.tmp .nil) (.one _) [] 9999
 rw [if_neg c1] at H
 refine kx (hT (decide_eq_false c1)) ?_
 refine kx (hT (decide_eq_false c1)) ?_
 refine kx (hT (decide_eq_false c1)) ?_
 refine kv g0 (pkF (decide_eq_false c1)) ?_
 refine kv g0 (asg) ?_
 refine wk_end ?_
 refine ac_next ?_
 refine aw_ret ?_
 obtain rfl := Option.some.inj H
 exact acr hE [.tmp 6] (.tmp .nil) (.one _) [] 9999
/-! spec_HalfOk -/
def spec_HalfOk.f (a0 : Int) : Option (Bool) := (spec_l01In.f a0 0 4294967295).bind fun t1 => some t1
theorem spec_HalfOk.ok {a0 : Int} {r : Bool} (H : spec_HalfOk.f a0 = some r) : ACalls Try.prog 116 [] [.lit (.int .i64 a0)] [] (.lit (.bool r)) := by
 refine acalls (fn := Try.f116) (nt := 5) Try.func116 rfl rfl (Nat.le_of_ble_eq_true rfl) fun E hE => ?_
 rw [spec_HalfOk.f] at H
 refine aw_grp1 ?_
 refine wk_start ?_
 refine kv g0 (asg) ?_
 refine wk_end ?_
 refine ac_next ?_
 refine aw_grp1 ?_
 refine wk_start ?_
 refine kv g0 (mv) ?_
 obtain ⟨t1, A2, H⟩ := of_bind H
 refine kcS0 4 (.lit (.bool t1)) [] g0 (cal (spec_l01In.ok A2) [] 9999 .n (hf := Try.func63)) rfl rfl ?_
 refine kv g0 (asg) ?_
 refine wk_end ?_
 refine ac_next ?_
 refine aw_ret ?_
 obtain rfl := Option.some.inj H
 exact acr hE [.tmp 2] (.tmp .nil) (.one _) [] 9999
/-! spec_ItemOk -/
def spec_ItemOk.f (a0_0 : Int) (a0_1 : Int) (a0_2 : Int) (a0_3 : Int) : Option (Bool) := if a0_0 = 1 then ((spec_HalfOk.f a0_1).bind fun t2 => (if t2 = true then ((spec_HalfOk.f a0_2).bind fun t5 => (if t5 = true then some (a0_3 == 0) else some false)) else some false)) else if a0_0 = 2 then ((spec_l01In.f a0_3 1 1000000000).bind fun t9 => (if t9 = true then (if a0_1 = 0 then some (a0_2 == 0) else some false) else some false)) else some false
theorem spec_ItemOk.ok {a0_0 : Int} {a0_1 : Int} {a0_2 : Int} {a0_3 : Int} {r : Bool} (H : spec_ItemOk.f a0_0 a0_1 a0_2 a0_3 = some r) : ACalls Try.prog 69 [] [.agg [.lit (.int .i64 a0_0), .lit (.int .i64 a0_1), .lit (.int .i64 a0_2), .lit (.int .i64 a0_3)]] [] (.lit (.bool r)) := by
 refine acalls (fn := Try.f69) (nt := 37) Try.func69 rfl rfl (Nat.le_of_ble_eq_true rfl) fun E hE => ?_
 rw [spec_ItemOk.f] at H
 refine aw_grp1 ?_
 refine wk_start ?_
 refine kb g0 (bxA 0) ?_
 refine kv g0 (asg) ?_
 refine wk_end ?_
 refine ac_next ?_
 refine aw_grp1 ?_
 refine aw_grp1 ?_
 refine wk_start ?_
 refine kv g0 (faB 0 0) ?_
 refine kv g0 (ldB) ?_
 refine kv g0 (eql) ?_
 refine wk_end ?_
 refine ac_next ?_
 by_cases c1 : a0_0 = 1
 ·rw [if_pos c1] at H
  refine aw_ifT ?_ (eT c1)
  refine aw_grp1 ?_
  refine wk_start ?_
  refine kv g0 (faB 1 1) ?_
  refine kv g0 (ldB) ?_
  obtain ⟨t2, A3, H⟩ := of_bind H
  refine kcS0 8 (.lit (.bool t2)) [] g0 (cal (spec_HalfOk.ok A3) [] 9999 .n (hf := Try.func116)) rfl rfl ?_
  refine kv g0 (mv) ?_
  by_cases c4 : t2 = true
  ·rw [if_pos c4] at H
   refine kv (g1 c4) (faB 2 2) ?_
   refine kv (g1 c4) (ldB) ?_
   obtain ⟨t5, A6, H⟩ := of_bind H
   refine kcS0 12 (.lit (.bool t5)) [] (g1 c4) (cal (spec_HalfOk.ok A6) [] 9999 .n (hf := Try.func116)) rfl rfl ?_
   refine kv g0 (pkT c4) ?_
   refine kv g0 (mv) ?_
   by_cases c7 : t5 = true
   ·rw [if_pos c7] at H
    refine kv (g1 c7) (faB 3 3) ?_
    refine kv (g1 c7) (ldB) ?_
    refine kv (g1 c7) (eql) ?_
    refine kv g0 (pkT c7) ?_
    refine kv g0 (asg) ?_
    refine wk_end ?_
    refine ac_next ?_
    refine aw_ret ?_
    refine ac_thenR ?_
    obtain rfl := Option.some.inj H
    exact acr hE [.tmp 2] (.tmp .nil) (.one _) [] 9999
   rw [if_neg c7] at H
   refine kx (hT (bF c7)) ?_
   refine kx (hT (bF c7)) ?_
   refine kx (hT (bF c7)) ?_
   refine kv g0 (pkF (bF c7)) ?_
   refine kv g0 (asg) ?_
   refine wk_end ?_
   refine ac_next ?_
   refine aw_ret ?_
   refine ac_thenR ?_
   obtain rfl := Option.some.inj H
   exact acr hE [.tmp 2] (.tmp .nil) (.one _) [] 9999
  rw [if_neg c4] at H
  refine kx (hT (bF c4)) ?_
  refine kx (hT (bF c4)) ?_
  refine kx (hT (bF c4)) ?_
  refine kv g0 (pkF (bF c4)) ?_
  refine kv g0 (mv) ?_
  refine kx (hT rfl) ?_
  refine kx (hT rfl) ?_
  refine kx (hT rfl) ?_
  refine kv g0 (pkF rfl) ?_
  refine kv g0 (asg) ?_
  refine wk_end ?_
  refine ac_next ?_
  refine aw_ret ?_
  refine ac_thenR ?_
  obtain rfl := Option.some.inj H
  exact acr hE [.tmp 2] (.tmp .nil) (.one _) [] 9999
 rw [if_neg c1] at H
 refine aw_ifF ?_ (eF c1)
 refine aw_skip ?_
 refine ac_next ?_
 refine aw_grp1 ?_
 refine wk_start ?_
 refine kv g0 (faB 0 0) ?_
 refine kv g0 (ldB) ?_
 refine kv g0 (eql) ?_
 refine kv g0 (mv) ?_
 by_cases c8 : a0_0 = 2
 ·rw [if_pos c8] at H
  refine kv (g1 (eT c8)) (faB 3 3) ?_
  refine kv (g1 (eT c8)) (ldB) ?_
  obtain ⟨t9, A10, H⟩ := of_bind H
  refine kcS0 25 (.lit (.bool t9)) [] (g1 (eT c8)) (cal (spec_l01In.ok A10) [] 9999 .n (hf := Try.func63)) rfl rfl ?_
  refine kv g0 (pkT (eT c8)) ?_
  refine kv g0 (mv) ?_
  by_cases c11 : t9 = true
  ·rw [if_pos c11] at H
   refine kv (g1 c11) (faB 1 1) ?_
   refine kv (g1 c11) (ldB) ?_
   refine kv (g1 c11) (eql) ?_
   refine kv g0 (pkT c11) ?_
   refine kv g0 (mv) ?_
   by_cases c12 : a0_1 = 0
   ·rw [if_pos c12] at H
    refine kv (g1 (eT c12)) (faB 2 2) ?_
    refine kv (g1 (eT c12)) (ldB) ?_
    refine kv (g1 (eT c12)) (eql) ?_
    refine kv g0 (pkT (eT c12)) ?_
    refine kv g0 (asg) ?_
    refine wk_end ?_
    refine ac_next ?_
    refine aw_ret ?_
    obtain rfl := Option.some.inj H
    exact acr hE [.tmp 2] (.tmp .nil) (.one _) [] 9999
   rw [if_neg c12] at H
   refine kx (hT (eF c12)) ?_
   refine kx (hT (eF c12)) ?_
   refine kx (hT (eF c12)) ?_
   refine kv g0 (pkF (eF c12)) ?_
   refine kv g0 (asg) ?_
   refine wk_end ?_
   refine ac_next ?_
   refine aw_ret ?_
   obtain rfl := Option.some.inj H
   exact acr hE [.tmp 2] (.tmp .nil) (.one _) [] 9999
  rw [if_neg c11] at H
  refine kx (hT (bF c11)) ?_
  refine kx (hT (bF c11)) ?_
  refine kx (hT (bF c11)) ?_
  refine kv g0 (pkF (bF c11)) ?_
  refine kv g0 (mv) ?_
  refine kx (hT rfl) ?_
  refine kx (hT rfl) ?_
  refine kx (hT rfl) ?_
  refine kv g0 (pkF rfl) ?_
  refine kv g0 (asg) ?_
  refine wk_end ?_
  refine ac_next ?_
  refine aw_ret ?_
  obtain rfl := Option.some.inj H
  exact acr hE [.tmp 2] (.tmp .nil) (.one _) [] 9999
 rw [if_neg c8] at H
 refine kx (hT (eF c8)) ?_
 refine kx (hT (eF c8)) ?_
 refine kx (hT (eF c8)) ?_
 refine kv g0 (pkF (eF c8)) ?_
 refine kv g0 (mv) ?_
 refine kx (hT rfl) ?_
 refine kx (hT rfl) ?_
 refine kx (hT rfl) ?_
 refine kv g0 (pkF rfl) ?_
 refine kv g0 (mv) ?_
 refine kx (hT rfl) ?_
 refine kx (hT rfl) ?_
 refine kx (hT rfl) ?_
 refine kv g0 (pkF rfl) ?_
 refine kv g0 (asg) ?_
 refine wk_end ?_
 refine ac_next ?_
 refine aw_ret ?_
 obtain rfl := Option.some.inj H
 exact acr hE [.tmp 2] (.tmp .nil) (.one _) [] 9999
/-! spec_l16Length -/
def spec_l16Length.f (a0_0 : Int) (a0_1 : Int) (a0_2 : Int) (a0_3 : Int) : Option (Int) := if a0_0 = 2 then some a0_3 else some 1
theorem spec_l16Length.ok {a0_0 : Int} {a0_1 : Int} {a0_2 : Int} {a0_3 : Int} {r : Int} (H : spec_l16Length.f a0_0 a0_1 a0_2 a0_3 = some r) : ACalls Try.prog 174 [] [.agg [.lit (.int .i64 a0_0), .lit (.int .i64 a0_1), .lit (.int .i64 a0_2), .lit (.int .i64 a0_3)]] [] (.lit (.int .i64 r)) := by
 refine acalls (fn := Try.f174) (nt := 8) Try.func174 rfl rfl (Nat.le_of_ble_eq_true rfl) fun E hE => ?_
 rw [spec_l16Length.f] at H
 refine aw_grp1 ?_
 refine wk_start ?_
 refine kb g0 (bxA 0) ?_
 refine kv g0 (asg) ?_
 refine wk_end ?_
 refine ac_next ?_
 refine aw_grp1 ?_
 refine aw_grp1 ?_
 refine wk_start ?_
 refine kv g0 (faB 0 0) ?_
 refine kv g0 (ldB) ?_
 refine kv g0 (eql) ?_
 refine wk_end ?_
 refine ac_next ?_
 by_cases c1 : a0_0 = 2
 ·rw [if_pos c1] at H
  refine aw_ifT ?_ (eT c1)
  refine aw_grp1 ?_
  refine wk_start ?_
  refine kv g0 (faB 3 3) ?_
  refine kv g0 (ldB) ?_
  refine kv g0 (asg) ?_
  refine wk_end ?_
  refine ac_next ?_
  refine aw_ret ?_
  refine ac_thenR ?_
  obtain rfl := Option.some.inj H
  exact acr hE [.tmp 2] (.tmp .nil) (.one _) [] 9999
 rw [if_neg c1] at H
 refine aw_ifF ?_ (eF c1)
 refine aw_skip ?_
 refine ac_next ?_
 refine aw_grp1 ?_
 refine wk_start ?_
 refine kv g0 (asg) ?_
 refine wk_end ?_
 refine ac_next ?_
 refine aw_ret ?_
 obtain rfl := Option.some.inj H
 exact acr hE [.tmp 2] (.tmp .nil) (.one _) [] 9999
/-! spec_RingOk -/
def spec_RingOk.l0 : Nat → (List S34) → Int → Int → Int → Int → Int → Option (Bool)
 | 0, _, _, _, _, _, _ => none
 | k20 + 1, l0_0, a0_1, a0_2, a0_3, p18, p19 => if p19 < (l0_0.length : Int) then if 0 ≤ p19 then ((spec_ItemOk.f ((rd_T34 l0_0 p19).f0) ((rd_T34 l0_0 p19).f1) ((rd_T34 l0_0 p19).f2) ((rd_T34 l0_0 p19).f3)).bind fun t23 => if t23 = true then (spec_l16Length.f ((rd_T34 l0_0 p19).f0) ((rd_T34 l0_0 p19).f1) ((rd_T34 l0_0 p19).f2) ((rd_T34 l0_0 p19).f3)).bind fun t26 => spec_RingOk.l0 k20 l0_0 a0_1 a0_2 a0_3 (wrap64 (p18 + t26)) (wrap64 (p19 + 1)) else some false) else none else some (decide (p18 ≤ a0_3))
def spec_RingOk.f (k : Nat) (l0_0 : List S34) (a0_1 : Int) (a0_2 : Int) (a0_3 : Int) : Option (Bool) := if (l0_0.length : Int) > 4 then some false else ((spec_l01In.f a0_1 0 5).bind fun t2 => (if t2 = true then ((spec_l01In.f a0_2 0 1000000000).bind fun t5 => (if t5 = true then ((spec_l01In.f a0_3 0 1000000000).bind fun t8 => if t8 = true then spec_RingOk.l0 k l0_0 a0_1 a0_2 a0_3 a0_2 0 else some false) else some false)) else some false))
theorem spec_RingOk.ok {k : Nat} {l0_0 : List S34} {a0_1 : Int} {a0_2 : Int} {a0_3 : Int} {r : Bool} (H : spec_RingOk.f k l0_0 a0_1 a0_2 a0_3 = some r) : ACalls Try.prog 166 [] [.agg [.sl .o 4 (l0_0.map e34), .lit (.int .i64 a0_1), .lit (.int .i64 a0_2), .lit (.int .i64 a0_3)]] [] (.lit (.bool r)) := by
 refine acalls (fn := Try.f166) (nt := 55) Try.func166 rfl rfl (Nat.le_of_ble_eq_true rfl) fun E hE => ?_
 rw [spec_RingOk.f] at H
 refine aw_grp1 ?_
 refine wk_start ?_
 refine kb g0 (bxA 0) ?_
 refine kv g0 (asg) ?_
 refine wk_end ?_
 refine ac_next ?_
 refine aw_grp1 ?_
 refine aw_grp1 ?_
 refine wk_start ?_
 refine kv g0 (faB 0 0) ?_
 refine kv g0 (ldB) ?_
 refine kv g0 (lnS lenE) ?_
 refine kv g0 (gtr) ?_
 refine kv g0 (mv) ?_
 by_cases c1 : (l0_0.length : Int) > 4
 ·rw [if_pos c1] at H
  refine kx (hF (decide_eq_true c1)) ?_
  refine kx (hF (decide_eq_true c1)) ?_
  refine kx (hF (decide_eq_true c1)) ?_
  refine kx (hF (decide_eq_true c1)) ?_
  refine kv g0 (pkT (decide_eq_true c1)) ?_
  refine kv g0 (mv) ?_
  refine kx (hF rfl) ?_
  refine kx (hF rfl) ?_
  refine kx (hF rfl) ?_
  refine kx (hF rfl) ?_
  refine kv g0 (pkT rfl) ?_
  refine kv g0 (mv) ?_
  refine kx (hF rfl) ?_
  refine kx (hF rfl) ?_
  refine kx (hF rfl) ?_
  refine kx (hF rfl) ?_
  refine kv g0 (pkT rfl) ?_
  refine wk_end ?_
  refine ac_next ?_
  refine aw_ifT ?_ rfl
  refine aw_grp1 ?_
  refine wk_start ?_
  refine kv g0 (asg) ?_
  refine wk_end ?_
  refine ac_next ?_
  refine aw_ret ?_
  refine ac_thenR ?_
  obtain rfl := Option.some.inj H
  exact acr hE [.tmp 2] (.tmp .nil) (.one _) [] 9999
 rw [if_neg c1] at H
 refine kv (g1 (decide_eq_false c1)) (faB 1 1) ?_
 refine kv (g1 (decide_eq_false c1)) (ldB) ?_
 obtain ⟨t2, A3, H⟩ := of_bind H
 refine kcS0 12 (.lit (.bool t2)) [] (g1 (decide_eq_false c1)) (cal (spec_l01In.ok A3) [] 9999 .n (hf := Try.func63)) rfl rfl ?_
 refine kv (g1 (decide_eq_false c1)) (not_) ?_
 refine kv g0 (pkF (decide_eq_false c1)) ?_
 refine kv g0 (mv) ?_
 by_cases c4 : t2 = true
 ·rw [if_pos c4] at H
  refine kv (g1 (nF c4)) (faB 2 2) ?_
  refine kv (g1 (nF c4)) (ldB) ?_
  obtain ⟨t5, A6, H⟩ := of_bind H
  refine kcS0 18 (.lit (.bool t5)) [] (g1 (nF c4)) (cal (spec_l01In.ok A6) [] 9999 .n (hf := Try.func63)) rfl rfl ?_
  refine kv (g1 (nF c4)) (not_) ?_
  refine kv g0 (pkF (nF c4)) ?_
  refine kv g0 (mv) ?_
  by_cases c7 : t5 = true
  ·rw [if_pos c7] at H
   refine kv (g1 (nF c7)) (faB 3 3) ?_
   refine kv (g1 (nF c7)) (ldB) ?_
   obtain ⟨t8, A9, H⟩ := of_bind H
   refine kcS0 24 (.lit (.bool t8)) [] (g1 (nF c7)) (cal (spec_l01In.ok A9) [] 9999 .n (hf := Try.func63)) rfl rfl ?_
   refine kv (g1 (nF c7)) (not_) ?_
   refine kv g0 (pkF (nF c7)) ?_
   refine wk_end ?_
   refine ac_next ?_
   by_cases c10 : t8 = true
   ·rw [if_pos c10] at H
    refine aw_ifF ?_ (nF c10)
    refine aw_skip ?_
    refine ac_next ?_
    refine aw_grp1 ?_
    refine wk_start ?_
    refine kv g0 (faB 2 2) ?_
    refine kv g0 (ldB) ?_
    refine kv g0 (asg) ?_
    refine wk_end ?_
    refine ac_next ?_
    refine aw_grp1 ?_
    refine aw_grp1 ?_
    refine wk_start ?_
    refine kv g0 (asg) ?_
    refine wk_end ?_
    refine ac_next ?_
    refine aw_block ?_
    refine aw_loop2 (fun (k_ : Nat) (p18 : Int) (p19 : Int) => k_ ≤ k ∧ spec_RingOk.l0 k_ l0_0 a0_1 a0_2 a0_3 p18 p19 = some r) (fun (p18 : Int) (p19 : Int) => ⟨[(1, .box 0 0), (3, .lit (.int .i64 p18)), (4, .lit (.int .i64 p19))], [(0, .box 164 [.sl .o 4 (l0_0.map e34), .lit (.int .i64 a0_1), .lit (.int .i64 a0_2), .lit (.int .i64 a0_3)])]⟩) k a0_2 0 ⟨Nat.le_refl _, H⟩ (fun K_ h_ => acw hE [(0, 0)] 9999 h_) (fun _ _ => by intro h_; have h_ := h_.2; rw [spec_RingOk.l0.eq_1] at h_; cases h_) ?_
    intro k20 p18 p19 hq_ K28 hK29
    have hk20 := hq_.1
    have H := hq_.2
    clear hq_
    rw [spec_RingOk.l0.eq_2] at H
    refine aw_grp1 ?_
    refine aw_grp1 ?_
    refine wk_start ?_
    refine kv g0 (mv) ?_
    refine kv g0 (faB 0 0) ?_
    refine kv g0 (ldB) ?_
    refine kv g0 (lnS lenE) ?_
    refine kv g0 (lss) ?_
    refine wk_end ?_
    refine ac_next ?_
    by_cases c21 : p19 < (l0_0.length : Int)
    ·rw [if_pos c21] at H
     refine aw_ifT ?_ (decide_eq_true c21)
     refine aw_skip ?_
     refine ac_next ?_
     refine aw_grp1 ?_
     refine aw_block ?_
     refine aw_grp1 ?_
     refine aw_grp1 ?_
     refine wk_start ?_
     refine kv g0 (faB 0 0) ?_
     refine kv g0 (ldB) ?_
     refine kv g0 (mv) ?_
     obtain ⟨c22, H⟩ := of_if H
     refine kv g0 (ixS 34 (e34 (rd_T34 l0_0 p19)) c22 (getE (z := z34) c22 c21)) ?_
     refine kv g0 (ldRA 4 [.lit (.int .i64 ((rd_T34 l0_0 p19).f0)), .lit (.int .i64 ((rd_T34 l0_0 p19).f1)), .lit (.int .i64 ((rd_T34 l0_0 p19).f2)), .lit (.int .i64 ((rd_T34 l0_0 p19).f3))]) ?_
     obtain ⟨t23, A24, H⟩ := of_bind H
     refine kcS0 41 (.lit (.bool t23)) [] g0 (cal (spec_ItemOk.ok A24) [] 9999 .n (hf := Try.func69)) rfl rfl ?_
     refine kv g0 (not_) ?_
     refine wk_end ?_
     refine ac_next ?_
     by_cases c25 : t23 = true
     ·rw [if_pos c25] at H
      refine aw_ifF ?_ (nF c25)
      refine aw_skip ?_
      refine ac_next ?_
      refine wk_start ?_
      refine kv g0 (mv) ?_
      refine kv g0 (faB 0 0) ?_
      refine kv g0 (ldB) ?_
      refine kv g0 (mv) ?_
      refine kv g0 (ixS 34 (e34 (rd_T34 l0_0 p19)) c22 (getE (z := z34) c22 c21)) ?_
      refine kv g0 (ldRA 4 [.lit (.int .i64 ((rd_T34 l0_0 p19).f0)), .lit (.int .i64 ((rd_T34 l0_0 p19).f1)), .lit (.int .i64 ((rd_T34 l0_0 p19).f2)), .lit (.int .i64 ((rd_T34 l0_0 p19).f3))]) ?_
      obtain ⟨t26, A27, H⟩ := of_bind H
      refine kcS0 49 (.lit (.int .i64 t26)) [] g0 (cal (spec_l16Length.ok A27) [] 9999 .n (hf := Try.func174)) rfl rfl ?_
      refine kv g0 (add6) ?_
      refine kv g0 (asg) ?_
      refine wk_end ?_
      refine ac_blkN ?_
      refine ac_next ?_
      refine wk_start ?_
      refine kv g0 (mv) ?_
      refine kv g0 (add6) ?_
      refine kv g0 (asg) ?_
      refine wk_end ?_
      refine ac_k ?_
      exact acw hE [(0, 0)] 9999 (hK29 k20 (wrap64 (p18 + t26)) (wrap64 (p19 + 1)) (Nat.le_refl _) ⟨by omega, H⟩)
     rw [if_neg c25] at H
     refine aw_ifT ?_ (nT (bF c25))
     refine aw_grp1 ?_
     refine wk_start ?_
     refine kv g0 (asg) ?_
     refine wk_end ?_
     refine ac_next ?_
     refine aw_ret ?_
     refine ac_thenR ?_
     refine ac_blkR ?_
     refine ac_thenR ?_
     refine ac_thenR ?_
     refine ac_blkR ?_
     refine ac_thenR ?_
     obtain rfl := Option.some.inj H
     exact acr hE [.tmp 2] (.tmp .nil) (.one _) [] 9999
    rw [if_neg c21] at H
    refine aw_ifF ?_ (decide_eq_false c21)
    refine aw_exit ?_
    refine ac_then ?_
    refine ac_then ?_
    refine ac_hit rfl ?_
    refine ac_next ?_
    refine aw_grp1 ?_
    refine wk_start ?_
    refine kv g0 (mv) ?_
    refine kv g0 (faB 3 3) ?_
    refine kv g0 (ldB) ?_
    refine kv g0 (leq) ?_
    refine kv g0 (asg) ?_
    refine wk_end ?_
    refine ac_next ?_
    refine aw_ret ?_
    obtain rfl := Option.some.inj H
    exact acr hE [.tmp 2] (.tmp .nil) (.one _) [] 9999
   rw [if_neg c10] at H
   refine aw_ifT ?_ (nT (bF c10))
   refine aw_grp1 ?_
   refine wk_start ?_
   refine kv g0 (asg) ?_
   refine wk_end ?_
   refine ac_next ?_
   refine aw_ret ?_
   refine ac_thenR ?_
   obtain rfl := Option.some.inj H
   exact acr hE [.tmp 2] (.tmp .nil) (.one _) [] 9999
  rw [if_neg c7] at H
  refine kx (hF (nT (bF c7))) ?_
  refine kx (hF (nT (bF c7))) ?_
  refine kx (hF (nT (bF c7))) ?_
  refine kx (hF (nT (bF c7))) ?_
  refine kv g0 (pkT (nT (bF c7))) ?_
  refine wk_end ?_
  refine ac_next ?_
  refine aw_ifT ?_ rfl
  refine aw_grp1 ?_
  refine wk_start ?_
  refine kv g0 (asg) ?_
  refine wk_end ?_
  refine ac_next ?_
  refine aw_ret ?_
  refine ac_thenR ?_
  obtain rfl := Option.some.inj H
  exact acr hE [.tmp 2] (.tmp .nil) (.one _) [] 9999
 rw [if_neg c4] at H
 refine kx (hF (nT (bF c4))) ?_
 refine kx (hF (nT (bF c4))) ?_
 refine kx (hF (nT (bF c4))) ?_
 refine kx (hF (nT (bF c4))) ?_
 refine kv g0 (pkT (nT (bF c4))) ?_
 refine kv g0 (mv) ?_
 refine kx (hF rfl) ?_
 refine kx (hF rfl) ?_
 refine kx (hF rfl) ?_
 refine kx (hF rfl) ?_
 refine kv g0 (pkT rfl) ?_
 refine wk_end ?_
 refine ac_next ?_
 refine aw_ifT ?_ rfl
 refine aw_grp1 ?_
 refine wk_start ?_
 refine kv g0 (asg) ?_
 refine wk_end ?_
 refine ac_next ?_
 refine aw_ret ?_
 refine ac_thenR ?_
 obtain rfl := Option.some.inj H
 exact acr hE [.tmp 2] (.tmp .nil) (.one _) [] 9999
/-! spec_Offered -/
mutual
def spec_Offered.j1 : Nat → (List S34) → Int → Int → Int → Int → Int → ((List S34) × Int × Int × Int) → Bool → Option ((List S34) × Int × Int × Int × Bool)
 | 0, _, _, _, _, _, _, _, _ => none
 | k18 + 1, l0_0, a0_1, a0_2, a0_3, a1, a2, t1, p17 => if p17 = true then some (t1.1, t1.2.1, wrap64 (a0_2 + 1), wrap64 (a0_3 + 1), false) else if a0_2 > 0 then (if t1.1.length + ([(⟨2, 0, 0, a0_2⟩ : S34)] : List S34).length < 4398046511104 then spec_Offered.j2 k18 a0_1 a0_3 a1 a2 (t1.1 ++ ([(⟨2, 0, 0, a0_2⟩ : S34)] : List S34)) 0 else none) else spec_Offered.j2 k18 a0_1 a0_3 a1 a2 t1.1 t1.2.2.1
def spec_Offered.j2 : Nat → Int → Int → Int → Int → (List S34) → Int → Option ((List S34) × Int × Int × Int × Bool)
 | 0, _, _, _, _, _, _ => none
 | k25 + 1, a0_1, a0_3, a1, a2, q23, p24 => if q23.length + ([(⟨1, a1, a2, 0⟩ : S34)] : List S34).length < 4398046511104 then some (q23 ++ ([(⟨1, a1, a2, 0⟩ : S34)] : List S34), wrap64 (a0_1 - 1), p24, wrap64 (a0_3 + 1), true) else none
def spec_Offered.j0 : Nat → (List S34) → Int → Int → Int → Int → Int → ((List S34) × Int × Int × Int) → Int → Option ((List S34) × Int × Int × Int × Bool)
 | 0, _, _, _, _, _, _, _, _ => none
 | k15 + 1, l0_0, a0_1, a0_2, a0_3, a1, a2, t1, p14 => if a0_1 = 0 then spec_Offered.j1 k15 l0_0 a0_1 a0_2 a0_3 a1 a2 t1 true else spec_Offered.j1 k15 l0_0 a0_1 a0_2 a0_3 a1 a2 t1 (decide ((wrap64 ((l0_0.length : Int) + p14)) > 4))
end
def spec_Offered.f (k : Nat) (l0_0 : List S34) (a0_1 : Int) (a0_2 : Int) (a0_3 : Int) (a1 : Int) (a2 : Int) : Option ((List S34) × Int × Int × Int × Bool) := (spec_l16Copy.f l0_0 a0_1 a0_2 a0_3).bind fun t1 => (spec_RingOk.f k l0_0 a0_1 a0_2 a0_3).bind fun t3 => (if t3 = true then ((spec_HalfOk.f a1).bind fun t6 => (if t6 = true then ((spec_HalfOk.f a2).bind fun t9 => (if t9 = true then if a0_3 ≥ 1000000000 then some (t1.1, t1.2.1, t1.2.2.1, t1.2.2.2, false) else if a0_2 > 0 then spec_Offered.j0 k l0_0 a0_1 a0_2 a0_3 a1 a2 t1 2 else spec_Offered.j0 k l0_0 a0_1 a0_2 a0_3 a1 a2 t1 1 else some (t1.1, t1.2.1, t1.2.2.1, t1.2.2.2, false))) else some (t1.1, t1.2.1, t1.2.2.1, t1.2.2.2, false))) else some (t1.1, t1.2.1, t1.2.2.1, t1.2.2.2, false))
theorem spec_Offered.ok {k : Nat} {l0_0 : List S34} {a0_1 : Int} {a0_2 : Int} {a0_3 : Int} {a1 : Int} {a2 : Int} {r : (List S34) × Int × Int × Int × Bool} (H : spec_Offered.f k l0_0 a0_1 a0_2 a0_3 a1 a2 = some r) : ACalls Try.prog 163 [] [.agg [.sl .o 4 (l0_0.map e34), .lit (.int .i64 a0_1), .lit (.int .i64 a0_2), .lit (.int .i64 a0_3)], .lit (.int .i64 a1), .lit (.int .i64 a2)] [(0, .row 34 4 (r.1.map e34))] (.tup [.agg [.row 0, .lit (.int .i64 r.2.1), .lit (.int .i64 r.2.2.1), .lit (.int .i64 r.2.2.2.1)], .lit (.bool r.2.2.2.2)]) := by
 refine acalls (fn := Try.f163) (nt := 79) Try.func163 rfl rfl (Nat.le_of_ble_eq_true rfl) fun E hE => ?_
 rw [spec_Offered.f] at H
 refine aw_grp1 ?_
 refine wk_start ?_
 refine kb g0 (bxA 0) ?_
 refine kb g0 (alc 1 [.slice none 0 0, .int .i64 0, .int .i64 0, .int .i64 0] [.lit (.slice none 0 0), .lit (.int .i64 0), .lit (.int .i64 0), .lit (.int .i64 0)]) ?_
 refine kv g0 (asg) ?_
 refine wk_end ?_
 refine ac_next ?_
 refine aw_grp1 ?_
 refine wk_start ?_
 refine kv g0 (ldBA 4 [.sl .o 4 (l0_0.map e34), .lit (.int .i64 a0_1), .lit (.int .i64 a0_2), .lit (.int .i64 a0_3)]) ?_
 obtain ⟨t1, A2, H⟩ := of_bind H
 refine kcS1 11 (.agg [.row 2, .lit (.int .i64 t1.2.1), .lit (.int .i64 t1.2.2.1), .lit (.int .i64 t1.2.2.2)]) [(2, .row 34 4 (t1.1.map e34))] g0 (cal (spec_l16Copy.ok A2) [2] 9999 .n (hf := Try.func167)) rfl rfl ?_
 refine kb g0 (alc 3 [.slice none 0 0, .int .i64 0, .int .i64 0, .int .i64 0] [.lit (.slice none 0 0), .lit (.int .i64 0), .lit (.int .i64 0), .lit (.int .i64 0)]) ?_
 refine ks g0 (stB 4 [.row 2, .lit (.int .i64 t1.2.1), .lit (.int .i64 t1.2.2.1), .lit (.int .i64 t1.2.2.2)]) ?_
 refine wk_end ?_
 refine ac_next ?_
 refine aw_grp1 ?_
 refine aw_grp1 ?_
 refine wk_start ?_
 refine kv g0 (ldBA 4 [.sl .o 4 (l0_0.map e34), .lit (.int .i64 a0_1), .lit (.int .i64 a0_2), .lit (.int .i64 a0_3)]) ?_
 obtain ⟨t3, A4, H⟩ := of_bind H
 refine kcS0 13 (.lit (.bool t3)) [] g0 (cal (spec_RingOk.ok A4) [] 9999 .n (hf := Try.func166)) rfl rfl ?_
 refine kv g0 (not_) ?_
 refine kv g0 (mv) ?_
 by_cases c5 : t3 = true
 ·rw [if_pos c5] at H
  refine kv (g1 (nF c5)) (mv) ?_
  obtain ⟨t6, A7, H⟩ := of_bind H
  refine kcS0 17 (.lit (.bool t6)) [] (g1 (nF c5)) (cal (spec_HalfOk.ok A7) [] 9999 .n (hf := Try.func116)) rfl rfl ?_
  refine kv (g1 (nF c5)) (not_) ?_
  refine kv g0 (pkF (nF c5)) ?_
  refine kv g0 (mv) ?_
  by_cases c8 : t6 = true
  ·rw [if_pos c8] at H
   refine kv (g1 (nF c8)) (mv) ?_
   obtain ⟨t9, A10, H⟩ := of_bind H
   refine kcS0 22 (.lit (.bool t9)) [] (g1 (nF c8)) (cal (spec_HalfOk.ok A10) [] 9999 .n (hf := Try.func116)) rfl rfl ?_
   refine kv (g1 (nF c8)) (not_) ?_
   refine kv g0 (pkF (nF c8)) ?_
   refine kv g0 (mv) ?_
   by_cases c11 : t9 = true
   ·rw [if_pos c11] at H
    refine kv (g1 (nF c11)) (faB 3 3) ?_
    refine kv (g1 (nF c11)) (ldB) ?_
    refine kv (g1 (nF c11)) (geq) ?_
    refine kv g0 (pkF (nF c11)) ?_
    refine wk_end ?_
    refine ac_next ?_
    by_cases c12 : a0_3 ≥ 1000000000
    ·rw [if_pos c12] at H
     refine aw_ifT ?_ (decide_eq_true c12)
     refine aw_grp1 ?_
     refine wk_start ?_
     refine kv g0 (ldBA 4 [.row 2, .lit (.int .i64 t1.2.1), .lit (.int .i64 t1.2.2.1), .lit (.int .i64 t1.2.2.2)]) ?_
     refine ks g0 (stB 4 [.row 2, .lit (.int .i64 t1.2.1), .lit (.int .i64 t1.2.2.1), .lit (.int .i64 t1.2.2.2)]) ?_
     refine kv g0 (asg) ?_
     refine wk_end ?_
     refine ac_next ?_
     refine aw_ret ?_
     refine ac_thenR ?_
     obtain rfl := Option.some.inj H
     exact acr hE [.cell 6 164, .tmp 7] (rcA 4 (.tmp .nil)) (.many _ _ _) [(0, 2)] 9999
    rw [if_neg c12] at H
    refine aw_ifF ?_ (decide_eq_false c12)
    refine aw_skip ?_
    refine ac_next ?_
    refine aw_grp1 ?_
    refine wk_start ?_
    refine kv g0 (faB 3 3) ?_
    refine kv g0 (ldB) ?_
    refine kv g0 (add6) ?_
    refine kv g0 (faB 3 3) ?_
    refine ks g0 (stB 1 [.row 2, .lit (.int .i64 t1.2.1), .lit (.int .i64 t1.2.2.1), .lit (.int .i64 (wrap64 (a0_3 + 1)))]) ?_
    refine wk_end ?_
    refine ac_next ?_
    refine aw_grp1 ?_
    refine wk_start ?_
    refine kv g0 (asg) ?_
    refine wk_end ?_
    refine ac_next ?_
    refine aw_cut1 (J := fun K_ => ∀ (k_ : Nat) (p14 : Int), k_ ≤ k → spec_Offered.j0 k_ l0_0 a0_1 a0_2 a0_3 a1 a2 t1 p14 = some r → ACont E 79 ⟨[(1, .lit (.int .i64 a1)), (2, .lit (.int .i64 a2)), (3, .box 0 0), (6, .box 1 0), (8, .box 3 0), (9, .lit (.int .i64 p14))], [(0, .box 164 [.sl .o 4 (l0_0.map e34), .lit (.int .i64 a0_1), .lit (.int .i64 a0_2), .lit (.int .i64 a0_3)]), (1, .box 164 [.lit (.slice none 0 0), .lit (.int .i64 0), .lit (.int .i64 0), .lit (.int .i64 0)]), (2, .row 34 4 (t1.1.map e34)), (3, .box 164 [.row 2, .lit (.int .i64 t1.2.1), .lit (.int .i64 t1.2.2.1), .lit (.int .i64 (wrap64 (a0_3 + 1)))])]⟩ K_) ?_ ?_
    ·intro K_ hJ28
     refine aw_grp1 ?_
     refine wk_start ?_
     refine kv g0 (faB 2 2) ?_
     refine kv g0 (ldB) ?_
     refine kv g0 (gtr) ?_
     refine wk_end ?_
     refine ac_next ?_
     by_cases c13 : a0_2 > 0
     ·rw [if_pos c13] at H
      refine aw_ifT ?_ (decide_eq_true c13)
      refine wk_start ?_
      refine kv g0 (asg) ?_
      refine wk_end ?_
      refine ac_k ?_
      exact acw hE [(0, 0), (1, 1), (2, 2), (3, 3)] 9999 (hJ28 k 2 (Nat.le_refl _) H)
     rw [if_neg c13] at H
     refine aw_ifF ?_ (decide_eq_false c13)
     refine aw_skip ?_
     refine ac_k ?_
     exact acw hE [(0, 0), (1, 1), (2, 2), (3, 3)] 9999 (hJ28 k 1 (Nat.le_refl _) H)
    intro k_ p14 hk_ H
    rcases k_ with _ | k15
    ·rw [spec_Offered.j0.eq_1] at H; cases H
    have hk15 : k15 ≤ k := by omega
    clear hk_
    rw [spec_Offered.j0.eq_2] at H
    refine aw_grp1 ?_
    refine aw_cut1 (J := fun K_ => ∀ (k_ : Nat) (p17 : Bool), k_ ≤ k15 → spec_Offered.j1 k_ l0_0 a0_1 a0_2 a0_3 a1 a2 t1 p17 = some r → ACont E 79 ⟨[(1, .lit (.int .i64 a1)), (2, .lit (.int .i64 a2)), (3, .box 0 0), (6, .box 1 0), (8, .box 3 0), (48, .lit (.bool p17))], [(0, .box 164 [.sl .o 4 (l0_0.map e34), .lit (.int .i64 a0_1), .lit (.int .i64 a0_2), .lit (.int .i64 a0_3)]), (1, .box 164 [.lit (.slice none 0 0), .lit (.int .i64 0), .lit (.int .i64 0), .lit (.int .i64 0)]), (2, .row 34 4 (t1.1.map e34)), (3, .box 164 [.row 2, .lit (.int .i64 t1.2.1), .lit (.int .i64 t1.2.2.1), .lit (.int .i64 (wrap64 (a0_3 + 1)))])]⟩ K_) ?_ ?_
    ·intro K_ hJ20
     refine wk_start ?_
     refine kv g0 (faB 1 1) ?_
     refine kv g0 (ldB) ?_
     refine kv g0 (eql) ?_
     refine kv g0 (mv) ?_
     by_cases c16 : a0_1 = 0
     ·rw [if_pos c16] at H
      refine kx (hF (eT c16)) ?_
      refine kx (hF (eT c16)) ?_
      refine kx (hF (eT c16)) ?_
      refine kx (hF (eT c16)) ?_
      refine kx (hF (eT c16)) ?_
      refine kx (hF (eT c16)) ?_
      refine kv g0 (pkT (eT c16)) ?_
      refine wk_end ?_
      refine ac_k ?_
      exact acw hE [(0, 0), (1, 1), (2, 2), (3, 3)] 9999 (hJ20 k15 true (Nat.le_refl _) H)
     rw [if_neg c16] at H
     refine kv (g1 (eF c16)) (faB 0 0) ?_
     refine kv (g1 (eF c16)) (ldB) ?_
     refine kv (g1 (eF c16)) (lnS lenE) ?_
     refine kv (g1 (eF c16)) (mv) ?_
     refine kv (g1 (eF c16)) (add6) ?_
     refine kv (g1 (eF c16)) (gtr) ?_
     refine kv g0 (pkF (eF c16)) ?_
     refine wk_end ?_
     refine ac_k ?_
     exact acw hE [(0, 0), (1, 1), (2, 2), (3, 3)] 9999 (hJ20 k15 (decide ((wrap64 ((l0_0.length : Int) + p14)) > 4)) (Nat.le_refl _) H)
    intro k_ p17 hk_ H
    rcases k_ with _ | k18
    ·rw [spec_Offered.j1.eq_1] at H; cases H
    have hk18 : k18 ≤ k15 := by omega
    clear hk_
    rw [spec_Offered.j1.eq_2] at H
    by_cases c19 : p17 = true
    ·rw [if_pos c19] at H
     refine aw_ifT ?_ c19
     refine aw_grp1 ?_
     refine wk_start ?_
     refine kv g0 (faB 2 2) ?_
     refine kv g0 (ldB) ?_
     refine kv g0 (add6) ?_
     refine kv g0 (faB 2 2) ?_
     refine ks g0 (stB 1 [.row 2, .lit (.int .i64 t1.2.1), .lit (.int .i64 (wrap64 (a0_2 + 1))), .lit (.int .i64 (wrap64 (a0_3 + 1)))]) ?_
     refine wk_end ?_
     refine ac_next ?_
     refine aw_grp1 ?_
     refine wk_start ?_
     refine kv g0 (ldBA 4 [.row 2, .lit (.int .i64 t1.2.1), .lit (.int .i64 (wrap64 (a0_2 + 1))), .lit (.int .i64 (wrap64 (a0_3 + 1)))]) ?_
     refine ks g0 (stB 4 [.row 2, .lit (.int .i64 t1.2.1), .lit (.int .i64 (wrap64 (a0_2 + 1))), .lit (.int .i64 (wrap64 (a0_3 + 1)))]) ?_
     refine kv g0 (asg) ?_
     refine wk_end ?_
     refine ac_next ?_
     refine aw_ret ?_
     refine ac_thenR ?_
     obtain rfl := Option.some.inj H
     exact acr hE [.cell 6 164, .tmp 7] (rcA 4 (.tmp .nil)) (.many _ _ _) [(0, 2)] 9999
    rw [if_neg c19] at H
    refine aw_ifF ?_ (bF c19)
    refine aw_skip ?_
    refine ac_next ?_
    refine aw_grp1 ?_
    refine wk_start ?_
    refine kv g0 (faB 1 1) ?_
    refine kv g0 (ldB) ?_
    refine kv g0 (sub6) ?_
    refine kv g0 (faB 1 1) ?_
    refine ks g0 (stB 1 [.row 2, .lit (.int .i64 (wrap64 (a0_1 - 1))), .lit (.int .i64 t1.2.2.1), .lit (.int .i64 (wrap64 (a0_3 + 1)))]) ?_
    refine wk_end ?_
    refine ac_next ?_
    refine aw_cut1 (J := fun K_ => ∀ (k_ : Nat) (q23 : List S34) (p24 : Int), k_ ≤ k18 → spec_Offered.j2 k_ a0_1 a0_3 a1 a2 q23 p24 = some r → ACont E 79 ⟨[(1, .lit (.int .i64 a1)), (2, .lit (.int .i64 a2)), (6, .box 1 0), (8, .box 3 0)], [(1, .box 164 [.lit (.slice none 0 0), .lit (.int .i64 0), .lit (.int .i64 0), .lit (.int .i64 0)]), (3, .box 164 [.row 5, .lit (.int .i64 (wrap64 (a0_1 - 1))), .lit (.int .i64 p24), .lit (.int .i64 (wrap64 (a0_3 + 1)))]), (5, .row 34 4 (q23.map e34))]⟩ K_) ?_ ?_
    ·intro K_ hJ27
     refine aw_grp1 ?_
     refine wk_start ?_
     refine kv g0 (faB 2 2) ?_
     refine kv g0 (ldB) ?_
     refine kv g0 (gtr) ?_
     refine wk_end ?_
     refine ac_next ?_
     by_cases c21 : a0_2 > 0
     ·rw [if_pos c21] at H
      refine aw_ifT ?_ (decide_eq_true c21)
      refine aw_grp1 ?_
      refine wk_start ?_
      refine kv g0 (faB 0 0) ?_
      refine kv g0 (ldB) ?_
      refine kv g0 (faB 2 2) ?_
      refine kv g0 (ldB) ?_
      refine kv g0 (bld [(0, 1), (1, 1), (2, 1), (3, 1)] [.int .i64 0, .int .i64 0, .int .i64 0, .int .i64 0] [.lit (.int .i64 2), .lit (.int .i64 0), .lit (.int .i64 0), .lit (.int .i64 a0_2)]) ?_
      refine kb g0 (bsl 4 34 4 [.int .i64 0, .int .i64 0, .int .i64 0, .int .i64 0] (([(⟨2, 0, 0, a0_2⟩ : S34)] : List S34).map e34)) ?_
      obtain ⟨c22, H⟩ := of_if H
      refine kc g0 (apR 5 34 4 32 [.int .i64 0, .int .i64 0, .int .i64 0, .int .i64 0] ((t1.1 ++ ([(⟨2, 0, 0, a0_2⟩ : S34)] : List S34)).map e34) (.row rfl) (apb c22 rfl) appE) ?_
      refine kv g0 (faB 0 0) ?_
      refine ks g0 (stB 1 [.row 5, .lit (.int .i64 (wrap64 (a0_1 - 1))), .lit (.int .i64 t1.2.2.1), .lit (.int .i64 (wrap64 (a0_3 + 1)))]) ?_
      refine wk_end ?_
      refine ac_next ?_
      refine wk_start ?_
      refine kv g0 (faB 2 2) ?_
      refine ks g0 (stB 1 [.row 5, .lit (.int .i64 (wrap64 (a0_1 - 1))), .lit (.int .i64 0), .lit (.int .i64 (wrap64 (a0_3 + 1)))]) ?_
      refine wk_end ?_
      refine ac_k ?_
      exact acw hE [(1, 1), (3, 3), (5, 5)] 9999 (hJ27 k18 (t1.1 ++ ([(⟨2, 0, 0, a0_2⟩ : S34)] : List S34)) 0 (Nat.le_refl _) H)
     rw [if_neg c21] at H
     refine aw_ifF ?_ (decide_eq_false c21)
     refine aw_skip ?_
     refine ac_k ?_
     exact acw hE [(1, 1), (3, 3), (5, 2)] 9999 (hJ27 k18 t1.1 t1.2.2.1 (Nat.le_refl _) H)
    intro k_ q23 p24 hk_ H
    rcases k_ with _ | k25
    ·rw [spec_Offered.j2.eq_1] at H; cases H
    have hk25 : k25 ≤ k18 := by omega
    clear hk_
    rw [spec_Offered.j2.eq_2] at H
    refine aw_grp1 ?_
    refine wk_start ?_
    refine kv g0 (faB 0 0) ?_
    refine kv g0 (ldB) ?_
    refine kv g0 (mv) ?_
    refine kv g0 (mv) ?_
    refine kv g0 (bld [(0, 1), (1, 1), (2, 1), (3, 1)] [.int .i64 0, .int .i64 0, .int .i64 0, .int .i64 0] [.lit (.int .i64 1), .lit (.int .i64 a1), .lit (.int .i64 a2), .lit (.int .i64 0)]) ?_
    refine kb g0 (bsl 6 34 4 [.int .i64 0, .int .i64 0, .int .i64 0, .int .i64 0] (([(⟨1, a1, a2, 0⟩ : S34)] : List S34).map e34)) ?_
    obtain ⟨c26, H⟩ := of_if H
    refine kc g0 (apR 7 34 4 32 [.int .i64 0, .int .i64 0, .int .i64 0, .int .i64 0] ((q23 ++ ([(⟨1, a1, a2, 0⟩ : S34)] : List S34)).map e34) (.row rfl) (apb c26 rfl) appE) ?_
    refine kv g0 (faB 0 0) ?_
    refine ks g0 (stB 1 [.row 7, .lit (.int .i64 (wrap64 (a0_1 - 1))), .lit (.int .i64 p24), .lit (.int .i64 (wrap64 (a0_3 + 1)))]) ?_
    refine wk_end ?_
    refine ac_next ?_
    refine aw_grp1 ?_
    refine wk_start ?_
    refine kv g0 (ldBA 4 [.row 7, .lit (.int .i64 (wrap64 (a0_1 - 1))), .lit (.int .i64 p24), .lit (.int .i64 (wrap64 (a0_3 + 1)))]) ?_
    refine ks g0 (stB 4 [.row 7, .lit (.int .i64 (wrap64 (a0_1 - 1))), .lit (.int .i64 p24), .lit (.int .i64 (wrap64 (a0_3 + 1)))]) ?_
    refine kv g0 (asg) ?_
    refine wk_end ?_
    refine ac_next ?_
    refine aw_ret ?_
    obtain rfl := Option.some.inj H
    exact acr hE [.cell 6 164, .tmp 7] (rcA 4 (.tmp .nil)) (.many _ _ _) [(0, 7)] 9999
   rw [if_neg c11] at H
   refine kx (hF (nT (bF c11))) ?_
   refine kx (hF (nT (bF c11))) ?_
   refine kx (hF (nT (bF c11))) ?_
   refine kv g0 (pkT (nT (bF c11))) ?_
   refine wk_end ?_
   refine ac_next ?_
   refine aw_ifT ?_ rfl
   refine aw_grp1 ?_
   refine wk_start ?_
   refine kv g0 (ldBA 4 [.row 2, .lit (.int .i64 t1.2.1), .lit (.int .i64 t1.2.2.1), .lit (.int .i64 t1.2.2.2)]) ?_
   refine ks g0 (stB 4 [.row 2, .lit (.int .i64 t1.2.1), .lit (.int .i64 t1.2.2.1), .lit (.int .i64 t1.2.2.2)]) ?_
   refine kv g0 (asg) ?_
   refine wk_end ?_
   refine ac_next ?_
   refine aw_ret ?_
   refine ac_thenR ?_
   obtain rfl := Option.some.inj H
   exact acr hE [.cell 6 164, .tmp 7] (rcA 4 (.tmp .nil)) (.many _ _ _) [(0, 2)] 9999
  rw [if_neg c8] at H
  refine kx (hF (nT (bF c8))) ?_
  refine kx (hF (nT (bF c8))) ?_
  refine kx (hF (nT (bF c8))) ?_
  refine kv g0 (pkT (nT (bF c8))) ?_
  refine kv g0 (mv) ?_
  refine kx (hF rfl) ?_
  refine kx (hF rfl) ?_
  refine kx (hF rfl) ?_
  refine kv g0 (pkT rfl) ?_
  refine wk_end ?_
  refine ac_next ?_
  refine aw_ifT ?_ rfl
  refine aw_grp1 ?_
  refine wk_start ?_
  refine kv g0 (ldBA 4 [.row 2, .lit (.int .i64 t1.2.1), .lit (.int .i64 t1.2.2.1), .lit (.int .i64 t1.2.2.2)]) ?_
  refine ks g0 (stB 4 [.row 2, .lit (.int .i64 t1.2.1), .lit (.int .i64 t1.2.2.1), .lit (.int .i64 t1.2.2.2)]) ?_
  refine kv g0 (asg) ?_
  refine wk_end ?_
  refine ac_next ?_
  refine aw_ret ?_
  refine ac_thenR ?_
  obtain rfl := Option.some.inj H
  exact acr hE [.cell 6 164, .tmp 7] (rcA 4 (.tmp .nil)) (.many _ _ _) [(0, 2)] 9999
 rw [if_neg c5] at H
 refine kx (hF (nT (bF c5))) ?_
 refine kx (hF (nT (bF c5))) ?_
 refine kx (hF (nT (bF c5))) ?_
 refine kv g0 (pkT (nT (bF c5))) ?_
 refine kv g0 (mv) ?_
 refine kx (hF rfl) ?_
 refine kx (hF rfl) ?_
 refine kx (hF rfl) ?_
 refine kv g0 (pkT rfl) ?_
 refine kv g0 (mv) ?_
 refine kx (hF rfl) ?_
 refine kx (hF rfl) ?_
 refine kx (hF rfl) ?_
 refine kv g0 (pkT rfl) ?_
 refine wk_end ?_
 refine ac_next ?_
 refine aw_ifT ?_ rfl
 refine aw_grp1 ?_
 refine wk_start ?_
 refine kv g0 (ldBA 4 [.row 2, .lit (.int .i64 t1.2.1), .lit (.int .i64 t1.2.2.1), .lit (.int .i64 t1.2.2.2)]) ?_
 refine ks g0 (stB 4 [.row 2, .lit (.int .i64 t1.2.1), .lit (.int .i64 t1.2.2.1), .lit (.int .i64 t1.2.2.2)]) ?_
 refine kv g0 (asg) ?_
 refine wk_end ?_
 refine ac_next ?_
 refine aw_ret ?_
 refine ac_thenR ?_
 obtain rfl := Option.some.inj H
 exact acr hE [.cell 6 164, .tmp 7] (rcA 4 (.tmp .nil)) (.many _ _ _) [(0, 2)] 9999
/-! spec_l16Ring -/
def spec_l16Ring.l0 : Nat → (List Int) → Int → Int → (List S34) → Int → Int → Int → Int → Option ((List S34) × Int × Int × Int × (List Int) × Int × Int)
 | 0, _, _, _, _, _, _, _, _ => none
 | k31 + 1, q23, p24, p25, q26, p27, p28, p29, p30 => (spec_l01Below.f q23 p24 p25 14).bind fun t32 => if p30 < t32.1 then (spec_l01Below.f t32.2.1 t32.2.2.1 t32.2.2.2 6).bind fun t35 => if t35.1 = 0 then ((spec_l01Below.f t35.2.1 t35.2.2.1 t35.2.2.2 3).bind fun t38 => ((spec_Refilled.f q26 p27 p28 p29 t38.1).bind fun t40 => spec_l16Ring.l0 k31 t38.2.1 t38.2.2.1 t38.2.2.2 t40.1 t40.2.1 t40.2.2.1 t40.2.2.2 (wrap64 (p30 + 1)))) else if t35.1 = 1 then ((spec_Drained.f q26 p27 p28 p29).bind fun t43 => spec_l16Ring.l0 k31 t35.2.1 t35.2.2.1 t35.2.2.2 t43.1 t43.2.1 t43.2.2.1 t43.2.2.2.1 (wrap64 (p30 + 1))) else ((spec_l01Below.f t35.2.1 t35.2.2.1 t35.2.2.2 9).bind fun t45 => ((spec_l01Below.f t45.2.1 t45.2.2.1 t45.2.2.2 9).bind fun t47 => ((spec_Offered.f k31 q26 p27 p28 p29 t45.1 t47.1).bind fun t49 => spec_l16Ring.l0 k31 t47.2.1 t47.2.2.1 t47.2.2.2 t49.1 t49.2.1 t49.2.2.1 t49.2.2.2.1 (wrap64 (p30 + 1))))) else some (q26, p27, p28, p29, t32.2.1, t32.2.2.1, t32.2.2.2)
def spec_l16Ring.f (k : Nat) (l0_0 : List Int) (a0_1 : Int) (a0_2 : Int) : Option ((List S34) × Int × Int × Int × (List Int) × Int × Int) := (spec_RingNew.f).bind fun t1 => spec_l16Ring.l0 k l0_0 a0_1 a0_2 ([]) t1.1 t1.2.1 t1.2.2 0
theorem spec_l16Ring.ok {k : Nat} {l0_0 : List Int} {a0_1 : Int} {a0_2 : Int} {r : (List S34) × Int × Int × Int × (List Int) × Int × Int} (H : spec_l16Ring.f k l0_0 a0_1 a0_2 = some r) : ACalls Try.prog 140 [(0, .box 142 [.sl .u 1 (l0_0.map (eI .u8)), .lit (.int .i64 a0_1), .lit (.int .i64 a0_2)])] [.box 0 0] [(0, .box 142 [.sl .u 1 (r.2.2.2.2.1.map (eI .u8)), .lit (.int .i64 r.2.2.2.2.2.1), .lit (.int .i64 r.2.2.2.2.2.2)]), (1, .row 34 4 (r.1.map e34))] (.agg [.row 1, .lit (.int .i64 r.2.1), .lit (.int .i64 r.2.2.1), .lit (.int .i64 r.2.2.2.1)]) := by
 refine acalls (fn := Try.f140) (nt := 38) Try.func140 rfl rfl (Nat.le_of_ble_eq_true rfl) fun E hE => ?_
 rw [spec_l16Ring.f] at H
 refine aw_grp1 ?_
 refine wk_start ?_
 refine kb g0 (alc 1 [.slice none 0 0, .int .i64 0, .int .i64 0, .int .i64 0] [.lit (.slice none 0 0), .lit (.int .i64 0), .lit (.int .i64 0), .lit (.int .i64 0)]) ?_
 refine wk_end ?_
 refine ac_next ?_
 refine aw_grp1 ?_
 refine wk_start ?_
 obtain ⟨t1, A2, H⟩ := of_bind H
 refine kcS0 5 (.agg [.lit (.slice none 0 0), .lit (.int .i64 t1.1), .lit (.int .i64 t1.2.1), .lit (.int .i64 t1.2.2)]) [] g0 (cal (spec_RingNew.ok A2) [] 9999 .n (hf := Try.func160)) rfl rfl ?_
 refine kb g0 (alc 2 [.slice none 0 0, .int .i64 0, .int .i64 0, .int .i64 0] [.lit (.slice none 0 0), .lit (.int .i64 0), .lit (.int .i64 0), .lit (.int .i64 0)]) ?_
 refine ks g0 (stB 4 [.lit (.slice none 0 0), .lit (.int .i64 t1.1), .lit (.int .i64 t1.2.1), .lit (.int .i64 t1.2.2)]) ?_
 refine wk_end ?_
 refine ac_next ?_
 refine aw_grp1 ?_
 refine aw_grp1 ?_
 refine wk_start ?_
 refine kv g0 (asg) ?_
 refine wk_end ?_
 refine ac_next ?_
 refine aw_block ?_
 refine ac_nilB 2 0 6 34 4 [.row 6, .lit (.int .i64 t1.1), .lit (.int .i64 t1.2.1), .lit (.int .i64 t1.2.2)] ?_
 refine aw_loop8 (fun (k_ : Nat) (q23 : List Int) (p24 : Int) (p25 : Int) (q26 : List S34) (p27 : Int) (p28 : Int) (p29 : Int) (p30 : Int) => k_ ≤ k ∧ spec_l16Ring.l0 k_ q23 p24 p25 q26 p27 p28 p29 p30 = some r) (fun (q23 : List Int) (p24 : Int) (p25 : Int) (q26 : List S34) (p27 : Int) (p28 : Int) (p29 : Int) (p30 : Int) => ⟨[(0, .box 0 0), (2, .box 1 0), (3, .box 2 0), (4, .lit (.int .i64 p30))], [(0, .box 142 [.sl .u 1 (q23.map (eI .u8)), .lit (.int .i64 p24), .lit (.int .i64 p25)]), (1, .box 164 [.lit (.slice none 0 0), .lit (.int .i64 0), .lit (.int .i64 0), .lit (.int .i64 0)]), (2, .box 164 [.row 6, .lit (.int .i64 p27), .lit (.int .i64 p28), .lit (.int .i64 p29)]), (6, .row 34 4 (q26.map e34))]⟩) k l0_0 a0_1 a0_2 ([]) t1.1 t1.2.1 t1.2.2 0 ⟨Nat.le_refl _, H⟩ (fun K_ h_ => acw hE [(0, 0), (1, 1), (2, 2), (6, 6)] 9999 h_) (fun _ _ _ _ _ _ _ _ => by intro h_; have h_ := h_.2; rw [spec_l16Ring.l0.eq_1] at h_; cases h_) ?_
 intro k31 q23 p24 p25 q26 p27 p28 p29 p30 hq_ K51 hK52
 have hk31 := hq_.1
 have H := hq_.2
 clear hq_
 rw [spec_l16Ring.l0.eq_2] at H
 refine aw_grp1 ?_
 refine aw_grp1 ?_
 refine wk_start ?_
 refine kv g0 (mv) ?_
 refine kv g0 (mv) ?_
 obtain ⟨t32, A33, H⟩ := of_bind H
 refine kcS1 8 (.lit (.int .i64 t32.1)) [(0, .box 142 [.sl .u 1 (t32.2.1.map (eI .u8)), .lit (.int .i64 t32.2.2.1), .lit (.int .i64 t32.2.2.2)])] g0 (cal (spec_l01Below.ok A33) [0] 9999 .u (hf := Try.func52)) rfl rfl ?_
 refine kv g0 (lss) ?_
 refine wk_end ?_
 refine ac_next ?_
 by_cases c34 : p30 < t32.1
 ·rw [if_pos c34] at H
  refine aw_ifT ?_ (decide_eq_true c34)
  refine aw_skip ?_
  refine ac_next ?_
  refine aw_grp1 ?_
  refine aw_block ?_
  refine aw_grp1 ?_
  refine wk_start ?_
  refine kv g0 (mv) ?_
  obtain ⟨t35, A36, H⟩ := of_bind H
  refine kcS1 13 (.lit (.int .i64 t35.1)) [(0, .box 142 [.sl .u 1 (t35.2.1.map (eI .u8)), .lit (.int .i64 t35.2.2.1), .lit (.int .i64 t35.2.2.2)])] g0 (cal (spec_l01Below.ok A36) [0] 9999 .u (hf := Try.func52)) rfl rfl ?_
  refine wk_end ?_
  refine ac_next ?_
  refine aw_block ?_
  refine aw_grp1 ?_
  refine wk_start ?_
  refine kv g0 (eql) ?_
  refine kv g0 (asg) ?_
  refine wk_end ?_
  refine ac_next ?_
  by_cases c37 : t35.1 = 0
  ·rw [if_pos c37] at H
   refine aw_ifT ?_ (eT c37)
   refine wk_start ?_
   refine kv g0 (ldBA 4 [.row 6, .lit (.int .i64 p27), .lit (.int .i64 p28), .lit (.int .i64 p29)]) ?_
   refine kv g0 (mv) ?_
   obtain ⟨t38, A39, H⟩ := of_bind H
   refine kcS1 27 (.lit (.int .i64 t38.1)) [(0, .box 142 [.sl .u 1 (t38.2.1.map (eI .u8)), .lit (.int .i64 t38.2.2.1), .lit (.int .i64 t38.2.2.2)])] g0 (cal (spec_l01Below.ok A39) [0] 9999 .u (hf := Try.func52)) rfl rfl ?_
   obtain ⟨t40, A41, H⟩ := of_bind H
   refine kcS1 28 (.agg [.row 7, .lit (.int .i64 t40.2.1), .lit (.int .i64 t40.2.2.1), .lit (.int .i64 t40.2.2.2)]) [(7, .row 34 4 (t40.1.map e34))] g0 (cal (spec_Refilled.ok A41) [7] 9999 .n (hf := Try.func161)) rfl rfl ?_
   refine ks g0 (stB 4 [.row 7, .lit (.int .i64 t40.2.1), .lit (.int .i64 t40.2.2.1), .lit (.int .i64 t40.2.2.2)]) ?_
   refine wk_end_draw hM (by kernel_rfl) ?_
   refine ac_blkN ?_
   refine ac_blkN ?_
   refine ac_next ?_
   refine wk_start ?_
   refine kv g0 (mv) ?_
   refine kv g0 (add6) ?_
   refine kv g0 (asg) ?_
   refine wk_end ?_
   refine ac_k ?_
   exact acw hE [(0, 0), (1, 1), (2, 2), (6, 7)] 9999 (hK52 k31 t38.2.1 t38.2.2.1 t38.2.2.2 t40.1 t40.2.1 t40.2.2.1 t40.2.2.2 (wrap64 (p30 + 1)) (Nat.le_refl _) ⟨by omega, H⟩)
  rw [if_neg c37] at H
  refine aw_ifF ?_ (eF c37)
  refine aw_grp1 ?_
  refine wk_start ?_
  refine kv g0 (eql) ?_
  refine kv g0 (asg) ?_
  refine wk_end ?_
  refine ac_next ?_
  by_cases c42 : t35.1 = 1
  ·rw [if_pos c42] at H
   refine aw_ifT ?_ (eT c42)
   refine wk_start ?_
   refine kv g0 (ldBA 4 [.row 6, .lit (.int .i64 p27), .lit (.int .i64 p28), .lit (.int .i64 p29)]) ?_
   obtain ⟨t43, A44, H⟩ := of_bind H
   refine kcS1 33 (.tup [.agg [.row 8, .lit (.int .i64 t43.2.1), .lit (.int .i64 t43.2.2.1), .lit (.int .i64 t43.2.2.2.1)], .agg [.lit (.int .i64 t43.2.2.2.2.1), .lit (.int .i64 t43.2.2.2.2.2.1), .lit (.int .i64 t43.2.2.2.2.2.2.1), .lit (.int .i64 t43.2.2.2.2.2.2.2.1)], .lit (.bool t43.2.2.2.2.2.2.2.2)]) [(8, .row 34 4 (t43.1.map e34))] g0 (cal (spec_Drained.ok A44) [8] 9999 .n (hf := Try.func162)) rfl rfl ?_
   refine kv g0 (mv) ?_
   refine kv g0 (ext) ?_
   refine kv g0 (ext) ?_
   refine kv g0 (ext) ?_
   refine ks g0 (stB 4 [.row 8, .lit (.int .i64 t43.2.1), .lit (.int .i64 t43.2.2.1), .lit (.int .i64 t43.2.2.2.1)]) ?_
   refine wk_end ?_
   refine ac_blkN ?_
   refine ac_blkN ?_
   refine ac_next ?_
   refine wk_start ?_
   refine kv g0 (mv) ?_
   refine kv g0 (add6) ?_
   refine kv g0 (asg) ?_
   refine wk_end ?_
   refine ac_k ?_
   exact acw hE [(0, 0), (1, 1), (2, 2), (6, 8)] 9999 (hK52 k31 t35.2.1 t35.2.2.1 t35.2.2.2 t43.1 t43.2.1 t43.2.2.1 t43.2.2.2.1 (wrap64 (p30 + 1)) (Nat.le_refl _) ⟨by omega, H⟩)
  rw [if_neg c42] at H
  refine aw_ifF ?_ (eF c42)
  refine wk_start ?_
  refine kv g0 (ldBA 4 [.row 6, .lit (.int .i64 p27), .lit (.int .i64 p28), .lit (.int .i64 p29)]) ?_
  refine kv g0 (mv) ?_
  obtain ⟨t45, A46, H⟩ := of_bind H
  refine kcS1 17 (.lit (.int .i64 t45.1)) [(0, .box 142 [.sl .u 1 (t45.2.1.map (eI .u8)), .lit (.int .i64 t45.2.2.1), .lit (.int .i64 t45.2.2.2)])] g0 (cal (spec_l01Below.ok A46) [0] 9999 .u (hf := Try.func52)) rfl rfl ?_
  refine kv g0 (mv) ?_
  obtain ⟨t47, A48, H⟩ := of_bind H
  refine kcS1 19 (.lit (.int .i64 t47.1)) [(0, .box 142 [.sl .u 1 (t47.2.1.map (eI .u8)), .lit (.int .i64 t47.2.2.1), .lit (.int .i64 t47.2.2.2)])] g0 (cal (spec_l01Below.ok A48) [0] 9999 .u (hf := Try.func52)) rfl rfl ?_
  obtain ⟨t49, A50, H⟩ := of_bind H
  refine kcS1 20 (.tup [.agg [.row 9, .lit (.int .i64 t49.2.1), .lit (.int .i64 t49.2.2.1), .lit (.int .i64 t49.2.2.2.1)], .lit (.bool t49.2.2.2.2)]) [(9, .row 34 4 (t49.1.map e34))] g0 (cal (spec_Offered.ok A50) [9] 9999 .n (hf := Try.func163)) rfl rfl ?_
  refine kv g0 (mv) ?_
  refine kv g0 (ext) ?_
  refine kv g0 (ext) ?_
  refine ks g0 (stB 4 [.row 9, .lit (.int .i64 t49.2.1), .lit (.int .i64 t49.2.2.1), .lit (.int .i64 t49.2.2.2.1)]) ?_
  refine wk_end_draw hM (by kernel_rfl) ?_
  refine ac_blkN ?_
  refine ac_blkN ?_
  refine ac_next ?_
  refine wk_start ?_
  refine kv g0 (mv) ?_
  refine kv g0 (add6) ?_
  refine kv g0 (asg) ?_
  refine wk_end ?_
  refine ac_k ?_
  exact acw hE [(0, 0), (1, 1), (2, 2), (6, 9)] 9999 (hK52 k31 t47.2.1 t47.2.2.1 t47.2.2.2 t49.1 t49.2.1 t49.2.2.1 t49.2.2.2.1 (wrap64 (p30 + 1)) (Nat.le_refl _) ⟨by omega, H⟩)
 rw [if_neg c34] at H
 refine aw_ifF ?_ (decide_eq_false c34)
 refine aw_exit ?_
 refine ac_then ?_
 refine ac_then ?_
 refine ac_hit rfl ?_
 refine ac_next ?_
 refine aw_grp1 ?_
 refine wk_start ?_
 refine kv g0 (ldBA 4 [.row 6, .lit (.int .i64 p27), .lit (.int .i64 p28), .lit (.int .i64 p29)]) ?_
 refine ks g0 (stB 4 [.row 6, .lit (.int .i64 p27), .lit (.int .i64 p28), .lit (.int .i64 p29)]) ?_
 refine wk_end ?_
 refine ac_next ?_
 refine aw_ret ?_
 obtain rfl := Option.some.inj H
 exact acr hE [.cell 2 164] (rcA 4 .nil) (.one _) [(0, 0), (1, 6)] 9999
/-! spec_l18Copy -/
def spec_l18Copy.f (a0_0 : Int) (a0_1 : Int) (l0_2 : List S34) (a0_3 : Int) (a0_4 : Int) : Option (Int × Int × (List S34) × Int × Int) := if ([] : List S34).length + l0_2.length < 4398046511104 then some (a0_0, a0_1, ([] : List S34) ++ l0_2, a0_3, a0_4) else none
theorem spec_l18Copy.ok {a0_0 : Int} {a0_1 : Int} {l0_2 : List S34} {a0_3 : Int} {a0_4 : Int} {r : Int × Int × (List S34) × Int × Int} (H : spec_l18Copy.f a0_0 a0_1 l0_2 a0_3 a0_4 = some r) : ACalls Try.prog 164 [] [.agg [.lit (.int .i64 a0_0), .lit (.int .i64 a0_1), .sl .o 4 (l0_2.map e34), .lit (.int .i64 a0_3), .lit (.int .i64 a0_4)]] [(0, .row 34 4 (r.2.2.1.map e34))] (.agg [.lit (.int .i64 r.1), .lit (.int .i64 r.2.1), .row 0, .lit (.int .i64 r.2.2.2.1), .lit (.int .i64 r.2.2.2.2)]) := by
 refine acalls (fn := Try.f164) (nt := 11) Try.func164 rfl rfl (Nat.le_of_ble_eq_true rfl) fun E hE => ?_
 rw [spec_l18Copy.f] at H
 refine aw_grp1 ?_
 refine wk_start ?_
 refine kb g0 (bxA 0) ?_
 refine kb g0 (alc 1 [.int .i64 0, .int .i64 0, .slice none 0 0, .int .i64 0, .int .i64 0] [.lit (.int .i64 0), .lit (.int .i64 0), .lit (.slice none 0 0), .lit (.int .i64 0), .lit (.int .i64 0)]) ?_
 refine wk_end ?_
 refine ac_next ?_
 refine aw_grp1 ?_
 refine wk_start ?_
 refine kv g0 (ldBA 5 [.lit (.int .i64 a0_0), .lit (.int .i64 a0_1), .sl .o 4 (l0_2.map e34), .lit (.int .i64 a0_3), .lit (.int .i64 a0_4)]) ?_
 refine kb g0 (alc 2 [.int .i64 0, .int .i64 0, .slice none 0 0, .int .i64 0, .int .i64 0] [.lit (.int .i64 0), .lit (.int .i64 0), .lit (.slice none 0 0), .lit (.int .i64 0), .lit (.int .i64 0)]) ?_
 refine ks g0 (stB 5 [.lit (.int .i64 a0_0), .lit (.int .i64 a0_1), .sl .o 4 (l0_2.map e34), .lit (.int .i64 a0_3), .lit (.int .i64 a0_4)]) ?_
 refine wk_end ?_
 refine ac_next ?_
 refine aw_grp1 ?_
 refine wk_start ?_
 refine kb g0 (bsl 3 34 4 [.int .i64 0, .int .i64 0, .int .i64 0, .int .i64 0] (([] : List S34).map e34)) ?_
 refine kv g0 (faB 2 2) ?_
 refine kv g0 (ldB) ?_
 obtain ⟨c1, H⟩ := of_if H
 refine kc g0 (apR 4 34 4 32 [.int .i64 0, .int .i64 0, .int .i64 0, .int .i64 0] ((([] : List S34) ++ l0_2).map e34) (.slF (fl34)) (apb c1 rfl) appE) ?_
 refine kv g0 (faB 2 2) ?_
 refine ks g0 (stB 1 [.lit (.int .i64 a0_0), .lit (.int .i64 a0_1), .row 4, .lit (.int .i64 a0_3), .lit (.int .i64 a0_4)]) ?_
 refine wk_end ?_
 refine ac_next ?_
 refine aw_grp1 ?_
 refine wk_start ?_
 refine kv g0 (ldBA 5 [.lit (.int .i64 a0_0), .lit (.int .i64 a0_1), .row 4, .lit (.int .i64 a0_3), .lit (.int .i64 a0_4)]) ?_
 refine ks g0 (stB 5 [.lit (.int .i64 a0_0), .lit (.int .i64 a0_1), .row 4, .lit (.int .i64 a0_3), .lit (.int .i64 a0_4)]) ?_
 refine wk_end ?_
 refine ac_next ?_
 refine aw_ret ?_
 obtain rfl := Option.some.inj H
 exact acr hE [.cell 2 75] (rcA 5 .nil) (.one _) [(0, 4)] 9999
/-! spec_SenderOk -/
def spec_SenderOk.l0 : Nat → Int → Int → (List S34) → Int → Int → Int → Option (Bool)
 | 0, _, _, _, _, _, _ => none
 | k7 + 1, a0_0, a0_1, l0_2, a0_3, a0_4, p6 => if p6 < (l0_2.length : Int) then if 0 ≤ p6 then ((spec_ItemOk.f ((rd_T34 l0_2 p6).f0) ((rd_T34 l0_2 p6).f1) ((rd_T34 l0_2 p6).f2) ((rd_T34 l0_2 p6).f3)).bind fun t10 => if t10 = true then spec_SenderOk.l0 k7 a0_0 a0_1 l0_2 a0_3 a0_4 (wrap64 (p6 + 1)) else some false) else none else (spec_l01In.f a0_0 0 2).bind fun t15 => (if t15 = true then ((spec_l01In.f a0_1 1 1000000000).bind fun t18 => (if t18 = true then (if (l0_2.length : Int) ≤ 3 then ((spec_l01In.f a0_3 0 1000000000).bind fun t22 => (if t22 = true then (if a0_4 = 1 then some true else (if a0_4 = 2 then some true else some (a0_4 == 4))) else some false)) else some false) else some false)) else some false)
def spec_SenderOk.f (k : Nat) (a0_0 : Int) (a0_1 : Int) (l0_2 : List S34) (a0_3 : Int) (a0_4 : Int) : Option (Bool) := spec_SenderOk.l0 k a0_0 a0_1 l0_2 a0_3 a0_4 0
theorem spec_SenderOk.ok {k : Nat} {a0_0 : Int} {a0_1 : Int} {l0_2 : List S34} {a0_3 : Int} {a0_4 : Int} {r : Bool} (H : spec_SenderOk.f k a0_0 a0_1 l0_2 a0_3 a0_4 = some r) : ACalls Try.prog 165 [] [.agg [.lit (.int .i64 a0_0), .lit (.int .i64 a0_1), .sl .o 4 (l0_2.map e34), .lit (.int .i64 a0_3), .lit (.int .i64 a0_4)]] [] (.lit (.bool r)) := by
 refine acalls (fn := Try.f165) (nt := 52) Try.func165 rfl rfl (Nat.le_of_ble_eq_true rfl) fun E hE => ?_
 rw [spec_SenderOk.f] at H
 refine aw_grp1 ?_
 refine wk_start ?_
 refine kb g0 (bxA 0) ?_
 refine kv g0 (asg) ?_
 refine wk_end ?_
 refine ac_next ?_
 refine aw_grp1 ?_
 refine aw_grp1 ?_
 refine wk_start ?_
 refine kv g0 (asg) ?_
 refine wk_end ?_
 refine ac_next ?_
 refine aw_block ?_
 refine aw_loop1 (fun (k_ : Nat) (p6 : Int) => k_ ≤ k ∧ spec_SenderOk.l0 k_ a0_0 a0_1 l0_2 a0_3 a0_4 p6 = some r) (fun (p6 : Int) => ⟨[(1, .box 0 0), (3, .lit (.int .i64 p6))], [(0, .box 75 [.lit (.int .i64 a0_0), .lit (.int .i64 a0_1), .sl .o 4 (l0_2.map e34), .lit (.int .i64 a0_3), .lit (.int .i64 a0_4)])]⟩) k 0 ⟨Nat.le_refl _, H⟩ (fun K_ h_ => acw hE [(0, 0)] 9999 h_) (fun _ => by intro h_; have h_ := h_.2; rw [spec_SenderOk.l0.eq_1] at h_; cases h_) ?_
 intro k7 p6 hq_ K13 hK14
 have hk7 := hq_.1
 have H := hq_.2
 clear hq_
 rw [spec_SenderOk.l0.eq_2] at H
 refine aw_grp1 ?_
 refine aw_grp1 ?_
 refine wk_start ?_
 refine kv g0 (mv) ?_
 refine kv g0 (faB 2 2) ?_
 refine kv g0 (ldB) ?_
 refine kv g0 (lnS lenE) ?_
 refine kv g0 (lss) ?_
 refine wk_end ?_
 refine ac_next ?_
 by_cases c8 : p6 < (l0_2.length : Int)
 ·rw [if_pos c8] at H
  refine aw_ifT ?_ (decide_eq_true c8)
  refine aw_skip ?_
  refine ac_next ?_
  refine aw_grp1 ?_
  refine aw_block ?_
  refine aw_grp1 ?_
  refine wk_start ?_
  refine kv g0 (faB 2 2) ?_
  refine kv g0 (ldB) ?_
  refine kv g0 (mv) ?_
  obtain ⟨c9, H⟩ := of_if H
  refine kv g0 (ixS 34 (e34 (rd_T34 l0_2 p6)) c9 (getE (z := z34) c9 c8)) ?_
  refine kv g0 (ldRA 4 [.lit (.int .i64 ((rd_T34 l0_2 p6).f0)), .lit (.int .i64 ((rd_T34 l0_2 p6).f1)), .lit (.int .i64 ((rd_T34 l0_2 p6).f2)), .lit (.int .i64 ((rd_T34 l0_2 p6).f3))]) ?_
  obtain ⟨t10, A11, H⟩ := of_bind H
  refine kcS0 16 (.lit (.bool t10)) [] g0 (cal (spec_ItemOk.ok A11) [] 9999 .n (hf := Try.func69)) rfl rfl ?_
  refine kv g0 (not_) ?_
  refine wk_end ?_
  refine ac_next ?_
  by_cases c12 : t10 = true
  ·rw [if_pos c12] at H
   refine aw_ifF ?_ (nF c12)
   refine aw_skip ?_
   refine ac_blkN ?_
   refine ac_next ?_
   refine wk_start ?_
   refine kv g0 (mv) ?_
   refine kv g0 (add6) ?_
   refine kv g0 (asg) ?_
   refine wk_end ?_
   refine ac_k ?_
   exact acw hE [(0, 0)] 9999 (hK14 k7 (wrap64 (p6 + 1)) (Nat.le_refl _) ⟨by omega, H⟩)
  rw [if_neg c12] at H
  refine aw_ifT ?_ (nT (bF c12))
  refine aw_grp1 ?_
  refine wk_start ?_
  refine kv g0 (asg) ?_
  refine wk_end ?_
  refine ac_next ?_
  refine aw_ret ?_
  refine ac_blkR ?_
  refine ac_thenR ?_
  refine ac_thenR ?_
  refine ac_blkR ?_
  refine ac_thenR ?_
  obtain rfl := Option.some.inj H
  exact acr hE [.tmp 2] (.tmp .nil) (.one _) [] 9999
 rw [if_neg c8] at H
 refine aw_ifF ?_ (decide_eq_false c8)
 refine aw_exit ?_
 refine ac_then ?_
 refine ac_then ?_
 refine ac_hit rfl ?_
 refine ac_next ?_
 refine aw_grp1 ?_
 refine wk_start ?_
 refine kv g0 (faB 0 0) ?_
 refine kv g0 (ldB) ?_
 obtain ⟨t15, A16, H⟩ := of_bind H
 refine kcS0 20 (.lit (.bool t15)) [] g0 (cal (spec_l01In.ok A16) [] 9999 .n (hf := Try.func63)) rfl rfl ?_
 refine kv g0 (mv) ?_
 by_cases c17 : t15 = true
 ·rw [if_pos c17] at H
  refine kv (g1 c17) (faB 1 1) ?_
  refine kv (g1 c17) (ldB) ?_
  obtain ⟨t18, A19, H⟩ := of_bind H
  refine kcS0 24 (.lit (.bool t18)) [] (g1 c17) (cal (spec_l01In.ok A19) [] 9999 .n (hf := Try.func63)) rfl rfl ?_
  refine kv g0 (pkT c17) ?_
  refine kv g0 (mv) ?_
  by_cases c20 : t18 = true
  ·rw [if_pos c20] at H
   refine kv (g1 c20) (faB 2 2) ?_
   refine kv (g1 c20) (ldB) ?_
   refine kv (g1 c20) (lnS lenE) ?_
   refine kv (g1 c20) (leq) ?_
   refine kv g0 (pkT c20) ?_
   refine kv g0 (mv) ?_
   by_cases c21 : (l0_2.length : Int) ≤ 3
   ·rw [if_pos c21] at H
    refine kv (g1 (decide_eq_true c21)) (faB 3 3) ?_
    refine kv (g1 (decide_eq_true c21)) (ldB) ?_
    obtain ⟨t22, A23, H⟩ := of_bind H
    refine kcS0 35 (.lit (.bool t22)) [] (g1 (decide_eq_true c21)) (cal (spec_l01In.ok A23) [] 9999 .n (hf := Try.func63)) rfl rfl ?_
    refine kv g0 (pkT (decide_eq_true c21)) ?_
    refine kv g0 (mv) ?_
    by_cases c24 : t22 = true
    ·rw [if_pos c24] at H
     refine kv (g1 c24) (faB 4 4) ?_
     refine kv (g1 c24) (ldB) ?_
     refine kv (g1 c24) (eql) ?_
     refine kv (g1 c24) (mv) ?_
     by_cases c25 : a0_4 = 1
     ·rw [if_pos c25] at H
      refine kx (hF (eT c25)) ?_
      refine kx (hF (eT c25)) ?_
      refine kx (hF (eT c25)) ?_
      refine kv (g1 c24) (pkT (eT c25)) ?_
      refine kv (g1 c24) (mv) ?_
      refine kx (hF rfl) ?_
      refine kx (hF rfl) ?_
      refine kx (hF rfl) ?_
      refine kv (g1 c24) (pkT rfl) ?_
      refine kv g0 (pkT c24) ?_
      refine kv g0 (asg) ?_
      refine wk_end ?_
      refine ac_next ?_
      refine aw_ret ?_
      obtain rfl := Option.some.inj H
      exact acr hE [.tmp 2] (.tmp .nil) (.one _) [] 9999
     rw [if_neg c25] at H
     refine kv (g1 (eF c25)) (faB 4 4) ?_
     refine kv (g1 (eF c25)) (ldB) ?_
     refine kv (g1 (eF c25)) (eql) ?_
     refine kv (g1 c24) (pkF (eF c25)) ?_
     refine kv (g1 c24) (mv) ?_
     by_cases c26 : a0_4 = 2
     ·rw [if_pos c26] at H
      refine kx (hF (eT c26)) ?_
      refine kx (hF (eT c26)) ?_
      refine kx (hF (eT c26)) ?_
      refine kv (g1 c24) (pkT (eT c26)) ?_
      refine kv g0 (pkT c24) ?_
      refine kv g0 (asg) ?_
      refine wk_end ?_
      refine ac_next ?_
      refine aw_ret ?_
      obtain rfl := Option.some.inj H
      exact acr hE [.tmp 2] (.tmp .nil) (.one _) [] 9999
     rw [if_neg c26] at H
     refine kv (g1 (eF c26)) (faB 4 4) ?_
     refine kv (g1 (eF c26)) (ldB) ?_
     refine kv (g1 (eF c26)) (eql) ?_
     refine kv (g1 c24) (pkF (eF c26)) ?_
     refine kv g0 (pkT c24) ?_
     refine kv g0 (asg) ?_
     refine wk_end ?_
     refine ac_next ?_
     refine aw_ret ?_
     obtain rfl := Option.some.inj H
     exact acr hE [.tmp 2] (.tmp .nil) (.one _) [] 9999
    rw [if_neg c24] at H
    refine kx (hT (bF c24)) ?_
    refine kx (hT (bF c24)) ?_
    refine kx (hT (bF c24)) ?_
    refine ku (neT (hT (bF c24))) ?_
    refine ku neU ?_
    refine ku neU ?_
    refine ku neU ?_
    refine kx (hT (bF c24)) ?_
    refine ku (neT (hT (bF c24))) ?_
    refine ku neU ?_
    refine ku neU ?_
    refine ku neU ?_
    refine kx (hT (bF c24)) ?_
    refine kv g0 (pkF (bF c24)) ?_
    refine kv g0 (asg) ?_
    refine wk_end ?_
    refine ac_next ?_
    refine aw_ret ?_
    obtain rfl := Option.some.inj H
    exact acr hE [.tmp 2] (.tmp .nil) (.one _) [] 9999
   rw [if_neg c21] at H
   refine kx (hT (decide_eq_false c21)) ?_
   refine kx (hT (decide_eq_false c21)) ?_
   refine kx (hT (decide_eq_false c21)) ?_
   refine kv g0 (pkF (decide_eq_false c21)) ?_
   refine kv g0 (mv) ?_
   refine kx (hT rfl) ?_
   refine kx (hT rfl) ?_
   refine kx (hT rfl) ?_
   refine ku (neT (hT rfl)) ?_
   refine ku neU ?_
   refine ku neU ?_
   refine ku neU ?_
   refine kx (hT rfl) ?_
   refine ku (neT (hT rfl)) ?_
   refine ku neU ?_
   refine ku neU ?_
   refine ku neU ?_
   refine kx (hT rfl) ?_
   refine kv g0 (pkF rfl) ?_
   refine kv g0 (asg) ?_
   refine wk_end ?_
   refine ac_next ?_
   refine aw_ret ?_
   obtain rfl := Option.some.inj H
   exact acr hE [.tmp 2] (.tmp .nil) (.one _) [] 9999
  rw [if_neg c20] at H
  refine kx (hT (bF c20)) ?_
  refine kx (hT (bF c20)) ?_
  refine kx (hT (bF c20)) ?_
  refine kx (hT (bF c20)) ?_
  refine kv g0 (pkF (bF c20)) ?_
  refine kv g0 (mv) ?_
  refine kx (hT rfl) ?_
  refine kx (hT rfl) ?_
  refine kx (hT rfl) ?_
  refine kv g0 (pkF rfl) ?_
  refine kv g0 (mv) ?_
  refine kx (hT rfl) ?_
  refine kx (hT rfl) ?_
  refine kx (hT rfl) ?_
  refine ku (neT (hT rfl)) ?_
  refine ku neU ?_
  refine ku neU ?_
  refine ku neU ?_
  refine kx (hT rfl) ?_
  refine ku (neT (hT rfl)) ?_
  refine ku neU ?_
  refine ku neU ?_
  refine ku neU ?_
  refine kx (hT rfl) ?_
  refine kv g0 (pkF rfl) ?_
  refine kv g0 (asg) ?_
  refine wk_end ?_
  refine ac_next ?_
  refine aw_ret ?_
  obtain rfl := Option.some.inj H
  exact acr hE [.tmp 2] (.tmp .nil) (.one _) [] 9999
 rw [if_neg c17] at H
 refine kx (hT (bF c17)) ?_
 refine kx (hT (bF c17)) ?_
 refine kx (hT (bF c17)) ?_
 refine kv g0 (pkF (bF c17)) ?_
 refine kv g0 (mv) ?_
 refine kx (hT rfl) ?_
 refine kx (hT rfl) ?_
 refine kx (hT rfl) ?_
 refine kx (hT rfl) ?_
 refine kv g0 (pkF rfl) ?_
 refine kv g0 (mv) ?_
 refine kx (hT rfl) ?_
 refine kx (hT rfl) ?_
 refine kx (hT rfl) ?_
 refine kv g0 (pkF rfl) ?_
 refine kv g0 (mv) ?_
 refine kx (hT rfl) ?_
 refine kx (hT rfl) ?_
 refine kx (hT rfl) ?_
 refine ku (neT (hT rfl)) ?_
 refine ku neU ?_
 refine ku neU ?_
 refine ku neU ?_
 refine kx (hT rfl) ?_
 refine ku (neT (hT rfl)) ?_
 refine ku neU ?_
 refine ku neU ?_
 refine ku neU ?_
 refine kx (hT rfl) ?_
 refine kv g0 (pkF rfl) ?_
 refine kv g0 (asg) ?_
 refine wk_end ?_
 refine ac_next ?_
 refine aw_ret ?_
 obtain rfl := Option.some.inj H
 exact acr hE [.tmp 2] (.tmp .nil) (.one _) [] 9999
/-! spec_Again -/
def spec_Again.f (k : Nat) (a0_0 : Int) (a0_1 : Int) (l0_2 : List S34) (a0_3 : Int) (a0_4 : Int) (a1 : Int) : Option (Int × Int × (List S34) × Int × Int × Bool) := (spec_l18Copy.f a0_0 a0_1 l0_2 a0_3 a0_4).bind fun t1 => (spec_SenderOk.f k a0_0 a0_1 l0_2 a0_3 a0_4).bind fun t3 => (if t3 = true then (if (l0_2.length : Int) = 0 then some (t1.1, t1.2.1, t1.2.2.1, t1.2.2.2.1, t1.2.2.2.2, false) else (if a1 < 0 then some (t1.1, t1.2.1, t1.2.2.1, t1.2.2.2.1, t1.2.2.2.2, false) else if (wrap64 (a1 - a0_4)) < a0_3 then some (t1.1, t1.2.1, t1.2.2.1, t1.2.2.2.1, t1.2.2.2.2, false) else if (wrap64 (2 * a0_4)) > 4 then some (t1.1, t1.2.1, t1.2.2.1, a1, 4, true) else some (t1.1, t1.2.1, t1.2.2.1, a1, wrap64 (2 * a0_4), true))) else some (t1.1, t1.2.1, t1.2.2.1, t1.2.2.2.1, t1.2.2.2.2, false))
theorem spec_Again.ok {k : Nat} {a0_0 : Int} {a0_1 : Int} {l0_2 : List S34} {a0_3 : Int} {a0_4 : Int} {a1 : Int} {r : Int × Int × (List S34) × Int × Int × Bool} (H : spec_Again.f k a0_0 a0_1 l0_2 a0_3 a0_4 a1 = some r) : ACalls Try.prog 141 [] [.agg [.lit (.int .i64 a0_0), .lit (.int .i64 a0_1), .sl .o 4 (l0_2.map e34), .lit (.int .i64 a0_3), .lit (.int .i64 a0_4)], .lit (.int .i64 a1)] [(0, .row 34 4 (r.2.2.1.map e34))] (.tup [.agg [.lit (.int .i64 r.1), .lit (.int .i64 r.2.1), .row 0, .lit (.int .i64 r.2.2.2.1), .lit (.int .i64 r.2.2.2.2.1)], .lit (.bool r.2.2.2.2.2)]) := by
 refine acalls (fn := Try.f141) (nt := 43) Try.func141 rfl rfl (Nat.le_of_ble_eq_true rfl) fun E hE => ?_
 rw [spec_Again.f] at H
 refine aw_grp1 ?_
 refine wk_start ?_
 refine kb g0 (bxA 0) ?_
 refine kb g0 (alc 1 [.int .i64 0, .int .i64 0, .slice none 0 0, .int .i64 0, .int .i64 0] [.lit (.int .i64 0), .lit (.int .i64 0), .lit (.slice none 0 0), .lit (.int .i64 0), .lit (.int .i64 0)]) ?_
 refine kv g0 (asg) ?_
 refine wk_end ?_
 refine ac_next ?_
 refine aw_grp1 ?_
 refine wk_start ?_
 refine kv g0 (ldBA 5 [.lit (.int .i64 a0_0), .lit (.int .i64 a0_1), .sl .o 4 (l0_2.map e34), .lit (.int .i64 a0_3), .lit (.int .i64 a0_4)]) ?_
 obtain ⟨t1, A2, H⟩ := of_bind H
 refine kcS1 8 (.agg [.lit (.int .i64 t1.1), .lit (.int .i64 t1.2.1), .row 2, .lit (.int .i64 t1.2.2.2.1), .lit (.int .i64 t1.2.2.2.2)]) [(2, .row 34 4 (t1.2.2.1.map e34))] g0 (cal (spec_l18Copy.ok A2) [2] 9999 .n (hf := Try.func164)) rfl rfl ?_
 refine kb g0 (alc 3 [.int .i64 0, .int .i64 0, .slice none 0 0, .int .i64 0, .int .i64 0] [.lit (.int .i64 0), .lit (.int .i64 0), .lit (.slice none 0 0), .lit (.int .i64 0), .lit (.int .i64 0)]) ?_
 refine ks g0 (stB 5 [.lit (.int .i64 t1.1), .lit (.int .i64 t1.2.1), .row 2, .lit (.int .i64 t1.2.2.2.1), .lit (.int .i64 t1.2.2.2.2)]) ?_
 refine wk_end ?_
 refine ac_next ?_
 refine aw_grp1 ?_
 refine aw_grp1 ?_
 refine wk_start ?_
 refine kv g0 (ldBA 5 [.lit (.int .i64 a0_0), .lit (.int .i64 a0_1), .sl .o 4 (l0_2.map e34), .lit (.int .i64 a0_3), .lit (.int .i64 a0_4)]) ?_
 obtain ⟨t3, A4, H⟩ := of_bind H
 refine kcS0 10 (.lit (.bool t3)) [] g0 (cal (spec_SenderOk.ok A4) [] 9999 .n (hf := Try.func165)) rfl rfl ?_
 refine kv g0 (not_) ?_
 refine kv g0 (mv) ?_
 by_cases c5 : t3 = true
 ·rw [if_pos c5] at H
  refine kv (g1 (nF c5)) (faB 2 2) ?_
  refine kv (g1 (nF c5)) (ldB) ?_
  refine kv (g1 (nF c5)) (lnS lenE) ?_
  refine kv (g1 (nF c5)) (eql) ?_
  refine kv g0 (pkF (nF c5)) ?_
  refine kv g0 (mv) ?_
  by_cases c6 : (l0_2.length : Int) = 0
  ·rw [if_pos c6] at H
   refine kx (hF (eT c6)) ?_
   refine kx (hF (eT c6)) ?_
   refine kv g0 (pkT (eT c6)) ?_
   refine kv g0 (mv) ?_
   refine kx (hF rfl) ?_
   refine kx (hF rfl) ?_
   refine kx (hF rfl) ?_
   refine kx (hF rfl) ?_
   refine kx (hF rfl) ?_
   refine kx (hF rfl) ?_
   refine kx (hF rfl) ?_
   refine kv g0 (pkT rfl) ?_
   refine wk_end ?_
   refine ac_next ?_
   refine aw_ifT ?_ rfl
   refine aw_grp1 ?_
   refine wk_start ?_
   refine kv g0 (ldBA 5 [.lit (.int .i64 t1.1), .lit (.int .i64 t1.2.1), .row 2, .lit (.int .i64 t1.2.2.2.1), .lit (.int .i64 t1.2.2.2.2)]) ?_
   refine ks g0 (stB 5 [.lit (.int .i64 t1.1), .lit (.int .i64 t1.2.1), .row 2, .lit (.int .i64 t1.2.2.2.1), .lit (.int .i64 t1.2.2.2.2)]) ?_
   refine kv g0 (asg) ?_
   refine wk_end ?_
   refine ac_next ?_
   refine aw_ret ?_
   refine ac_thenR ?_
   obtain rfl := Option.some.inj H
   exact acr hE [.cell 4 75, .tmp 5] (rcA 5 (.tmp .nil)) (.many _ _ _) [(0, 2)] 9999
  rw [if_neg c6] at H
  refine kv (g1 (eF c6)) (mv) ?_
  refine kv (g1 (eF c6)) (lss) ?_
  refine kv g0 (pkF (eF c6)) ?_
  refine kv g0 (mv) ?_
  by_cases c7 : a1 < 0
  ·rw [if_pos c7] at H
   refine kx (hF (decide_eq_true c7)) ?_
   refine kx (hF (decide_eq_true c7)) ?_
   refine kx (hF (decide_eq_true c7)) ?_
   refine kx (hF (decide_eq_true c7)) ?_
   refine kx (hF (decide_eq_true c7)) ?_
   refine kx (hF (decide_eq_true c7)) ?_
   refine kx (hF (decide_eq_true c7)) ?_
   refine kv g0 (pkT (decide_eq_true c7)) ?_
   refine wk_end ?_
   refine ac_next ?_
   refine aw_ifT ?_ rfl
   refine aw_grp1 ?_
   refine wk_start ?_
   refine kv g0 (ldBA 5 [.lit (.int .i64 t1.1), .lit (.int .i64 t1.2.1), .row 2, .lit (.int .i64 t1.2.2.2.1), .lit (.int .i64 t1.2.2.2.2)]) ?_
   refine ks g0 (stB 5 [.lit (.int .i64 t1.1), .lit (.int .i64 t1.2.1), .row 2, .lit (.int .i64 t1.2.2.2.1), .lit (.int .i64 t1.2.2.2.2)]) ?_
   refine kv g0 (asg) ?_
   refine wk_end ?_
   refine ac_next ?_
   refine aw_ret ?_
   refine ac_thenR ?_
   obtain rfl := Option.some.inj H
   exact acr hE [.cell 4 75, .tmp 5] (rcA 5 (.tmp .nil)) (.many _ _ _) [(0, 2)] 9999
  rw [if_neg c7] at H
  refine kv (g1 (decide_eq_false c7)) (mv) ?_
  refine kv (g1 (decide_eq_false c7)) (faB 4 4) ?_
  refine kv (g1 (decide_eq_false c7)) (ldB) ?_
  refine kv (g1 (decide_eq_false c7)) (sub6) ?_
  refine kv (g1 (decide_eq_false c7)) (faB 3 3) ?_
  refine kv (g1 (decide_eq_false c7)) (ldB) ?_
  refine kv (g1 (decide_eq_false c7)) (lss) ?_
  refine kv g0 (pkF (decide_eq_false c7)) ?_
  refine wk_end ?_
  refine ac_next ?_
  by_cases c8 : (wrap64 (a1 - a0_4)) < a0_3
  ·rw [if_pos c8] at H
   refine aw_ifT ?_ (decide_eq_true c8)
   refine aw_grp1 ?_
   refine wk_start ?_
   refine kv g0 (ldBA 5 [.lit (.int .i64 t1.1), .lit (.int .i64 t1.2.1), .row 2, .lit (.int .i64 t1.2.2.2.1), .lit (.int .i64 t1.2.2.2.2)]) ?_
   refine ks g0 (stB 5 [.lit (.int .i64 t1.1), .lit (.int .i64 t1.2.1), .row 2, .lit (.int .i64 t1.2.2.2.1), .lit (.int .i64 t1.2.2.2.2)]) ?_
   refine kv g0 (asg) ?_
   refine wk_end ?_
   refine ac_next ?_
   refine aw_ret ?_
   refine ac_thenR ?_
   obtain rfl := Option.some.inj H
   exact acr hE [.cell 4 75, .tmp 5] (rcA 5 (.tmp .nil)) (.many _ _ _) [(0, 2)] 9999
  rw [if_neg c8] at H
  refine aw_ifF ?_ (decide_eq_false c8)
  refine aw_skip ?_
  refine ac_next ?_
  refine aw_grp1 ?_
  refine wk_start ?_
  refine kv g0 (mv) ?_
  refine kv g0 (faB 3 3) ?_
  refine ks g0 (stB 1 [.lit (.int .i64 t1.1), .lit (.int .i64 t1.2.1), .row 2, .lit (.int .i64 a1), .lit (.int .i64 t1.2.2.2.2)]) ?_
  refine wk_end ?_
  refine ac_next ?_
  refine aw_grp1 ?_
  refine wk_start ?_
  refine kv g0 (faB 4 4) ?_
  refine kv g0 (ldB) ?_
  refine kv g0 (mul6) ?_
  refine kv g0 (faB 4 4) ?_
  refine ks g0 (stB 1 [.lit (.int .i64 t1.1), .lit (.int .i64 t1.2.1), .row 2, .lit (.int .i64 a1), .lit (.int .i64 (wrap64 (2 * a0_4)))]) ?_
  refine wk_end ?_
  refine ac_next ?_
  refine aw_grp1 ?_
  refine aw_grp1 ?_
  refine wk_start ?_
  refine kv g0 (faB 4 4) ?_
  refine kv g0 (ldB) ?_
  refine kv g0 (gtr) ?_
  refine wk_end ?_
  refine ac_next ?_
  by_cases c9 : (wrap64 (2 * a0_4)) > 4
  ·rw [if_pos c9] at H
   refine aw_ifT ?_ (decide_eq_true c9)
   refine wk_start ?_
   refine kv g0 (faB 4 4) ?_
   refine ks g0 (stB 1 [.lit (.int .i64 t1.1), .lit (.int .i64 t1.2.1), .row 2, .lit (.int .i64 a1), .lit (.int .i64 4)]) ?_
   refine wk_end ?_
   refine ac_next ?_
   refine aw_grp1 ?_
   refine wk_start ?_
   refine kv g0 (ldBA 5 [.lit (.int .i64 t1.1), .lit (.int .i64 t1.2.1), .row 2, .lit (.int .i64 a1), .lit (.int .i64 4)]) ?_
   refine ks g0 (stB 5 [.lit (.int .i64 t1.1), .lit (.int .i64 t1.2.1), .row 2, .lit (.int .i64 a1), .lit (.int .i64 4)]) ?_
   refine kv g0 (asg) ?_
   refine wk_end ?_
   refine ac_next ?_
   refine aw_ret ?_
   obtain rfl := Option.some.inj H
   exact acr hE [.cell 4 75, .tmp 5] (rcA 5 (.tmp .nil)) (.many _ _ _) [(0, 2)] 9999
  rw [if_neg c9] at H
  refine aw_ifF ?_ (decide_eq_false c9)
  refine aw_skip ?_
  refine ac_next ?_
  refine aw_grp1 ?_
  refine wk_start ?_
  refine kv g0 (ldBA 5 [.lit (.int .i64 t1.1), .lit (.int .i64 t1.2.1), .row 2, .lit (.int .i64 a1), .lit (.int .i64 (wrap64 (2 * a0_4)))]) ?_
  refine ks g0 (stB 5 [.lit (.int .i64 t1.1), .lit (.int .i64 t1.2.1), .row 2, .lit (.int .i64 a1), .lit (.int .i64 (wrap64 (2 * a0_4)))]) ?_
  refine kv g0 (asg) ?_
  refine wk_end ?_
  refine ac_next ?_
  refine aw_ret ?_
  obtain rfl := Option.some.inj H
  exact acr hE [.cell 4 75, .tmp 5] (rcA 5 (.tmp .nil)) (.many _ _ _) [(0, 2)] 9999
 rw [if_neg c5] at H
 refine kx (hF (nT (bF c5))) ?_
 refine kx (hF (nT (bF c5))) ?_
 refine kx (hF (nT (bF c5))) ?_
 refine kx (hF (nT (bF c5))) ?_
 refine kv g0 (pkT (nT (bF c5))) ?_
 refine kv g0 (mv) ?_
 refine kx (hF rfl) ?_
 refine kx (hF rfl) ?_
 refine kv g0 (pkT rfl) ?_
 refine kv g0 (mv) ?_
 refine kx (hF rfl) ?_
 refine kx (hF rfl) ?_
 refine kx (hF rfl) ?_
 refine kx (hF rfl) ?_
 refine kx (hF rfl) ?_
 refine kx (hF rfl) ?_
 refine kx (hF rfl) ?_
 refine kv g0 (pkT rfl) ?_
 refine wk_end ?_
 refine ac_next ?_
 refine aw_ifT ?_ rfl
 refine aw_grp1 ?_
 refine wk_start ?_
 refine kv g0 (ldBA 5 [.lit (.int .i64 t1.1), .lit (.int .i64 t1.2.1), .row 2, .lit (.int .i64 t1.2.2.2.1), .lit (.int .i64 t1.2.2.2.2)]) ?_
 refine ks g0 (stB 5 [.lit (.int .i64 t1.1), .lit (.int .i64 t1.2.1), .row 2, .lit (.int .i64 t1.2.2.2.1), .lit (.int .i64 t1.2.2.2.2)]) ?_
 refine kv g0 (asg) ?_
 refine wk_end ?_
 refine ac_next ?_
 refine aw_ret ?_
 refine ac_thenR ?_
 obtain rfl := Option.some.inj H
 exact acr hE [.cell 4 75, .tmp 5] (rcA 5 (.tmp .nil)) (.many _ _ _) [(0, 2)] 9999
/-! spec_Acked -/
mutual
def spec_Acked.l0 : Nat → Int → Int → (List S34) → Int → Int → Int → (Int × Int × (List S34) × Int × Int) → Int → Option (Int × Int × (List S34) × Int × Int)
 | 0, _, _, _, _, _, _, _, _ => none
 | k10 + 1, a0_0, a0_1, l0_2, a0_3, a0_4, a1, t1, p9 => if p9 < (l0_2.length : Int) then if (wrap64 (a0_1 + p9)) = a1 then spec_Acked.j0 k10 a0_0 a0_1 l0_2 a0_3 a0_4 a1 t1 p9 else spec_Acked.l0 k10 a0_0 a0_1 l0_2 a0_3 a0_4 a1 t1 (wrap64 (p9 + 1)) else spec_Acked.j0 k10 a0_0 a0_1 l0_2 a0_3 a0_4 a1 t1 p9
def spec_Acked.j0 : Nat → Int → Int → (List S34) → Int → Int → Int → (Int × Int × (List S34) × Int × Int) → Int → Option (Int × Int × (List S34) × Int × Int)
 | 0, _, _, _, _, _, _, _, _ => none
 | k16 + 1, a0_0, a0_1, l0_2, a0_3, a0_4, a1, t1, p15 => if (wrap64 (a0_1 + p15)) = a1 then if p15 = 0 then some (t1.1, t1.2.1, t1.2.2.1, t1.2.2.2.1, t1.2.2.2.2) else if 0 ≤ p15 then (if p15 ≤ (l0_2.length : Int) then (if ([] : List S34).length + (l0_2.drop p15.toNat).length < 4398046511104 then some (t1.1, a1, ([] : List S34) ++ (l0_2.drop p15.toNat), t1.2.2.2.1, 1) else none) else none) else none else some (t1.1, t1.2.1, t1.2.2.1, t1.2.2.2.1, t1.2.2.2.2)
end
def spec_Acked.f (k : Nat) (a0_0 : Int) (a0_1 : Int) (l0_2 : List S34) (a0_3 : Int) (a0_4 : Int) (a1 : Int) : Option (Int × Int × (List S34) × Int × Int) := (spec_l18Copy.f a0_0 a0_1 l0_2 a0_3 a0_4).bind fun t1 => (spec_SenderOk.f k a0_0 a0_1 l0_2 a0_3 a0_4).bind fun t3 => if t3 = true then spec_Acked.l0 k a0_0 a0_1 l0_2 a0_3 a0_4 a1 t1 0 else some (t1.1, t1.2.1, t1.2.2.1, t1.2.2.2.1, t1.2.2.2.2)
theorem spec_Acked.ok {k : Nat} {a0_0 : Int} {a0_1 : Int} {l0_2 : List S34} {a0_3 : Int} {a0_4 : Int} {a1 : Int} {r : Int × Int × (List S34) × Int × Int} (H : spec_Acked.f k a0_0 a0_1 l0_2 a0_3 a0_4 a1 = some r) : ACalls Try.prog 142 [] [.agg [.lit (.int .i64 a0_0), .lit (.int .i64 a0_1), .sl .o 4 (l0_2.map e34), .lit (.int .i64 a0_3), .lit (.int .i64 a0_4)], .lit (.int .i64 a1)] [(0, .row 34 4 (r.2.2.1.map e34))] (.agg [.lit (.int .i64 r.1), .lit (.int .i64 r.2.1), .row 0, .lit (.int .i64 r.2.2.2.1), .lit (.int .i64 r.2.2.2.2)]) := by
 refine acalls (fn := Try.f142) (nt := 50) Try.func142 rfl rfl (Nat.le_of_ble_eq_true rfl) fun E hE => ?_
 rw [spec_Acked.f] at H
 refine aw_grp1 ?_
 refine wk_start ?_
 refine kb g0 (bxA 0) ?_
 refine kb g0 (alc 1 [.int .i64 0, .int .i64 0, .slice none 0 0, .int .i64 0, .int .i64 0] [.lit (.int .i64 0), .lit (.int .i64 0), .lit (.slice none 0 0), .lit (.int .i64 0), .lit (.int .i64 0)]) ?_
 refine wk_end ?_
 refine ac_next ?_
 refine aw_grp1 ?_
 refine wk_start ?_
 refine kv g0 (ldBA 5 [.lit (.int .i64 a0_0), .lit (.int .i64 a0_1), .sl .o 4 (l0_2.map e34), .lit (.int .i64 a0_3), .lit (.int .i64 a0_4)]) ?_
 obtain ⟨t1, A2, H⟩ := of_bind H
 refine kcS1 8 (.agg [.lit (.int .i64 t1.1), .lit (.int .i64 t1.2.1), .row 2, .lit (.int .i64 t1.2.2.2.1), .lit (.int .i64 t1.2.2.2.2)]) [(2, .row 34 4 (t1.2.2.1.map e34))] g0 (cal (spec_l18Copy.ok A2) [2] 9999 .n (hf := Try.func164)) rfl rfl ?_
 refine kb g0 (alc 3 [.int .i64 0, .int .i64 0, .slice none 0 0, .int .i64 0, .int .i64 0] [.lit (.int .i64 0), .lit (.int .i64 0), .lit (.slice none 0 0), .lit (.int .i64 0), .lit (.int .i64 0)]) ?_
 refine ks g0 (stB 5 [.lit (.int .i64 t1.1), .lit (.int .i64 t1.2.1), .row 2, .lit (.int .i64 t1.2.2.2.1), .lit (.int .i64 t1.2.2.2.2)]) ?_
 refine wk_end ?_
 refine ac_next ?_
 refine aw_grp1 ?_
 refine aw_grp1 ?_
 refine wk_start ?_
 refine kv g0 (ldBA 5 [.lit (.int .i64 a0_0), .lit (.int .i64 a0_1), .sl .o 4 (l0_2.map e34), .lit (.int .i64 a0_3), .lit (.int .i64 a0_4)]) ?_
 obtain ⟨t3, A4, H⟩ := of_bind H
 refine kcS0 10 (.lit (.bool t3)) [] g0 (cal (spec_SenderOk.ok A4) [] 9999 .n (hf := Try.func165)) rfl rfl ?_
 refine kv g0 (not_) ?_
 refine wk_end ?_
 refine ac_next ?_
 by_cases c5 : t3 = true
 ·rw [if_pos c5] at H
  refine aw_ifF ?_ (nF c5)
  refine aw_skip ?_
  refine ac_next ?_
  refine aw_grp1 ?_
  refine wk_start ?_
  refine kv g0 (asg) ?_
  refine wk_end ?_
  refine ac_next ?_
  refine aw_cut1 (J := fun K_ => ∀ (k_ : Nat) (p15 : Int), k_ ≤ k → spec_Acked.j0 k_ a0_0 a0_1 l0_2 a0_3 a0_4 a1 t1 p15 = some r → ACont E 50 ⟨[(1, .lit (.int .i64 a1)), (2, .box 0 0), (4, .box 1 0), (5, .box 3 0), (6, .lit (.int .i64 p15))], [(0, .box 75 [.lit (.int .i64 a0_0), .lit (.int .i64 a0_1), .sl .o 4 (l0_2.map e34), .lit (.int .i64 a0_3), .lit (.int .i64 a0_4)]), (1, .box 75 [.lit (.int .i64 0), .lit (.int .i64 0), .lit (.slice none 0 0), .lit (.int .i64 0), .lit (.int .i64 0)]), (2, .row 34 4 (t1.2.2.1.map e34)), (3, .box 75 [.lit (.int .i64 t1.1), .lit (.int .i64 t1.2.1), .row 2, .lit (.int .i64 t1.2.2.2.1), .lit (.int .i64 t1.2.2.2.2)])]⟩ K_) ?_ ?_
  ·intro K_ hJ22
   refine aw_block ?_
   refine aw_loop1 (fun (k_ : Nat) (p9 : Int) => k_ ≤ k ∧ spec_Acked.l0 k_ a0_0 a0_1 l0_2 a0_3 a0_4 a1 t1 p9 = some r) (fun (p9 : Int) => ⟨[(1, .lit (.int .i64 a1)), (2, .box 0 0), (4, .box 1 0), (5, .box 3 0), (6, .lit (.int .i64 p9))], [(0, .box 75 [.lit (.int .i64 a0_0), .lit (.int .i64 a0_1), .sl .o 4 (l0_2.map e34), .lit (.int .i64 a0_3), .lit (.int .i64 a0_4)]), (1, .box 75 [.lit (.int .i64 0), .lit (.int .i64 0), .lit (.slice none 0 0), .lit (.int .i64 0), .lit (.int .i64 0)]), (2, .row 34 4 (t1.2.2.1.map e34)), (3, .box 75 [.lit (.int .i64 t1.1), .lit (.int .i64 t1.2.1), .row 2, .lit (.int .i64 t1.2.2.2.1), .lit (.int .i64 t1.2.2.2.2)])]⟩) k 0 ⟨Nat.le_refl _, H⟩ (fun K_ h_ => acw hE [(0, 0), (1, 1), (2, 2), (3, 3)] 9999 h_) (fun _ => by intro h_; have h_ := h_.2; rw [spec_Acked.l0.eq_1] at h_; cases h_) ?_
   intro k10 p9 hq_ K13 hK14
   have hk10 := hq_.1
   have H := hq_.2
   clear hq_
   rw [spec_Acked.l0.eq_2] at H
   refine aw_grp1 ?_
   refine aw_grp1 ?_
   refine wk_start ?_
   refine kv g0 (mv) ?_
   refine kv g0 (faB 2 2) ?_
   refine kv g0 (ldB) ?_
   refine kv g0 (lnS lenE) ?_
   refine kv g0 (lss) ?_
   refine kv g0 (mv) ?_
   by_cases c11 : p9 < (l0_2.length : Int)
   ·rw [if_pos c11] at H
    refine kv (g1 (decide_eq_true c11)) (faB 1 1) ?_
    refine kv (g1 (decide_eq_true c11)) (ldB) ?_
    refine kv (g1 (decide_eq_true c11)) (mv) ?_
    refine kv (g1 (decide_eq_true c11)) (add6) ?_
    refine kv (g1 (decide_eq_true c11)) (mv) ?_
    refine kv (g1 (decide_eq_true c11)) (neq) ?_
    refine kv g0 (pkT (decide_eq_true c11)) ?_
    refine wk_end ?_
    refine ac_next ?_
    by_cases c12 : (wrap64 (a0_1 + p9)) = a1
    ·rw [if_pos c12] at H
     refine aw_ifF ?_ (eM c12)
     refine aw_exit ?_
     refine ac_then ?_
     refine ac_then ?_
     refine ac_hit rfl ?_
     refine ac_k ?_
     exact acw hE [(0, 0), (1, 1), (2, 2), (3, 3)] 9999 (hJ22 k10 p9 (by omega) H)
    rw [if_neg c12] at H
    refine aw_ifT ?_ (eN c12)
    refine aw_skip ?_
    refine ac_next ?_
    refine aw_block ?_
    refine wk_start ?_
    refine kv g0 (mv) ?_
    refine kv g0 (add6) ?_
    refine kv g0 (asg) ?_
    refine wk_end ?_
    refine ac_blkN ?_
    refine ac_k ?_
    exact acw hE [(0, 0), (1, 1), (2, 2), (3, 3)] 9999 (hK14 k10 (wrap64 (p9 + 1)) (Nat.le_refl _) ⟨by omega, H⟩)
   rw [if_neg c11] at H
   refine kx (hT (decide_eq_false c11)) ?_
   refine kx (hT (decide_eq_false c11)) ?_
   refine kx (hT (decide_eq_false c11)) ?_
   refine kx (hT (decide_eq_false c11)) ?_
   refine kx (hT (decide_eq_false c11)) ?_
   refine kx (hT (decide_eq_false c11)) ?_
   refine kv g0 (pkF (decide_eq_false c11)) ?_
   refine wk_end ?_
   refine ac_next ?_
   refine aw_ifF ?_ rfl
   refine aw_exit ?_
   refine ac_then ?_
   refine ac_then ?_
   refine ac_hit rfl ?_
   refine ac_k ?_
   exact acw hE [(0, 0), (1, 1), (2, 2), (3, 3)] 9999 (hJ22 k10 p9 (by omega) H)
  intro k_ p15 hk_ H
  rcases k_ with _ | k16
  ·rw [spec_Acked.j0.eq_1] at H; cases H
  have hk16 : k16 ≤ k := by omega
  clear hk_
  rw [spec_Acked.j0.eq_2] at H
  refine aw_grp1 ?_
  refine aw_grp1 ?_
  refine wk_start ?_
  refine kv g0 (faB 1 1) ?_
  refine kv g0 (ldB) ?_
  refine kv g0 (mv) ?_
  refine kv g0 (add6) ?_
  refine kv g0 (mv) ?_
  refine kv g0 (neq) ?_
  refine kv g0 (mv) ?_
  by_cases c17 : (wrap64 (a0_1 + p15)) = a1
  ·rw [if_pos c17] at H
   refine kv (g1 (eM c17)) (mv) ?_
   refine kv (g1 (eM c17)) (eql) ?_
   refine kv g0 (pkF (eM c17)) ?_
   refine wk_end ?_
   refine ac_next ?_
   by_cases c18 : p15 = 0
   ·rw [if_pos c18] at H
    refine aw_ifT ?_ (eT c18)
    refine aw_grp1 ?_
    refine wk_start ?_
    refine kv g0 (ldBA 5 [.lit (.int .i64 t1.1), .lit (.int .i64 t1.2.1), .row 2, .lit (.int .i64 t1.2.2.2.1), .lit (.int .i64 t1.2.2.2.2)]) ?_
    refine ks g0 (stB 5 [.lit (.int .i64 t1.1), .lit (.int .i64 t1.2.1), .row 2, .lit (.int .i64 t1.2.2.2.1), .lit (.int .i64 t1.2.2.2.2)]) ?_
    refine wk_end ?_
    refine ac_next ?_
    refine aw_ret ?_
    refine ac_thenR ?_
    obtain rfl := Option.some.inj H
    exact acr hE [.cell 4 75] (rcA 5 .nil) (.one _) [(0, 2)] 9999
   rw [if_neg c18] at H
   refine aw_ifF ?_ (eF c18)
   refine aw_skip ?_
   refine ac_next ?_
   refine aw_grp1 ?_
   refine wk_start ?_
   refine kb g0 (bsl 4 34 4 [.int .i64 0, .int .i64 0, .int .i64 0, .int .i64 0] (([] : List S34).map e34)) ?_
   refine kv g0 (faB 2 2) ?_
   refine kv g0 (ldB) ?_
   refine kv g0 (mv) ?_
   obtain ⟨c19, H⟩ := of_if H
   obtain ⟨c20, H⟩ := of_if H
   refine kv g0 (slL 34 c19 c20) ?_
   obtain ⟨c21, H⟩ := of_if H
   refine kc g0 (apR 5 34 4 32 [.int .i64 0, .int .i64 0, .int .i64 0, .int .i64 0] ((([] : List S34) ++ (l0_2.drop p15.toNat)).map e34) (.slF (fl34)) (apb c21 rfl) appE) ?_
   refine kv g0 (faB 2 2) ?_
   refine ks g0 (stB 1 [.lit (.int .i64 t1.1), .lit (.int .i64 t1.2.1), .row 5, .lit (.int .i64 t1.2.2.2.1), .lit (.int .i64 t1.2.2.2.2)]) ?_
   refine wk_end ?_
   refine ac_next ?_
   refine aw_grp1 ?_
   refine wk_start ?_
   refine kv g0 (mv) ?_
   refine kv g0 (faB 1 1) ?_
   refine ks g0 (stB 1 [.lit (.int .i64 t1.1), .lit (.int .i64 a1), .row 5, .lit (.int .i64 t1.2.2.2.1), .lit (.int .i64 t1.2.2.2.2)]) ?_
   refine wk_end ?_
   refine ac_next ?_
   refine aw_grp1 ?_
   refine wk_start ?_
   refine kv g0 (faB 4 4) ?_
   refine ks g0 (stB 1 [.lit (.int .i64 t1.1), .lit (.int .i64 a1), .row 5, .lit (.int .i64 t1.2.2.2.1), .lit (.int .i64 1)]) ?_
   refine wk_end ?_
   refine ac_next ?_
   refine aw_grp1 ?_
   refine wk_start ?_
   refine kv g0 (ldBA 5 [.lit (.int .i64 t1.1), .lit (.int .i64 a1), .row 5, .lit (.int .i64 t1.2.2.2.1), .lit (.int .i64 1)]) ?_
   refine ks g0 (stB 5 [.lit (.int .i64 t1.1), .lit (.int .i64 a1), .row 5, .lit (.int .i64 t1.2.2.2.1), .lit (.int .i64 1)]) ?_
   refine wk_end ?_
   refine ac_next ?_
   refine aw_ret ?_
   obtain rfl := Option.some.inj H
   exact acr hE [.cell 4 75] (rcA 5 .nil) (.one _) [(0, 5)] 9999
  rw [if_neg c17] at H
  refine kx (hF (eN c17)) ?_
  refine kx (hF (eN c17)) ?_
  refine kv g0 (pkT (eN c17)) ?_
  refine wk_end ?_
  refine ac_next ?_
  refine aw_ifT ?_ rfl
  refine aw_grp1 ?_
  refine wk_start ?_
  refine kv g0 (ldBA 5 [.lit (.int .i64 t1.1), .lit (.int .i64 t1.2.1), .row 2, .lit (.int .i64 t1.2.2.2.1), .lit (.int .i64 t1.2.2.2.2)]) ?_
  refine ks g0 (stB 5 [.lit (.int .i64 t1.1), .lit (.int .i64 t1.2.1), .row 2, .lit (.int .i64 t1.2.2.2.1), .lit (.int .i64 t1.2.2.2.2)]) ?_
  refine wk_end ?_
  refine ac_next ?_
  refine aw_ret ?_
  refine ac_thenR ?_
  obtain rfl := Option.some.inj H
  exact acr hE [.cell 4 75] (rcA 5 .nil) (.one _) [(0, 2)] 9999
 rw [if_neg c5] at H
 refine aw_ifT ?_ (nT (bF c5))
 refine aw_grp1 ?_
 refine wk_start ?_
 refine kv g0 (ldBA 5 [.lit (.int .i64 t1.1), .lit (.int .i64 t1.2.1), .row 2, .lit (.int .i64 t1.2.2.2.1), .lit (.int .i64 t1.2.2.2.2)]) ?_
 refine ks g0 (stB 5 [.lit (.int .i64 t1.1), .lit (.int .i64 t1.2.1), .row 2, .lit (.int .i64 t1.2.2.2.1), .lit (.int .i64 t1.2.2.2.2)]) ?_
 refine wk_end ?_
 refine ac_next ?_
 refine aw_ret ?_
 refine ac_thenR ?_
 obtain rfl := Option.some.inj H
 exact acr hE [.cell 4 75] (rcA 5 .nil) (.one _) [(0, 2)] 9999
/-! spec_Taken -/
def spec_Taken.j0 : Nat → (List S34) → Int → Int → Int → Int → (Int × Int × (List S34) × Int × Int) → ((List S34) × Int × Int × Int × Int × Int × Int × Int × Bool) → Bool → Option (Int × Int × (List S34) × Int × Int × (List S34) × Int × Int × Int × Bool)
 | 0, _, _, _, _, _, _, _, _ => none
 | k16 + 1, l1_0, a1_1, a1_2, a1_3, a2, t1, t3, p15 => if p15 = true then ((spec_l16Copy.f l1_0 a1_1 a1_2 a1_3).bind fun t18 => some (t1.1, t1.2.1, t1.2.2.1, t1.2.2.2.1, t1.2.2.2.2, t18.1, t18.2.1, t18.2.2.1, t18.2.2.2, false)) else if t1.2.2.1.length + ([(⟨t3.2.2.2.2.1, t3.2.2.2.2.2.1, t3.2.2.2.2.2.2.1, t3.2.2.2.2.2.2.2.1⟩ : S34)] : List S34).length < 4398046511104 then some (t1.1, t1.2.1, t1.2.2.1 ++ ([(⟨t3.2.2.2.2.1, t3.2.2.2.2.2.1, t3.2.2.2.2.2.2.1, t3.2.2.2.2.2.2.2.1⟩ : S34)] : List S34), a2, 1, t3.1, t3.2.1, t3.2.2.1, t3.2.2.2.1, true) else none
def spec_Taken.f (k : Nat) (a0_0 : Int) (a0_1 : Int) (l0_2 : List S34) (a0_3 : Int) (a0_4 : Int) (l1_0 : List S34) (a1_1 : Int) (a1_2 : Int) (a1_3 : Int) (a2 : Int) : Option (Int × Int × (List S34) × Int × Int × (List S34) × Int × Int × Int × Bool) := (spec_l18Copy.f a0_0 a0_1 l0_2 a0_3 a0_4).bind fun t1 => (spec_Drained.f l1_0 a1_1 a1_2 a1_3).bind fun t3 => (spec_SenderOk.f k a0_0 a0_1 l0_2 a0_3 a0_4).bind fun t5 => (if t5 = true then ((spec_RingOk.f k l1_0 a1_1 a1_2 a1_3).bind fun t8 => (if t8 = true then (if t3.2.2.2.2.2.2.2.2 = true then (if (l0_2.length : Int) ≥ 3 then spec_Taken.j0 k l1_0 a1_1 a1_2 a1_3 a2 t1 t3 true else ((spec_l01In.f a2 0 1000000000).bind fun t13 => spec_Taken.j0 k l1_0 a1_1 a1_2 a1_3 a2 t1 t3 (!t13))) else spec_Taken.j0 k l1_0 a1_1 a1_2 a1_3 a2 t1 t3 true) else spec_Taken.j0 k l1_0 a1_1 a1_2 a1_3 a2 t1 t3 true)) else spec_Taken.j0 k l1_0 a1_1 a1_2 a1_3 a2 t1 t3 true)
theorem spec_Taken.ok {k : Nat} {a0_0 : Int} {a0_1 : Int} {l0_2 : List S34} {a0_3 : Int} {a0_4 : Int} {l1_0 : List S34} {a1_1 : Int} {a1_2 : Int} {a1_3 : Int} {a2 : Int} {r : Int × Int × (List S34) × Int × Int × (List S34) × Int × Int × Int × Bool} (H : spec_Taken.f k a0_0 a0_1 l0_2 a0_3 a0_4 l1_0 a1_1 a1_2 a1_3 a2 = some r) : ACalls Try.prog 143 [] [.agg [.lit (.int .i64 a0_0), .lit (.int .i64 a0_1), .sl .o 4 (l0_2.map e34), .lit (.int .i64 a0_3), .lit (.int .i64 a0_4)], .agg [.sl .o 4 (l1_0.map e34), .lit (.int .i64 a1_1), .lit (.int .i64 a1_2), .lit (.int .i64 a1_3)], .lit (.int .i64 a2)] [(0, .row 34 4 (r.2.2.1.map e34)), (1, .row 34 4 (r.2.2.2.2.2.1.map e34))] (.tup [.agg [.lit (.int .i64 r.1), .lit (.int .i64 r.2.1), .row 0, .lit (.int .i64 r.2.2.2.1), .lit (.int .i64 r.2.2.2.2.1)], .agg [.row 1, .lit (.int .i64 r.2.2.2.2.2.2.1), .lit (.int .i64 r.2.2.2.2.2.2.2.1), .lit (.int .i64 r.2.2.2.2.2.2.2.2.1)], .lit (.bool r.2.2.2.2.2.2.2.2.2)]) := by
 refine acalls (fn := Try.f143) (nt := 58) Try.func143 rfl rfl (Nat.le_of_ble_eq_true rfl) fun E hE => ?_
 rw [spec_Taken.f] at H
 refine aw_grp1 ?_
 refine wk_start ?_
 refine kb g0 (bxA 0) ?_
 refine kb g0 (bxA 1) ?_
 refine kb g0 (alc 2 [.int .i64 0, .int .i64 0, .slice none 0 0, .int .i64 0, .int .i64 0] [.lit (.int .i64 0), .lit (.int .i64 0), .lit (.slice none 0 0), .lit (.int .i64 0), .lit (.int .i64 0)]) ?_
 refine kb g0 (alc 3 [.slice none 0 0, .int .i64 0, .int .i64 0, .int .i64 0] [.lit (.slice none 0 0), .lit (.int .i64 0), .lit (.int .i64 0), .lit (.int .i64 0)]) ?_
 refine kv g0 (asg) ?_
 refine wk_end ?_
 refine ac_next ?_
 refine aw_grp1 ?_
 refine wk_start ?_
 refine kv g0 (ldBA 5 [.lit (.int .i64 a0_0), .lit (.int .i64 a0_1), .sl .o 4 (l0_2.map e34), .lit (.int .i64 a0_3), .lit (.int .i64 a0_4)]) ?_
 obtain ⟨t1, A2, H⟩ := of_bind H
 refine kcS1 14 (.agg [.lit (.int .i64 t1.1), .lit (.int .i64 t1.2.1), .row 4, .lit (.int .i64 t1.2.2.2.1), .lit (.int .i64 t1.2.2.2.2)]) [(4, .row 34 4 (t1.2.2.1.map e34))] g0 (cal (spec_l18Copy.ok A2) [4] 9999 .n (hf := Try.func164)) rfl rfl ?_
 refine kb g0 (alc 5 [.int .i64 0, .int .i64 0, .slice none 0 0, .int .i64 0, .int .i64 0] [.lit (.int .i64 0), .lit (.int .i64 0), .lit (.slice none 0 0), .lit (.int .i64 0), .lit (.int .i64 0)]) ?_
 refine ks g0 (stB 5 [.lit (.int .i64 t1.1), .lit (.int .i64 t1.2.1), .row 4, .lit (.int .i64 t1.2.2.2.1), .lit (.int .i64 t1.2.2.2.2)]) ?_
 refine wk_end ?_
 refine ac_next ?_
 refine aw_grp1 ?_
 refine wk_start ?_
 refine kv g0 (ldBA 4 [.sl .o 4 (l1_0.map e34), .lit (.int .i64 a1_1), .lit (.int .i64 a1_2), .lit (.int .i64 a1_3)]) ?_
 obtain ⟨t3, A4, H⟩ := of_bind H
 refine kcS1 17 (.tup [.agg [.row 6, .lit (.int .i64 t3.2.1), .lit (.int .i64 t3.2.2.1), .lit (.int .i64 t3.2.2.2.1)], .agg [.lit (.int .i64 t3.2.2.2.2.1), .lit (.int .i64 t3.2.2.2.2.2.1), .lit (.int .i64 t3.2.2.2.2.2.2.1), .lit (.int .i64 t3.2.2.2.2.2.2.2.1)], .lit (.bool t3.2.2.2.2.2.2.2.2)]) [(6, .row 34 4 (t3.1.map e34))] g0 (cal (spec_Drained.ok A4) [6] 9999 .n (hf := Try.func162)) rfl rfl ?_
 refine kv g0 (mv) ?_
 refine kv g0 (ext) ?_
 refine kv g0 (ext) ?_
 refine kv g0 (ext) ?_
 refine kb g0 (alc 7 [.slice none 0 0, .int .i64 0, .int .i64 0, .int .i64 0] [.lit (.slice none 0 0), .lit (.int .i64 0), .lit (.int .i64 0), .lit (.int .i64 0)]) ?_
 refine kb g0 (alc 8 [.int .i64 0, .int .i64 0, .int .i64 0, .int .i64 0] [.lit (.int .i64 0), .lit (.int .i64 0), .lit (.int .i64 0), .lit (.int .i64 0)]) ?_
 refine ks g0 (stB 4 [.row 6, .lit (.int .i64 t3.2.1), .lit (.int .i64 t3.2.2.1), .lit (.int .i64 t3.2.2.2.1)]) ?_
 refine ks g0 (stB 4 [.lit (.int .i64 t3.2.2.2.2.1), .lit (.int .i64 t3.2.2.2.2.2.1), .lit (.int .i64 t3.2.2.2.2.2.2.1), .lit (.int .i64 t3.2.2.2.2.2.2.2.1)]) ?_
 refine kv g0 (asg) ?_
 refine wk_end ?_
 refine ac_next ?_
 refine aw_grp1 ?_
 refine aw_cut1 (J := fun K_ => ∀ (k_ : Nat) (p15 : Bool), k_ ≤ k → spec_Taken.j0 k_ l1_0 a1_1 a1_2 a1_3 a2 t1 t3 p15 = some r → ACont E 58 ⟨[(2, .lit (.int .i64 a2)), (4, .box 1 0), (6, .box 2 0), (7, .box 3 0), (9, .box 5 0), (10, .box 7 0), (11, .box 8 0), (43, .lit (.bool p15))], [(1, .box 164 [.sl .o 4 (l1_0.map e34), .lit (.int .i64 a1_1), .lit (.int .i64 a1_2), .lit (.int .i64 a1_3)]), (2, .box 75 [.lit (.int .i64 0), .lit (.int .i64 0), .lit (.slice none 0 0), .lit (.int .i64 0), .lit (.int .i64 0)]), (3, .box 164 [.lit (.slice none 0 0), .lit (.int .i64 0), .lit (.int .i64 0), .lit (.int .i64 0)]), (4, .row 34 4 (t1.2.2.1.map e34)), (5, .box 75 [.lit (.int .i64 t1.1), .lit (.int .i64 t1.2.1), .row 4, .lit (.int .i64 t1.2.2.2.1), .lit (.int .i64 t1.2.2.2.2)]), (6, .row 34 4 (t3.1.map e34)), (7, .box 164 [.row 6, .lit (.int .i64 t3.2.1), .lit (.int .i64 t3.2.2.1), .lit (.int .i64 t3.2.2.2.1)]), (8, .box 34 [.lit (.int .i64 t3.2.2.2.2.1), .lit (.int .i64 t3.2.2.2.2.2.1), .lit (.int .i64 t3.2.2.2.2.2.2.1), .lit (.int .i64 t3.2.2.2.2.2.2.2.1)])]⟩ K_) ?_ ?_
 ·intro K_ hJ20
  refine wk_start ?_
  refine kv g0 (ldBA 5 [.lit (.int .i64 a0_0), .lit (.int .i64 a0_1), .sl .o 4 (l0_2.map e34), .lit (.int .i64 a0_3), .lit (.int .i64 a0_4)]) ?_
  obtain ⟨t5, A6, H⟩ := of_bind H
  refine kcS0 22 (.lit (.bool t5)) [] g0 (cal (spec_SenderOk.ok A6) [] 9999 .n (hf := Try.func165)) rfl rfl ?_
  refine kv g0 (not_) ?_
  refine kv g0 (mv) ?_
  by_cases c7 : t5 = true
  ·rw [if_pos c7] at H
   refine kv (g1 (nF c7)) (ldBA 4 [.sl .o 4 (l1_0.map e34), .lit (.int .i64 a1_1), .lit (.int .i64 a1_2), .lit (.int .i64 a1_3)]) ?_
   obtain ⟨t8, A9, H⟩ := of_bind H
   refine kcS0 26 (.lit (.bool t8)) [] (g1 (nF c7)) (cal (spec_RingOk.ok A9) [] 9999 .n (hf := Try.func166)) rfl rfl ?_
   refine kv (g1 (nF c7)) (not_) ?_
   refine kv g0 (pkF (nF c7)) ?_
   refine kv g0 (mv) ?_
   by_cases c10 : t8 = true
   ·rw [if_pos c10] at H
    refine kv (g1 (nF c10)) (mv) ?_
    refine kv (g1 (nF c10)) (not_) ?_
    refine kv g0 (pkF (nF c10)) ?_
    refine kv g0 (mv) ?_
    by_cases c11 : t3.2.2.2.2.2.2.2.2 = true
    ·rw [if_pos c11] at H
     refine kv (g1 (nF c11)) (faB 2 2) ?_
     refine kv (g1 (nF c11)) (ldB) ?_
     refine kv (g1 (nF c11)) (lnS lenE) ?_
     refine kv (g1 (nF c11)) (geq) ?_
     refine kv g0 (pkF (nF c11)) ?_
     refine kv g0 (mv) ?_
     by_cases c12 : (l0_2.length : Int) ≥ 3
     ·rw [if_pos c12] at H
      refine kx (hF (decide_eq_true c12)) ?_
      refine kx (hF (decide_eq_true c12)) ?_
      refine kx (hF (decide_eq_true c12)) ?_
      refine kv g0 (pkT (decide_eq_true c12)) ?_
      refine wk_end ?_
      refine ac_k ?_
      exact acw hE [(1, 1), (2, 2), (3, 3), (4, 4), (5, 5), (6, 6), (7, 7), (8, 8)] 9999 (hJ20 k true (Nat.le_refl _) H)
     rw [if_neg c12] at H
     refine kv (g1 (decide_eq_false c12)) (mv) ?_
     obtain ⟨t13, A14, H⟩ := of_bind H
     refine kcS0 41 (.lit (.bool t13)) [] (g1 (decide_eq_false c12)) (cal (spec_l01In.ok A14) [] 9999 .n (hf := Try.func63)) rfl rfl ?_
     refine kv (g1 (decide_eq_false c12)) (not_) ?_
     refine kv g0 (pkF (decide_eq_false c12)) ?_
     refine wk_end ?_
     refine ac_k ?_
     exact acw hE [(1, 1), (2, 2), (3, 3), (4, 4), (5, 5), (6, 6), (7, 7), (8, 8)] 9999 (hJ20 k (!t13) (Nat.le_refl _) H)
    rw [if_neg c11] at H
    refine kx (hF (nT (bF c11))) ?_
    refine kx (hF (nT (bF c11))) ?_
    refine kx (hF (nT (bF c11))) ?_
    refine kx (hF (nT (bF c11))) ?_
    refine kv g0 (pkT (nT (bF c11))) ?_
    refine kv g0 (mv) ?_
    refine kx (hF rfl) ?_
    refine kx (hF rfl) ?_
    refine kx (hF rfl) ?_
    refine kv g0 (pkT rfl) ?_
    refine wk_end ?_
    refine ac_k ?_
    exact acw hE [(1, 1), (2, 2), (3, 3), (4, 4), (5, 5), (6, 6), (7, 7), (8, 8)] 9999 (hJ20 k true (Nat.le_refl _) H)
   rw [if_neg c10] at H
   refine kx (hF (nT (bF c10))) ?_
   refine kx (hF (nT (bF c10))) ?_
   refine kv g0 (pkT (nT (bF c10))) ?_
   refine kv g0 (mv) ?_
   refine kx (hF rfl) ?_
   refine kx (hF rfl) ?_
   refine kx (hF rfl) ?_
   refine kx (hF rfl) ?_
   refine kv g0 (pkT rfl) ?_
   refine kv g0 (mv) ?_
   refine kx (hF rfl) ?_
   refine kx (hF rfl) ?_
   refine kx (hF rfl) ?_
   refine kv g0 (pkT rfl) ?_
   refine wk_end ?_
   refine ac_k ?_
   exact acw hE [(1, 1), (2, 2), (3, 3), (4, 4), (5, 5), (6, 6), (7, 7), (8, 8)] 9999 (hJ20 k true (Nat.le_refl _) H)
  rw [if_neg c7] at H
  refine kx (hF (nT (bF c7))) ?_
  refine kx (hF (nT (bF c7))) ?_
  refine kx (hF (nT (bF c7))) ?_
  refine kv g0 (pkT (nT (bF c7))) ?_
  refine kv g0 (mv) ?_
  refine kx (hF rfl) ?_
  refine kx (hF rfl) ?_
  refine kv g0 (pkT rfl) ?_
  refine kv g0 (mv) ?_
  refine kx (hF rfl) ?_
  refine kx (hF rfl) ?_
  refine kx (hF rfl) ?_
  refine kx (hF rfl) ?_
  refine kv g0 (pkT rfl) ?_
  refine kv g0 (mv) ?_
  refine kx (hF rfl) ?_
  refine kx (hF rfl) ?_
  refine kx (hF rfl) ?_
  refine kv g0 (pkT rfl) ?_
  refine wk_end ?_
  refine ac_k ?_
  exact acw hE [(1, 1), (2, 2), (3, 3), (4, 4), (5, 5), (6, 6), (7, 7), (8, 8)] 9999 (hJ20 k true (Nat.le_refl _) H)
 intro k_ p15 hk_ H
 rcases k_ with _ | k16
 ·rw [spec_Taken.j0.eq_1] at H; cases H
 have hk16 : k16 ≤ k := by omega
 clear hk_
 rw [spec_Taken.j0.eq_2] at H
 by_cases c17 : p15 = true
 ·rw [if_pos c17] at H
  refine aw_ifT ?_ c17
  refine aw_grp1 ?_
  refine wk_start ?_
  refine kv g0 (ldBA 5 [.lit (.int .i64 t1.1), .lit (.int .i64 t1.2.1), .row 4, .lit (.int .i64 t1.2.2.2.1), .lit (.int .i64 t1.2.2.2.2)]) ?_
  refine kv g0 (ldBA 4 [.sl .o 4 (l1_0.map e34), .lit (.int .i64 a1_1), .lit (.int .i64 a1_2), .lit (.int .i64 a1_3)]) ?_
  obtain ⟨t18, A19, H⟩ := of_bind H
  refine kcS1 46 (.agg [.row 9, .lit (.int .i64 t18.2.1), .lit (.int .i64 t18.2.2.1), .lit (.int .i64 t18.2.2.2)]) [(9, .row 34 4 (t18.1.map e34))] g0 (cal (spec_l16Copy.ok A19) [9] 9999 .n (hf := Try.func167)) rfl rfl ?_
  refine ks g0 (stB 5 [.lit (.int .i64 t1.1), .lit (.int .i64 t1.2.1), .row 4, .lit (.int .i64 t1.2.2.2.1), .lit (.int .i64 t1.2.2.2.2)]) ?_
  refine ks g0 (stB 4 [.row 9, .lit (.int .i64 t18.2.1), .lit (.int .i64 t18.2.2.1), .lit (.int .i64 t18.2.2.2)]) ?_
  refine kv g0 (asg) ?_
  refine wk_end_draw hM (by kernel_rfl) ?_
  refine ac_next ?_
  refine aw_ret ?_
  refine ac_thenR ?_
  obtain rfl := Option.some.inj H
  exact acr hE [.cell 6 75, .cell 7 164, .tmp 8] (rcA 5 (rcA 4 (.tmp .nil))) (.many _ _ _) [(0, 4), (1, 9)] 9999
 rw [if_neg c17] at H
 refine aw_ifF ?_ (bF c17)
 refine aw_skip ?_
 refine ac_next ?_
 refine aw_grp1 ?_
 refine wk_start ?_
 refine kv g0 (faB 2 2) ?_
 refine kv g0 (ldB) ?_
 refine kv g0 (ldBA 4 [.lit (.int .i64 t3.2.2.2.2.1), .lit (.int .i64 t3.2.2.2.2.2.1), .lit (.int .i64 t3.2.2.2.2.2.2.1), .lit (.int .i64 t3.2.2.2.2.2.2.2.1)]) ?_
 refine kb g0 (bsl 10 34 4 [.int .i64 0, .int .i64 0, .int .i64 0, .int .i64 0] (([(⟨t3.2.2.2.2.1, t3.2.2.2.2.2.1, t3.2.2.2.2.2.2.1, t3.2.2.2.2.2.2.2.1⟩ : S34)] : List S34).map e34)) ?_
 obtain ⟨c21, H⟩ := of_if H
 refine kc g0 (apR 11 34 4 32 [.int .i64 0, .int .i64 0, .int .i64 0, .int .i64 0] ((t1.2.2.1 ++ ([(⟨t3.2.2.2.2.1, t3.2.2.2.2.2.1, t3.2.2.2.2.2.2.1, t3.2.2.2.2.2.2.2.1⟩ : S34)] : List S34)).map e34) (.row rfl) (apb c21 rfl) appE) ?_
 refine kv g0 (faB 2 2) ?_
 refine ks g0 (stB 1 [.lit (.int .i64 t1.1), .lit (.int .i64 t1.2.1), .row 11, .lit (.int .i64 t1.2.2.2.1), .lit (.int .i64 t1.2.2.2.2)]) ?_
 refine wk_end ?_
 refine ac_next ?_
 refine aw_grp1 ?_
 refine wk_start ?_
 refine kv g0 (mv) ?_
 refine kv g0 (faB 3 3) ?_
 refine ks g0 (stB 1 [.lit (.int .i64 t1.1), .lit (.int .i64 t1.2.1), .row 11, .lit (.int .i64 a2), .lit (.int .i64 t1.2.2.2.2)]) ?_
 refine wk_end ?_
 refine ac_next ?_
 refine aw_grp1 ?_
 refine wk_start ?_
 refine kv g0 (faB 4 4) ?_
 refine ks g0 (stB 1 [.lit (.int .i64 t1.1), .lit (.int .i64 t1.2.1), .row 11, .lit (.int .i64 a2), .lit (.int .i64 1)]) ?_
 refine wk_end ?_
 refine ac_next ?_
 refine aw_grp1 ?_
 refine wk_start ?_
 refine kv g0 (ldBA 5 [.lit (.int .i64 t1.1), .lit (.int .i64 t1.2.1), .row 11, .lit (.int .i64 a2), .lit (.int .i64 1)]) ?_
 refine kv g0 (ldBA 4 [.row 6, .lit (.int .i64 t3.2.1), .lit (.int .i64 t3.2.2.1), .lit (.int .i64 t3.2.2.2.1)]) ?_
 refine ks g0 (stB 5 [.lit (.int .i64 t1.1), .lit (.int .i64 t1.2.1), .row 11, .lit (.int .i64 a2), .lit (.int .i64 1)]) ?_
 refine ks g0 (stB 4 [.row 6, .lit (.int .i64 t3.2.1), .lit (.int .i64 t3.2.2.1), .lit (.int .i64 t3.2.2.2.1)]) ?_
 refine kv g0 (asg) ?_
 refine wk_end_draw hM (by kernel_rfl) ?_
 refine ac_next ?_
 refine aw_ret ?_
 obtain rfl := Option.some.inj H
 exact acr hE [.cell 6 75, .cell 7 164, .tmp 8] (rcA 5 (rcA 4 (.tmp .nil))) (.many _ _ _) [(0, 11), (1, 6)] 9999
end Go.Proofs.Ytfeaemlakniijaa.PFnSenders
