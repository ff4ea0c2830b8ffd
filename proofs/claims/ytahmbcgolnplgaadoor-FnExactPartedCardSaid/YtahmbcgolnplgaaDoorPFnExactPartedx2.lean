import Derived.Test.YtahmbcgolnplgaaDoorPFnExactPartedx1
set_option linter.unusedVariables false
set_option linter.unusedSimpArgs false
set_option maxRecDepth 100000
namespace Go.Proofs.YtahmbcgolnplgaaDoor.PFnExactParted
open Go Go.RowKit Go.Proofs.YtahmbcgolnplgaaDoorA
/-! impl_PadText -/
def impl_PadText.f (a0 : ByteArray) : Option (ByteArray) := if a0.size + (⟨#[128]⟩ : ByteArray).size ≤ 9223372036854775807 then (if 0 ≤ ((wrap64 (64 - ((wrap64 ((a0.size : Int) + 9)).tmod 64))).tmod 64) then (if ((wrap64 (64 - ((wrap64 ((a0.size : Int) + 9)).tmod 64))).tmod 64).toNat ≤ 281474976710656 then (if (a0 ++ (⟨#[128]⟩ : ByteArray)).size + (strOfNums (List.replicate ((wrap64 (64 - ((wrap64 ((a0.size : Int) + 9)).tmod 64))).tmod 64).toNat (0 : Int))).size ≤ 9223372036854775807 then ((impl_four.f ((wrap64 (8 * (a0.size : Int))).fdiv (2 ^ 32))).bind fun t5 => (if ((a0 ++ (⟨#[128]⟩ : ByteArray)) ++ (strOfNums (List.replicate ((wrap64 (64 - ((wrap64 ((a0.size : Int) + 9)).tmod 64))).tmod 64).toNat (0 : Int)))).size + t5.size ≤ 9223372036854775807 then ((impl_four.f (wrap64 (8 * (a0.size : Int)))).bind fun t8 => (if (((a0 ++ (⟨#[128]⟩ : ByteArray)) ++ (strOfNums (List.replicate ((wrap64 (64 - ((wrap64 ((a0.size : Int) + 9)).tmod 64))).tmod 64).toNat (0 : Int)))) ++ t5).size + t8.size ≤ 9223372036854775807 then some ((((a0 ++ (⟨#[128]⟩ : ByteArray)) ++ (strOfNums (List.replicate ((wrap64 (64 - ((wrap64 ((a0.size : Int) + 9)).tmod 64))).tmod 64).toNat (0 : Int)))) ++ t5) ++ t8) else none)) else none)) else none) else none) else none) else none
theorem impl_PadText.ok {a0 : ByteArray} {r : ByteArray} (H : impl_PadText.f a0 = some r) : ACalls Tryd.prog 23 [] [.lit (.string a0)] [] (.lit (.string r)) := by
 refine acalls (fn := Tryd.f23) (nt := 27) Tryd.func23 rfl rfl (Nat.le_of_ble_eq_true rfl) fun E hE => ?_
 rw [impl_PadText.f] at H
 refine aw_grp1 ?_
 refine wk_start ?_
 refine kv g0 (asg) ?_
 refine wk_end ?_
 refine ac_next ?_
 refine aw_grp1 ?_
 refine wk_start ?_
 refine kv g0 (mv) ?_
 refine kv g0 (lnT) ?_
 refine kv g0 (add6) ?_
 refine kv g0 (rem (by decide : (64 : Int) ≠ 0)) ?_
 refine kv g0 (sub6) ?_
 refine kv g0 (rem (by decide : (64 : Int) ≠ 0)) ?_
 refine kv g0 (asg) ?_
 refine wk_end ?_
 refine ac_next ?_
 refine aw_grp1 ?_
 refine wk_start ?_
 refine kv g0 (mv) ?_
 refine kv g0 (lnT) ?_
 refine kv g0 (mul6) ?_
 refine kv g0 (asg) ?_
 refine wk_end ?_
 refine ac_next ?_
 refine aw_grp1 ?_
 refine wk_start ?_
 refine kv g0 (mv) ?_
 obtain ⟨c1, H⟩ := of_if H
 refine kv g0 (cat c1) ?_
 refine kv g0 (mv) ?_
 obtain ⟨c2, H⟩ := of_if H
 obtain ⟨c3, H⟩ := of_if H
 refine kb g0 (mks 0 5 1 1 [.int .u8 0] (eI .u8 (0 : Int)) ((List.replicate ((wrap64 (64 - ((wrap64 ((a0.size : Int) + 9)).tmod 64))).tmod 64).toNat (0 : Int)).map (eI .u8)) c2 (mkb c3 rfl) repE) ?_
 refine kv g0 (cvB (.row rfl)) ?_
 obtain ⟨c4, H⟩ := of_if H
 refine kv g0 (cat c4) ?_
 refine kv g0 (mv) ?_
 refine kv g0 (shr (by decide : (0 : Int) ≤ 32)) ?_
 obtain ⟨t5, A6, H⟩ := of_bind H
 refine kcS0 22 (.lit (.string t5)) [] g0 (cal (impl_four.ok A6) [] 9999 .n (hf := Tryd.func26)) rfl rfl ?_
 obtain ⟨c7, H⟩ := of_if H
 refine kv g0 (cat c7) ?_
 refine kv g0 (mv) ?_
 obtain ⟨t8, A9, H⟩ := of_bind H
 refine kcS0 25 (.lit (.string t8)) [] g0 (cal (impl_four.ok A9) [] 9999 .n (hf := Tryd.func26)) rfl rfl ?_
 obtain ⟨c10, H⟩ := of_if H
 refine kv g0 (cat c10) ?_
 refine kv g0 (asg) ?_
 refine wk_end_draw hM (by kernel_rfl) ?_
 refine ac_next ?_
 refine aw_ret ?_
 obtain rfl := Option.some.inj H
 exact acr hE [.tmp 2] (.tmp .nil) (.one _) [] 9999
/-! impl_ShaStart -/
def impl_ShaStart.f  : Option ((List Int)) := some ([1779033703, 3144134277, 1013904242, 2773480762, 1359893119, 2600822924, 528734635, 1541459225] : List Int)
theorem impl_ShaStart.ok {r : (List Int)} (H : impl_ShaStart.f = some r) : ACalls Tryd.prog 24 [] [] [(0, .row 3 1 (r.map (eI .i64)))] (.row 0) := by
 refine acalls (fn := Tryd.f24) (nt := 2) Tryd.func24 rfl rfl (Nat.le_of_ble_eq_true rfl) fun E hE => ?_
 rw [impl_ShaStart.f] at H
 refine aw_grp1 ?_
 refine wk_start ?_
 refine kv g0 (asg) ?_
 refine wk_end ?_
 refine ac_next ?_
 refine aw_grp1 ?_
 refine wk_start ?_
 refine kb g0 (bsl 0 3 1 [.int .i64 0] (([1779033703, 3144134277, 1013904242, 2773480762, 1359893119, 2600822924, 528734635, 1541459225] : List Int).map (eI .i64))) ?_
 refine kv g0 (asg) ?_
 refine wk_end ?_
 refine ac_next ?_
 refine aw_ret ?_
 obtain rfl := Option.some.inj H
 exact acr hE [.tmp 0] (.tmp .nil) (.one _) [(0, 0)] 9999
/-! impl_within -/
def impl_within.f (a0 : Int) (a1 : Int) (a2 : Int) : Option (Bool) := if a0 ≥ a1 then some (decide (a0 ≤ a2)) else some false
theorem impl_within.ok {a0 : Int} {a1 : Int} {a2 : Int} {r : Bool} (H : impl_within.f a0 a1 a2 = some r) : ACalls Tryd.prog 44 [] [.lit (.int .i64 a0), .lit (.int .i64 a1), .lit (.int .i64 a2)] [] (.lit (.bool r)) := by
 refine acalls (fn := Tryd.f44) (nt := 15) Tryd.func44 rfl rfl (Nat.le_of_ble_eq_true rfl) fun E hE => ?_
 rw [impl_within.f] at H
 refine aw_grp1 ?_
 refine wk_start ?_
 refine kv g0 (asg) ?_
 refine wk_end ?_
 refine ac_next ?_
 refine aw_grp1 ?_
 refine wk_start ?_
 refine kv g0 (mv) ?_
 refine kv g0 (mv) ?_
 refine kv g0 (geq) ?_
 refine kv g0 (mv) ?_
 by_cases c1 : a0 ≥ a1
 ·rw [if_pos c1] at H
  refine kv (g1 (decide_eq_true c1)) (mv) ?_
  refine kv (g1 (decide_eq_true c1)) (mv) ?_
  refine kv (g1 (decide_eq_true c1)) (leq) ?_
  refine kv g0 (pkT (decide_eq_true c1)) ?_
  refine kv g0 (asg) ?_
  refine wk_end ?_
  refine ac_next ?_
  refine aw_ret ?_
  obtain rfl := Option.some.inj H
  exact acr hE [.tmp 6] (.tmp .nil) (.one _) [] 9999
 rw [if_neg c1] at H
 refine kx (hT (decide_eq_false c1)) ?_
 refine kx (hT (decide_eq_false c1)) ?_
 refine kx (hT (decide_eq_false c1)) ?_
 refine kv g0 (pkF (decide_eq_false c1)) ?_
 refine kv g0 (asg) ?_
 refine wk_end ?_
 refine ac_next ?_
 refine aw_ret ?_
 obtain rfl := Option.some.inj H
 exact acr hE [.tmp 6] (.tmp .nil) (.one _) [] 9999
/-! impl_HalfOk -/
def impl_HalfOk.f (a0 : Int) : Option (Bool) := (impl_within.f a0 0 4294967295).bind fun t1 => some t1
theorem impl_HalfOk.ok {a0 : Int} {r : Bool} (H : impl_HalfOk.f a0 = some r) : ACalls Tryd.prog 34 [] [.lit (.int .i64 a0)] [] (.lit (.bool r)) := by
 refine acalls (fn := Tryd.f34) (nt := 5) Tryd.func34 rfl rfl (Nat.le_of_ble_eq_true rfl) fun E hE => ?_
 rw [impl_HalfOk.f] at H
 refine aw_grp1 ?_
 refine wk_start ?_
 refine kv g0 (asg) ?_
 refine wk_end ?_
 refine ac_next ?_
 refine aw_grp1 ?_
 refine wk_start ?_
 refine kv g0 (mv) ?_
 obtain ⟨t1, A2, H⟩ := of_bind H
 refine kcS0 4 (.lit (.bool t1)) [] g0 (cal (impl_within.ok A2) [] 9999 .n (hf := Tryd.func44)) rfl rfl ?_
 refine kv g0 (asg) ?_
 refine wk_end ?_
 refine ac_next ?_
 refine aw_ret ?_
 obtain rfl := Option.some.inj H
 exact acr hE [.tmp 2] (.tmp .nil) (.one _) [] 9999
/-! impl_fourAt -/
def impl_fourAt.f (a0 : ByteArray) (a1 : Int) : Option (Int) := if 0 ≤ a1 then (if a1 < (a0.size : Int) then (if 0 ≤ (wrap64 (a1 + 1)) then (if (wrap64 (a1 + 1)) < (a0.size : Int) then (if 0 ≤ (wrap64 (a1 + 2)) then (if (wrap64 (a1 + 2)) < (a0.size : Int) then (if 0 ≤ (wrap64 (a1 + 3)) then (if (wrap64 (a1 + 3)) < (a0.size : Int) then some (bits .or .i64 (bits .or .i64 (bits .or .i64 (wrap64 ((wrap64 (bt a0 a1)) * 2 ^ 24)) (wrap64 ((wrap64 (bt a0 (wrap64 (a1 + 1)))) * 2 ^ 16))) (wrap64 ((wrap64 (bt a0 (wrap64 (a1 + 2)))) * 2 ^ 8))) (wrap64 (bt a0 (wrap64 (a1 + 3))))) else none) else none) else none) else none) else none) else none) else none) else none
theorem impl_fourAt.ok {a0 : ByteArray} {a1 : Int} {r : Int} (H : impl_fourAt.f a0 a1 = some r) : ACalls Tryd.prog 35 [] [.lit (.string a0), .lit (.int .i64 a1)] [] (.lit (.int .i64 r)) := by
 refine acalls (fn := Tryd.f35) (nt := 30) Tryd.func35 rfl rfl (Nat.le_of_ble_eq_true rfl) fun E hE => ?_
 rw [impl_fourAt.f] at H
 refine aw_grp1 ?_
 refine wk_start ?_
 refine kv g0 (asg) ?_
 refine wk_end ?_
 refine ac_next ?_
 refine aw_grp1 ?_
 refine wk_start ?_
 refine kv g0 (mv) ?_
 refine kv g0 (mv) ?_
 obtain ⟨c1, H⟩ := of_if H
 obtain ⟨c2, H⟩ := of_if H
 refine kv g0 (ixT c1 c2) ?_
 refine kv g0 (cnv6) ?_
 refine kv g0 (shl6 (by decide : (0 : Int) ≤ 24)) ?_
 refine kv g0 (mv) ?_
 refine kv g0 (mv) ?_
 refine kv g0 (add6) ?_
 obtain ⟨c3, H⟩ := of_if H
 obtain ⟨c4, H⟩ := of_if H
 refine kv g0 (ixT c3 c4) ?_
 refine kv g0 (cnv6) ?_
 refine kv g0 (shl6 (by decide : (0 : Int) ≤ 16)) ?_
 refine kv g0 (bor) ?_
 refine kv g0 (mv) ?_
 refine kv g0 (mv) ?_
 refine kv g0 (add6) ?_
 obtain ⟨c5, H⟩ := of_if H
 obtain ⟨c6, H⟩ := of_if H
 refine kv g0 (ixT c5 c6) ?_
 refine kv g0 (cnv6) ?_
 refine kv g0 (shl6 (by decide : (0 : Int) ≤ 8)) ?_
 refine kv g0 (bor) ?_
 refine kv g0 (mv) ?_
 refine kv g0 (mv) ?_
 refine kv g0 (add6) ?_
 obtain ⟨c7, H⟩ := of_if H
 obtain ⟨c8, H⟩ := of_if H
 refine kv g0 (ixT c7 c8) ?_
 refine kv g0 (cnv6) ?_
 refine kv g0 (bor) ?_
 refine kv g0 (asg) ?_
 refine wk_end_draw hM (by kernel_rfl) ?_
 refine ac_next ?_
 refine aw_ret ?_
 obtain rfl := Option.some.inj H
 exact acr hE [.tmp 4] (.tmp .nil) (.one _) [] 9999
/-! bits_RotateLeft32 -/
def bits_RotateLeft32.f (a0 : Int) (a1 : Int) : Option (Int) := if 0 ≤ (bits .and .u64 (IntKind.u64.wrap a1) 31) then (if 0 ≤ (IntKind.u64.wrap (32 - (bits .and .u64 (IntKind.u64.wrap a1) 31))) then some (bits .or .u32 (IntKind.u32.wrap (a0 * 2 ^ (min (bits .and .u64 (IntKind.u64.wrap a1) 31).toNat (IntKind.u32).bits))) (a0.fdiv (2 ^ (min (IntKind.u64.wrap (32 - (bits .and .u64 (IntKind.u64.wrap a1) 31))).toNat (IntKind.u32).bits)))) else none) else none
theorem bits_RotateLeft32.ok {a0 : Int} {a1 : Int} {r : Int} (H : bits_RotateLeft32.f a0 a1 = some r) : ACalls Tryd.prog 36 [] [.lit (.int .u32 a0), .lit (.int .i64 a1)] [] (.lit (.int .u32 r)) := by
 refine acalls (fn := Tryd.f36) (nt := 17) Tryd.func36 rfl rfl (Nat.le_of_ble_eq_true rfl) fun E hE => ?_
 rw [bits_RotateLeft32.f] at H
 refine aw_grp1 ?_
 refine wk_start ?_
 refine kv g0 (asg) ?_
 refine wk_end ?_
 refine ac_next ?_
 refine aw_grp1 ?_
 refine wk_start ?_
 refine kv g0 (mv) ?_
 refine kv g0 (cnv .u64) ?_
 refine kv g0 (band) ?_
 refine kv g0 (asg) ?_
 refine wk_end ?_
 refine ac_next ?_
 refine aw_grp1 ?_
 refine wk_start ?_
 refine kv g0 (mv) ?_
 refine kv g0 (mv) ?_
 obtain ⟨c1, H⟩ := of_if H
 refine kv g0 (shl c1) ?_
 refine kv g0 (mv) ?_
 refine kv g0 (mv) ?_
 refine kv g0 (sub) ?_
 obtain ⟨c2, H⟩ := of_if H
 refine kv g0 (shr c2) ?_
 refine kv g0 (bor) ?_
 refine kv g0 (asg) ?_
 refine wk_end ?_
 refine ac_next ?_
 refine aw_ret ?_
 obtain rfl := Option.some.inj H
 exact acr hE [.tmp 4] (.tmp .nil) (.one _) [] 9999
/-! impl_ShaBlock -/
mutual
def impl_ShaBlock.l0 : Nat → (List Int) → ByteArray → (List Int) → Int → Option ((List Int))
 | 0, _, _, _, _ => none
 | k12 + 1, l0, a1, q10, p11 => if p11 < (l0.length : Int) then if 0 ≤ p11 then (impl_HalfOk.f (rd l0 p11)).bind fun t15 => if t15 = true then if p11 < 8 then (if p11 < (q10.length : Int) then impl_ShaBlock.l0 k12 l0 a1 (q10.set p11.toNat (IntKind.u32.wrap (rd l0 p11))) (wrap64 (p11 + 1)) else none) else none else some (([] : List Int) ++ l0) else none else impl_ShaBlock.l1 k12 l0 a1 q10 (List.replicate 64 (0 : Int)) 0
def impl_ShaBlock.l1 : Nat → (List Int) → ByteArray → (List Int) → (List Int) → Int → Option ((List Int))
 | 0, _, _, _, _, _ => none
 | k28 + 1, l0, a1, q10, q26, p27 => if p27 < 16 then (impl_fourAt.f a1 (wrap64 (4 * p27))).bind fun t30 => (if 0 ≤ p27 then (if p27 < 64 then (if p27 < (q26.length : Int) then impl_ShaBlock.l1 k28 l0 a1 q10 (q26.set p27.toNat (IntKind.u32.wrap t30)) (wrap64 (p27 + 1)) else none) else none) else none) else impl_ShaBlock.l2 k28 l0 q10 q26 16
def impl_ShaBlock.l2 : Nat → (List Int) → (List Int) → (List Int) → Int → Option ((List Int))
 | 0, _, _, _, _ => none
 | k61 + 1, l0, q10, q59, p60 => if p60 < 64 then if 0 ≤ (wrap64 (p60 - 15)) then (if (wrap64 (p60 - 15)) < 64 then (if (wrap64 (p60 - 15)) < (q59.length : Int) then (if 0 ≤ (wrap64 (p60 - 2)) then (if (wrap64 (p60 - 2)) < 64 then (if (wrap64 (p60 - 2)) < (q59.length : Int) then (bits_RotateLeft32.f (rd q59 (wrap64 (p60 - 15))) (-7)).bind fun t69 => ((bits_RotateLeft32.f (rd q59 (wrap64 (p60 - 15))) (-18)).bind fun t71 => (bits_RotateLeft32.f (rd q59 (wrap64 (p60 - 2))) (-17)).bind fun t73 => ((bits_RotateLeft32.f (rd q59 (wrap64 (p60 - 2))) (-19)).bind fun t75 => if 0 ≤ (wrap64 (p60 - 16)) then (if (wrap64 (p60 - 16)) < 64 then (if (wrap64 (p60 - 16)) < (q59.length : Int) then (if 0 ≤ (wrap64 (p60 - 7)) then (if (wrap64 (p60 - 7)) < 64 then (if (wrap64 (p60 - 7)) < (q59.length : Int) then (if 0 ≤ p60 then (if p60 < (q59.length : Int) then impl_ShaBlock.l2 k61 l0 q10 (q59.set p60.toNat (IntKind.u32.wrap ((IntKind.u32.wrap ((IntKind.u32.wrap ((rd q59 (wrap64 (p60 - 16))) + (bits .xor .u32 (bits .xor .u32 t69 t71) ((rd q59 (wrap64 (p60 - 15))).fdiv (2 ^ 3))))) + (rd q59 (wrap64 (p60 - 7))))) + (bits .xor .u32 (bits .xor .u32 t73 t75) ((rd q59 (wrap64 (p60 - 2))).fdiv (2 ^ 10)))))) (wrap64 (p60 + 1)) else none) else none) else none) else none) else none) else none) else none) else none)) else none) else none) else none) else none) else none) else none else impl_ShaBlock.l3 k61 l0 q59 q10 0
def impl_ShaBlock.l3 : Nat → (List Int) → (List Int) → (List Int) → Int → Option ((List Int))
 | 0, _, _, _, _ => none
 | k112 + 1, l0, q59, q110, p111 => if p111 < 64 then if 0 < (q110.length : Int) then (if 4 < (q110.length : Int) then (bits_RotateLeft32.f (rd q110 4) (-6)).bind fun t116 => ((bits_RotateLeft32.f (rd q110 4) (-11)).bind fun t118 => ((bits_RotateLeft32.f (rd q110 4) (-25)).bind fun t120 => if 5 < (q110.length : Int) then (if 6 < (q110.length : Int) then if 7 < (q110.length : Int) then (if 0 ≤ p111 then (if p111 < (q59.length : Int) then (bits_RotateLeft32.f (rd q110 0) (-2)).bind fun t127 => ((bits_RotateLeft32.f (rd q110 0) (-13)).bind fun t129 => ((bits_RotateLeft32.f (rd q110 0) (-22)).bind fun t131 => if 1 < (q110.length : Int) then (if 2 < (q110.length : Int) then if 3 < (q110.length : Int) then (if q110.length = 8 then impl_ShaBlock.l3 k112 l0 q59 ([IntKind.u32.wrap ((IntKind.u32.wrap ((IntKind.u32.wrap ((IntKind.u32.wrap ((IntKind.u32.wrap ((IntKind.u32.wrap ((rd q110 7) + (bits .xor .u32 (bits .xor .u32 t116 t118) t120))) + (bits .xor .u32 (bits .and .u32 (rd q110 4) (rd q110 5)) (bits .and .u32 (bits .xor .u32 4294967295 (rd q110 4)) (rd q110 6))))) + (rd gW p111))) + (rd q59 p111))) + (bits .xor .u32 (bits .xor .u32 t127 t129) t131))) + (bits .xor .u32 (bits .xor .u32 (bits .and .u32 (rd q110 0) (rd q110 1)) (bits .and .u32 (rd q110 0) (rd q110 2))) (bits .and .u32 (rd q110 1) (rd q110 2)))), (rd q110 0), (rd q110 1), (rd q110 2), IntKind.u32.wrap ((rd q110 3) + (IntKind.u32.wrap ((IntKind.u32.wrap ((IntKind.u32.wrap ((IntKind.u32.wrap ((rd q110 7) + (bits .xor .u32 (bits .xor .u32 t116 t118) t120))) + (bits .xor .u32 (bits .and .u32 (rd q110 4) (rd q110 5)) (bits .and .u32 (bits .xor .u32 4294967295 (rd q110 4)) (rd q110 6))))) + (rd gW p111))) + (rd q59 p111)))), (rd q110 4), (rd q110 5), (rd q110 6)] : List Int) (wrap64 (p111 + 1)) else none) else none else none) else none)) else none) else none) else none else none) else none)) else none) else none else impl_ShaBlock.l4 k112 l0 q110 (([] : List Int) ++ l0) 0
def impl_ShaBlock.l4 : Nat → (List Int) → (List Int) → (List Int) → Int → Option ((List Int))
 | 0, _, _, _, _ => none
 | k144 + 1, l0, q110, q142, p143 => if p143 < ((([] : List Int) ++ l0).length : Int) then if 0 ≤ p143 then (if p143 < (q142.length : Int) then (if p143 < 8 then (if p143 < (q110.length : Int) then impl_ShaBlock.l4 k144 l0 q110 (q142.set p143.toNat (wrap64 (IntKind.u32.wrap ((IntKind.u32.wrap (rd q142 p143)) + (rd q110 p143))))) (wrap64 (p143 + 1)) else none) else none) else none) else none else some q142
end
def impl_ShaBlock.f (k : Nat) (l0 : List Int) (a1 : ByteArray) : Option ((List Int)) := if ([] : List Int).length + l0.length < 17592186044416 then if (l0.length : Int) = 8 then if (a1.size : Int) = 64 then impl_ShaBlock.l0 k l0 a1 (List.replicate 8 (0 : Int)) 0 else some (([] : List Int) ++ l0) else some (([] : List Int) ++ l0) else none
theorem impl_ShaBlock.ok {k : Nat} {l0 : List Int} {a1 : ByteArray} {r : (List Int)} (H : impl_ShaBlock.f k l0 a1 = some r) : ACalls Tryd.prog 25 [] [.sl .o 1 (l0.map (eI .i64)), .lit (.string a1)] [(0, .row 3 1 (r.map (eI .i64)))] (.row 0) := by
 refine acalls (fn := Tryd.f25) (nt := 212) Tryd.func25 rfl rfl (Nat.le_of_ble_eq_true rfl) fun E hE => ?_
 rw [impl_ShaBlock.f] at H
 refine aw_grp1 ?_
 refine wk_start ?_
 refine kv g0 (asg) ?_
 refine wk_end ?_
 refine ac_next ?_
 refine aw_grp1 ?_
 refine wk_start ?_
 refine kb g0 (bsl 0 3 1 [.int .i64 0] (([] : List Int).map (eI .i64))) ?_
 refine kv g0 (mv) ?_
 obtain ⟨c1, H⟩ := of_if H
 refine kc g0 (apR 1 3 1 8 [.int .i64 0] ((([] : List Int) ++ l0).map (eI .i64)) (.slF (flI)) (apb c1 rfl) appE) ?_
 refine kv g0 (asg) ?_
 refine wk_end ?_
 refine ac_next ?_
 refine aw_grp1 ?_
 refine aw_grp1 ?_
 refine wk_start ?_
 refine kv g0 (mv) ?_
 refine kv g0 (lnS lenE) ?_
 refine kv g0 (neq) ?_
 refine kv g0 (mv) ?_
 by_cases c2 : (l0.length : Int) = 8
 ·rw [if_pos c2] at H
  refine kv (g1 (eM c2)) (mv) ?_
  refine kv (g1 (eM c2)) (lnT) ?_
  refine kv (g1 (eM c2)) (neq) ?_
  refine kv g0 (pkF (eM c2)) ?_
  refine wk_end ?_
  refine ac_next ?_
  by_cases c3 : (a1.size : Int) = 64
  ·rw [if_pos c3] at H
   refine aw_ifF ?_ (eM c3)
   refine aw_skip ?_
   refine ac_next ?_
   refine aw_grp1 ?_
   refine wk_start ?_
   refine kb g0 (alc 2 [.int .u32 0, .int .u32 0, .int .u32 0, .int .u32 0, .int .u32 0, .int .u32 0, .int .u32 0, .int .u32 0] ((List.replicate 8 (0 : Int)).map (eI .u32))) ?_
   refine wk_end ?_
   refine ac_next ?_
   refine aw_grp1 ?_
   refine aw_grp1 ?_
   refine wk_start ?_
   refine kv g0 (mv) ?_
   refine kv g0 (lnS lenE) ?_
   refine kv g0 (mv) ?_
   refine wk_end ?_
   refine ac_next ?_
   refine aw_block ?_
   refine aw_loop2 (fun (k_ : Nat) (q10 : List Int) (p11 : Int) => k_ ≤ k ∧ impl_ShaBlock.l0 k_ l0 a1 q10 p11 = some r) (fun (q10 : List Int) (p11 : Int) => ⟨[(1, .lit (.string a1)), (5, .row 1), (6, .box 2 0), (37, .sl .o 1 (l0.map (eI .i64))), (38, .lit (.int .i64 (l0.length : Int))), (39, .lit (.int .i64 p11))], [(1, .row 3 1 ((([] : List Int) ++ l0).map (eI .i64))), (2, .box 49 (q10.map (eI .u32)))]⟩) k (List.replicate 8 (0 : Int)) 0 ⟨Nat.le_refl _, H⟩ (fun K_ h_ => acw hE [(1, 1), (2, 2)] 9999 h_) (fun _ _ => by intro h_; have h_ := h_.2; rw [impl_ShaBlock.l0.eq_1] at h_; cases h_) ?_
   intro k12 q10 p11 hq_ K20 hK21
   have hk12 := hq_.1
   have H := hq_.2
   clear hq_
   rw [impl_ShaBlock.l0.eq_2] at H
   refine aw_grp1 ?_
   refine wk_start ?_
   refine kv g0 (lss) ?_
   refine wk_end ?_
   refine ac_next ?_
   refine aw_grp1 ?_
   by_cases c13 : p11 < (l0.length : Int)
   ·rw [if_pos c13] at H
    refine aw_ifT ?_ (decide_eq_true c13)
    refine aw_skip ?_
    refine ac_next ?_
    refine aw_grp1 ?_
    refine aw_block ?_
    refine aw_grp1 ?_
    refine wk_start ?_
    refine kv g0 (mv) ?_
    obtain ⟨c14, H⟩ := of_if H
    refine kv g0 (ixS 3 (eI .i64 (rd l0 p11)) c14 (getE (z := (0 : Int)) c14 c13)) ?_
    refine kv g0 (ldR (.lit (.int .i64 (rd l0 p11)))) ?_
    refine kv g0 (asg) ?_
    refine kv g0 (asg) ?_
    refine wk_end ?_
    refine ac_next ?_
    refine aw_grp1 ?_
    refine aw_grp1 ?_
    refine wk_start ?_
    refine kv g0 (mv) ?_
    obtain ⟨t15, A16, H⟩ := of_bind H
    refine kcS0 45 (.lit (.bool t15)) [] g0 (cal (impl_HalfOk.ok A16) [] 9999 .n (hf := Tryd.func34)) rfl rfl ?_
    refine kv g0 (not_) ?_
    refine wk_end ?_
    refine ac_next ?_
    by_cases c17 : t15 = true
    ·rw [if_pos c17] at H
     refine aw_ifF ?_ (nF c17)
     refine aw_skip ?_
     refine ac_next ?_
     refine wk_start ?_
     refine kv g0 (mv) ?_
     refine kv g0 (mv) ?_
     refine kv g0 (cnv .u32) ?_
     obtain ⟨c18, H⟩ := of_if H
     obtain ⟨c19, H⟩ := of_if H
     refine kv g0 (ixX 8 c14 c18) ?_
     refine ks g0 (stX (e := IntKind.u32.wrap (rd l0 p11)) c14 c19 rfl) ?_
     refine wk_end ?_
     refine ac_blkN ?_
     refine ac_next ?_
     refine wk_start ?_
     refine kv g0 (add6) ?_
     refine kv g0 (mv) ?_
     refine wk_end ?_
     refine ac_k ?_
     exact acw hE [(1, 1), (2, 2)] 9999 (hK21 k12 (q10.set p11.toNat (IntKind.u32.wrap (rd l0 p11))) (wrap64 (p11 + 1)) (Nat.le_refl _) ⟨by omega, H⟩)
    rw [if_neg c17] at H
    refine aw_ifT ?_ (nT (bF c17))
    refine aw_grp1 ?_
    refine wk_start ?_
    refine kv g0 (mv) ?_
    refine kv g0 (asg) ?_
    refine wk_end ?_
    refine ac_next ?_
    refine aw_ret ?_
    refine ac_thenR ?_
    refine ac_blkR ?_
    refine ac_thenR ?_
    refine ac_thenR ?_
    refine ac_blkR ?_
    refine ac_thenR ?_
    obtain rfl := Option.some.inj H
    exact acr hE [.tmp 4] (.tmp .nil) (.one _) [(0, 1)] 9999
   rw [if_neg c13] at H
   refine aw_ifF ?_ (decide_eq_false c13)
   refine aw_exit ?_
   refine ac_then ?_
   refine ac_then ?_
   refine ac_hit rfl ?_
   refine ac_next ?_
   refine aw_grp1 ?_
   refine wk_start ?_
   refine kb g0 (alc 3 [.int .u32 0, .int .u32 0, .int .u32 0, .int .u32 0, .int .u32 0, .int .u32 0, .int .u32 0, .int .u32 0, .int .u32 0, .int .u32 0, .int .u32 0, .int .u32 0, .int .u32 0, .int .u32 0, .int .u32 0, .int .u32 0, .int .u32 0, .int .u32 0, .int .u32 0, .int .u32 0, .int .u32 0, .int .u32 0, .int .u32 0, .int .u32 0, .int .u32 0, .int .u32 0, .int .u32 0, .int .u32 0, .int .u32 0, .int .u32 0, .int .u32 0, .int .u32 0, .int .u32 0, .int .u32 0, .int .u32 0, .int .u32 0, .int .u32 0, .int .u32 0, .int .u32 0, .int .u32 0, .int .u32 0, .int .u32 0, .int .u32 0, .int .u32 0, .int .u32 0, .int .u32 0, .int .u32 0, .int .u32 0, .int .u32 0, .int .u32 0, .int .u32 0, .int .u32 0, .int .u32 0, .int .u32 0, .int .u32 0, .int .u32 0, .int .u32 0, .int .u32 0, .int .u32 0, .int .u32 0, .int .u32 0, .int .u32 0, .int .u32 0, .int .u32 0] ((List.replicate 64 (0 : Int)).map (eI .u32))) ?_
   refine wk_end ?_
   refine ac_next ?_
   refine aw_grp1 ?_
   refine aw_grp1 ?_
   refine wk_start ?_
   refine kv g0 (mv) ?_
   refine wk_end ?_
   refine ac_next ?_
   refine aw_block ?_
   refine aw_loop2 (fun (k_ : Nat) (q26 : List Int) (p27 : Int) => k_ ≤ k12 ∧ impl_ShaBlock.l1 k_ l0 a1 q10 q26 p27 = some r) (fun (q26 : List Int) (p27 : Int) => ⟨[(1, .lit (.string a1)), (5, .row 1), (6, .box 2 0), (9, .box 3 0), (53, .lit (.int .i64 p27))], [(1, .row 3 1 ((([] : List Int) ++ l0).map (eI .i64))), (2, .box 49 (q10.map (eI .u32))), (3, .box 51 (q26.map (eI .u32)))]⟩) k12 (List.replicate 64 (0 : Int)) 0 ⟨Nat.le_refl _, H⟩ (fun K_ h_ => acw hE [(1, 1), (2, 2), (3, 3)] 9999 h_) (fun _ _ => by intro h_; have h_ := h_.2; rw [impl_ShaBlock.l1.eq_1] at h_; cases h_) ?_
   intro k28 q26 p27 hq_ K35 hK36
   have hk28 := hq_.1
   have H := hq_.2
   clear hq_
   rw [impl_ShaBlock.l1.eq_2] at H
   refine aw_grp1 ?_
   refine wk_start ?_
   refine kv g0 (lss) ?_
   refine wk_end ?_
   refine ac_next ?_
   refine aw_grp1 ?_
   by_cases c29 : p27 < 16
   ·rw [if_pos c29] at H
    refine aw_ifT ?_ (decide_eq_true c29)
    refine aw_skip ?_
    refine ac_next ?_
    refine aw_grp1 ?_
    refine aw_block ?_
    refine aw_grp1 ?_
    refine wk_start ?_
    refine kv g0 (mv) ?_
    refine kv g0 (asg) ?_
    refine wk_end ?_
    refine ac_next ?_
    refine wk_start ?_
    refine kv g0 (mv) ?_
    refine kv g0 (mv) ?_
    refine kv g0 (mv) ?_
    refine kv g0 (mul6) ?_
    obtain ⟨t30, A31, H⟩ := of_bind H
    refine kcS0 60 (.lit (.int .i64 t30)) [] g0 (cal (impl_fourAt.ok A31) [] 9999 .n (hf := Tryd.func35)) rfl rfl ?_
    refine kv g0 (cnv .u32) ?_
    obtain ⟨c32, H⟩ := of_if H
    obtain ⟨c33, H⟩ := of_if H
    obtain ⟨c34, H⟩ := of_if H
    refine kv g0 (ixX 64 c32 c33) ?_
    refine ks g0 (stX (e := IntKind.u32.wrap t30) c32 c34 rfl) ?_
    refine wk_end ?_
    refine ac_blkN ?_
    refine ac_next ?_
    refine wk_start ?_
    refine kv g0 (add6) ?_
    refine kv g0 (mv) ?_
    refine wk_end ?_
    refine ac_k ?_
    exact acw hE [(1, 1), (2, 2), (3, 3)] 9999 (hK36 k28 (q26.set p27.toNat (IntKind.u32.wrap t30)) (wrap64 (p27 + 1)) (Nat.le_refl _) ⟨by omega, H⟩)
   rw [if_neg c29] at H
   refine aw_ifF ?_ (decide_eq_false c29)
   refine aw_exit ?_
   refine ac_then ?_
   refine ac_then ?_
   refine ac_hit rfl ?_
   refine ac_next ?_
   refine aw_grp1 ?_
   refine aw_grp1 ?_
   refine wk_start ?_
   refine kv g0 (asg) ?_
   refine wk_end ?_
   refine ac_next ?_
   refine aw_block ?_
   refine aw_loop2 (fun (k_ : Nat) (q59 : List Int) (p60 : Int) => k_ ≤ k28 ∧ impl_ShaBlock.l2 k_ l0 q10 q59 p60 = some r) (fun (q59 : List Int) (p60 : Int) => ⟨[(5, .row 1), (6, .box 2 0), (9, .box 3 0), (11, .lit (.int .i64 p60))], [(1, .row 3 1 ((([] : List Int) ++ l0).map (eI .i64))), (2, .box 49 (q10.map (eI .u32))), (3, .box 51 (q59.map (eI .u32)))]⟩) k28 q26 16 ⟨Nat.le_refl _, H⟩ (fun K_ h_ => acw hE [(1, 1), (2, 2), (3, 3)] 9999 h_) (fun _ _ => by intro h_; have h_ := h_.2; rw [impl_ShaBlock.l2.eq_1] at h_; cases h_) ?_
   intro k61 q59 p60 hq_ K85 hK86
   have hk61 := hq_.1
   have H := hq_.2
   clear hq_
   rw [impl_ShaBlock.l2.eq_2] at H
   refine aw_grp1 ?_
   refine aw_grp1 ?_
   refine wk_start ?_
   refine kv g0 (mv) ?_
   refine kv g0 (lss) ?_
   refine wk_end ?_
   refine ac_next ?_
   by_cases c62 : p60 < 64
   ·rw [if_pos c62] at H
    refine aw_ifT ?_ (decide_eq_true c62)
    refine aw_skip ?_
    refine ac_next ?_
    refine aw_grp1 ?_
    refine aw_block ?_
    refine aw_grp1 ?_
    refine wk_start ?_
    refine kv g0 (mv) ?_
    refine kv g0 (sub6) ?_
    obtain ⟨c63, H⟩ := of_if H
    obtain ⟨c64, H⟩ := of_if H
    obtain ⟨c65, H⟩ := of_if H
    refine kv g0 (ixX 64 c63 c64) ?_
    refine kv g0 (ldX (z := (0 : Int)) c63 c65 (.lit (.int .u32 (rd q59 (wrap64 (p60 - 15))))) rfl) ?_
    refine kv g0 (mv) ?_
    refine kv g0 (sub6) ?_
    obtain ⟨c66, H⟩ := of_if H
    obtain ⟨c67, H⟩ := of_if H
    obtain ⟨c68, H⟩ := of_if H
    refine kv g0 (ixX 64 c66 c67) ?_
    refine kv g0 (ldX (z := (0 : Int)) c66 c68 (.lit (.int .u32 (rd q59 (wrap64 (p60 - 2))))) rfl) ?_
    refine kv g0 (asg) ?_
    refine kv g0 (asg) ?_
    refine wk_end_draw hM (by kernel_rfl) ?_
    refine ac_next ?_
    refine aw_grp1 ?_
    refine wk_start ?_
    refine kv g0 (mv) ?_
    obtain ⟨t69, A70, H⟩ := of_bind H
    refine kcS0 77 (.lit (.int .u32 t69)) [] g0 (cal (bits_RotateLeft32.ok A70) [] 9999 .n (hf := Tryd.func36)) rfl rfl ?_
    refine kv g0 (mv) ?_
    obtain ⟨t71, A72, H⟩ := of_bind H
    refine kcS0 79 (.lit (.int .u32 t71)) [] g0 (cal (bits_RotateLeft32.ok A72) [] 9999 .n (hf := Tryd.func36)) rfl rfl ?_
    refine kv g0 (bxor) ?_
    refine kv g0 (mv) ?_
    refine kv g0 (shr (by decide : (0 : Int) ≤ 3)) ?_
    refine kv g0 (bxor) ?_
    refine kv g0 (asg) ?_
    refine wk_end ?_
    refine ac_next ?_
    refine aw_grp1 ?_
    refine wk_start ?_
    refine kv g0 (mv) ?_
    obtain ⟨t73, A74, H⟩ := of_bind H
    refine kcS0 85 (.lit (.int .u32 t73)) [] g0 (cal (bits_RotateLeft32.ok A74) [] 9999 .n (hf := Tryd.func36)) rfl rfl ?_
    refine kv g0 (mv) ?_
    obtain ⟨t75, A76, H⟩ := of_bind H
    refine kcS0 87 (.lit (.int .u32 t75)) [] g0 (cal (bits_RotateLeft32.ok A76) [] 9999 .n (hf := Tryd.func36)) rfl rfl ?_
    refine kv g0 (bxor) ?_
    refine kv g0 (mv) ?_
    refine kv g0 (shr (by decide : (0 : Int) ≤ 10)) ?_
    refine kv g0 (bxor) ?_
    refine kv g0 (asg) ?_
    refine wk_end ?_
    refine ac_next ?_
    refine wk_start ?_
    refine kv g0 (mv) ?_
    refine kv g0 (mv) ?_
    refine kv g0 (sub6) ?_
    obtain ⟨c77, H⟩ := of_if H
    obtain ⟨c78, H⟩ := of_if H
    obtain ⟨c79, H⟩ := of_if H
    refine kv g0 (ixX 64 c77 c78) ?_
    refine kv g0 (ldX (z := (0 : Int)) c77 c79 (.lit (.int .u32 (rd q59 (wrap64 (p60 - 16))))) rfl) ?_
    refine kv g0 (mv) ?_
    refine kv g0 (add) ?_
    refine kv g0 (mv) ?_
    refine kv g0 (sub6) ?_
    obtain ⟨c80, H⟩ := of_if H
    obtain ⟨c81, H⟩ := of_if H
    obtain ⟨c82, H⟩ := of_if H
    refine kv g0 (ixX 64 c80 c81) ?_
    refine kv g0 (ldX (z := (0 : Int)) c80 c82 (.lit (.int .u32 (rd q59 (wrap64 (p60 - 7))))) rfl) ?_
    refine kv g0 (add) ?_
    refine kv g0 (mv) ?_
    refine kv g0 (add) ?_
    obtain ⟨c83, H⟩ := of_if H
    obtain ⟨c84, H⟩ := of_if H
    refine kv g0 (ixX 64 c83 c62) ?_
    refine ks g0 (stX (e := IntKind.u32.wrap ((IntKind.u32.wrap ((IntKind.u32.wrap ((rd q59 (wrap64 (p60 - 16))) + (bits .xor .u32 (bits .xor .u32 t69 t71) ((rd q59 (wrap64 (p60 - 15))).fdiv (2 ^ 3))))) + (rd q59 (wrap64 (p60 - 7))))) + (bits .xor .u32 (bits .xor .u32 t73 t75) ((rd q59 (wrap64 (p60 - 2))).fdiv (2 ^ 10))))) c83 c84 rfl) ?_
    refine wk_end_draw hM (by kernel_rfl) ?_
    refine ac_blkN ?_
    refine ac_next ?_
    refine wk_start ?_
    refine kv g0 (mv) ?_
    refine kv g0 (add6) ?_
    refine kv g0 (asg) ?_
    refine wk_end ?_
    refine ac_k ?_
    exact acw hE [(1, 1), (2, 2), (3, 3)] 9999 (hK86 k61 (q59.set p60.toNat (IntKind.u32.wrap ((IntKind.u32.wrap ((IntKind.u32.wrap ((rd q59 (wrap64 (p60 - 16))) + (bits .xor .u32 (bits .xor .u32 t69 t71) ((rd q59 (wrap64 (p60 - 15))).fdiv (2 ^ 3))))) + (rd q59 (wrap64 (p60 - 7))))) + (bits .xor .u32 (bits .xor .u32 t73 t75) ((rd q59 (wrap64 (p60 - 2))).fdiv (2 ^ 10)))))) (wrap64 (p60 + 1)) (Nat.le_refl _) ⟨by omega, H⟩)
   rw [if_neg c62] at H
   refine aw_ifF ?_ (decide_eq_false c62)
   refine aw_exit ?_
   refine ac_then ?_
   refine ac_then ?_
   refine ac_hit rfl ?_
   refine ac_next ?_
   refine aw_grp1 ?_
   refine aw_grp1 ?_
   refine wk_start ?_
   refine kv g0 (mv) ?_
   refine wk_end ?_
   refine ac_next ?_
   refine aw_block ?_
   refine aw_loop2 (fun (k_ : Nat) (q110 : List Int) (p111 : Int) => k_ ≤ k61 ∧ impl_ShaBlock.l3 k_ l0 q59 q110 p111 = some r) (fun (q110 : List Int) (p111 : Int) => ⟨[(5, .row 1), (6, .box 2 0), (9, .box 3 0), (107, .lit (.int .i64 p111))], [(1, .row 3 1 ((([] : List Int) ++ l0).map (eI .i64))), (2, .box 49 (q110.map (eI .u32))), (3, .box 51 (q59.map (eI .u32)))]⟩) k61 q10 0 ⟨Nat.le_refl _, H⟩ (fun K_ h_ => acw hE [(1, 1), (2, 2), (3, 3)] 9999 h_) (fun _ _ => by intro h_; have h_ := h_.2; rw [impl_ShaBlock.l3.eq_1] at h_; cases h_) ?_
   intro k112 q110 p111 hq_ K137 hK138
   have hk112 := hq_.1
   have H := hq_.2
   clear hq_
   rw [impl_ShaBlock.l3.eq_2] at H
   refine aw_grp1 ?_
   refine wk_start ?_
   refine kv g0 (lss) ?_
   refine wk_end ?_
   refine ac_next ?_
   refine aw_grp1 ?_
   by_cases c113 : p111 < 64
   ·rw [if_pos c113] at H
    refine aw_ifT ?_ (decide_eq_true c113)
    refine aw_skip ?_
    refine ac_next ?_
    refine aw_grp1 ?_
    refine aw_block ?_
    refine aw_grp1 ?_
    refine wk_start ?_
    refine kv g0 (mv) ?_
    refine kv g0 (asg) ?_
    refine wk_end ?_
    refine ac_next ?_
    refine aw_grp1 ?_
    refine wk_start ?_
    obtain ⟨c114, H⟩ := of_if H
    refine kv g0 (ixX 8 (by decide : (0 : Int) ≤ 0) (by decide : (0 : Int) < 8)) ?_
    refine kv g0 (ldX (z := (0 : Int)) (by decide : (0 : Int) ≤ 0) c114 (.lit (.int .u32 (rd q110 0))) rfl) ?_
    obtain ⟨c115, H⟩ := of_if H
    refine kv g0 (ixX 8 (by decide : (0 : Int) ≤ 4) (by decide : (4 : Int) < 8)) ?_
    refine kv g0 (ldX (z := (0 : Int)) (by decide : (0 : Int) ≤ 4) c115 (.lit (.int .u32 (rd q110 4))) rfl) ?_
    refine kv g0 (asg) ?_
    refine kv g0 (asg) ?_
    refine wk_end_draw hM (by kernel_rfl) ?_
    refine ac_next ?_
    refine aw_grp1 ?_
    refine wk_start ?_
    refine kv g0 (mv) ?_
    obtain ⟨t116, A117, H⟩ := of_bind H
    refine kcS0 115 (.lit (.int .u32 t116)) [] g0 (cal (bits_RotateLeft32.ok A117) [] 9999 .n (hf := Tryd.func36)) rfl rfl ?_
    refine kv g0 (mv) ?_
    obtain ⟨t118, A119, H⟩ := of_bind H
    refine kcS0 117 (.lit (.int .u32 t118)) [] g0 (cal (bits_RotateLeft32.ok A119) [] 9999 .n (hf := Tryd.func36)) rfl rfl ?_
    refine kv g0 (bxor) ?_
    refine kv g0 (mv) ?_
    obtain ⟨t120, A121, H⟩ := of_bind H
    refine kcS0 120 (.lit (.int .u32 t120)) [] g0 (cal (bits_RotateLeft32.ok A121) [] 9999 .n (hf := Tryd.func36)) rfl rfl ?_
    refine kv g0 (bxor) ?_
    refine kv g0 (asg) ?_
    refine wk_end ?_
    refine ac_next ?_
    refine aw_grp1 ?_
    refine wk_start ?_
    refine kv g0 (mv) ?_
    obtain ⟨c122, H⟩ := of_if H
    refine kv g0 (ixX 8 (by decide : (0 : Int) ≤ 5) (by decide : (5 : Int) < 8)) ?_
    refine kv g0 (ldX (z := (0 : Int)) (by decide : (0 : Int) ≤ 5) c122 (.lit (.int .u32 (rd q110 5))) rfl) ?_
    refine kv g0 (band) ?_
    refine kv g0 (mv) ?_
    refine kv g0 (cpl) ?_
    obtain ⟨c123, H⟩ := of_if H
    refine kv g0 (ixX 8 (by decide : (0 : Int) ≤ 6) (by decide : (6 : Int) < 8)) ?_
    refine kv g0 (ldX (z := (0 : Int)) (by decide : (0 : Int) ≤ 6) c123 (.lit (.int .u32 (rd q110 6))) rfl) ?_
    refine kv g0 (band) ?_
    refine kv g0 (bxor) ?_
    refine kv g0 (asg) ?_
    refine wk_end ?_
    refine ac_next ?_
    refine aw_grp1 ?_
    refine wk_start ?_
    obtain ⟨c124, H⟩ := of_if H
    refine kv g0 (ixX 8 (by decide : (0 : Int) ≤ 7) (by decide : (7 : Int) < 8)) ?_
    refine kv g0 (ldX (z := (0 : Int)) (by decide : (0 : Int) ≤ 7) c124 (.lit (.int .u32 (rd q110 7))) rfl) ?_
    refine kv g0 (mv) ?_
    refine kv g0 (add) ?_
    refine kv g0 (mv) ?_
    refine kv g0 (add) ?_
    refine kv g0 (mv) ?_
    obtain ⟨c125, H⟩ := of_if H
    refine kv g0 (ixG 64 c125 c113) ?_
    refine kv g0 (ldG (zz := (0 : Int)) c125 (gWl c113) (.lit (.int .u32 (rd gW p111))) rfl) ?_
    refine kv g0 (add) ?_
    refine kv g0 (mv) ?_
    obtain ⟨c126, H⟩ := of_if H
    refine kv g0 (ixX 64 c125 c113) ?_
    refine kv g0 (ldX (z := (0 : Int)) c125 c126 (.lit (.int .u32 (rd q59 p111))) rfl) ?_
    refine kv g0 (add) ?_
    refine kv g0 (asg) ?_
    refine wk_end_draw hM (by kernel_rfl) ?_
    refine ac_next ?_
    refine aw_grp1 ?_
    refine wk_start ?_
    refine kv g0 (mv) ?_
    obtain ⟨t127, A128, H⟩ := of_bind H
    refine kcS0 147 (.lit (.int .u32 t127)) [] g0 (cal (bits_RotateLeft32.ok A128) [] 9999 .n (hf := Tryd.func36)) rfl rfl ?_
    refine kv g0 (mv) ?_
    obtain ⟨t129, A130, H⟩ := of_bind H
    refine kcS0 149 (.lit (.int .u32 t129)) [] g0 (cal (bits_RotateLeft32.ok A130) [] 9999 .n (hf := Tryd.func36)) rfl rfl ?_
    refine kv g0 (bxor) ?_
    refine kv g0 (mv) ?_
    obtain ⟨t131, A132, H⟩ := of_bind H
    refine kcS0 152 (.lit (.int .u32 t131)) [] g0 (cal (bits_RotateLeft32.ok A132) [] 9999 .n (hf := Tryd.func36)) rfl rfl ?_
    refine kv g0 (bxor) ?_
    refine kv g0 (asg) ?_
    refine wk_end ?_
    refine ac_next ?_
    refine aw_grp1 ?_
    refine wk_start ?_
    refine kv g0 (mv) ?_
    obtain ⟨c133, H⟩ := of_if H
    refine kv g0 (ixX 8 (by decide : (0 : Int) ≤ 1) (by decide : (1 : Int) < 8)) ?_
    refine kv g0 (ldX (z := (0 : Int)) (by decide : (0 : Int) ≤ 1) c133 (.lit (.int .u32 (rd q110 1))) rfl) ?_
    refine kv g0 (band) ?_
    refine kv g0 (mv) ?_
    obtain ⟨c134, H⟩ := of_if H
    refine kv g0 (ixX 8 (by decide : (0 : Int) ≤ 2) (by decide : (2 : Int) < 8)) ?_
    refine kv g0 (ldX (z := (0 : Int)) (by decide : (0 : Int) ≤ 2) c134 (.lit (.int .u32 (rd q110 2))) rfl) ?_
    refine kv g0 (band) ?_
    refine kv g0 (bxor) ?_
    refine kv g0 (ixX 8 (by decide : (0 : Int) ≤ 1) (by decide : (1 : Int) < 8)) ?_
    refine kv g0 (ldX (z := (0 : Int)) (by decide : (0 : Int) ≤ 1) c133 (.lit (.int .u32 (rd q110 1))) rfl) ?_
    refine kv g0 (ixX 8 (by decide : (0 : Int) ≤ 2) (by decide : (2 : Int) < 8)) ?_
    refine kv g0 (ldX (z := (0 : Int)) (by decide : (0 : Int) ≤ 2) c134 (.lit (.int .u32 (rd q110 2))) rfl) ?_
    refine kv g0 (band) ?_
    refine kv g0 (bxor) ?_
    refine kv g0 (asg) ?_
    refine wk_end ?_
    refine ac_next ?_
    refine wk_start ?_
    refine kv g0 (mv) ?_
    refine kv g0 (mv) ?_
    refine kv g0 (add) ?_
    refine kv g0 (mv) ?_
    refine kv g0 (add) ?_
    refine kv g0 (ixX 8 (by decide : (0 : Int) ≤ 0) (by decide : (0 : Int) < 8)) ?_
    refine kv g0 (ldX (z := (0 : Int)) (by decide : (0 : Int) ≤ 0) c114 (.lit (.int .u32 (rd q110 0))) rfl) ?_
    refine kv g0 (ixX 8 (by decide : (0 : Int) ≤ 1) (by decide : (1 : Int) < 8)) ?_
    refine kv g0 (ldX (z := (0 : Int)) (by decide : (0 : Int) ≤ 1) c133 (.lit (.int .u32 (rd q110 1))) rfl) ?_
    refine kv g0 (ixX 8 (by decide : (0 : Int) ≤ 2) (by decide : (2 : Int) < 8)) ?_
    refine kv g0 (ldX (z := (0 : Int)) (by decide : (0 : Int) ≤ 2) c134 (.lit (.int .u32 (rd q110 2))) rfl) ?_
    obtain ⟨c135, H⟩ := of_if H
    refine kv g0 (ixX 8 (by decide : (0 : Int) ≤ 3) (by decide : (3 : Int) < 8)) ?_
    refine kv g0 (ldX (z := (0 : Int)) (by decide : (0 : Int) ≤ 3) c135 (.lit (.int .u32 (rd q110 3))) rfl) ?_
    refine kv g0 (mv) ?_
    refine kv g0 (add) ?_
    refine kv g0 (ixX 8 (by decide : (0 : Int) ≤ 4) (by decide : (4 : Int) < 8)) ?_
    refine kv g0 (ldX (z := (0 : Int)) (by decide : (0 : Int) ≤ 4) c115 (.lit (.int .u32 (rd q110 4))) rfl) ?_
    refine kv g0 (ixX 8 (by decide : (0 : Int) ≤ 5) (by decide : (5 : Int) < 8)) ?_
    refine kv g0 (ldX (z := (0 : Int)) (by decide : (0 : Int) ≤ 5) c122 (.lit (.int .u32 (rd q110 5))) rfl) ?_
    refine kv g0 (ixX 8 (by decide : (0 : Int) ≤ 6) (by decide : (6 : Int) < 8)) ?_
    refine kv g0 (ldX (z := (0 : Int)) (by decide : (0 : Int) ≤ 6) c123 (.lit (.int .u32 (rd q110 6))) rfl) ?_
    refine kv g0 (bldX 8 [.int .u32 0, .int .u32 0, .int .u32 0, .int .u32 0, .int .u32 0, .int .u32 0, .int .u32 0, .int .u32 0] (([IntKind.u32.wrap ((IntKind.u32.wrap ((IntKind.u32.wrap ((IntKind.u32.wrap ((IntKind.u32.wrap ((IntKind.u32.wrap ((rd q110 7) + (bits .xor .u32 (bits .xor .u32 t116 t118) t120))) + (bits .xor .u32 (bits .and .u32 (rd q110 4) (rd q110 5)) (bits .and .u32 (bits .xor .u32 4294967295 (rd q110 4)) (rd q110 6))))) + (rd gW p111))) + (rd q59 p111))) + (bits .xor .u32 (bits .xor .u32 t127 t129) t131))) + (bits .xor .u32 (bits .xor .u32 (bits .and .u32 (rd q110 0) (rd q110 1)) (bits .and .u32 (rd q110 0) (rd q110 2))) (bits .and .u32 (rd q110 1) (rd q110 2)))), (rd q110 0), (rd q110 1), (rd q110 2), IntKind.u32.wrap ((rd q110 3) + (IntKind.u32.wrap ((IntKind.u32.wrap ((IntKind.u32.wrap ((IntKind.u32.wrap ((rd q110 7) + (bits .xor .u32 (bits .xor .u32 t116 t118) t120))) + (bits .xor .u32 (bits .and .u32 (rd q110 4) (rd q110 5)) (bits .and .u32 (bits .xor .u32 4294967295 (rd q110 4)) (rd q110 6))))) + (rd gW p111))) + (rd q59 p111)))), (rd q110 4), (rd q110 5), (rd q110 6)] : List Int).map (eI .u32))) ?_
    obtain ⟨c136, H⟩ := of_if H
    refine ks g0 (stXA c136 rfl) ?_
    refine wk_end ?_
    refine ac_blkN ?_
    refine ac_next ?_
    refine wk_start ?_
    refine kv g0 (add6) ?_
    refine kv g0 (mv) ?_
    refine wk_end ?_
    refine ac_k ?_
    exact acw hE [(1, 1), (2, 2), (3, 3)] 9999 (hK138 k112 ([IntKind.u32.wrap ((IntKind.u32.wrap ((IntKind.u32.wrap ((IntKind.u32.wrap ((IntKind.u32.wrap ((IntKind.u32.wrap ((rd q110 7) + (bits .xor .u32 (bits .xor .u32 t116 t118) t120))) + (bits .xor .u32 (bits .and .u32 (rd q110 4) (rd q110 5)) (bits .and .u32 (bits .xor .u32 4294967295 (rd q110 4)) (rd q110 6))))) + (rd gW p111))) + (rd q59 p111))) + (bits .xor .u32 (bits .xor .u32 t127 t129) t131))) + (bits .xor .u32 (bits .xor .u32 (bits .and .u32 (rd q110 0) (rd q110 1)) (bits .and .u32 (rd q110 0) (rd q110 2))) (bits .and .u32 (rd q110 1) (rd q110 2)))), (rd q110 0), (rd q110 1), (rd q110 2), IntKind.u32.wrap ((rd q110 3) + (IntKind.u32.wrap ((IntKind.u32.wrap ((IntKind.u32.wrap ((IntKind.u32.wrap ((rd q110 7) + (bits .xor .u32 (bits .xor .u32 t116 t118) t120))) + (bits .xor .u32 (bits .and .u32 (rd q110 4) (rd q110 5)) (bits .and .u32 (bits .xor .u32 4294967295 (rd q110 4)) (rd q110 6))))) + (rd gW p111))) + (rd q59 p111)))), (rd q110 4), (rd q110 5), (rd q110 6)] : List Int) (wrap64 (p111 + 1)) (Nat.le_refl _) ⟨by omega, H⟩)
   rw [if_neg c113] at H
   refine aw_ifF ?_ (decide_eq_false c113)
   refine aw_exit ?_
   refine ac_then ?_
   refine ac_then ?_
   refine ac_hit rfl ?_
   refine ac_next ?_
   refine aw_grp1 ?_
   refine aw_grp1 ?_
   refine wk_start ?_
   refine kv g0 (mv) ?_
   refine kv g0 (lnR lenE) ?_
   refine kv g0 (mv) ?_
   refine wk_end ?_
   refine ac_next ?_
   refine aw_block ?_
   refine aw_loop2 (fun (k_ : Nat) (q142 : List Int) (p143 : Int) => k_ ≤ k112 ∧ impl_ShaBlock.l4 k_ l0 q110 q142 p143 = some r) (fun (q142 : List Int) (p143 : Int) => ⟨[(5, .row 1), (6, .box 2 0), (193, .lit (.int .i64 ((([] : List Int) ++ l0).length : Int))), (194, .lit (.int .i64 p143))], [(1, .row 3 1 (q142.map (eI .i64))), (2, .box 49 (q110.map (eI .u32)))]⟩) k112 (([] : List Int) ++ l0) 0 ⟨Nat.le_refl _, H⟩ (fun K_ h_ => acw hE [(1, 1), (2, 2)] 9999 h_) (fun _ _ => by intro h_; have h_ := h_.2; rw [impl_ShaBlock.l4.eq_1] at h_; cases h_) ?_
   intro k144 q142 p143 hq_ K150 hK151
   have hk144 := hq_.1
   have H := hq_.2
   clear hq_
   rw [impl_ShaBlock.l4.eq_2] at H
   refine aw_grp1 ?_
   refine wk_start ?_
   refine kv g0 (lss) ?_
   refine wk_end ?_
   refine ac_next ?_
   refine aw_grp1 ?_
   by_cases c145 : p143 < ((([] : List Int) ++ l0).length : Int)
   ·rw [if_pos c145] at H
    refine aw_ifT ?_ (decide_eq_true c145)
    refine aw_skip ?_
    refine ac_next ?_
    refine aw_grp1 ?_
    refine aw_block ?_
    refine aw_grp1 ?_
    refine wk_start ?_
    refine kv g0 (mv) ?_
    refine kv g0 (asg) ?_
    refine wk_end ?_
    refine ac_next ?_
    refine wk_start ?_
    refine kv g0 (mv) ?_
    refine kv g0 (mv) ?_
    refine kv g0 (mv) ?_
    refine kv g0 (mv) ?_
    obtain ⟨c146, H⟩ := of_if H
    obtain ⟨c147, H⟩ := of_if H
    refine kv g0 (ixR 3 c146 (ltE c147)) ?_
    refine kv g0 (ldE (eI .i64 (rd q142 p143)) (.lit (.int .i64 (rd q142 p143))) (getE (z := (0 : Int)) c146 c147)) ?_
    refine kv g0 (cnv .u32) ?_
    refine kv g0 (mv) ?_
    obtain ⟨c148, H⟩ := of_if H
    obtain ⟨c149, H⟩ := of_if H
    refine kv g0 (ixX 8 c146 c148) ?_
    refine kv g0 (ldX (z := (0 : Int)) c146 c149 (.lit (.int .u32 (rd q110 p143))) rfl) ?_
    refine kv g0 (add) ?_
    refine kv g0 (cnv6) ?_
    refine kv g0 (ixR 3 c146 (ltE c147)) ?_
    refine ks g0 (stE 1 (eI .i64 (wrap64 (IntKind.u32.wrap ((IntKind.u32.wrap (rd q142 p143)) + (rd q110 p143))))) ((q142.set p143.toNat (wrap64 (IntKind.u32.wrap ((IntKind.u32.wrap (rd q142 p143)) + (rd q110 p143))))).map (eI .i64)) (getE (z := (0 : Int)) c146 c147) setE) ?_
    refine wk_end_draw hM (by kernel_rfl) ?_
    refine ac_blkN ?_
    refine ac_next ?_
    refine wk_start ?_
    refine kv g0 (add6) ?_
    refine kv g0 (mv) ?_
    refine wk_end ?_
    refine ac_k ?_
    exact acw hE [(1, 1), (2, 2)] 9999 (hK151 k144 (q142.set p143.toNat (wrap64 (IntKind.u32.wrap ((IntKind.u32.wrap (rd q142 p143)) + (rd q110 p143))))) (wrap64 (p143 + 1)) (Nat.le_refl _) ⟨by omega, H⟩)
   rw [if_neg c145] at H
   refine aw_ifF ?_ (decide_eq_false c145)
   refine aw_exit ?_
   refine ac_then ?_
   refine ac_then ?_
   refine ac_hit rfl ?_
   refine ac_next ?_
   refine aw_grp1 ?_
   refine wk_start ?_
   refine kv g0 (mv) ?_
   refine kv g0 (asg) ?_
   refine wk_end ?_
   refine ac_next ?_
   refine aw_ret ?_
   obtain rfl := Option.some.inj H
   exact acr hE [.tmp 4] (.tmp .nil) (.one _) [(0, 1)] 9999
  rw [if_neg c3] at H
  refine aw_ifT ?_ (eN c3)
  refine aw_grp1 ?_
  refine wk_start ?_
  refine kv g0 (mv) ?_
  refine kv g0 (asg) ?_
  refine wk_end ?_
  refine ac_next ?_
  refine aw_ret ?_
  refine ac_thenR ?_
  obtain rfl := Option.some.inj H
  exact acr hE [.tmp 4] (.tmp .nil) (.one _) [(0, 1)] 9999
 rw [if_neg c2] at H
 refine kx (hF (eN c2)) ?_
 refine kx (hF (eN c2)) ?_
 refine kx (hF (eN c2)) ?_
 refine kv g0 (pkT (eN c2)) ?_
 refine wk_end ?_
 refine ac_next ?_
 refine aw_ifT ?_ rfl
 refine aw_grp1 ?_
 refine wk_start ?_
 refine kv g0 (mv) ?_
 refine kv g0 (asg) ?_
 refine wk_end ?_
 refine ac_next ?_
 refine aw_ret ?_
 refine ac_thenR ?_
 obtain rfl := Option.some.inj H
 exact acr hE [.tmp 4] (.tmp .nil) (.one _) [(0, 1)] 9999
/-! impl_Digest -/
mutual
def impl_Digest.l0 : Nat → ByteArray → (List Int) → Int → Option (ByteArray)
 | 0, _, _, _ => none
 | k13 + 1, t1, q11, p12 => if p12 < (t1.size : Int) then if 0 ≤ p12 then (if p12 ≤ (wrap64 (p12 + 64)) then (if (wrap64 (p12 + 64)) ≤ (t1.size : Int) then ((impl_ShaBlock.f k13 q11 (t1.extract p12.toNat (wrap64 (p12 + 64)).toNat)).bind fun t18 => impl_Digest.l0 k13 t1 t18 (wrap64 (p12 + 64))) else none) else none) else none else impl_Digest.l1 k13 q11 ByteArray.empty 0
def impl_Digest.l1 : Nat → (List Int) → ByteArray → Int → Option (ByteArray)
 | 0, _, _, _ => none
 | k29 + 1, q11, p27, p28 => if p28 < (q11.length : Int) then if 0 ≤ p28 then (impl_four.f (rd q11 p28)).bind fun t32 => (if p27.size + t32.size ≤ 9223372036854775807 then impl_Digest.l1 k29 q11 (p27 ++ t32) (wrap64 (p28 + 1)) else none) else none else some p27
end
def impl_Digest.f (k : Nat) (a0 : ByteArray) : Option (ByteArray) := (impl_PadText.f a0).bind fun t1 => (impl_ShaStart.f).bind fun t3 => impl_Digest.l0 k t1 t3 0
theorem impl_Digest.ok {k : Nat} {a0 : ByteArray} {r : ByteArray} (H : impl_Digest.f k a0 = some r) : ACalls Tryd.prog 14 [] [.lit (.string a0)] [] (.lit (.string r)) := by
 refine acalls (fn := Tryd.f14) (nt := 37) Tryd.func14 rfl rfl (Nat.le_of_ble_eq_true rfl) fun E hE => ?_
 rw [impl_Digest.f] at H
 refine aw_grp1 ?_
 refine wk_start ?_
 refine kv g0 (asg) ?_
 refine wk_end ?_
 refine ac_next ?_
 refine aw_grp1 ?_
 refine wk_start ?_
 refine kv g0 (mv) ?_
 obtain ⟨t1, A2, H⟩ := of_bind H
 refine kcS0 10 (.lit (.string t1)) [] g0 (cal (impl_PadText.ok A2) [] 9999 .n (hf := Tryd.func23)) rfl rfl ?_
 refine kv g0 (asg) ?_
 refine wk_end ?_
 refine ac_next ?_
 refine aw_grp1 ?_
 refine wk_start ?_
 obtain ⟨t3, A4, H⟩ := of_bind H
 refine kcS1 11 (.row 0) [(0, .row 3 1 (t3.map (eI .i64)))] g0 (cal (impl_ShaStart.ok A4) [0] 9999 .n (hf := Tryd.func24)) rfl rfl ?_
 refine kv g0 (asg) ?_
 refine wk_end ?_
 refine ac_next ?_
 refine aw_grp1 ?_
 refine aw_grp1 ?_
 refine wk_start ?_
 refine kv g0 (asg) ?_
 refine wk_end ?_
 refine ac_next ?_
 refine aw_block ?_
 refine aw_loop2 (fun (k_ : Nat) (q11 : List Int) (p12 : Int) => k_ ≤ k ∧ impl_Digest.l0 k_ t1 q11 p12 = some r) (fun (q11 : List Int) (p12 : Int) => ⟨[(3, .lit (.string t1)), (4, .row 0), (5, .lit (.int .i64 p12))], [(0, .row 3 1 (q11.map (eI .i64)))]⟩) k t3 0 ⟨Nat.le_refl _, H⟩ (fun K_ h_ => acw hE [(0, 0)] 9999 h_) (fun _ _ => by intro h_; have h_ := h_.2; rw [impl_Digest.l0.eq_1] at h_; cases h_) ?_
 intro k13 q11 p12 hq_ K20 hK21
 have hk13 := hq_.1
 have H := hq_.2
 clear hq_
 rw [impl_Digest.l0.eq_2] at H
 refine aw_grp1 ?_
 refine aw_grp1 ?_
 refine wk_start ?_
 refine kv g0 (mv) ?_
 refine kv g0 (mv) ?_
 refine kv g0 (lnT) ?_
 refine kv g0 (lss) ?_
 refine wk_end ?_
 refine ac_next ?_
 by_cases c14 : p12 < (t1.size : Int)
 ·rw [if_pos c14] at H
  refine aw_ifT ?_ (decide_eq_true c14)
  refine aw_skip ?_
  refine ac_next ?_
  refine aw_grp1 ?_
  refine aw_block ?_
  refine wk_start ?_
  refine kv g0 (mv) ?_
  refine kv g0 (mv) ?_
  refine kv g0 (mv) ?_
  refine kv g0 (mv) ?_
  refine kv g0 (add6) ?_
  obtain ⟨c15, H⟩ := of_if H
  obtain ⟨c16, H⟩ := of_if H
  obtain ⟨c17, H⟩ := of_if H
  refine kv g0 (tsLH c15 c16 c17) ?_
  obtain ⟨t18, A19, H⟩ := of_bind H
  refine kcS1 24 (.row 1) [(1, .row 3 1 (t18.map (eI .i64)))] g0 (cal (impl_ShaBlock.ok A19) [1] 9999 .n (hf := Tryd.func25)) rfl rfl ?_
  refine kv g0 (asg) ?_
  refine wk_end ?_
  refine ac_blkN ?_
  refine ac_next ?_
  refine wk_start ?_
  refine kv g0 (mv) ?_
  refine kv g0 (add6) ?_
  refine kv g0 (asg) ?_
  refine wk_end ?_
  refine ac_k ?_
  exact acw hE [(0, 1)] 9999 (hK21 k13 t18 (wrap64 (p12 + 64)) (Nat.le_refl _) ⟨by omega, H⟩)
 rw [if_neg c14] at H
 refine aw_ifF ?_ (decide_eq_false c14)
 refine aw_exit ?_
 refine ac_then ?_
 refine ac_then ?_
 refine ac_hit rfl ?_
 refine ac_next ?_
 refine aw_grp1 ?_
 refine wk_start ?_
 refine kv g0 (asg) ?_
 refine wk_end ?_
 refine ac_next ?_
 refine aw_grp1 ?_
 refine aw_grp1 ?_
 refine wk_start ?_
 refine kv g0 (mv) ?_
 refine kv g0 (lnR lenE) ?_
 refine kv g0 (mv) ?_
 refine wk_end ?_
 refine ac_next ?_
 refine aw_block ?_
 refine aw_loop2 (fun (k_ : Nat) (p27 : ByteArray) (p28 : Int) => k_ ≤ k13 ∧ impl_Digest.l1 k_ q11 p27 p28 = some r) (fun (p27 : ByteArray) (p28 : Int) => ⟨[(6, .lit (.string p27)), (25, .row 0), (26, .lit (.int .i64 (q11.length : Int))), (27, .lit (.int .i64 p28))], [(0, .row 3 1 (q11.map (eI .i64)))]⟩) k13 ByteArray.empty 0 ⟨Nat.le_refl _, H⟩ (fun K_ h_ => acw hE [(0, 0)] 9999 h_) (fun _ _ => by intro h_; have h_ := h_.2; rw [impl_Digest.l1.eq_1] at h_; cases h_) ?_
 intro k29 p27 p28 hq_ K35 hK36
 have hk29 := hq_.1
 have H := hq_.2
 clear hq_
 rw [impl_Digest.l1.eq_2] at H
 refine aw_grp1 ?_
 refine wk_start ?_
 refine kv g0 (lss) ?_
 refine wk_end ?_
 refine ac_next ?_
 refine aw_grp1 ?_
 by_cases c30 : p28 < (q11.length : Int)
 ·rw [if_pos c30] at H
  refine aw_ifT ?_ (decide_eq_true c30)
  refine aw_skip ?_
  refine ac_next ?_
  refine aw_grp1 ?_
  refine aw_block ?_
  refine aw_grp1 ?_
  refine wk_start ?_
  obtain ⟨c31, H⟩ := of_if H
  refine kv g0 (ixR 3 c31 (ltE c30)) ?_
  refine kv g0 (ldE (eI .i64 (rd q11 p28)) (.lit (.int .i64 (rd q11 p28))) (getE (z := (0 : Int)) c31 c30)) ?_
  refine kv g0 (asg) ?_
  refine wk_end ?_
  refine ac_next ?_
  refine wk_start ?_
  refine kv g0 (mv) ?_
  refine kv g0 (mv) ?_
  obtain ⟨t32, A33, H⟩ := of_bind H
  refine kcS0 33 (.lit (.string t32)) [] g0 (cal (impl_four.ok A33) [] 9999 .n (hf := Tryd.func26)) rfl rfl ?_
  obtain ⟨c34, H⟩ := of_if H
  refine kv g0 (cat c34) ?_
  refine kv g0 (asg) ?_
  refine wk_end ?_
  refine ac_blkN ?_
  refine ac_next ?_
  refine wk_start ?_
  refine kv g0 (add6) ?_
  refine kv g0 (mv) ?_
  refine wk_end ?_
  refine ac_k ?_
  exact acw hE [(0, 0)] 9999 (hK36 k29 (p27 ++ t32) (wrap64 (p28 + 1)) (Nat.le_refl _) ⟨by omega, H⟩)
 rw [if_neg c30] at H
 refine aw_ifF ?_ (decide_eq_false c30)
 refine aw_exit ?_
 refine ac_then ?_
 refine ac_then ?_
 refine ac_hit rfl ?_
 refine ac_next ?_
 refine aw_grp1 ?_
 refine wk_start ?_
 refine kv g0 (mv) ?_
 refine kv g0 (asg) ?_
 refine wk_end ?_
 refine ac_next ?_
 refine aw_ret ?_
 obtain rfl := Option.some.inj H
 exact acr hE [.tmp 2] (.tmp .nil) (.one _) [] 9999
/-! impl_isPid -/
def impl_isPid.f (a0 : Int) : Option (Bool) := (impl_within.f a0 0 2).bind fun t1 => some t1
theorem impl_isPid.ok {a0 : Int} {r : Bool} (H : impl_isPid.f a0 = some r) : ACalls Tryd.prog 47 [] [.lit (.int .i64 a0)] [] (.lit (.bool r)) := by
 refine acalls (fn := Tryd.f47) (nt := 5) Tryd.func47 rfl rfl (Nat.le_of_ble_eq_true rfl) fun E hE => ?_
 rw [impl_isPid.f] at H
 refine aw_grp1 ?_
 refine wk_start ?_
 refine kv g0 (asg) ?_
 refine wk_end ?_
 refine ac_next ?_
 refine aw_grp1 ?_
 refine wk_start ?_
 refine kv g0 (mv) ?_
 obtain ⟨t1, A2, H⟩ := of_bind H
 refine kcS0 4 (.lit (.bool t1)) [] g0 (cal (impl_within.ok A2) [] 9999 .n (hf := Tryd.func44)) rfl rfl ?_
 refine kv g0 (asg) ?_
 refine wk_end ?_
 refine ac_next ?_
 refine aw_ret ?_
 obtain rfl := Option.some.inj H
 exact acr hE [.tmp 2] (.tmp .nil) (.one _) [] 9999
/-! impl_ItemOk -/
def impl_ItemOk.f (a0_0 : Int) (a0_1 : Int) (a0_2 : Int) (a0_3 : Int) : Option (Bool) := if a0_0 = 1 then ((impl_HalfOk.f a0_1).bind fun t2 => (if t2 = true then ((impl_HalfOk.f a0_2).bind fun t5 => (if t5 = true then some (a0_3 == 0) else some false)) else some false)) else if a0_0 = 2 then ((impl_within.f a0_3 1 1000000000).bind fun t9 => (if t9 = true then (if a0_1 = 0 then some (a0_2 == 0) else some false) else some false)) else some false
theorem impl_ItemOk.ok {a0_0 : Int} {a0_1 : Int} {a0_2 : Int} {a0_3 : Int} {r : Bool} (H : impl_ItemOk.f a0_0 a0_1 a0_2 a0_3 = some r) : ACalls Tryd.prog 48 [] [.agg [.lit (.int .i64 a0_0), .lit (.int .i64 a0_1), .lit (.int .i64 a0_2), .lit (.int .i64 a0_3)]] [] (.lit (.bool r)) := by
 refine acalls (fn := Tryd.f48) (nt := 35) Tryd.func48 rfl rfl (Nat.le_of_ble_eq_true rfl) fun E hE => ?_
 rw [impl_ItemOk.f] at H
 refine aw_grp1 ?_
 refine wk_start ?_
 refine kb g0 (bxA 0) ?_
 refine kv g0 (asg) ?_
 refine wk_end ?_
 refine ac_next ?_
 refine aw_grp1 ?_
 refine aw_grp1 ?_
 refine wk_start ?_
 refine kv g0 (faB 0 0) ?_
 refine kv g0 (ldB) ?_
 refine wk_end ?_
 refine ac_next ?_
 refine aw_block ?_
 refine aw_grp1 ?_
 refine wk_start ?_
 refine kv g0 (eql) ?_
 refine kv g0 (asg) ?_
 refine wk_end ?_
 refine ac_next ?_
 by_cases c1 : a0_0 = 1
 ·rw [if_pos c1] at H
  refine aw_ifT ?_ (eT c1)
  refine aw_grp1 ?_
  refine wk_start ?_
  refine kv g0 (faB 1 1) ?_
  refine kv g0 (ldB) ?_
  obtain ⟨t2, A3, H⟩ := of_bind H
  refine kcS0 9 (.lit (.bool t2)) [] g0 (cal (impl_HalfOk.ok A3) [] 9999 .n (hf := Tryd.func34)) rfl rfl ?_
  refine kv g0 (mv) ?_
  by_cases c4 : t2 = true
  ·rw [if_pos c4] at H
   refine kv (g1 c4) (faB 2 2) ?_
   refine kv (g1 c4) (ldB) ?_
   obtain ⟨t5, A6, H⟩ := of_bind H
   refine kcS0 13 (.lit (.bool t5)) [] (g1 c4) (cal (impl_HalfOk.ok A6) [] 9999 .n (hf := Tryd.func34)) rfl rfl ?_
   refine kv g0 (pkT c4) ?_
   refine kv g0 (mv) ?_
   by_cases c7 : t5 = true
   ·rw [if_pos c7] at H
    refine kv (g1 c7) (faB 3 3) ?_
    refine kv (g1 c7) (ldB) ?_
    refine kv (g1 c7) (eql) ?_
    refine kv g0 (pkT c7) ?_
    refine kv g0 (asg) ?_
    refine wk_end ?_
    refine ac_next ?_
    refine aw_ret ?_
    refine ac_blkR ?_
    refine ac_thenR ?_
    obtain rfl := Option.some.inj H
    exact acr hE [.tmp 2] (.tmp .nil) (.one _) [] 9999
   rw [if_neg c7] at H
   refine kx (hT (bF c7)) ?_
   refine kx (hT (bF c7)) ?_
   refine kx (hT (bF c7)) ?_
   refine kv g0 (pkF (bF c7)) ?_
   refine kv g0 (asg) ?_
   refine wk_end ?_
   refine ac_next ?_
   refine aw_ret ?_
   refine ac_blkR ?_
   refine ac_thenR ?_
   obtain rfl := Option.some.inj H
   exact acr hE [.tmp 2] (.tmp .nil) (.one _) [] 9999
  rw [if_neg c4] at H
  refine kx (hT (bF c4)) ?_
  refine kx (hT (bF c4)) ?_
  refine kx (hT (bF c4)) ?_
  refine kv g0 (pkF (bF c4)) ?_
  refine kv g0 (mv) ?_
  refine kx (hT rfl) ?_
  refine kx (hT rfl) ?_
  refine kx (hT rfl) ?_
  refine kv g0 (pkF rfl) ?_
  refine kv g0 (asg) ?_
  refine wk_end ?_
  refine ac_next ?_
  refine aw_ret ?_
  refine ac_blkR ?_
  refine ac_thenR ?_
  obtain rfl := Option.some.inj H
  exact acr hE [.tmp 2] (.tmp .nil) (.one _) [] 9999
 rw [if_neg c1] at H
 refine aw_ifF ?_ (eF c1)
 refine aw_grp1 ?_
 refine wk_start ?_
 refine kv g0 (eql) ?_
 refine kv g0 (asg) ?_
 refine wk_end ?_
 refine ac_next ?_
 by_cases c8 : a0_0 = 2
 ·rw [if_pos c8] at H
  refine aw_ifT ?_ (eT c8)
  refine aw_grp1 ?_
  refine wk_start ?_
  refine kv g0 (faB 3 3) ?_
  refine kv g0 (ldB) ?_
  obtain ⟨t9, A10, H⟩ := of_bind H
  refine kcS0 24 (.lit (.bool t9)) [] g0 (cal (impl_within.ok A10) [] 9999 .n (hf := Tryd.func44)) rfl rfl ?_
  refine kv g0 (mv) ?_
  by_cases c11 : t9 = true
  ·rw [if_pos c11] at H
   refine kv (g1 c11) (faB 1 1) ?_
   refine kv (g1 c11) (ldB) ?_
   refine kv (g1 c11) (eql) ?_
   refine kv g0 (pkT c11) ?_
   refine kv g0 (mv) ?_
   by_cases c12 : a0_1 = 0
   ·rw [if_pos c12] at H
    refine kv (g1 (eT c12)) (faB 2 2) ?_
    refine kv (g1 (eT c12)) (ldB) ?_
    refine kv (g1 (eT c12)) (eql) ?_
    refine kv g0 (pkT (eT c12)) ?_
    refine kv g0 (asg) ?_
    refine wk_end ?_
    refine ac_next ?_
    refine aw_ret ?_
    refine ac_blkR ?_
    refine ac_thenR ?_
    obtain rfl := Option.some.inj H
    exact acr hE [.tmp 2] (.tmp .nil) (.one _) [] 9999
   rw [if_neg c12] at H
   refine kx (hT (eF c12)) ?_
   refine kx (hT (eF c12)) ?_
   refine kx (hT (eF c12)) ?_
   refine kv g0 (pkF (eF c12)) ?_
   refine kv g0 (asg) ?_
   refine wk_end ?_
   refine ac_next ?_
   refine aw_ret ?_
   refine ac_blkR ?_
   refine ac_thenR ?_
   obtain rfl := Option.some.inj H
   exact acr hE [.tmp 2] (.tmp .nil) (.one _) [] 9999
  rw [if_neg c11] at H
  refine kx (hT (bF c11)) ?_
  refine kx (hT (bF c11)) ?_
  refine kx (hT (bF c11)) ?_
  refine kv g0 (pkF (bF c11)) ?_
  refine kv g0 (mv) ?_
  refine kx (hT rfl) ?_
  refine kx (hT rfl) ?_
  refine kx (hT rfl) ?_
  refine kv g0 (pkF rfl) ?_
  refine kv g0 (asg) ?_
  refine wk_end ?_
  refine ac_next ?_
  refine aw_ret ?_
  refine ac_blkR ?_
  refine ac_thenR ?_
  obtain rfl := Option.some.inj H
  exact acr hE [.tmp 2] (.tmp .nil) (.one _) [] 9999
 rw [if_neg c8] at H
 refine aw_ifF ?_ (eF c8)
 refine aw_skip ?_
 refine ac_blkN ?_
 refine ac_next ?_
 refine aw_grp1 ?_
 refine wk_start ?_
 refine kv g0 (asg) ?_
 refine wk_end ?_
 refine ac_next ?_
 refine aw_ret ?_
 obtain rfl := Option.some.inj H
 exact acr hE [.tmp 2] (.tmp .nil) (.one _) [] 9999
/-! impl_FrameOk -/
def impl_FrameOk.f (a0_0 : Int) (a0_1 : Int) (a0_2 : Int) (a0_3 : Int) (a0_4 : Int) (a0_5 : Int) (a0_6 : Int) : Option (Bool) := (impl_isPid.f a0_1).bind fun t1 => (if t1 = true then ((impl_within.f a0_2 1 1000000000).bind fun t4 => if t4 = true then if a0_0 = 1 then ((impl_ItemOk.f a0_3 a0_4 a0_5 a0_6).bind fun t8 => some t8) else if a0_0 = 2 then some (a0_3 == 0 && (a0_4 == 0 && (a0_5 == 0 && (a0_6 == 0)))) else some false else some false) else some false)
theorem impl_FrameOk.ok {a0_0 : Int} {a0_1 : Int} {a0_2 : Int} {a0_3 : Int} {a0_4 : Int} {a0_5 : Int} {a0_6 : Int} {r : Bool} (H : impl_FrameOk.f a0_0 a0_1 a0_2 a0_3 a0_4 a0_5 a0_6 = some r) : ACalls Tryd.prog 41 [] [.agg [.lit (.int .i64 a0_0), .lit (.int .i64 a0_1), .lit (.int .i64 a0_2), .lit (.int .i64 a0_3), .lit (.int .i64 a0_4), .lit (.int .i64 a0_5), .lit (.int .i64 a0_6)]] [] (.lit (.bool r)) := by
 refine acalls (fn := Tryd.f41) (nt := 26) Tryd.func41 rfl rfl (Nat.le_of_ble_eq_true rfl) fun E hE => ?_
 rw [impl_FrameOk.f] at H
 refine aw_grp1 ?_
 refine wk_start ?_
 refine kb g0 (bxA 0) ?_
 refine kv g0 (asg) ?_
 refine wk_end ?_
 refine ac_next ?_
 refine aw_grp1 ?_
 refine aw_grp1 ?_
 refine wk_start ?_
 refine kv g0 (faB 1 1) ?_
 refine kv g0 (ldB) ?_
 obtain ⟨t1, A2, H⟩ := of_bind H
 refine kcS0 5 (.lit (.bool t1)) [] g0 (cal (impl_isPid.ok A2) [] 9999 .n (hf := Tryd.func47)) rfl rfl ?_
 refine kv g0 (not_) ?_
 refine kv g0 (mv) ?_
 by_cases c3 : t1 = true
 ·rw [if_pos c3] at H
  refine kv (g1 (nF c3)) (faB 2 2) ?_
  refine kv (g1 (nF c3)) (ldB) ?_
  obtain ⟨t4, A5, H⟩ := of_bind H
  refine kcS0 10 (.lit (.bool t4)) [] (g1 (nF c3)) (cal (impl_within.ok A5) [] 9999 .n (hf := Tryd.func44)) rfl rfl ?_
  refine kv (g1 (nF c3)) (not_) ?_
  refine kv g0 (pkF (nF c3)) ?_
  refine wk_end ?_
  refine ac_next ?_
  by_cases c6 : t4 = true
  ·rw [if_pos c6] at H
   refine aw_ifF ?_ (nF c6)
   refine aw_skip ?_
   refine ac_next ?_
   refine aw_grp1 ?_
   refine aw_grp1 ?_
   refine wk_start ?_
   refine kv g0 (faB 0 0) ?_
   refine kv g0 (ldB) ?_
   refine wk_end ?_
   refine ac_next ?_
   refine aw_block ?_
   refine aw_grp1 ?_
   refine wk_start ?_
   refine kv g0 (eql) ?_
   refine kv g0 (asg) ?_
   refine wk_end ?_
   refine ac_next ?_
   by_cases c7 : a0_0 = 1
   ·rw [if_pos c7] at H
    refine aw_ifT ?_ (eT c7)
    refine aw_grp1 ?_
    refine wk_start ?_
    refine kv g0 (faB 3 3) ?_
    refine kv g0 (ldBA 4 [.lit (.int .i64 a0_3), .lit (.int .i64 a0_4), .lit (.int .i64 a0_5), .lit (.int .i64 a0_6)]) ?_
    obtain ⟨t8, A9, H⟩ := of_bind H
    refine kcS0 19 (.lit (.bool t8)) [] g0 (cal (impl_ItemOk.ok A9) [] 9999 .n (hf := Tryd.func48)) rfl rfl ?_
    refine kv g0 (asg) ?_
    refine wk_end ?_
    refine ac_next ?_
    refine aw_ret ?_
    refine ac_blkR ?_
    refine ac_thenR ?_
    obtain rfl := Option.some.inj H
    exact acr hE [.tmp 2] (.tmp .nil) (.one _) [] 9999
   rw [if_neg c7] at H
   refine aw_ifF ?_ (eF c7)
   refine aw_grp1 ?_
   refine wk_start ?_
   refine kv g0 (eql) ?_
   refine kv g0 (asg) ?_
   refine wk_end ?_
   refine ac_next ?_
   by_cases c10 : a0_0 = 2
   ·rw [if_pos c10] at H
    refine aw_ifT ?_ (eT c10)
    refine aw_grp1 ?_
    refine wk_start ?_
    refine kv g0 (faB 3 3) ?_
    refine kv g0 (ldBA 4 [.lit (.int .i64 a0_3), .lit (.int .i64 a0_4), .lit (.int .i64 a0_5), .lit (.int .i64 a0_6)]) ?_
    refine kv g0 (bld [(0, 1), (1, 1), (2, 1), (3, 1)] [.int .i64 0, .int .i64 0, .int .i64 0, .int .i64 0] [.lit (.int .i64 0), .lit (.int .i64 0), .lit (.int .i64 0), .lit (.int .i64 0)]) ?_
    refine kv g0 (eqS (fun w => eq33 _ w a0_3 a0_4 a0_5 a0_6 0 0 0 0)) ?_
    refine kv g0 (asg) ?_
    refine wk_end ?_
    refine ac_next ?_
    refine aw_ret ?_
    refine ac_blkR ?_
    refine ac_thenR ?_
    obtain rfl := Option.some.inj H
    exact acr hE [.tmp 2] (.tmp .nil) (.one _) [] 9999
   rw [if_neg c10] at H
   refine aw_ifF ?_ (eF c10)
   refine aw_skip ?_
   refine ac_blkN ?_
   refine ac_next ?_
   refine aw_grp1 ?_
   refine wk_start ?_
   refine kv g0 (asg) ?_
   refine wk_end ?_
   refine ac_next ?_
   refine aw_ret ?_
   obtain rfl := Option.some.inj H
   exact acr hE [.tmp 2] (.tmp .nil) (.one _) [] 9999
  rw [if_neg c6] at H
  refine aw_ifT ?_ (nT (bF c6))
  refine aw_grp1 ?_
  refine wk_start ?_
  refine kv g0 (asg) ?_
  refine wk_end ?_
  refine ac_next ?_
  refine aw_ret ?_
  refine ac_thenR ?_
  obtain rfl := Option.some.inj H
  exact acr hE [.tmp 2] (.tmp .nil) (.one _) [] 9999
 rw [if_neg c3] at H
 refine kx (hF (nT (bF c3))) ?_
 refine kx (hF (nT (bF c3))) ?_
 refine kx (hF (nT (bF c3))) ?_
 refine kx (hF (nT (bF c3))) ?_
 refine kv g0 (pkT (nT (bF c3))) ?_
 refine wk_end ?_
 refine ac_next ?_
 refine aw_ifT ?_ rfl
 refine aw_grp1 ?_
 refine wk_start ?_
 refine kv g0 (asg) ?_
 refine wk_end ?_
 refine ac_next ?_
 refine aw_ret ?_
 refine ac_thenR ?_
 obtain rfl := Option.some.inj H
 exact acr hE [.tmp 2] (.tmp .nil) (.one _) [] 9999
/-! impl_VarText -/
def impl_VarText.l0 : Nat → Int → (List Int) → Option (ByteArray × Bool)
 | 0, _, _ => none
 | k9 + 1, p7, q8 => if p7 > 127 then if q8.length + ([IntKind.u8.wrap (bits .or .i64 (bits .and .i64 p7 127) 128)] : List Int).length < 140737488355328 then impl_VarText.l0 k9 (p7.fdiv (2 ^ 7)) (q8 ++ ([IntKind.u8.wrap (bits .or .i64 (bits .and .i64 p7 127) 128)] : List Int)) else none else if q8.length + ([IntKind.u8.wrap p7] : List Int).length < 140737488355328 then some (strOfNums (q8 ++ ([IntKind.u8.wrap p7] : List Int)), true) else none
def impl_VarText.f (k : Nat) (a0 : Int) : Option (ByteArray × Bool) := (impl_within.f a0 0 1000000000).bind fun t1 => if t1 = true then impl_VarText.l0 k a0 ([] : List Int) else some (ByteArray.empty, false)
theorem impl_VarText.ok {k : Nat} {a0 : Int} {r : ByteArray × Bool} (H : impl_VarText.f k a0 = some r) : ACalls Tryd.prog 42 [] [.lit (.int .i64 a0)] [] (.tup [.lit (.string r.1), .lit (.bool r.2)]) := by
 refine acalls (fn := Tryd.f42) (nt := 26) Tryd.func42 rfl rfl (Nat.le_of_ble_eq_true rfl) fun E hE => ?_
 rw [impl_VarText.f] at H
 refine aw_grp1 ?_
 refine wk_start ?_
 refine kv g0 (asg) ?_
 refine kv g0 (asg) ?_
 refine wk_end ?_
 refine ac_next ?_
 refine aw_grp1 ?_
 refine aw_grp1 ?_
 refine wk_start ?_
 refine kv g0 (mv) ?_
 obtain ⟨t1, A2, H⟩ := of_bind H
 refine kcS0 6 (.lit (.bool t1)) [] g0 (cal (impl_within.ok A2) [] 9999 .n (hf := Tryd.func44)) rfl rfl ?_
 refine kv g0 (not_) ?_
 refine wk_end ?_
 refine ac_next ?_
 by_cases c3 : t1 = true
 ·rw [if_pos c3] at H
  refine aw_ifF ?_ (nF c3)
  refine aw_skip ?_
  refine ac_next ?_
  refine aw_grp1 ?_
  refine wk_start ?_
  refine kb g0 (bsl 0 5 1 [.int .u8 0] (([] : List Int).map (eI .u8))) ?_
  refine kv g0 (asg) ?_
  refine wk_end ?_
  refine ac_next ?_
  refine aw_grp1 ?_
  refine aw_block ?_
  refine aw_loop2 (fun (k_ : Nat) (p7 : Int) (q8 : List Int) => k_ ≤ k ∧ impl_VarText.l0 k_ p7 q8 = some r) (fun (p7 : Int) (q8 : List Int) => ⟨[(0, .lit (.int .i64 p7)), (4, .row 0)], [(0, .row 5 1 (q8.map (eI .u8)))]⟩) k a0 ([] : List Int) ⟨Nat.le_refl _, H⟩ (fun K_ h_ => acw hE [(0, 0)] 9999 h_) (fun _ _ => by intro h_; have h_ := h_.2; rw [impl_VarText.l0.eq_1] at h_; cases h_) ?_
  intro k9 p7 q8 hq_ K12 hK13
  have hk9 := hq_.1
  have H := hq_.2
  clear hq_
  rw [impl_VarText.l0.eq_2] at H
  refine aw_grp1 ?_
  refine aw_grp1 ?_
  refine wk_start ?_
  refine kv g0 (mv) ?_
  refine kv g0 (gtr) ?_
  refine wk_end ?_
  refine ac_next ?_
  by_cases c10 : p7 > 127
  ·rw [if_pos c10] at H
   refine aw_ifT ?_ (decide_eq_true c10)
   refine aw_skip ?_
   refine ac_next ?_
   refine aw_block ?_
   refine aw_grp1 ?_
   refine wk_start ?_
   refine kv g0 (mv) ?_
   refine kv g0 (mv) ?_
   refine kv g0 (band) ?_
   refine kv g0 (bor) ?_
   refine kv g0 (cnv .u8) ?_
   refine kb g0 (bsl 1 5 1 [.int .u8 0] (([IntKind.u8.wrap (bits .or .i64 (bits .and .i64 p7 127) 128)] : List Int).map (eI .u8))) ?_
   obtain ⟨c11, H⟩ := of_if H
   refine kc g0 (apR 2 5 1 1 [.int .u8 0] ((q8 ++ ([IntKind.u8.wrap (bits .or .i64 (bits .and .i64 p7 127) 128)] : List Int)).map (eI .u8)) (.row rfl) (apb c11 rfl) appE) ?_
   refine kv g0 (asg) ?_
   refine wk_end ?_
   refine ac_next ?_
   refine wk_start ?_
   refine kv g0 (mv) ?_
   refine kv g0 (shr (by decide : (0 : Int) ≤ 7)) ?_
   refine kv g0 (asg) ?_
   refine wk_end ?_
   refine ac_blkN ?_
   refine ac_k ?_
   exact acw hE [(0, 2)] 9999 (hK13 k9 (p7.fdiv (2 ^ 7)) (q8 ++ ([IntKind.u8.wrap (bits .or .i64 (bits .and .i64 p7 127) 128)] : List Int)) (Nat.le_refl _) ⟨by omega, H⟩)
  rw [if_neg c10] at H
  refine aw_ifF ?_ (decide_eq_false c10)
  refine aw_exit ?_
  refine ac_then ?_
  refine ac_then ?_
  refine ac_hit rfl ?_
  refine ac_next ?_
  refine aw_grp1 ?_
  refine wk_start ?_
  refine kv g0 (mv) ?_
  refine kv g0 (mv) ?_
  refine kv g0 (cnv .u8) ?_
  refine kb g0 (bsl 3 5 1 [.int .u8 0] (([IntKind.u8.wrap p7] : List Int).map (eI .u8))) ?_
  obtain ⟨c14, H⟩ := of_if H
  refine kc g0 (apR 4 5 1 1 [.int .u8 0] ((q8 ++ ([IntKind.u8.wrap p7] : List Int)).map (eI .u8)) (.row rfl) (apb c14 rfl) appE) ?_
  refine kv g0 (cvB (.row rfl)) ?_
  refine kv g0 (asg) ?_
  refine kv g0 (asg) ?_
  refine wk_end ?_
  refine ac_next ?_
  refine aw_ret ?_
  obtain rfl := Option.some.inj H
  exact acr hE [.tmp 2, .tmp 3] (.tmp (.tmp .nil)) (.many _ _ _) [] 9999
 rw [if_neg c3] at H
 refine aw_ifT ?_ (nT (bF c3))
 refine aw_grp1 ?_
 refine wk_start ?_
 refine kv g0 (asg) ?_
 refine kv g0 (asg) ?_
 refine wk_end ?_
 refine ac_next ?_
 refine aw_ret ?_
 refine ac_thenR ?_
 obtain rfl := Option.some.inj H
 exact acr hE [.tmp 2, .tmp 3] (.tmp (.tmp .nil)) (.many _ _ _) [] 9999
/-! impl_SumMore -/
mutual
def impl_SumMore.l0 : Nat → ByteArray → Int → Int → Int → Option (Int)
 | 0, _, _, _, _ => none
 | k21 + 1, a1, p13, p19, p20 => if p20 < 8 then if (bits .and .u32 p19 1) = 1 then impl_SumMore.l0 k21 a1 p13 (bits .xor .u32 (p19.fdiv (2 ^ 1)) 3558460437) (wrap64 (p20 + 1)) else impl_SumMore.l0 k21 a1 p13 (p19.fdiv (2 ^ 1)) (wrap64 (p20 + 1)) else impl_SumMore.l1 k21 a1 p19 (wrap64 (p13 + 1))
def impl_SumMore.l1 : Nat → ByteArray → Int → Int → Option (Int)
 | 0, _, _, _ => none
 | k14 + 1, a1, p12, p13 => if p13 < (a1.size : Int) then if 0 ≤ p13 then impl_SumMore.l0 k14 a1 p13 (bits .xor .u32 p12 (IntKind.u32.wrap (bt a1 p13))) 0 else none else some p12
end
def impl_SumMore.f (k : Nat) (a0 : Int) (a1 : ByteArray) : Option (Int) := impl_SumMore.l1 k a1 a0 0
theorem impl_SumMore.ok {k : Nat} {a0 : Int} {a1 : ByteArray} {r : Int} (H : impl_SumMore.f k a0 a1 = some r) : ACalls Tryd.prog 50 [] [.lit (.int .u32 a0), .lit (.string a1)] [] (.lit (.int .u32 r)) := by
 refine acalls (fn := Tryd.f50) (nt := 31) Tryd.func50 rfl rfl (Nat.le_of_ble_eq_true rfl) fun E hE => ?_
 rw [impl_SumMore.f] at H
 refine aw_grp1 ?_
 refine wk_start ?_
 refine kv g0 (asg) ?_
 refine wk_end ?_
 refine ac_next ?_
 refine aw_grp1 ?_
 refine aw_grp1 ?_
 refine wk_start ?_
 refine kv g0 (asg) ?_
 refine wk_end ?_
 refine ac_next ?_
 refine aw_block ?_
 refine aw_loop2 (fun (k_ : Nat) (p12 : Int) (p13 : Int) => k_ ≤ k ∧ impl_SumMore.l1 k_ a1 p12 p13 = some r) (fun (p12 : Int) (p13 : Int) => ⟨[(0, .lit (.int .u32 p12)), (1, .lit (.string a1)), (5, .lit (.int .i64 p13))], []⟩) k a0 0 ⟨Nat.le_refl _, H⟩ (fun K_ h_ => acw hE [] 9999 h_) (fun _ _ => by intro h_; have h_ := h_.2; rw [impl_SumMore.l1.eq_1] at h_; cases h_) ?_
 intro k14 p12 p13 hq_ K26 hK27
 have hk14 := hq_.1
 have H := hq_.2
 clear hq_
 rw [impl_SumMore.l1.eq_2] at H
 refine aw_grp1 ?_
 refine aw_grp1 ?_
 refine wk_start ?_
 refine kv g0 (mv) ?_
 refine kv g0 (mv) ?_
 refine kv g0 (lnT) ?_
 refine kv g0 (lss) ?_
 refine wk_end ?_
 refine ac_next ?_
 by_cases c15 : p13 < (a1.size : Int)
 ·rw [if_pos c15] at H
  refine aw_ifT ?_ (decide_eq_true c15)
  refine aw_skip ?_
  refine ac_next ?_
  refine aw_grp1 ?_
  refine aw_block ?_
  refine aw_grp1 ?_
  refine wk_start ?_
  refine kv g0 (mv) ?_
  refine kv g0 (mv) ?_
  refine kv g0 (mv) ?_
  obtain ⟨c16, H⟩ := of_if H
  refine kv g0 (ixT c16 c15) ?_
  refine kv g0 (cnv .u32) ?_
  refine kv g0 (bxor) ?_
  refine kv g0 (asg) ?_
  refine wk_end ?_
  refine ac_next ?_
  refine aw_grp1 ?_
  refine wk_start ?_
  refine kv g0 (mv) ?_
  refine wk_end ?_
  refine ac_next ?_
  refine aw_block ?_
  refine aw_loop2 (fun (k_ : Nat) (p19 : Int) (p20 : Int) => k_ ≤ k14 ∧ impl_SumMore.l0 k_ a1 p13 p19 p20 = some r) (fun (p19 : Int) (p20 : Int) => ⟨[(0, .lit (.int .u32 p19)), (1, .lit (.string a1)), (5, .lit (.int .i64 p13)), (19, .lit (.int .i64 p20))], []⟩) k14 (bits .xor .u32 p12 (IntKind.u32.wrap (bt a1 p13))) 0 ⟨Nat.le_refl _, H⟩ (fun K_ h_ => acw hE [] 9999 h_) (fun _ _ => by intro h_; have h_ := h_.2; rw [impl_SumMore.l0.eq_1] at h_; cases h_) ?_
  intro k21 p19 p20 hq_ K24 hK25
  have hk21 := hq_.1
  have H := hq_.2
  clear hq_
  rw [impl_SumMore.l0.eq_2] at H
  refine aw_grp1 ?_
  refine wk_start ?_
  refine kv g0 (lss) ?_
  refine wk_end ?_
  refine ac_next ?_
  refine aw_grp1 ?_
  by_cases c22 : p20 < 8
  ·rw [if_pos c22] at H
   refine aw_ifT ?_ (decide_eq_true c22)
   refine aw_skip ?_
   refine ac_next ?_
   refine aw_grp1 ?_
   refine aw_block ?_
   refine aw_grp1 ?_
   refine wk_start ?_
   refine kv g0 (mv) ?_
   refine kv g0 (band) ?_
   refine kv g0 (asg) ?_
   refine wk_end ?_
   refine ac_next ?_
   refine aw_grp1 ?_
   refine wk_start ?_
   refine kv g0 (mv) ?_
   refine kv g0 (shr (by decide : (0 : Int) ≤ 1)) ?_
   refine kv g0 (asg) ?_
   refine wk_end ?_
   refine ac_next ?_
   refine aw_grp1 ?_
   refine wk_start ?_
   refine kv g0 (mv) ?_
   refine kv g0 (eql) ?_
   refine wk_end ?_
   refine ac_next ?_
   by_cases c23 : (bits .and .u32 p19 1) = 1
   ·rw [if_pos c23] at H
    refine aw_ifT ?_ (eT c23)
    refine wk_start ?_
    refine kv g0 (mv) ?_
    refine kv g0 (bxor) ?_
    refine kv g0 (asg) ?_
    refine wk_end ?_
    refine ac_blkN ?_
    refine ac_next ?_
    refine wk_start ?_
    refine kv g0 (add6) ?_
    refine kv g0 (mv) ?_
    refine wk_end ?_
    refine ac_k ?_
    exact acw hE [] 9999 (hK25 k21 (bits .xor .u32 (p19.fdiv (2 ^ 1)) 3558460437) (wrap64 (p20 + 1)) (Nat.le_refl _) ⟨by omega, H⟩)
   rw [if_neg c23] at H
   refine aw_ifF ?_ (eF c23)
   refine aw_skip ?_
   refine ac_blkN ?_
   refine ac_next ?_
   refine wk_start ?_
   refine kv g0 (add6) ?_
   refine kv g0 (mv) ?_
   refine wk_end ?_
   refine ac_k ?_
   exact acw hE [] 9999 (hK25 k21 (p19.fdiv (2 ^ 1)) (wrap64 (p20 + 1)) (Nat.le_refl _) ⟨by omega, H⟩)
  rw [if_neg c22] at H
  refine aw_ifF ?_ (decide_eq_false c22)
  refine aw_exit ?_
  refine ac_then ?_
  refine ac_then ?_
  refine ac_hit rfl ?_
  refine ac_blkN ?_
  refine ac_next ?_
  refine wk_start ?_
  refine kv g0 (mv) ?_
  refine kv g0 (add6) ?_
  refine kv g0 (asg) ?_
  refine wk_end ?_
  refine ac_k ?_
  exact acw hE [] 9999 (hK27 k21 p19 (wrap64 (p13 + 1)) (by omega) ⟨by omega, H⟩)
 rw [if_neg c15] at H
 refine aw_ifF ?_ (decide_eq_false c15)
 refine aw_exit ?_
 refine ac_then ?_
 refine ac_then ?_
 refine ac_hit rfl ?_
 refine ac_next ?_
 refine aw_grp1 ?_
 refine wk_start ?_
 refine kv g0 (mv) ?_
 refine kv g0 (asg) ?_
 refine wk_end ?_
 refine ac_next ?_
 refine aw_ret ?_
 obtain rfl := Option.some.inj H
 exact acr hE [.tmp 4] (.tmp .nil) (.one _) [] 9999
/-! impl_SumOf -/
def impl_SumOf.f (k : Nat) (a0 : ByteArray) : Option (Int) := (impl_SumMore.f k 4294967295 a0).bind fun t1 => some t1
theorem impl_SumOf.ok {k : Nat} {a0 : ByteArray} {r : Int} (H : impl_SumOf.f k a0 = some r) : ACalls Tryd.prog 49 [] [.lit (.string a0)] [] (.lit (.int .u32 r)) := by
 refine acalls (fn := Tryd.f49) (nt := 5) Tryd.func49 rfl rfl (Nat.le_of_ble_eq_true rfl) fun E hE => ?_
 rw [impl_SumOf.f] at H
 refine aw_grp1 ?_
 refine wk_start ?_
 refine kv g0 (asg) ?_
 refine wk_end ?_
 refine ac_next ?_
 refine aw_grp1 ?_
 refine wk_start ?_
 refine kv g0 (mv) ?_
 obtain ⟨t1, A2, H⟩ := of_bind H
 refine kcS0 4 (.lit (.int .u32 t1)) [] g0 (cal (impl_SumMore.ok A2) [] 9999 .n (hf := Tryd.func50)) rfl rfl ?_
 refine kv g0 (asg) ?_
 refine wk_end ?_
 refine ac_next ?_
 refine aw_ret ?_
 obtain rfl := Option.some.inj H
 exact acr hE [.tmp 2] (.tmp .nil) (.one _) [] 9999
/-! impl_Sealed -/
def impl_Sealed.f (k : Nat) (a0 : ByteArray) : Option (ByteArray × Bool) := if (a0.size : Int) > 20000 then some (ByteArray.empty, false) else (impl_SumOf.f k a0).bind fun t2 => ((impl_four.f (wrap64 t2)).bind fun t4 => (if a0.size + t4.size ≤ 9223372036854775807 then some (a0 ++ t4, true) else none))
theorem impl_Sealed.ok {k : Nat} {a0 : ByteArray} {r : ByteArray × Bool} (H : impl_Sealed.f k a0 = some r) : ACalls Tryd.prog 43 [] [.lit (.string a0)] [] (.tup [.lit (.string r.1), .lit (.bool r.2)]) := by
 refine acalls (fn := Tryd.f43) (nt := 13) Tryd.func43 rfl rfl (Nat.le_of_ble_eq_true rfl) fun E hE => ?_
 rw [impl_Sealed.f] at H
 refine aw_grp1 ?_
 refine wk_start ?_
 refine kv g0 (asg) ?_
 refine kv g0 (asg) ?_
 refine wk_end ?_
 refine ac_next ?_
 refine aw_grp1 ?_
 refine aw_grp1 ?_
 refine wk_start ?_
 refine kv g0 (mv) ?_
 refine kv g0 (lnT) ?_
 refine kv g0 (gtr) ?_
 refine wk_end ?_
 refine ac_next ?_
 by_cases c1 : (a0.size : Int) > 20000
 ·rw [if_pos c1] at H
  refine aw_ifT ?_ (decide_eq_true c1)
  refine aw_grp1 ?_
  refine wk_start ?_
  refine kv g0 (asg) ?_
  refine kv g0 (asg) ?_
  refine wk_end ?_
  refine ac_next ?_
  refine aw_ret ?_
  refine ac_thenR ?_
  obtain rfl := Option.some.inj H
  exact acr hE [.tmp 2, .tmp 3] (.tmp (.tmp .nil)) (.many _ _ _) [] 9999
 rw [if_neg c1] at H
 refine aw_ifF ?_ (decide_eq_false c1)
 refine aw_skip ?_
 refine ac_next ?_
 refine aw_grp1 ?_
 refine wk_start ?_
 refine kv g0 (mv) ?_
 refine kv g0 (mv) ?_
 obtain ⟨t2, A3, H⟩ := of_bind H
 refine kcS0 9 (.lit (.int .u32 t2)) [] g0 (cal (impl_SumOf.ok A3) [] 9999 .n (hf := Tryd.func49)) rfl rfl ?_
 refine kv g0 (cnv6) ?_
 obtain ⟨t4, A5, H⟩ := of_bind H
 refine kcS0 11 (.lit (.string t4)) [] g0 (cal (impl_four.ok A5) [] 9999 .n (hf := Tryd.func26)) rfl rfl ?_
 obtain ⟨c6, H⟩ := of_if H
 refine kv g0 (cat c6) ?_
 refine kv g0 (asg) ?_
 refine kv g0 (asg) ?_
 refine wk_end ?_
 refine ac_next ?_
 refine aw_ret ?_
 obtain rfl := Option.some.inj H
 exact acr hE [.tmp 2, .tmp 3] (.tmp (.tmp .nil)) (.many _ _ _) [] 9999
/-! impl_FrameText -/
def impl_FrameText.f (k : Nat) (a0_0 : Int) (a0_1 : Int) (a0_2 : Int) (a0_3 : Int) (a0_4 : Int) (a0_5 : Int) (a0_6 : Int) : Option (ByteArray × Bool) := (impl_FrameOk.f a0_0 a0_1 a0_2 a0_3 a0_4 a0_5 a0_6).bind fun t1 => if t1 = true then (impl_VarText.f k a0_2).bind fun t4 => (impl_VarText.f k a0_6).bind fun t6 => if (strOfNums ([IntKind.u8.wrap a0_0, IntKind.u8.wrap a0_1] : List Int)).size + t4.1.size ≤ 9223372036854775807 then (if ((strOfNums ([IntKind.u8.wrap a0_0, IntKind.u8.wrap a0_1] : List Int)) ++ t4.1).size + (strOfNums ([IntKind.u8.wrap a0_3] : List Int)).size ≤ 9223372036854775807 then ((impl_four.f a0_4).bind fun t10 => (if (((strOfNums ([IntKind.u8.wrap a0_0, IntKind.u8.wrap a0_1] : List Int)) ++ t4.1) ++ (strOfNums ([IntKind.u8.wrap a0_3] : List Int))).size + t10.size ≤ 9223372036854775807 then ((impl_four.f a0_5).bind fun t13 => (if ((((strOfNums ([IntKind.u8.wrap a0_0, IntKind.u8.wrap a0_1] : List Int)) ++ t4.1) ++ (strOfNums ([IntKind.u8.wrap a0_3] : List Int))) ++ t10).size + t13.size ≤ 9223372036854775807 then (if (((((strOfNums ([IntKind.u8.wrap a0_0, IntKind.u8.wrap a0_1] : List Int)) ++ t4.1) ++ (strOfNums ([IntKind.u8.wrap a0_3] : List Int))) ++ t10) ++ t13).size + t6.1.size ≤ 9223372036854775807 then ((impl_Sealed.f k ((((((strOfNums ([IntKind.u8.wrap a0_0, IntKind.u8.wrap a0_1] : List Int)) ++ t4.1) ++ (strOfNums ([IntKind.u8.wrap a0_3] : List Int))) ++ t10) ++ t13) ++ t6.1)).bind fun t17 => some (t17.1, t17.2)) else none) else none)) else none)) else none) else none else some (ByteArray.empty, false)
theorem impl_FrameText.ok {k : Nat} {a0_0 : Int} {a0_1 : Int} {a0_2 : Int} {a0_3 : Int} {a0_4 : Int} {a0_5 : Int} {a0_6 : Int} {r : ByteArray × Bool} (H : impl_FrameText.f k a0_0 a0_1 a0_2 a0_3 a0_4 a0_5 a0_6 = some r) : ACalls Tryd.prog 33 [] [.agg [.lit (.int .i64 a0_0), .lit (.int .i64 a0_1), .lit (.int .i64 a0_2), .lit (.int .i64 a0_3), .lit (.int .i64 a0_4), .lit (.int .i64 a0_5), .lit (.int .i64 a0_6)]] [] (.tup [.lit (.string r.1), .lit (.bool r.2)]) := by
 refine acalls (fn := Tryd.f33) (nt := 56) Tryd.func33 rfl rfl (Nat.le_of_ble_eq_true rfl) fun E hE => ?_
 rw [impl_FrameText.f] at H
 refine aw_grp1 ?_
 refine wk_start ?_
 refine kb g0 (bxA 0) ?_
 refine kv g0 (asg) ?_
 refine kv g0 (asg) ?_
 refine wk_end ?_
 refine ac_next ?_
 refine aw_grp1 ?_
 refine aw_grp1 ?_
 refine wk_start ?_
 refine kv g0 (ldBA 7 [.lit (.int .i64 a0_0), .lit (.int .i64 a0_1), .lit (.int .i64 a0_2), .lit (.int .i64 a0_3), .lit (.int .i64 a0_4), .lit (.int .i64 a0_5), .lit (.int .i64 a0_6)]) ?_
 obtain ⟨t1, A2, H⟩ := of_bind H
 refine kcS0 9 (.lit (.bool t1)) [] g0 (cal (impl_FrameOk.ok A2) [] 9999 .n (hf := Tryd.func41)) rfl rfl ?_
 refine kv g0 (not_) ?_
 refine wk_end ?_
 refine ac_next ?_
 by_cases c3 : t1 = true
 ·rw [if_pos c3] at H
  refine aw_ifF ?_ (nF c3)
  refine aw_skip ?_
  refine ac_next ?_
  refine aw_grp1 ?_
  refine wk_start ?_
  refine kv g0 (faB 2 2) ?_
  refine kv g0 (ldB) ?_
  obtain ⟨t4, A5, H⟩ := of_bind H
  refine kcS0 14 (.tup [.lit (.string t4.1), .lit (.bool t4.2)]) [] g0 (cal (impl_VarText.ok A5) [] 9999 .n (hf := Tryd.func42)) rfl rfl ?_
  refine kv g0 (mv) ?_
  refine kv g0 (ext) ?_
  refine kv g0 (ext) ?_
  refine kv g0 (asg) ?_
  refine kv g0 (asg) ?_
  refine wk_end ?_
  refine ac_next ?_
  refine aw_grp1 ?_
  refine wk_start ?_
  refine kv g0 (faB 3 3) ?_
  refine kv g0 (faB 3 6) ?_
  refine kv g0 (ldB) ?_
  obtain ⟨t6, A7, H⟩ := of_bind H
  refine kcS0 21 (.tup [.lit (.string t6.1), .lit (.bool t6.2)]) [] g0 (cal (impl_VarText.ok A7) [] 9999 .n (hf := Tryd.func42)) rfl rfl ?_
  refine kv g0 (mv) ?_
  refine kv g0 (ext) ?_
  refine kv g0 (ext) ?_
  refine kv g0 (asg) ?_
  refine kv g0 (asg) ?_
  refine wk_end ?_
  refine ac_next ?_
  refine aw_grp1 ?_
  refine wk_start ?_
  refine kv g0 (faB 0 0) ?_
  refine kv g0 (ldB) ?_
  refine kv g0 (cnv .u8) ?_
  refine kv g0 (faB 1 1) ?_
  refine kv g0 (ldB) ?_
  refine kv g0 (cnv .u8) ?_
  refine kb g0 (bsl 1 5 1 [.int .u8 0] (([IntKind.u8.wrap a0_0, IntKind.u8.wrap a0_1] : List Int).map (eI .u8))) ?_
  refine kv g0 (cvB (.row rfl)) ?_
  refine kv g0 (mv) ?_
  obtain ⟨c8, H⟩ := of_if H
  refine kv g0 (cat c8) ?_
  refine kv g0 (faB 3 3) ?_
  refine kv g0 (faB 0 3) ?_
  refine kv g0 (ldB) ?_
  refine kv g0 (cnv .u8) ?_
  refine kb g0 (bsl 2 5 1 [.int .u8 0] (([IntKind.u8.wrap a0_3] : List Int).map (eI .u8))) ?_
  refine kv g0 (cvB (.row rfl)) ?_
  obtain ⟨c9, H⟩ := of_if H
  refine kv g0 (cat c9) ?_
  refine kv g0 (faB 3 3) ?_
  refine kv g0 (faB 1 4) ?_
  refine kv g0 (ldB) ?_
  obtain ⟨t10, A11, H⟩ := of_bind H
  refine kcS0 44 (.lit (.string t10)) [] g0 (cal (impl_four.ok A11) [] 9999 .n (hf := Tryd.func26)) rfl rfl ?_
  obtain ⟨c12, H⟩ := of_if H
  refine kv g0 (cat c12) ?_
  refine kv g0 (faB 3 3) ?_
  refine kv g0 (faB 2 5) ?_
  refine kv g0 (ldB) ?_
  obtain ⟨t13, A14, H⟩ := of_bind H
  refine kcS0 49 (.lit (.string t13)) [] g0 (cal (impl_four.ok A14) [] 9999 .n (hf := Tryd.func26)) rfl rfl ?_
  obtain ⟨c15, H⟩ := of_if H
  refine kv g0 (cat c15) ?_
  refine kv g0 (mv) ?_
  obtain ⟨c16, H⟩ := of_if H
  refine kv g0 (cat c16) ?_
  obtain ⟨t17, A18, H⟩ := of_bind H
  refine kcS0 53 (.tup [.lit (.string t17.1), .lit (.bool t17.2)]) [] g0 (cal (impl_Sealed.ok A18) [] 9999 .n (hf := Tryd.func43)) rfl rfl ?_
  refine kv g0 (ext) ?_
  refine kv g0 (ext) ?_
  refine kv g0 (asg) ?_
  refine kv g0 (asg) ?_
  refine wk_end_draw hM (by kernel_rfl) ?_
  refine ac_next ?_
  refine aw_ret ?_
  obtain rfl := Option.some.inj H
  exact acr hE [.tmp 2, .tmp 3] (.tmp (.tmp .nil)) (.many _ _ _) [] 9999
 rw [if_neg c3] at H
 refine aw_ifT ?_ (nT (bF c3))
 refine aw_grp1 ?_
 refine wk_start ?_
 refine kv g0 (asg) ?_
 refine kv g0 (asg) ?_
 refine wk_end ?_
 refine ac_next ?_
 refine aw_ret ?_
 refine ac_thenR ?_
 obtain rfl := Option.some.inj H
 exact acr hE [.tmp 2, .tmp 3] (.tmp (.tmp .nil)) (.many _ _ _) [] 9999
/-! impl_EntryText -/
def impl_EntryText.f (k : Nat) (a0_0 : Int) (a0_1 : Int) (a0_2 : Int) (a0_3 : Int) (a0_4 : Int) (a0_5 : Int) : Option (ByteArray) := (impl_FrameText.f k 1 a0_0 a0_1 a0_2 a0_3 a0_4 a0_5).bind fun t1 => some t1.1
theorem impl_EntryText.ok {k : Nat} {a0_0 : Int} {a0_1 : Int} {a0_2 : Int} {a0_3 : Int} {a0_4 : Int} {a0_5 : Int} {r : ByteArray} (H : impl_EntryText.f k a0_0 a0_1 a0_2 a0_3 a0_4 a0_5 = some r) : ACalls Tryd.prog 22 [] [.agg [.lit (.int .i64 a0_0), .lit (.int .i64 a0_1), .lit (.int .i64 a0_2), .lit (.int .i64 a0_3), .lit (.int .i64 a0_4), .lit (.int .i64 a0_5)]] [] (.lit (.string r)) := by
 refine acalls (fn := Tryd.f22) (nt := 17) Tryd.func22 rfl rfl (Nat.le_of_ble_eq_true rfl) fun E hE => ?_
 rw [impl_EntryText.f] at H
 refine aw_grp1 ?_
 refine wk_start ?_
 refine kb g0 (bxA 0) ?_
 refine kv g0 (asg) ?_
 refine wk_end ?_
 refine ac_next ?_
 refine aw_grp1 ?_
 refine wk_start ?_
 refine kv g0 (faB 0 0) ?_
 refine kv g0 (ldB) ?_
 refine kv g0 (faB 1 1) ?_
 refine kv g0 (ldB) ?_
 refine kv g0 (faB 2 2) ?_
 refine kv g0 (ldBA 4 [.lit (.int .i64 a0_2), .lit (.int .i64 a0_3), .lit (.int .i64 a0_4), .lit (.int .i64 a0_5)]) ?_
 refine kv g0 (bld [(0, 1), (1, 1), (2, 1), (3, 4)] [.int .i64 0, .int .i64 0, .int .i64 0, .int .i64 0, .int .i64 0, .int .i64 0, .int .i64 0] [.lit (.int .i64 1), .lit (.int .i64 a0_0), .lit (.int .i64 a0_1), .lit (.int .i64 a0_2), .lit (.int .i64 a0_3), .lit (.int .i64 a0_4), .lit (.int .i64 a0_5)]) ?_
 obtain ⟨t1, A2, H⟩ := of_bind H
 refine kcS0 13 (.tup [.lit (.string t1.1), .lit (.bool t1.2)]) [] g0 (cal (impl_FrameText.ok A2) [] 9999 .n (hf := Tryd.func33)) rfl rfl ?_
 refine kv g0 (mv) ?_
 refine kv g0 (ext) ?_
 refine kv g0 (ext) ?_
 refine kv g0 (asg) ?_
 refine kv g0 (asg) ?_
 refine wk_end ?_
 refine ac_next ?_
 refine aw_grp1 ?_
 refine wk_start ?_
 refine kv g0 (mv) ?_
 refine kv g0 (asg) ?_
 refine wk_end ?_
 refine ac_next ?_
 refine aw_ret ?_
 obtain rfl := Option.some.inj H
 exact acr hE [.tmp 2] (.tmp .nil) (.one _) [] 9999
/-! impl_chained -/
def impl_chained.l0 : Nat → (List S35) → (List ByteArray) → ByteArray → Int → Option ((List ByteArray))
 | 0, _, _, _, _ => none
 | k14 + 1, l0, q11, p12, p13 => if p13 < (l0.length : Int) then if 0 ≤ p13 then (impl_EntryText.f k14 ((rd_T35 l0 p13).f0) ((rd_T35 l0 p13).f1) ((rd_T35 l0 p13).f2.f0) ((rd_T35 l0 p13).f2.f1) ((rd_T35 l0 p13).f2.f2) ((rd_T35 l0 p13).f2.f3)).bind fun t17 => (if p12.size + t17.size ≤ 9223372036854775807 then if q11.length + ([p12 ++ t17] : List ByteArray).length < 8796093022208 then (impl_Digest.f k14 (p12 ++ t17)).bind fun t21 => impl_chained.l0 k14 l0 (q11 ++ ([p12 ++ t17] : List ByteArray)) t21 (wrap64 (p13 + 1)) else none else none) else none else some q11
def impl_chained.f (k : Nat) (l0 : List S35) : Option ((List ByteArray)) := (impl_Digest.f k ByteArray.empty).bind fun t1 => impl_chained.l0 k l0 ([] : List ByteArray) t1 0
theorem impl_chained.ok {k : Nat} {l0 : List S35} {r : (List ByteArray)} (H : impl_chained.f k l0 = some r) : ACalls Tryd.prog 13 [] [.sl .o 6 (l0.map e35)] [(0, .row 9 1 (r.map eT'))] (.row 0) := by
 refine acalls (fn := Tryd.f13) (nt := 28) Tryd.func13 rfl rfl (Nat.le_of_ble_eq_true rfl) fun E hE => ?_
 rw [impl_chained.f] at H
 refine aw_grp1 ?_
 refine wk_start ?_
 refine kv g0 (asg) ?_
 refine wk_end ?_
 refine ac_next ?_
 refine aw_grp1 ?_
 refine wk_start ?_
 refine kb g0 (bsl 0 9 1 [.string .empty] (([] : List ByteArray).map eT')) ?_
 refine kv g0 (asg) ?_
 refine wk_end ?_
 refine ac_next ?_
 refine aw_grp1 ?_
 refine wk_start ?_
 obtain ⟨t1, A2, H⟩ := of_bind H
 refine kcS0 9 (.lit (.string t1)) [] g0 (cal (impl_Digest.ok A2) [] 9999 .n (hf := Tryd.func14)) rfl rfl ?_
 refine kv g0 (asg) ?_
 refine wk_end ?_
 refine ac_next ?_
 refine aw_grp1 ?_
 refine aw_grp1 ?_
 refine wk_start ?_
 refine kv g0 (mv) ?_
 refine kv g0 (lnS lenE) ?_
 refine kv g0 (mv) ?_
 refine wk_end ?_
 refine ac_next ?_
 refine aw_block ?_
 refine aw_loop3 (fun (k_ : Nat) (q11 : List ByteArray) (p12 : ByteArray) (p13 : Int) => k_ ≤ k ∧ impl_chained.l0 k_ l0 q11 p12 p13 = some r) (fun (q11 : List ByteArray) (p12 : ByteArray) (p13 : Int) => ⟨[(3, .row 0), (4, .lit (.string p12)), (10, .sl .o 6 (l0.map e35)), (11, .lit (.int .i64 (l0.length : Int))), (12, .lit (.int .i64 p13))], [(0, .row 9 1 (q11.map eT'))]⟩) k ([] : List ByteArray) t1 0 ⟨Nat.le_refl _, H⟩ (fun K_ h_ => acw hE [(0, 0)] 9999 h_) (fun _ _ _ => by intro h_; have h_ := h_.2; rw [impl_chained.l0.eq_1] at h_; cases h_) ?_
 intro k14 q11 p12 p13 hq_ K23 hK24
 have hk14 := hq_.1
 have H := hq_.2
 clear hq_
 rw [impl_chained.l0.eq_2] at H
 refine aw_grp1 ?_
 refine wk_start ?_
 refine kv g0 (lss) ?_
 refine wk_end ?_
 refine ac_next ?_
 refine aw_grp1 ?_
 by_cases c15 : p13 < (l0.length : Int)
 ·rw [if_pos c15] at H
  refine aw_ifT ?_ (decide_eq_true c15)
  refine aw_skip ?_
  refine ac_next ?_
  refine aw_grp1 ?_
  refine aw_block ?_
  refine aw_grp1 ?_
  refine wk_start ?_
  obtain ⟨c16, H⟩ := of_if H
  refine kv g0 (ixS 35 (e35 (rd_T35 l0 p13)) c16 (getE (z := z35) c16 c15)) ?_
  refine kv g0 (ldRA 6 [.lit (.int .i64 ((rd_T35 l0 p13).f0)), .lit (.int .i64 ((rd_T35 l0 p13).f1)), .lit (.int .i64 ((rd_T35 l0 p13).f2.f0)), .lit (.int .i64 ((rd_T35 l0 p13).f2.f1)), .lit (.int .i64 ((rd_T35 l0 p13).f2.f2)), .lit (.int .i64 ((rd_T35 l0 p13).f2.f3))]) ?_
  refine kb g0 (alc 1 [.int .i64 0, .int .i64 0, .int .i64 0, .int .i64 0, .int .i64 0, .int .i64 0] [.lit (.int .i64 0), .lit (.int .i64 0), .lit (.int .i64 0), .lit (.int .i64 0), .lit (.int .i64 0), .lit (.int .i64 0)]) ?_
  refine ks g0 (stB 6 [.lit (.int .i64 ((rd_T35 l0 p13).f0)), .lit (.int .i64 ((rd_T35 l0 p13).f1)), .lit (.int .i64 ((rd_T35 l0 p13).f2.f0)), .lit (.int .i64 ((rd_T35 l0 p13).f2.f1)), .lit (.int .i64 ((rd_T35 l0 p13).f2.f2)), .lit (.int .i64 ((rd_T35 l0 p13).f2.f3))]) ?_
  refine wk_end ?_
  refine ac_next ?_
  refine aw_grp1 ?_
  refine wk_start ?_
  refine kv g0 (mv) ?_
  refine kv g0 (ldBA 6 [.lit (.int .i64 ((rd_T35 l0 p13).f0)), .lit (.int .i64 ((rd_T35 l0 p13).f1)), .lit (.int .i64 ((rd_T35 l0 p13).f2.f0)), .lit (.int .i64 ((rd_T35 l0 p13).f2.f1)), .lit (.int .i64 ((rd_T35 l0 p13).f2.f2)), .lit (.int .i64 ((rd_T35 l0 p13).f2.f3))]) ?_
  obtain ⟨t17, A18, H⟩ := of_bind H
  refine kcS0 18 (.lit (.string t17)) [] g0 (cal (impl_EntryText.ok A18) [] 9999 .n (hf := Tryd.func22)) rfl rfl ?_
  obtain ⟨c19, H⟩ := of_if H
  refine kv g0 (cat c19) ?_
  refine kv g0 (asg) ?_
  refine wk_end ?_
  refine ac_next ?_
  refine aw_grp1 ?_
  refine wk_start ?_
  refine kv g0 (mv) ?_
  refine kv g0 (mv) ?_
  refine kb g0 (bsl 2 9 1 [.string .empty] (([p12 ++ t17] : List ByteArray).map eT')) ?_
  obtain ⟨c20, H⟩ := of_if H
  refine kc g0 (apR 3 9 1 16 [.string .empty] ((q11 ++ ([p12 ++ t17] : List ByteArray)).map eT') (.row rfl) (apb c20 rfl) appE) ?_
  refine kv g0 (asg) ?_
  refine wk_end ?_
  refine ac_next ?_
  refine wk_start ?_
  refine kv g0 (mv) ?_
  obtain ⟨t21, A22, H⟩ := of_bind H
  refine kcS0 25 (.lit (.string t21)) [] g0 (cal (impl_Digest.ok A22) [] 9999 .n (hf := Tryd.func14)) rfl rfl ?_
  refine kv g0 (asg) ?_
  refine wk_end ?_
  refine ac_blkN ?_
  refine ac_next ?_
  refine wk_start ?_
  refine kv g0 (add6) ?_
  refine kv g0 (mv) ?_
  refine wk_end ?_
  refine ac_k ?_
  exact acw hE [(0, 3)] 9999 (hK24 k14 (q11 ++ ([p12 ++ t17] : List ByteArray)) t21 (wrap64 (p13 + 1)) (Nat.le_refl _) ⟨by omega, H⟩)
 rw [if_neg c15] at H
 refine aw_ifF ?_ (decide_eq_false c15)
 refine aw_exit ?_
 refine ac_then ?_
 refine ac_then ?_
 refine ac_hit rfl ?_
 refine ac_next ?_
 refine aw_grp1 ?_
 refine wk_start ?_
 refine kv g0 (mv) ?_
 refine kv g0 (asg) ?_
 refine wk_end ?_
 refine ac_next ?_
 refine aw_ret ?_
 obtain rfl := Option.some.inj H
 exact acr hE [.tmp 2] (.tmp .nil) (.one _) [(0, 0)] 9999
/-! impl_Parted -/
def impl_Parted.l0 : Nat → ((List ByteArray)) → ((List ByteArray)) → Int → Option (ByteArray × ByteArray × Bool)
 | 0, _, _, _ => none
 | k17 + 1, t2, t4, p16 => if p16 ≥ 0 then if 0 ≤ p16 then (if p16 < (t2.length : Int) then (if p16 < (t4.length : Int) then if ((rdOf ByteArray.empty t2 p16).toList == (rdOf ByteArray.empty t4 p16).toList) = true then impl_Parted.l0 k17 t2 t4 (wrap64 (p16 - 1)) else ((impl_Digest.f k17 (rdOf ByteArray.empty t2 p16)).bind fun t23 => ((impl_Digest.f k17 (rdOf ByteArray.empty t4 p16)).bind fun t25 => some ((rdOf ByteArray.empty t2 p16), (rdOf ByteArray.empty t4 p16), t23.toList == t25.toList))) else none) else none) else none else some (ByteArray.empty, ByteArray.empty, false)
def impl_Parted.f (k : Nat) (l0 : List S35) (l1 : List S35) : Option (ByteArray × ByteArray × Bool) := if (l0.length : Int) = (l1.length : Int) then (impl_chained.f k l0).bind fun t2 => ((impl_chained.f k l1).bind fun t4 => impl_Parted.l0 k t2 t4 (wrap64 ((t2.length : Int) - 1))) else some (ByteArray.empty, ByteArray.empty, false)
theorem impl_Parted.ok {k : Nat} {l0 : List S35} {l1 : List S35} {r : ByteArray × ByteArray × Bool} (H : impl_Parted.f k l0 l1 = some r) : ACalls Tryd.prog 7 [] [.sl .o 6 (l0.map e35), .sl .o 6 (l1.map e35)] [] (.tup [.lit (.string r.1), .lit (.string r.2.1), .lit (.bool r.2.2)]) := by
 refine acalls (fn := Tryd.f7) (nt := 54) Tryd.func7 rfl rfl (Nat.le_of_ble_eq_true rfl) fun E hE => ?_
 rw [impl_Parted.f] at H
 refine aw_grp1 ?_
 refine wk_start ?_
 refine kv g0 (asg) ?_
 refine kv g0 (asg) ?_
 refine kv g0 (asg) ?_
 refine wk_end ?_
 refine ac_next ?_
 refine aw_grp1 ?_
 refine aw_grp1 ?_
 refine wk_start ?_
 refine kv g0 (mv) ?_
 refine kv g0 (lnS lenE) ?_
 refine kv g0 (mv) ?_
 refine kv g0 (lnS lenE) ?_
 refine kv g0 (neq) ?_
 refine wk_end ?_
 refine ac_next ?_
 by_cases c1 : (l0.length : Int) = (l1.length : Int)
 ·rw [if_pos c1] at H
  refine aw_ifF ?_ (eM c1)
  refine aw_skip ?_
  refine ac_next ?_
  refine aw_grp1 ?_
  refine wk_start ?_
  refine kv g0 (mv) ?_
  obtain ⟨t2, A3, H⟩ := of_bind H
  refine kcS1 16 (.row 0) [(0, .row 9 1 (t2.map eT'))] g0 (cal (impl_chained.ok A3) [0] 9999 .n (hf := Tryd.func13)) rfl rfl ?_
  refine kv g0 (mv) ?_
  obtain ⟨t4, A5, H⟩ := of_bind H
  refine kcS1 18 (.row 1) [(1, .row 9 1 (t4.map eT'))] g0 (cal (impl_chained.ok A5) [1] 9999 .n (hf := Tryd.func13)) rfl rfl ?_
  refine kv g0 (asg) ?_
  refine kv g0 (asg) ?_
  refine wk_end ?_
  refine ac_next ?_
  refine aw_grp1 ?_
  refine aw_grp1 ?_
  refine wk_start ?_
  refine kv g0 (mv) ?_
  refine kv g0 (lnR lenE) ?_
  refine kv g0 (sub6) ?_
  refine kv g0 (asg) ?_
  refine wk_end ?_
  refine ac_next ?_
  refine aw_block ?_
  refine aw_loop1 (fun (k_ : Nat) (p16 : Int) => k_ ≤ k ∧ impl_Parted.l0 k_ t2 t4 p16 = some r) (fun (p16 : Int) => ⟨[(7, .row 0), (8, .row 1), (9, .lit (.int .i64 p16))], [(0, .row 9 1 (t2.map eT')), (1, .row 9 1 (t4.map eT'))]⟩) k (wrap64 ((t2.length : Int) - 1)) ⟨Nat.le_refl _, H⟩ (fun K_ h_ => acw hE [(0, 0), (1, 1)] 9999 h_) (fun _ => by intro h_; have h_ := h_.2; rw [impl_Parted.l0.eq_1] at h_; cases h_) ?_
  intro k17 p16 hq_ K27 hK28
  have hk17 := hq_.1
  have H := hq_.2
  clear hq_
  rw [impl_Parted.l0.eq_2] at H
  refine aw_grp1 ?_
  refine aw_grp1 ?_
  refine wk_start ?_
  refine kv g0 (mv) ?_
  refine kv g0 (geq) ?_
  refine wk_end ?_
  refine ac_next ?_
  by_cases c18 : p16 ≥ 0
  ·rw [if_pos c18] at H
   refine aw_ifT ?_ (decide_eq_true c18)
   refine aw_skip ?_
   refine ac_next ?_
   refine aw_grp1 ?_
   refine aw_block ?_
   refine aw_grp1 ?_
   refine wk_start ?_
   refine kv g0 (mv) ?_
   refine kv g0 (mv) ?_
   obtain ⟨c19, H⟩ := of_if H
   obtain ⟨c20, H⟩ := of_if H
   refine kv g0 (ixR 9 c19 (ltE c20)) ?_
   refine kv g0 (ldE (eT' (rdOf ByteArray.empty t2 p16)) (.lit (.string (rdOf ByteArray.empty t2 p16))) (getE (z := ByteArray.empty) c19 c20)) ?_
   refine kv g0 (mv) ?_
   refine kv g0 (mv) ?_
   obtain ⟨c21, H⟩ := of_if H
   refine kv g0 (ixR 9 c19 (ltE c21)) ?_
   refine kv g0 (ldE (eT' (rdOf ByteArray.empty t4 p16)) (.lit (.string (rdOf ByteArray.empty t4 p16))) (getE (z := ByteArray.empty) c19 c21)) ?_
   refine kv g0 (sne) ?_
   refine wk_end_draw hM (by kernel_rfl) ?_
   refine ac_next ?_
   by_cases c22 : ((rdOf ByteArray.empty t2 p16).toList == (rdOf ByteArray.empty t4 p16).toList) = true
   ·rw [if_pos c22] at H
    refine aw_ifF ?_ (nF c22)
    refine aw_skip ?_
    refine ac_blkN ?_
    refine ac_next ?_
    refine wk_start ?_
    refine kv g0 (mv) ?_
    refine kv g0 (sub6) ?_
    refine kv g0 (asg) ?_
    refine wk_end ?_
    refine ac_k ?_
    exact acw hE [(0, 0), (1, 1)] 9999 (hK28 k17 (wrap64 (p16 - 1)) (Nat.le_refl _) ⟨by omega, H⟩)
   rw [if_neg c22] at H
   refine aw_ifT ?_ (nT (bF c22))
   refine aw_grp1 ?_
   refine wk_start ?_
   refine kv g0 (mv) ?_
   refine kv g0 (mv) ?_
   refine kv g0 (ixR 9 c19 (ltE c20)) ?_
   refine kv g0 (ldE (eT' (rdOf ByteArray.empty t2 p16)) (.lit (.string (rdOf ByteArray.empty t2 p16))) (getE (z := ByteArray.empty) c19 c20)) ?_
   refine kv g0 (mv) ?_
   refine kv g0 (mv) ?_
   refine kv g0 (ixR 9 c19 (ltE c21)) ?_
   refine kv g0 (ldE (eT' (rdOf ByteArray.empty t4 p16)) (.lit (.string (rdOf ByteArray.empty t4 p16))) (getE (z := ByteArray.empty) c19 c21)) ?_
   refine kv g0 (mv) ?_
   refine kv g0 (mv) ?_
   refine kv g0 (ixR 9 c19 (ltE c20)) ?_
   refine kv g0 (ldE (eT' (rdOf ByteArray.empty t2 p16)) (.lit (.string (rdOf ByteArray.empty t2 p16))) (getE (z := ByteArray.empty) c19 c20)) ?_
   obtain ⟨t23, A24, H⟩ := of_bind H
   refine kcS0 47 (.lit (.string t23)) [] g0 (cal (impl_Digest.ok A24) [] 9999 .n (hf := Tryd.func14)) rfl rfl ?_
   refine kv g0 (mv) ?_
   refine kv g0 (mv) ?_
   refine kv g0 (ixR 9 c19 (ltE c21)) ?_
   refine kv g0 (ldE (eT' (rdOf ByteArray.empty t4 p16)) (.lit (.string (rdOf ByteArray.empty t4 p16))) (getE (z := ByteArray.empty) c19 c21)) ?_
   obtain ⟨t25, A26, H⟩ := of_bind H
   refine kcS0 52 (.lit (.string t25)) [] g0 (cal (impl_Digest.ok A26) [] 9999 .n (hf := Tryd.func14)) rfl rfl ?_
   refine kv g0 (seq) ?_
   refine kv g0 (asg) ?_
   refine kv g0 (asg) ?_
   refine kv g0 (asg) ?_
   refine wk_end_draw hM (by kernel_rfl) ?_
   refine ac_next ?_
   refine aw_ret ?_
   refine ac_blkR ?_
   refine ac_thenR ?_
   refine ac_thenR ?_
   refine ac_blkR ?_
   refine ac_thenR ?_
   obtain rfl := Option.some.inj H
   exact acr hE [.tmp 4, .tmp 5, .tmp 6] (.tmp (.tmp (.tmp .nil))) (.many _ _ _) [] 9999
  rw [if_neg c18] at H
  refine aw_ifF ?_ (decide_eq_false c18)
  refine aw_exit ?_
  refine ac_then ?_
  refine ac_then ?_
  refine ac_hit rfl ?_
  refine ac_next ?_
  refine aw_grp1 ?_
  refine wk_start ?_
  refine kv g0 (asg) ?_
  refine kv g0 (asg) ?_
  refine kv g0 (asg) ?_
  refine wk_end ?_
  refine ac_next ?_
  refine aw_ret ?_
  obtain rfl := Option.some.inj H
  exact acr hE [.tmp 4, .tmp 5, .tmp 6] (.tmp (.tmp (.tmp .nil))) (.many _ _ _) [] 9999
 rw [if_neg c1] at H
 refine aw_ifT ?_ (eN c1)
 refine aw_grp1 ?_
 refine wk_start ?_
 refine kv g0 (asg) ?_
 refine kv g0 (asg) ?_
 refine kv g0 (asg) ?_
 refine wk_end ?_
 refine ac_next ?_
 refine aw_ret ?_
 refine ac_thenR ?_
 obtain rfl := Option.some.inj H
 exact acr hE [.tmp 4, .tmp 5, .tmp 6] (.tmp (.tmp (.tmp .nil))) (.many _ _ _) [] 9999
/-! laws_eqItem -/
def laws_eqItem.f (a0_0 : Int) (a0_1 : Int) (a0_2 : Int) (a0_3 : Int) (a1_0 : Int) (a1_1 : Int) (a1_2 : Int) (a1_3 : Int) : Option (Bool) := if a0_0 = a1_0 then if a0_1 = a1_1 then if a0_2 = a1_2 then if a0_3 = a1_3 then some true else some false else some false else some false else some false
theorem laws_eqItem.ok {a0_0 : Int} {a0_1 : Int} {a0_2 : Int} {a0_3 : Int} {a1_0 : Int} {a1_1 : Int} {a1_2 : Int} {a1_3 : Int} {r : Bool} (H : laws_eqItem.f a0_0 a0_1 a0_2 a0_3 a1_0 a1_1 a1_2 a1_3 = some r) : ACalls Tryd.prog 27 [] [.agg [.lit (.int .i64 a0_0), .lit (.int .i64 a0_1), .lit (.int .i64 a0_2), .lit (.int .i64 a0_3)], .agg [.lit (.int .i64 a1_0), .lit (.int .i64 a1_1), .lit (.int .i64 a1_2), .lit (.int .i64 a1_3)]] [] (.lit (.bool r)) := by
 refine acalls (fn := Tryd.f27) (nt := 25) Tryd.func27 rfl rfl (Nat.le_of_ble_eq_true rfl) fun E hE => ?_
 rw [laws_eqItem.f] at H
 refine aw_grp1 ?_
 refine wk_start ?_
 refine kb g0 (bxA 0) ?_
 refine kb g0 (bxA 1) ?_
 refine kv g0 (asg) ?_
 refine wk_end ?_
 refine ac_next ?_
 refine aw_grp1 ?_
 refine aw_grp1 ?_
 refine wk_start ?_
 refine kv g0 (faB 0 0) ?_
 refine kv g0 (ldB) ?_
 refine kv g0 (faB 0 0) ?_
 refine kv g0 (ldB) ?_
 refine kv g0 (neq) ?_
 refine wk_end ?_
 refine ac_next ?_
 by_cases c1 : a0_0 = a1_0
 ·rw [if_pos c1] at H
  refine aw_ifF ?_ (eM c1)
  refine aw_skip ?_
  refine ac_next ?_
  refine aw_grp1 ?_
  refine aw_grp1 ?_
  refine wk_start ?_
  refine kv g0 (faB 1 1) ?_
  refine kv g0 (ldB) ?_
  refine kv g0 (faB 1 1) ?_
  refine kv g0 (ldB) ?_
  refine kv g0 (neq) ?_
  refine wk_end ?_
  refine ac_next ?_
  by_cases c2 : a0_1 = a1_1
  ·rw [if_pos c2] at H
   refine aw_ifF ?_ (eM c2)
   refine aw_skip ?_
   refine ac_next ?_
   refine aw_grp1 ?_
   refine aw_grp1 ?_
   refine wk_start ?_
   refine kv g0 (faB 2 2) ?_
   refine kv g0 (ldB) ?_
   refine kv g0 (faB 2 2) ?_
   refine kv g0 (ldB) ?_
   refine kv g0 (neq) ?_
   refine wk_end ?_
   refine ac_next ?_
   by_cases c3 : a0_2 = a1_2
   ·rw [if_pos c3] at H
    refine aw_ifF ?_ (eM c3)
    refine aw_skip ?_
    refine ac_next ?_
    refine aw_grp1 ?_
    refine aw_grp1 ?_
    refine wk_start ?_
    refine kv g0 (faB 3 3) ?_
    refine kv g0 (ldB) ?_
    refine kv g0 (faB 3 3) ?_
    refine kv g0 (ldB) ?_
    refine kv g0 (neq) ?_
    refine wk_end ?_
    refine ac_next ?_
    by_cases c4 : a0_3 = a1_3
    ·rw [if_pos c4] at H
     refine aw_ifF ?_ (eM c4)
     refine aw_skip ?_
     refine ac_next ?_
     refine aw_grp1 ?_
     refine wk_start ?_
     refine kv g0 (asg) ?_
     refine wk_end ?_
     refine ac_next ?_
     refine aw_ret ?_
     obtain rfl := Option.some.inj H
     exact acr hE [.tmp 4] (.tmp .nil) (.one _) [] 9999
    rw [if_neg c4] at H
    refine aw_ifT ?_ (eN c4)
    refine aw_grp1 ?_
    refine wk_start ?_
    refine kv g0 (asg) ?_
    refine wk_end ?_
    refine ac_next ?_
    refine aw_ret ?_
    refine ac_thenR ?_
    obtain rfl := Option.some.inj H
    exact acr hE [.tmp 4] (.tmp .nil) (.one _) [] 9999
   rw [if_neg c3] at H
   refine aw_ifT ?_ (eN c3)
   refine aw_grp1 ?_
   refine wk_start ?_
   refine kv g0 (asg) ?_
   refine wk_end ?_
   refine ac_next ?_
   refine aw_ret ?_
   refine ac_thenR ?_
   obtain rfl := Option.some.inj H
   exact acr hE [.tmp 4] (.tmp .nil) (.one _) [] 9999
  rw [if_neg c2] at H
  refine aw_ifT ?_ (eN c2)
  refine aw_grp1 ?_
  refine wk_start ?_
  refine kv g0 (asg) ?_
  refine wk_end ?_
  refine ac_next ?_
  refine aw_ret ?_
  refine ac_thenR ?_
  obtain rfl := Option.some.inj H
  exact acr hE [.tmp 4] (.tmp .nil) (.one _) [] 9999
 rw [if_neg c1] at H
 refine aw_ifT ?_ (eN c1)
 refine aw_grp1 ?_
 refine wk_start ?_
 refine kv g0 (asg) ?_
 refine wk_end ?_
 refine ac_next ?_
 refine aw_ret ?_
 refine ac_thenR ?_
 obtain rfl := Option.some.inj H
 exact acr hE [.tmp 4] (.tmp .nil) (.one _) [] 9999
/-! laws_eqEntry -/
def laws_eqEntry.f (a0_0 : Int) (a0_1 : Int) (a0_2 : Int) (a0_3 : Int) (a0_4 : Int) (a0_5 : Int) (a1_0 : Int) (a1_1 : Int) (a1_2 : Int) (a1_3 : Int) (a1_4 : Int) (a1_5 : Int) : Option (Bool) := if a0_0 = a1_0 then if a0_1 = a1_1 then (laws_eqItem.f a0_2 a0_3 a0_4 a0_5 a1_2 a1_3 a1_4 a1_5).bind fun t3 => if t3 = true then some true else some false else some false else some false
theorem laws_eqEntry.ok {a0_0 : Int} {a0_1 : Int} {a0_2 : Int} {a0_3 : Int} {a0_4 : Int} {a0_5 : Int} {a1_0 : Int} {a1_1 : Int} {a1_2 : Int} {a1_3 : Int} {a1_4 : Int} {a1_5 : Int} {r : Bool} (H : laws_eqEntry.f a0_0 a0_1 a0_2 a0_3 a0_4 a0_5 a1_0 a1_1 a1_2 a1_3 a1_4 a1_5 = some r) : ACalls Tryd.prog 15 [] [.agg [.lit (.int .i64 a0_0), .lit (.int .i64 a0_1), .lit (.int .i64 a0_2), .lit (.int .i64 a0_3), .lit (.int .i64 a0_4), .lit (.int .i64 a0_5)], .agg [.lit (.int .i64 a1_0), .lit (.int .i64 a1_1), .lit (.int .i64 a1_2), .lit (.int .i64 a1_3), .lit (.int .i64 a1_4), .lit (.int .i64 a1_5)]] [] (.lit (.bool r)) := by
 refine acalls (fn := Tryd.f15) (nt := 21) Tryd.func15 rfl rfl (Nat.le_of_ble_eq_true rfl) fun E hE => ?_
 rw [laws_eqEntry.f] at H
 refine aw_grp1 ?_
 refine wk_start ?_
 refine kb g0 (bxA 0) ?_
 refine kb g0 (bxA 1) ?_
 refine kv g0 (asg) ?_
 refine wk_end ?_
 refine ac_next ?_
 refine aw_grp1 ?_
 refine aw_grp1 ?_
 refine wk_start ?_
 refine kv g0 (faB 0 0) ?_
 refine kv g0 (ldB) ?_
 refine kv g0 (faB 0 0) ?_
 refine kv g0 (ldB) ?_
 refine kv g0 (neq) ?_
 refine wk_end ?_
 refine ac_next ?_
 by_cases c1 : a0_0 = a1_0
 ·rw [if_pos c1] at H
  refine aw_ifF ?_ (eM c1)
  refine aw_skip ?_
  refine ac_next ?_
  refine aw_grp1 ?_
  refine aw_grp1 ?_
  refine wk_start ?_
  refine kv g0 (faB 1 1) ?_
  refine kv g0 (ldB) ?_
  refine kv g0 (faB 1 1) ?_
  refine kv g0 (ldB) ?_
  refine kv g0 (neq) ?_
  refine wk_end ?_
  refine ac_next ?_
  by_cases c2 : a0_1 = a1_1
  ·rw [if_pos c2] at H
   refine aw_ifF ?_ (eM c2)
   refine aw_skip ?_
   refine ac_next ?_
   refine aw_grp1 ?_
   refine aw_grp1 ?_
   refine wk_start ?_
   refine kv g0 (faB 2 2) ?_
   refine kv g0 (ldBA 4 [.lit (.int .i64 a0_2), .lit (.int .i64 a0_3), .lit (.int .i64 a0_4), .lit (.int .i64 a0_5)]) ?_
   refine kv g0 (faB 2 2) ?_
   refine kv g0 (ldBA 4 [.lit (.int .i64 a1_2), .lit (.int .i64 a1_3), .lit (.int .i64 a1_4), .lit (.int .i64 a1_5)]) ?_
   obtain ⟨t3, A4, H⟩ := of_bind H
   refine kcS0 19 (.lit (.bool t3)) [] g0 (cal (laws_eqItem.ok A4) [] 9999 .n (hf := Tryd.func27)) rfl rfl ?_
   refine kv g0 (not_) ?_
   refine wk_end ?_
   refine ac_next ?_
   by_cases c5 : t3 = true
   ·rw [if_pos c5] at H
    refine aw_ifF ?_ (nF c5)
    refine aw_skip ?_
    refine ac_next ?_
    refine aw_grp1 ?_
    refine wk_start ?_
    refine kv g0 (asg) ?_
    refine wk_end ?_
    refine ac_next ?_
    refine aw_ret ?_
    obtain rfl := Option.some.inj H
    exact acr hE [.tmp 4] (.tmp .nil) (.one _) [] 9999
   rw [if_neg c5] at H
   refine aw_ifT ?_ (nT (bF c5))
   refine aw_grp1 ?_
   refine wk_start ?_
   refine kv g0 (asg) ?_
   refine wk_end ?_
   refine ac_next ?_
   refine aw_ret ?_
   refine ac_thenR ?_
   obtain rfl := Option.some.inj H
   exact acr hE [.tmp 4] (.tmp .nil) (.one _) [] 9999
  rw [if_neg c2] at H
  refine aw_ifT ?_ (eN c2)
  refine aw_grp1 ?_
  refine wk_start ?_
  refine kv g0 (asg) ?_
  refine wk_end ?_
  refine ac_next ?_
  refine aw_ret ?_
  refine ac_thenR ?_
  obtain rfl := Option.some.inj H
  exact acr hE [.tmp 4] (.tmp .nil) (.one _) [] 9999
 rw [if_neg c1] at H
 refine aw_ifT ?_ (eN c1)
 refine aw_grp1 ?_
 refine wk_start ?_
 refine kv g0 (asg) ?_
 refine wk_end ?_
 refine ac_next ?_
 refine aw_ret ?_
 refine ac_thenR ?_
 obtain rfl := Option.some.inj H
 exact acr hE [.tmp 4] (.tmp .nil) (.one _) [] 9999
/-! laws_eqEntryS -/
def laws_eqEntryS.l0 : Nat → (List S35) → (List S35) → Int → Option (Bool)
 | 0, _, _, _ => none
 | k9 + 1, l0, l1, p8 => if p8 < (l0.length : Int) then if 0 ≤ p8 then (if p8 < (l1.length : Int) then ((laws_eqEntry.f ((rd_T35 l0 p8).f0) ((rd_T35 l0 p8).f1) ((rd_T35 l0 p8).f2.f0) ((rd_T35 l0 p8).f2.f1) ((rd_T35 l0 p8).f2.f2) ((rd_T35 l0 p8).f2.f3) ((rd_T35 l1 p8).f0) ((rd_T35 l1 p8).f1) ((rd_T35 l1 p8).f2.f0) ((rd_T35 l1 p8).f2.f1) ((rd_T35 l1 p8).f2.f2) ((rd_T35 l1 p8).f2.f3)).bind fun t13 => if t13 = true then laws_eqEntryS.l0 k9 l0 l1 (wrap64 (p8 + 1)) else some false) else none) else none else some true
def laws_eqEntryS.f (k : Nat) (l0 : List S35) (l1 : List S35) : Option (Bool) := if (l0.length : Int) = (l1.length : Int) then laws_eqEntryS.l0 k l0 l1 0 else some false
theorem laws_eqEntryS.ok {k : Nat} {l0 : List S35} {l1 : List S35} {r : Bool} (H : laws_eqEntryS.f k l0 l1 = some r) : ACalls Tryd.prog 8 [] [.sl .o 6 (l0.map e35), .sl .o 6 (l1.map e35)] [] (.lit (.bool r)) := by
 refine acalls (fn := Tryd.f8) (nt := 27) Tryd.func8 rfl rfl (Nat.le_of_ble_eq_true rfl) fun E hE => ?_
 rw [laws_eqEntryS.f] at H
 refine aw_grp1 ?_
 refine wk_start ?_
 refine kv g0 (asg) ?_
 refine wk_end ?_
 refine ac_next ?_
 refine aw_grp1 ?_
 refine aw_grp1 ?_
 refine wk_start ?_
 refine kv g0 (mv) ?_
 refine kv g0 (lnS lenE) ?_
 refine kv g0 (mv) ?_
 refine kv g0 (lnS lenE) ?_
 refine kv g0 (neq) ?_
 refine wk_end ?_
 refine ac_next ?_
 by_cases c1 : (l0.length : Int) = (l1.length : Int)
 ·rw [if_pos c1] at H
  refine aw_ifF ?_ (eM c1)
  refine aw_skip ?_
  refine ac_next ?_
  refine aw_grp1 ?_
  refine aw_grp1 ?_
  refine wk_start ?_
  refine kv g0 (asg) ?_
  refine wk_end ?_
  refine ac_next ?_
  refine aw_block ?_
  refine aw_loop1 (fun (k_ : Nat) (p8 : Int) => k_ ≤ k ∧ laws_eqEntryS.l0 k_ l0 l1 p8 = some r) (fun (p8 : Int) => ⟨[(0, .sl .o 6 (l0.map e35)), (1, .sl .o 6 (l1.map e35)), (5, .lit (.int .i64 p8))], []⟩) k 0 ⟨Nat.le_refl _, H⟩ (fun K_ h_ => acw hE [] 9999 h_) (fun _ => by intro h_; have h_ := h_.2; rw [laws_eqEntryS.l0.eq_1] at h_; cases h_) ?_
  intro k9 p8 hq_ K16 hK17
  have hk9 := hq_.1
  have H := hq_.2
  clear hq_
  rw [laws_eqEntryS.l0.eq_2] at H
  refine aw_grp1 ?_
  refine aw_grp1 ?_
  refine wk_start ?_
  refine kv g0 (mv) ?_
  refine kv g0 (mv) ?_
  refine kv g0 (lnS lenE) ?_
  refine kv g0 (lss) ?_
  refine wk_end ?_
  refine ac_next ?_
  by_cases c10 : p8 < (l0.length : Int)
  ·rw [if_pos c10] at H
   refine aw_ifT ?_ (decide_eq_true c10)
   refine aw_skip ?_
   refine ac_next ?_
   refine aw_grp1 ?_
   refine aw_block ?_
   refine aw_grp1 ?_
   refine wk_start ?_
   refine kv g0 (mv) ?_
   refine kv g0 (mv) ?_
   obtain ⟨c11, H⟩ := of_if H
   refine kv g0 (ixS 35 (e35 (rd_T35 l0 p8)) c11 (getE (z := z35) c11 c10)) ?_
   refine kv g0 (ldRA 6 [.lit (.int .i64 ((rd_T35 l0 p8).f0)), .lit (.int .i64 ((rd_T35 l0 p8).f1)), .lit (.int .i64 ((rd_T35 l0 p8).f2.f0)), .lit (.int .i64 ((rd_T35 l0 p8).f2.f1)), .lit (.int .i64 ((rd_T35 l0 p8).f2.f2)), .lit (.int .i64 ((rd_T35 l0 p8).f2.f3))]) ?_
   refine kv g0 (mv) ?_
   refine kv g0 (mv) ?_
   obtain ⟨c12, H⟩ := of_if H
   refine kv g0 (ixS 35 (e35 (rd_T35 l1 p8)) c11 (getE (z := z35) c11 c12)) ?_
   refine kv g0 (ldRA 6 [.lit (.int .i64 ((rd_T35 l1 p8).f0)), .lit (.int .i64 ((rd_T35 l1 p8).f1)), .lit (.int .i64 ((rd_T35 l1 p8).f2.f0)), .lit (.int .i64 ((rd_T35 l1 p8).f2.f1)), .lit (.int .i64 ((rd_T35 l1 p8).f2.f2)), .lit (.int .i64 ((rd_T35 l1 p8).f2.f3))]) ?_
   obtain ⟨t13, A14, H⟩ := of_bind H
   refine kcS0 25 (.lit (.bool t13)) [] g0 (cal (laws_eqEntry.ok A14) [] 9999 .n (hf := Tryd.func15)) rfl rfl ?_
   refine kv g0 (not_) ?_
   refine wk_end_draw hM (by kernel_rfl) ?_
   refine ac_next ?_
   by_cases c15 : t13 = true
   ·rw [if_pos c15] at H
    refine aw_ifF ?_ (nF c15)
    refine aw_skip ?_
    refine ac_blkN ?_
    refine ac_next ?_
    refine wk_start ?_
    refine kv g0 (mv) ?_
    refine kv g0 (add6) ?_
    refine kv g0 (asg) ?_
    refine wk_end ?_
    refine ac_k ?_
    exact acw hE [] 9999 (hK17 k9 (wrap64 (p8 + 1)) (Nat.le_refl _) ⟨by omega, H⟩)
   rw [if_neg c15] at H
   refine aw_ifT ?_ (nT (bF c15))
   refine aw_grp1 ?_
   refine wk_start ?_
   refine kv g0 (asg) ?_
   refine wk_end ?_
   refine ac_next ?_
   refine aw_ret ?_
   refine ac_blkR ?_
   refine ac_thenR ?_
   refine ac_thenR ?_
   refine ac_blkR ?_
   refine ac_thenR ?_
   obtain rfl := Option.some.inj H
   exact acr hE [.tmp 4] (.tmp .nil) (.one _) [] 9999
  rw [if_neg c10] at H
  refine aw_ifF ?_ (decide_eq_false c10)
  refine aw_exit ?_
  refine ac_then ?_
  refine ac_then ?_
  refine ac_hit rfl ?_
  refine ac_next ?_
  refine aw_grp1 ?_
  refine wk_start ?_
  refine kv g0 (asg) ?_
  refine wk_end ?_
  refine ac_next ?_
  refine aw_ret ?_
  obtain rfl := Option.some.inj H
  exact acr hE [.tmp 4] (.tmp .nil) (.one _) [] 9999
 rw [if_neg c1] at H
 refine aw_ifT ?_ (eN c1)
 refine aw_grp1 ?_
 refine wk_start ?_
 refine kv g0 (asg) ?_
 refine wk_end ?_
 refine ac_next ?_
 refine aw_ret ?_
 refine ac_thenR ?_
 obtain rfl := Option.some.inj H
 exact acr hE [.tmp 4] (.tmp .nil) (.one _) [] 9999
/-! laws_FnExactParted -/
def laws_FnExactParted.f (k : Nat) (l0 : List S40) (l1 : List S40) : Option (Bool) := (laws_szEntryS.f l0 1048576).bind fun t1 => if t1 < 0 then some true else (laws_szEntryS.f l1 t1).bind fun t4 => if t4 < 0 then some true else (laws_toEntryS.f k l0).bind fun t7 => ((laws_toEntryS.f k l1).bind fun t9 => ((spec_Parted.f k t7 t9).bind fun t11 => (laws_toEntryS.f k l0).bind fun t13 => (laws_toEntryS.f k l1).bind fun t15 => (impl_Parted.f k t13 t15).bind fun t17 => if (t17.1.toList == t11.1.toList) = true then (if (t17.2.1.toList == t11.2.1.toList) = true then if t17.2.2 = t11.2.2 then (laws_toEntryS.f k l0).bind fun t22 => ((laws_eqEntryS.f k t13 t22).bind fun t24 => if t24 = true then (laws_toEntryS.f k l1).bind fun t27 => ((laws_eqEntryS.f k t15 t27).bind fun t29 => if t29 = true then some true else some false) else some false) else some false else some false) else some false))
theorem laws_FnExactParted.ok {k : Nat} {l0 : List S40} {l1 : List S40} {r : Bool} (H : laws_FnExactParted.f k l0 l1 = some r) : ACalls Tryd.prog 3 [] [.sl .o 6 (l0.map e40), .sl .o 6 (l1.map e40)] [] (.lit (.bool r)) := by
 refine acalls (fn := Tryd.f3) (nt := 67) Tryd.func3 rfl rfl (Nat.le_of_ble_eq_true rfl) fun E hE => ?_
 rw [laws_FnExactParted.f] at H
 refine aw_grp1 ?_
 refine wk_start ?_
 refine kv g0 (asg) ?_
 refine wk_end ?_
 refine ac_next ?_
 refine aw_grp1 ?_
 refine wk_start ?_
 refine kv g0 (asg) ?_
 refine wk_end ?_
 refine ac_next ?_
 refine aw_grp1 ?_
 refine wk_start ?_
 refine kv g0 (mv) ?_
 refine kv g0 (mv) ?_
 obtain ⟨t1, A2, H⟩ := of_bind H
 refine kcS0 16 (.lit (.int .i64 t1)) [] g0 (cal (laws_szEntryS.ok A2) [] 9999 .n (hf := Tryd.func4)) rfl rfl ?_
 refine kv g0 (asg) ?_
 refine wk_end ?_
 refine ac_next ?_
 refine aw_grp1 ?_
 refine aw_grp1 ?_
 refine wk_start ?_
 refine kv g0 (mv) ?_
 refine kv g0 (lss) ?_
 refine wk_end ?_
 refine ac_next ?_
 by_cases c3 : t1 < 0
 ·rw [if_pos c3] at H
  refine aw_ifT ?_ (decide_eq_true c3)
  refine aw_grp1 ?_
  refine wk_start ?_
  refine kv g0 (asg) ?_
  refine wk_end ?_
  refine ac_next ?_
  refine aw_ret ?_
  refine ac_thenR ?_
  obtain rfl := Option.some.inj H
  exact acr hE [.tmp 4] (.tmp .nil) (.one _) [] 9999
 rw [if_neg c3] at H
 refine aw_ifF ?_ (decide_eq_false c3)
 refine aw_skip ?_
 refine ac_next ?_
 refine aw_grp1 ?_
 refine wk_start ?_
 refine kv g0 (mv) ?_
 refine kv g0 (mv) ?_
 obtain ⟨t4, A5, H⟩ := of_bind H
 refine kcS0 21 (.lit (.int .i64 t4)) [] g0 (cal (laws_szEntryS.ok A5) [] 9999 .n (hf := Tryd.func4)) rfl rfl ?_
 refine kv g0 (asg) ?_
 refine wk_end ?_
 refine ac_next ?_
 refine aw_grp1 ?_
 refine aw_grp1 ?_
 refine wk_start ?_
 refine kv g0 (mv) ?_
 refine kv g0 (lss) ?_
 refine wk_end ?_
 refine ac_next ?_
 by_cases c6 : t4 < 0
 ·rw [if_pos c6] at H
  refine aw_ifT ?_ (decide_eq_true c6)
  refine aw_grp1 ?_
  refine wk_start ?_
  refine kv g0 (asg) ?_
  refine wk_end ?_
  refine ac_next ?_
  refine aw_ret ?_
  refine ac_thenR ?_
  obtain rfl := Option.some.inj H
  exact acr hE [.tmp 4] (.tmp .nil) (.one _) [] 9999
 rw [if_neg c6] at H
 refine aw_ifF ?_ (decide_eq_false c6)
 refine aw_skip ?_
 refine ac_next ?_
 refine aw_grp1 ?_
 refine wk_start ?_
 refine kv g0 (mv) ?_
 obtain ⟨t7, A8, H⟩ := of_bind H
 refine kcS1 26 (.row 0) [(0, .row 35 6 (t7.map e35))] g0 (cal (laws_toEntryS.ok A8) [0] 9999 .n (hf := Tryd.func6)) rfl rfl ?_
 refine kv g0 (mv) ?_
 obtain ⟨t9, A10, H⟩ := of_bind H
 refine kcS1 28 (.row 1) [(1, .row 35 6 (t9.map e35))] g0 (cal (laws_toEntryS.ok A10) [1] 9999 .n (hf := Tryd.func6)) rfl rfl ?_
 obtain ⟨t11, A12, H⟩ := of_bind H
 refine kcS0 29 (.tup [.lit (.string t11.1), .lit (.string t11.2.1), .lit (.bool t11.2.2)]) [] g0 (cal (spec_Parted.ok A12) [] 9999 .n (hf := Tryd.func5)) rfl rfl ?_
 refine kv g0 (mv) ?_
 refine kv g0 (ext) ?_
 refine kv g0 (ext) ?_
 refine kv g0 (ext) ?_
 refine kv g0 (asg) ?_
 refine kv g0 (asg) ?_
 refine kv g0 (asg) ?_
 refine wk_end ?_
 refine ac_next ?_
 refine aw_grp1 ?_
 refine wk_start ?_
 refine kv g0 (mv) ?_
 obtain ⟨t13, A14, H⟩ := of_bind H
 refine kcS1 34 (.row 2) [(2, .row 35 6 (t13.map e35))] g0 (cal (laws_toEntryS.ok A14) [2] 9999 .n (hf := Tryd.func6)) rfl rfl ?_
 refine kv g0 (asg) ?_
 refine wk_end ?_
 refine ac_next ?_
 refine aw_grp1 ?_
 refine wk_start ?_
 refine kv g0 (mv) ?_
 obtain ⟨t15, A16, H⟩ := of_bind H
 refine kcS1 36 (.row 3) [(3, .row 35 6 (t15.map e35))] g0 (cal (laws_toEntryS.ok A16) [3] 9999 .n (hf := Tryd.func6)) rfl rfl ?_
 refine kv g0 (asg) ?_
 refine wk_end ?_
 refine ac_next ?_
 refine aw_grp1 ?_
 refine wk_start ?_
 refine kv g0 (mv) ?_
 refine kv g0 (mv) ?_
 obtain ⟨t17, A18, H⟩ := of_bind H
 refine kcS0 40 (.tup [.lit (.string t17.1), .lit (.string t17.2.1), .lit (.bool t17.2.2)]) [] g0 (cal (impl_Parted.ok A18) [] 9999 .n (hf := Tryd.func7)) rfl rfl ?_
 refine kv g0 (mv) ?_
 refine kv g0 (ext) ?_
 refine kv g0 (ext) ?_
 refine kv g0 (ext) ?_
 refine kv g0 (asg) ?_
 refine kv g0 (asg) ?_
 refine kv g0 (asg) ?_
 refine wk_end ?_
 refine ac_next ?_
 refine aw_grp1 ?_
 refine aw_grp1 ?_
 refine wk_start ?_
 refine kv g0 (mv) ?_
 refine kv g0 (mv) ?_
 refine kv g0 (sne) ?_
 refine kv g0 (mv) ?_
 by_cases c19 : (t17.1.toList == t11.1.toList) = true
 ·rw [if_pos c19] at H
  refine kv (g1 (nF c19)) (mv) ?_
  refine kv (g1 (nF c19)) (mv) ?_
  refine kv (g1 (nF c19)) (sne) ?_
  refine kv g0 (pkF (nF c19)) ?_
  refine kv g0 (mv) ?_
  by_cases c20 : (t17.2.1.toList == t11.2.1.toList) = true
  ·rw [if_pos c20] at H
   refine kv (g1 (nF c20)) (mv) ?_
   refine kv (g1 (nF c20)) (mv) ?_
   refine kv (g1 (nF c20)) (bne) ?_
   refine kv g0 (pkF (nF c20)) ?_
   refine wk_end ?_
   refine ac_next ?_
   by_cases c21 : t17.2.2 = t11.2.2
   ·rw [if_pos c21] at H
    refine aw_ifF ?_ (nF (eTb c21))
    refine aw_skip ?_
    refine ac_next ?_
    refine aw_grp1 ?_
    refine aw_grp1 ?_
    refine wk_start ?_
    refine kv g0 (mv) ?_
    refine kv g0 (mv) ?_
    obtain ⟨t22, A23, H⟩ := of_bind H
    refine kcS1 59 (.row 4) [(4, .row 35 6 (t22.map e35))] g0 (cal (laws_toEntryS.ok A23) [4] 9999 .n (hf := Tryd.func6)) rfl rfl ?_
    obtain ⟨t24, A25, H⟩ := of_bind H
    refine kcS0 60 (.lit (.bool t24)) [] g0 (cal (laws_eqEntryS.ok A25) [] 9999 .n (hf := Tryd.func8)) rfl rfl ?_
    refine kv g0 (not_) ?_
    refine wk_end ?_
    refine ac_next ?_
    by_cases c26 : t24 = true
    ·rw [if_pos c26] at H
     refine aw_ifF ?_ (nF c26)
     refine aw_skip ?_
     refine ac_next ?_
     refine aw_grp1 ?_
     refine aw_grp1 ?_
     refine wk_start ?_
     refine kv g0 (mv) ?_
     refine kv g0 (mv) ?_
     obtain ⟨t27, A28, H⟩ := of_bind H
     refine kcS1 64 (.row 5) [(5, .row 35 6 (t27.map e35))] g0 (cal (laws_toEntryS.ok A28) [5] 9999 .n (hf := Tryd.func6)) rfl rfl ?_
     obtain ⟨t29, A30, H⟩ := of_bind H
     refine kcS0 65 (.lit (.bool t29)) [] g0 (cal (laws_eqEntryS.ok A30) [] 9999 .n (hf := Tryd.func8)) rfl rfl ?_
     refine kv g0 (not_) ?_
     refine wk_end ?_
     refine ac_next ?_
     by_cases c31 : t29 = true
     ·rw [if_pos c31] at H
      refine aw_ifF ?_ (nF c31)
      refine aw_skip ?_
      refine ac_next ?_
      refine aw_grp1 ?_
      refine wk_start ?_
      refine kv g0 (asg) ?_
      refine wk_end ?_
      refine ac_next ?_
      refine aw_ret ?_
      obtain rfl := Option.some.inj H
      exact acr hE [.tmp 4] (.tmp .nil) (.one _) [] 9999
     rw [if_neg c31] at H
     refine aw_ifT ?_ (nT (bF c31))
     refine aw_grp1 ?_
     refine wk_start ?_
     refine kv g0 (asg) ?_
     refine wk_end ?_
     refine ac_next ?_
     refine aw_ret ?_
     refine ac_thenR ?_
     obtain rfl := Option.some.inj H
     exact acr hE [.tmp 4] (.tmp .nil) (.one _) [] 9999
    rw [if_neg c26] at H
    refine aw_ifT ?_ (nT (bF c26))
    refine aw_grp1 ?_
    refine wk_start ?_
    refine kv g0 (asg) ?_
    refine wk_end ?_
    refine ac_next ?_
    refine aw_ret ?_
    refine ac_thenR ?_
    obtain rfl := Option.some.inj H
    exact acr hE [.tmp 4] (.tmp .nil) (.one _) [] 9999
   rw [if_neg c21] at H
   refine aw_ifT ?_ (nT (eFb c21))
   refine aw_grp1 ?_
   refine wk_start ?_
   refine kv g0 (asg) ?_
   refine wk_end ?_
   refine ac_next ?_
   refine aw_ret ?_
   refine ac_thenR ?_
   obtain rfl := Option.some.inj H
   exact acr hE [.tmp 4] (.tmp .nil) (.one _) [] 9999
  rw [if_neg c20] at H
  refine kx (hF (nT (bF c20))) ?_
  refine kx (hF (nT (bF c20))) ?_
  refine kx (hF (nT (bF c20))) ?_
  refine kv g0 (pkT (nT (bF c20))) ?_
  refine wk_end ?_
  refine ac_next ?_
  refine aw_ifT ?_ rfl
  refine aw_grp1 ?_
  refine wk_start ?_
  refine kv g0 (asg) ?_
  refine wk_end ?_
  refine ac_next ?_
  refine aw_ret ?_
  refine ac_thenR ?_
  obtain rfl := Option.some.inj H
  exact acr hE [.tmp 4] (.tmp .nil) (.one _) [] 9999
 rw [if_neg c19] at H
 refine kx (hF (nT (bF c19))) ?_
 refine kx (hF (nT (bF c19))) ?_
 refine kx (hF (nT (bF c19))) ?_
 refine kv g0 (pkT (nT (bF c19))) ?_
 refine kv g0 (mv) ?_
 refine kx (hF rfl) ?_
 refine kx (hF rfl) ?_
 refine kx (hF rfl) ?_
 refine kv g0 (pkT rfl) ?_
 refine wk_end ?_
 refine ac_next ?_
 refine aw_ifT ?_ rfl
 refine aw_grp1 ?_
 refine wk_start ?_
 refine kv g0 (asg) ?_
 refine wk_end ?_
 refine ac_next ?_
 refine aw_ret ?_
 refine ac_thenR ?_
 obtain rfl := Option.some.inj H
 exact acr hE [.tmp 4] (.tmp .nil) (.one _) [] 9999
end Go.Proofs.YtahmbcgolnplgaaDoor.PFnExactParted
