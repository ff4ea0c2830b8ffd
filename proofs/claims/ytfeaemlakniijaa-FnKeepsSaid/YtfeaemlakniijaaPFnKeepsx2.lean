import Derived.Test.YtfeaemlakniijaaPFnKeepsx1
set_option linter.unusedVariables false
set_option linter.unusedSimpArgs false
set_option maxRecDepth 100000
namespace Go.Proofs.Ytfeaemlakniijaa.PFnKeeps
open Go Go.RowKit Go.Proofs.YtfeaemlakniijaaA
/-! spec_FallKeeper -/
def spec_FallKeeper.j0 : Nat → (List S98) → (List Int) → (List S97) → Int → (List Int) → ((List S98) × (List Int) × (List S97) × Int × (List Int)) → (List S98) → Option ((List S98) × (List Int) × (List S97) × Int × (List Int))
 | 0, _, _, _, _, _, _, _ => none
 | k10 + 1, l0_0, l0_1, l0_2, a0_3, l0_4, t1, q9 => if ([] : List Int).length + l0_4.length < 17592186044416 then some (q9, ([] : List Int) ++ l0_4, ([] : List S97), t1.2.2.2.1, t1.2.2.2.2) else none
def spec_FallKeeper.f (k : Nat) (l0_0 : List S98) (l0_1 : List Int) (l0_2 : List S97) (a0_3 : Int) (l0_4 : List Int) : Option ((List S98) × (List Int) × (List S97) × Int × (List Int)) := (spec_l20Copy.f l0_0 l0_1 l0_2 a0_3 l0_4).bind fun t1 => (spec_l01In.f a0_3 0 (l0_0.length : Int)).bind fun t3 => if t3 = true then (if 0 ≤ a0_3 then (if a0_3 ≤ (l0_0.length : Int) then (if ([] : List S98).length + (l0_0.take a0_3.toNat).length < 2932031007402 then spec_FallKeeper.j0 k l0_0 l0_1 l0_2 a0_3 l0_4 t1 (([] : List S98) ++ (l0_0.take a0_3.toNat)) else none) else none) else none) else spec_FallKeeper.j0 k l0_0 l0_1 l0_2 a0_3 l0_4 t1 t1.1
theorem spec_FallKeeper.ok {k : Nat} {l0_0 : List S98} {l0_1 : List Int} {l0_2 : List S97} {a0_3 : Int} {l0_4 : List Int} {r : (List S98) × (List Int) × (List S97) × Int × (List Int)} (H : spec_FallKeeper.f k l0_0 l0_1 l0_2 a0_3 l0_4 = some r) : ACalls Try.prog 28 [] [.agg [.sl .o 6 (l0_0.map e98), .sl .o 1 (l0_1.map (eI .i64)), .sl .o 6 (l0_2.map e97), .lit (.int .i64 a0_3), .sl .o 1 (l0_4.map (eI .i64))]] [(0, .row 98 6 (r.1.map e98)), (1, .row 3 1 (r.2.1.map (eI .i64))), (2, .row 97 6 (r.2.2.1.map e97)), (3, .row 3 1 (r.2.2.2.2.map (eI .i64)))] (.agg [.row 0, .row 1, .row 2, .lit (.int .i64 r.2.2.2.1), .row 3]) := by
 refine acalls (fn := Try.f28) (nt := 28) Try.func28 rfl rfl (Nat.le_of_ble_eq_true rfl) fun E hE => ?_
 rw [spec_FallKeeper.f] at H
 refine aw_grp1 ?_
 refine wk_start ?_
 refine kb g0 (bxA 0) ?_
 refine kb g0 (alc 1 [.slice none 0 0, .slice none 0 0, .slice none 0 0, .int .i64 0, .slice none 0 0] [.lit (.slice none 0 0), .lit (.slice none 0 0), .lit (.slice none 0 0), .lit (.int .i64 0), .lit (.slice none 0 0)]) ?_
 refine wk_end ?_
 refine ac_next ?_
 refine aw_grp1 ?_
 refine wk_start ?_
 refine kv g0 (ldBA 5 [.sl .o 6 (l0_0.map e98), .sl .o 1 (l0_1.map (eI .i64)), .sl .o 6 (l0_2.map e97), .lit (.int .i64 a0_3), .sl .o 1 (l0_4.map (eI .i64))]) ?_
 obtain ⟨t1, A2, H⟩ := of_bind H
 refine kcS4 5 (.agg [.row 2, .row 3, .row 4, .lit (.int .i64 t1.2.2.2.1), .row 5]) [(2, .row 98 6 (t1.1.map e98)), (3, .row 3 1 (t1.2.1.map (eI .i64))), (4, .row 97 6 (t1.2.2.1.map e97)), (5, .row 3 1 (t1.2.2.2.2.map (eI .i64)))] g0 (cal (spec_l20Copy.ok A2) [2, 3, 4, 5] 9999 .n (hf := Try.func64)) rfl rfl ?_
 refine kb g0 (alc 6 [.slice none 0 0, .slice none 0 0, .slice none 0 0, .int .i64 0, .slice none 0 0] [.lit (.slice none 0 0), .lit (.slice none 0 0), .lit (.slice none 0 0), .lit (.int .i64 0), .lit (.slice none 0 0)]) ?_
 refine ks g0 (stB 5 [.row 2, .row 3, .row 4, .lit (.int .i64 t1.2.2.2.1), .row 5]) ?_
 refine wk_end ?_
 refine ac_next ?_
 refine aw_cut1 (J := fun K_ => ∀ (k_ : Nat) (q9 : List S98), k_ ≤ k → spec_FallKeeper.j0 k_ l0_0 l0_1 l0_2 a0_3 l0_4 t1 q9 = some r → ACont E 28 ⟨[(1, .box 0 0), (2, .box 1 0), (3, .box 6 0)], [(0, .box 29 [.sl .o 6 (l0_0.map e98), .sl .o 1 (l0_1.map (eI .i64)), .sl .o 6 (l0_2.map e97), .lit (.int .i64 a0_3), .sl .o 1 (l0_4.map (eI .i64))]), (1, .box 29 [.lit (.slice none 0 0), .lit (.slice none 0 0), .lit (.slice none 0 0), .lit (.int .i64 0), .lit (.slice none 0 0)]), (3, .row 3 1 (t1.2.1.map (eI .i64))), (4, .row 97 6 (t1.2.2.1.map e97)), (5, .row 3 1 (t1.2.2.2.2.map (eI .i64))), (6, .box 29 [.row 8, .row 3, .row 4, .lit (.int .i64 t1.2.2.2.1), .row 5]), (8, .row 98 6 (q9.map e98))]⟩ K_) ?_ ?_
 ·intro K_ hJ12
  refine aw_grp1 ?_
  refine wk_start ?_
  refine kv g0 (faB 3 3) ?_
  refine kv g0 (ldB) ?_
  refine kv g0 (faB 0 0) ?_
  refine kv g0 (ldB) ?_
  refine kv g0 (lnS lenE) ?_
  obtain ⟨t3, A4, H⟩ := of_bind H
  refine kcS0 11 (.lit (.bool t3)) [] g0 (cal (spec_l01In.ok A4) [] 9999 .n (hf := Try.func63)) rfl rfl ?_
  refine wk_end ?_
  refine ac_next ?_
  by_cases c5 : t3 = true
  ·rw [if_pos c5] at H
   refine aw_ifT ?_ c5
   refine wk_start ?_
   refine kb g0 (bsl 7 98 6 [.int .i64 0, .int .i64 0, .int .i64 0, .int .i64 0, .int .i64 0, .int .i64 0] (([] : List S98).map e98)) ?_
   refine kv g0 (faB 0 0) ?_
   refine kv g0 (ldB) ?_
   refine kv g0 (faB 3 3) ?_
   refine kv g0 (ldB) ?_
   obtain ⟨c6, H⟩ := of_if H
   obtain ⟨c7, H⟩ := of_if H
   refine kv g0 (slH 98 c6 c7) ?_
   obtain ⟨c8, H⟩ := of_if H
   refine kc g0 (apR 8 98 6 48 [.int .i64 0, .int .i64 0, .int .i64 0, .int .i64 0, .int .i64 0, .int .i64 0] ((([] : List S98) ++ (l0_0.take a0_3.toNat)).map e98) (.slF (fl98)) (apb c8 rfl) appE) ?_
   refine kv g0 (faB 0 0) ?_
   refine ks g0 (stB 1 [.row 8, .row 3, .row 4, .lit (.int .i64 t1.2.2.2.1), .row 5]) ?_
   refine wk_end ?_
   refine ac_k ?_
   exact acw hE [(0, 0), (1, 1), (3, 3), (4, 4), (5, 5), (6, 6), (8, 8)] 9999 (hJ12 k (([] : List S98) ++ (l0_0.take a0_3.toNat)) (Nat.le_refl _) H)
  rw [if_neg c5] at H
  refine aw_ifF ?_ (bF c5)
  refine aw_skip ?_
  refine ac_k ?_
  exact acw hE [(0, 0), (1, 1), (3, 3), (4, 4), (5, 5), (6, 6), (8, 2)] 9999 (hJ12 k t1.1 (Nat.le_refl _) H)
 intro k_ q9 hk_ H
 rcases k_ with _ | k10
 ·rw [spec_FallKeeper.j0.eq_1] at H; cases H
 have hk10 : k10 ≤ k := by omega
 clear hk_
 rw [spec_FallKeeper.j0.eq_2] at H
 refine aw_grp1 ?_
 refine wk_start ?_
 refine kb g0 (bsl 9 3 1 [.int .i64 0] (([] : List Int).map (eI .i64))) ?_
 refine kv g0 (faB 4 4) ?_
 refine kv g0 (ldB) ?_
 obtain ⟨c11, H⟩ := of_if H
 refine kc g0 (apR 10 3 1 8 [.int .i64 0] ((([] : List Int) ++ l0_4).map (eI .i64)) (.slF (flI)) (apb c11 rfl) appE) ?_
 refine kv g0 (faB 1 1) ?_
 refine ks g0 (stB 1 [.row 8, .row 10, .row 4, .lit (.int .i64 t1.2.2.2.1), .row 5]) ?_
 refine wk_end ?_
 refine ac_next ?_
 refine aw_grp1 ?_
 refine wk_start ?_
 refine kb g0 (bsl 11 97 6 [.int .i64 0, .int .i64 0, .int .i64 0, .int .i64 0, .int .i64 0, .int .i64 0] (([] : List S97).map e97)) ?_
 refine kv g0 (faB 2 2) ?_
 refine ks g0 (stB 1 [.row 8, .row 10, .row 11, .lit (.int .i64 t1.2.2.2.1), .row 5]) ?_
 refine wk_end ?_
 refine ac_next ?_
 refine aw_grp1 ?_
 refine wk_start ?_
 refine kv g0 (ldBA 5 [.row 8, .row 10, .row 11, .lit (.int .i64 t1.2.2.2.1), .row 5]) ?_
 refine ks g0 (stB 5 [.row 8, .row 10, .row 11, .lit (.int .i64 t1.2.2.2.1), .row 5]) ?_
 refine wk_end ?_
 refine ac_next ?_
 refine aw_ret ?_
 obtain rfl := Option.some.inj H
 exact acr hE [.cell 2 29] (rcA 5 .nil) (.one _) [(0, 8), (1, 10), (2, 11), (3, 5)] 9999
/-! spec_l01PickInt -/
def spec_l01PickInt.f (l0_0 : List Int) (a0_1 : Int) (a0_2 : Int) (l1 : List Int) : Option (Int × (List Int) × Int × Int) := (spec_l01Below.f l0_0 a0_1 a0_2 (l1.length : Int)).bind fun t1 => (if 0 ≤ t1.1 then (if t1.1 < (l1.length : Int) then some ((rd l1 t1.1), t1.2.1, t1.2.2.1, t1.2.2.2) else none) else none)
theorem spec_l01PickInt.ok {l0_0 : List Int} {a0_1 : Int} {a0_2 : Int} {l1 : List Int} {r : Int × (List Int) × Int × Int} (H : spec_l01PickInt.f l0_0 a0_1 a0_2 l1 = some r) : ACalls Try.prog 60 [(0, .box 142 [.sl .u 1 (l0_0.map (eI .u8)), .lit (.int .i64 a0_1), .lit (.int .i64 a0_2)])] [.box 0 0, .sl .o 1 (l1.map (eI .i64))] [(0, .box 142 [.sl .u 1 (r.2.1.map (eI .u8)), .lit (.int .i64 r.2.2.1), .lit (.int .i64 r.2.2.2)])] (.lit (.int .i64 r.1)) := by
 refine acalls (fn := Try.f60) (nt := 12) Try.func60 rfl rfl (Nat.le_of_ble_eq_true rfl) fun E hE => ?_
 rw [spec_l01PickInt.f] at H
 refine aw_grp1 ?_
 refine wk_start ?_
 refine kv g0 (asg) ?_
 refine wk_end ?_
 refine ac_next ?_
 refine aw_grp1 ?_
 refine wk_start ?_
 refine kv g0 (mv) ?_
 refine kv g0 (mv) ?_
 refine kv g0 (mv) ?_
 refine kv g0 (lnS lenE) ?_
 obtain ⟨t1, A2, H⟩ := of_bind H
 refine kcS1 9 (.lit (.int .i64 t1.1)) [(0, .box 142 [.sl .u 1 (t1.2.1.map (eI .u8)), .lit (.int .i64 t1.2.2.1), .lit (.int .i64 t1.2.2.2)])] g0 (cal (spec_l01Below.ok A2) [0] 9999 .u (hf := Try.func52)) rfl rfl ?_
 obtain ⟨c3, H⟩ := of_if H
 obtain ⟨c4, H⟩ := of_if H
 refine kv g0 (ixS 3 (eI .i64 (rd l1 t1.1)) c3 (getE (z := (0 : Int)) c3 c4)) ?_
 refine kv g0 (ldR (.lit (.int .i64 (rd l1 t1.1)))) ?_
 refine kv g0 (asg) ?_
 refine wk_end ?_
 refine ac_next ?_
 refine aw_ret ?_
 obtain rfl := Option.some.inj H
 exact acr hE [.tmp 4] (.tmp .nil) (.one _) [(0, 0)] 9999
/-! spec_l01Once -/
def spec_l01Once.f (l0_0 : List Int) (a0_1 : Int) (a0_2 : Int) (a1 : Int) : Option (Bool × (List Int) × Int × Int) := (spec_l01Below.f l0_0 a0_1 a0_2 a1).bind fun t1 => some (t1.1 == 0, t1.2.1, t1.2.2.1, t1.2.2.2)
theorem spec_l01Once.ok {l0_0 : List Int} {a0_1 : Int} {a0_2 : Int} {a1 : Int} {r : Bool × (List Int) × Int × Int} (H : spec_l01Once.f l0_0 a0_1 a0_2 a1 = some r) : ACalls Try.prog 144 [(0, .box 142 [.sl .u 1 (l0_0.map (eI .u8)), .lit (.int .i64 a0_1), .lit (.int .i64 a0_2)])] [.box 0 0, .lit (.int .i64 a1)] [(0, .box 142 [.sl .u 1 (r.2.1.map (eI .u8)), .lit (.int .i64 r.2.2.1), .lit (.int .i64 r.2.2.2)])] (.lit (.bool r.1)) := by
 refine acalls (fn := Try.f144) (nt := 9) Try.func144 rfl rfl (Nat.le_of_ble_eq_true rfl) fun E hE => ?_
 rw [spec_l01Once.f] at H
 refine aw_grp1 ?_
 refine wk_start ?_
 refine kv g0 (asg) ?_
 refine wk_end ?_
 refine ac_next ?_
 refine aw_grp1 ?_
 refine wk_start ?_
 refine kv g0 (mv) ?_
 refine kv g0 (mv) ?_
 obtain ⟨t1, A2, H⟩ := of_bind H
 refine kcS1 7 (.lit (.int .i64 t1.1)) [(0, .box 142 [.sl .u 1 (t1.2.1.map (eI .u8)), .lit (.int .i64 t1.2.2.1), .lit (.int .i64 t1.2.2.2)])] g0 (cal (spec_l01Below.ok A2) [0] 9999 .u (hf := Try.func52)) rfl rfl ?_
 refine kv g0 (eql) ?_
 refine kv g0 (asg) ?_
 refine wk_end ?_
 refine ac_next ?_
 refine aw_ret ?_
 obtain rfl := Option.some.inj H
 exact acr hE [.tmp 4] (.tmp .nil) (.one _) [(0, 0)] 9999
/-! spec_l04Half -/
def spec_l04Half.f (l0_0 : List Int) (a0_1 : Int) (a0_2 : Int) : Option (Int × (List Int) × Int × Int) := (spec_l01Below.f l0_0 a0_1 a0_2 12).bind fun t1 => ((spec_l01PickInt.f t1.2.1 t1.2.2.1 t1.2.2.2 ([0, 1, 2, 3, 5, 7, 255, 4294967295, 2147483648, t1.1] : List Int)).bind fun t3 => some (t3.1, t3.2.1, t3.2.2.1, t3.2.2.2))
theorem spec_l04Half.ok {l0_0 : List Int} {a0_1 : Int} {a0_2 : Int} {r : Int × (List Int) × Int × Int} (H : spec_l04Half.f l0_0 a0_1 a0_2 = some r) : ACalls Try.prog 149 [(0, .box 142 [.sl .u 1 (l0_0.map (eI .u8)), .lit (.int .i64 a0_1), .lit (.int .i64 a0_2)])] [.box 0 0] [(0, .box 142 [.sl .u 1 (r.2.1.map (eI .u8)), .lit (.int .i64 r.2.2.1), .lit (.int .i64 r.2.2.2)])] (.lit (.int .i64 r.1)) := by
 refine acalls (fn := Try.f149) (nt := 8) Try.func149 rfl rfl (Nat.le_of_ble_eq_true rfl) fun E hE => ?_
 rw [spec_l04Half.f] at H
 refine aw_grp1 ?_
 refine wk_start ?_
 refine kv g0 (asg) ?_
 refine wk_end ?_
 refine ac_next ?_
 refine aw_grp1 ?_
 refine wk_start ?_
 refine kv g0 (mv) ?_
 refine kv g0 (mv) ?_
 obtain ⟨t1, A2, H⟩ := of_bind H
 refine kcS1 5 (.lit (.int .i64 t1.1)) [(0, .box 142 [.sl .u 1 (t1.2.1.map (eI .u8)), .lit (.int .i64 t1.2.2.1), .lit (.int .i64 t1.2.2.2)])] g0 (cal (spec_l01Below.ok A2) [0] 9999 .u (hf := Try.func52)) rfl rfl ?_
 refine kb g0 (bsl 1 3 1 [.int .i64 0] (([0, 1, 2, 3, 5, 7, 255, 4294967295, 2147483648, t1.1] : List Int).map (eI .i64))) ?_
 obtain ⟨t3, A4, H⟩ := of_bind H
 refine kcS1 7 (.lit (.int .i64 t3.1)) [(0, .box 142 [.sl .u 1 (t3.2.1.map (eI .u8)), .lit (.int .i64 t3.2.2.1), .lit (.int .i64 t3.2.2.2)])] g0 (cal (spec_l01PickInt.ok A4) [0] 9999 .u (hf := Try.func60)) rfl rfl ?_
 refine kv g0 (asg) ?_
 refine wk_end ?_
 refine ac_next ?_
 refine aw_ret ?_
 obtain rfl := Option.some.inj H
 exact acr hE [.tmp 2] (.tmp .nil) (.one _) [(0, 0)] 9999
/-! spec_l17Item -/
def spec_l17Item.f (l0_0 : List Int) (a0_1 : Int) (a0_2 : Int) : Option (Int × Int × Int × Int × (List Int) × Int × Int) := (spec_l01Once.f l0_0 a0_1 a0_2 3).bind fun t1 => if t1.1 = true then ((spec_l01Below.f t1.2.1 t1.2.2.1 t1.2.2.2 5).bind fun t4 => some (2, 0, 0, wrap64 (1 + t4.1), t4.2.1, t4.2.2.1, t4.2.2.2)) else (spec_l01Below.f t1.2.1 t1.2.2.1 t1.2.2.2 9).bind fun t6 => ((spec_l04Half.f t6.2.1 t6.2.2.1 t6.2.2.2).bind fun t8 => some (1, t6.1, t8.1, 0, t8.2.1, t8.2.2.1, t8.2.2.2))
theorem spec_l17Item.ok {l0_0 : List Int} {a0_1 : Int} {a0_2 : Int} {r : Int × Int × Int × Int × (List Int) × Int × Int} (H : spec_l17Item.f l0_0 a0_1 a0_2 = some r) : ACalls Try.prog 115 [(0, .box 142 [.sl .u 1 (l0_0.map (eI .u8)), .lit (.int .i64 a0_1), .lit (.int .i64 a0_2)])] [.box 0 0] [(0, .box 142 [.sl .u 1 (r.2.2.2.2.1.map (eI .u8)), .lit (.int .i64 r.2.2.2.2.2.1), .lit (.int .i64 r.2.2.2.2.2.2)])] (.agg [.lit (.int .i64 r.1), .lit (.int .i64 r.2.1), .lit (.int .i64 r.2.2.1), .lit (.int .i64 r.2.2.2.1)]) := by
 refine acalls (fn := Try.f115) (nt := 14) Try.func115 rfl rfl (Nat.le_of_ble_eq_true rfl) fun E hE => ?_
 rw [spec_l17Item.f] at H
 refine aw_grp1 ?_
 refine wk_start ?_
 refine kb g0 (alc 1 [.int .i64 0, .int .i64 0, .int .i64 0, .int .i64 0] [.lit (.int .i64 0), .lit (.int .i64 0), .lit (.int .i64 0), .lit (.int .i64 0)]) ?_
 refine wk_end ?_
 refine ac_next ?_
 refine aw_grp1 ?_
 refine aw_grp1 ?_
 refine wk_start ?_
 refine kv g0 (mv) ?_
 obtain ⟨t1, A2, H⟩ := of_bind H
 refine kcS1 4 (.lit (.bool t1.1)) [(0, .box 142 [.sl .u 1 (t1.2.1.map (eI .u8)), .lit (.int .i64 t1.2.2.1), .lit (.int .i64 t1.2.2.2)])] g0 (cal (spec_l01Once.ok A2) [0] 9999 .u (hf := Try.func144)) rfl rfl ?_
 refine wk_end ?_
 refine ac_next ?_
 by_cases c3 : t1.1 = true
 ·rw [if_pos c3] at H
  refine aw_ifT ?_ c3
  refine aw_grp1 ?_
  refine wk_start ?_
  refine kv g0 (mv) ?_
  obtain ⟨t4, A5, H⟩ := of_bind H
  refine kcS1 6 (.lit (.int .i64 t4.1)) [(0, .box 142 [.sl .u 1 (t4.2.1.map (eI .u8)), .lit (.int .i64 t4.2.2.1), .lit (.int .i64 t4.2.2.2)])] g0 (cal (spec_l01Below.ok A5) [0] 9999 .u (hf := Try.func52)) rfl rfl ?_
  refine kv g0 (add6) ?_
  refine kv g0 (bld [(0, 1), (1, 1), (2, 1), (3, 1)] [.int .i64 0, .int .i64 0, .int .i64 0, .int .i64 0] [.lit (.int .i64 2), .lit (.int .i64 0), .lit (.int .i64 0), .lit (.int .i64 (wrap64 (1 + t4.1)))]) ?_
  refine ks g0 (stB 4 [.lit (.int .i64 2), .lit (.int .i64 0), .lit (.int .i64 0), .lit (.int .i64 (wrap64 (1 + t4.1)))]) ?_
  refine wk_end ?_
  refine ac_next ?_
  refine aw_ret ?_
  refine ac_thenR ?_
  obtain rfl := Option.some.inj H
  exact acr hE [.cell 2 34] (rcA 4 .nil) (.one _) [(0, 0)] 9999
 rw [if_neg c3] at H
 refine aw_ifF ?_ (bF c3)
 refine aw_skip ?_
 refine ac_next ?_
 refine aw_grp1 ?_
 refine wk_start ?_
 refine kv g0 (mv) ?_
 obtain ⟨t6, A7, H⟩ := of_bind H
 refine kcS1 10 (.lit (.int .i64 t6.1)) [(0, .box 142 [.sl .u 1 (t6.2.1.map (eI .u8)), .lit (.int .i64 t6.2.2.1), .lit (.int .i64 t6.2.2.2)])] g0 (cal (spec_l01Below.ok A7) [0] 9999 .u (hf := Try.func52)) rfl rfl ?_
 refine kv g0 (mv) ?_
 obtain ⟨t8, A9, H⟩ := of_bind H
 refine kcS1 12 (.lit (.int .i64 t8.1)) [(0, .box 142 [.sl .u 1 (t8.2.1.map (eI .u8)), .lit (.int .i64 t8.2.2.1), .lit (.int .i64 t8.2.2.2)])] g0 (cal (spec_l04Half.ok A9) [0] 9999 .u (hf := Try.func149)) rfl rfl ?_
 refine kv g0 (bld [(0, 1), (1, 1), (2, 1), (3, 1)] [.int .i64 0, .int .i64 0, .int .i64 0, .int .i64 0] [.lit (.int .i64 1), .lit (.int .i64 t6.1), .lit (.int .i64 t8.1), .lit (.int .i64 0)]) ?_
 refine ks g0 (stB 4 [.lit (.int .i64 1), .lit (.int .i64 t6.1), .lit (.int .i64 t8.1), .lit (.int .i64 0)]) ?_
 refine wk_end ?_
 refine ac_next ?_
 refine aw_ret ?_
 obtain rfl := Option.some.inj H
 exact acr hE [.cell 2 34] (rcA 4 .nil) (.one _) [(0, 0)] 9999
/-! spec_HalfOk -/
def spec_HalfOk.f (a0 : Int) : Option (Bool) := (spec_l01In.f a0 0 4294967295).bind fun t1 => some t1
theorem spec_HalfOk.ok {a0 : Int} {r : Bool} (H : spec_HalfOk.f a0 = some r) : ACalls Try.prog 116 [] [.lit (.int .i64 a0)] [] (.lit (.bool r)) := by
 refine acalls (fn := Try.f116) (nt := 5) Try.func116 rfl rfl (Nat.le_of_ble_eq_true rfl) fun E hE => ?_
 rw [spec_HalfOk.f] at H
 refine aw_grp1 ?_
 refine wk_start ?_
 refine kv g0 (asg) ?_
 refine wk_end ?_
 refine ac_next ?_
 refine aw_grp1 ?_
 refine wk_start ?_
 refine kv g0 (mv) ?_
 obtain ⟨t1, A2, H⟩ := of_bind H
 refine kcS0 4 (.lit (.bool t1)) [] g0 (cal (spec_l01In.ok A2) [] 9999 .n (hf := Try.func63)) rfl rfl ?_
 refine kv g0 (asg) ?_
 refine wk_end ?_
 refine ac_next ?_
 refine aw_ret ?_
 obtain rfl := Option.some.inj H
 exact acr hE [.tmp 2] (.tmp .nil) (.one _) [] 9999
/-! spec_ItemOk -/
def spec_ItemOk.f (a0_0 : Int) (a0_1 : Int) (a0_2 : Int) (a0_3 : Int) : Option (Bool) := if a0_0 = 1 then ((spec_HalfOk.f a0_1).bind fun t2 => (if t2 = true then ((spec_HalfOk.f a0_2).bind fun t5 => (if t5 = true then some (a0_3 == 0) else some false)) else some false)) else if a0_0 = 2 then ((spec_l01In.f a0_3 1 1000000000).bind fun t9 => (if t9 = true then (if a0_1 = 0 then some (a0_2 == 0) else some false) else some false)) else some false
theorem spec_ItemOk.ok {a0_0 : Int} {a0_1 : Int} {a0_2 : Int} {a0_3 : Int} {r : Bool} (H : spec_ItemOk.f a0_0 a0_1 a0_2 a0_3 = some r) : ACalls Try.prog 69 [] [.agg [.lit (.int .i64 a0_0), .lit (.int .i64 a0_1), .lit (.int .i64 a0_2), .lit (.int .i64 a0_3)]] [] (.lit (.bool r)) := by
 refine acalls (fn := Try.f69) (nt := 37) Try.func69 rfl rfl (Nat.le_of_ble_eq_true rfl) fun E hE => ?_
 rw [spec_ItemOk.f] at H
 refine aw_grp1 ?_
 refine wk_start ?_
 refine kb g0 (bxA 0) ?_
 refine kv g0 (asg) ?_
 refine wk_end ?_
 refine ac_next ?_
 refine aw_grp1 ?_
 refine aw_grp1 ?_
 refine wk_start ?_
 refine kv g0 (faB 0 0) ?_
 refine kv g0 (ldB) ?_
 refine kv g0 (eql) ?_
 refine wk_end ?_
 refine ac_next ?_
 by_cases c1 : a0_0 = 1
 ·rw [if_pos c1] at H
  refine aw_ifT ?_ (eT c1)
  refine aw_grp1 ?_
  refine wk_start ?_
  refine kv g0 (faB 1 1) ?_
  refine kv g0 (ldB) ?_
  obtain ⟨t2, A3, H⟩ := of_bind H
  refine kcS0 8 (.lit (.bool t2)) [] g0 (cal (spec_HalfOk.ok A3) [] 9999 .n (hf := Try.func116)) rfl rfl ?_
  refine kv g0 (mv) ?_
  by_cases c4 : t2 = true
  ·rw [if_pos c4] at H
   refine kv (g1 c4) (faB 2 2) ?_
   refine kv (g1 c4) (ldB) ?_
   obtain ⟨t5, A6, H⟩ := of_bind H
   refine kcS0 12 (.lit (.bool t5)) [] (g1 c4) (cal (spec_HalfOk.ok A6) [] 9999 .n (hf := Try.func116)) rfl rfl ?_
   refine kv g0 (pkT c4) ?_
   refine kv g0 (mv) ?_
   by_cases c7 : t5 = true
   ·rw [if_pos c7] at H
    refine kv (g1 c7) (faB 3 3) ?_
    refine kv (g1 c7) (ldB) ?_
    refine kv (g1 c7) (eql) ?_
    refine kv g0 (pkT c7) ?_
    refine kv g0 (asg) ?_
    refine wk_end ?_
    refine ac_next ?_
    refine aw_ret ?_
    refine ac_thenR ?_
    obtain rfl := Option.some.inj H
    exact acr hE [.tmp 2] (.tmp .nil) (.one _) [] 9999
   rw [if_neg c7] at H
   refine kx (hT (bF c7)) ?_
   refine kx (hT (bF c7)) ?_
   refine kx (hT (bF c7)) ?_
   refine kv g0 (pkF (bF c7)) ?_
   refine kv g0 (asg) ?_
   refine wk_end ?_
   refine ac_next ?_
   refine aw_ret ?_
   refine ac_thenR ?_
   obtain rfl := Option.some.inj H
   exact acr hE [.tmp 2] (.tmp .nil) (.one _) [] 9999
  rw [if_neg c4] at H
  refine kx (hT (bF c4)) ?_
  refine kx (hT (bF c4)) ?_
  refine kx (hT (bF c4)) ?_
  refine kv g0 (pkF (bF c4)) ?_
  refine kv g0 (mv) ?_
  refine kx (hT rfl) ?_
  refine kx (hT rfl) ?_
  refine kx (hT rfl) ?_
  refine kv g0 (pkF rfl) ?_
  refine kv g0 (asg) ?_
  refine wk_end ?_
  refine ac_next ?_
  refine aw_ret ?_
  refine ac_thenR ?_
  obtain rfl := Option.some.inj H
  exact acr hE [.tmp 2] (.tmp .nil) (.one _) [] 9999
 rw [if_neg c1] at H
 refine aw_ifF ?_ (eF c1)
 refine aw_skip ?_
 refine ac_next ?_
 refine aw_grp1 ?_
 refine wk_start ?_
 refine kv g0 (faB 0 0) ?_
 refine kv g0 (ldB) ?_
 refine kv g0 (eql) ?_
 refine kv g0 (mv) ?_
 by_cases c8 : a0_0 = 2
 ·rw [if_pos c8] at H
  refine kv (g1 (eT c8)) (faB 3 3) ?_
  refine kv (g1 (eT c8)) (ldB) ?_
  obtain ⟨t9, A10, H⟩ := of_bind H
  refine kcS0 25 (.lit (.bool t9)) [] (g1 (eT c8)) (cal (spec_l01In.ok A10) [] 9999 .n (hf := Try.func63)) rfl rfl ?_
  refine kv g0 (pkT (eT c8)) ?_
  refine kv g0 (mv) ?_
  by_cases c11 : t9 = true
  ·rw [if_pos c11] at H
   refine kv (g1 c11) (faB 1 1) ?_
   refine kv (g1 c11) (ldB) ?_
   refine kv (g1 c11) (eql) ?_
   refine kv g0 (pkT c11) ?_
   refine kv g0 (mv) ?_
   by_cases c12 : a0_1 = 0
   ·rw [if_pos c12] at H
    refine kv (g1 (eT c12)) (faB 2 2) ?_
    refine kv (g1 (eT c12)) (ldB) ?_
    refine kv (g1 (eT c12)) (eql) ?_
    refine kv g0 (pkT (eT c12)) ?_
    refine kv g0 (asg) ?_
    refine wk_end ?_
    refine ac_next ?_
    refine aw_ret ?_
    obtain rfl := Option.some.inj H
    exact acr hE [.tmp 2] (.tmp .nil) (.one _) [] 9999
   rw [if_neg c12] at H
   refine kx (hT (eF c12)) ?_
   refine kx (hT (eF c12)) ?_
   refine kx (hT (eF c12)) ?_
   refine kv g0 (pkF (eF c12)) ?_
   refine kv g0 (asg) ?_
   refine wk_end ?_
   refine ac_next ?_
   refine aw_ret ?_
   obtain rfl := Option.some.inj H
   exact acr hE [.tmp 2] (.tmp .nil) (.one _) [] 9999
  rw [if_neg c11] at H
  refine kx (hT (bF c11)) ?_
  refine kx (hT (bF c11)) ?_
  refine kx (hT (bF c11)) ?_
  refine kv g0 (pkF (bF c11)) ?_
  refine kv g0 (mv) ?_
  refine kx (hT rfl) ?_
  refine kx (hT rfl) ?_
  refine kx (hT rfl) ?_
  refine kv g0 (pkF rfl) ?_
  refine kv g0 (asg) ?_
  refine wk_end ?_
  refine ac_next ?_
  refine aw_ret ?_
  obtain rfl := Option.some.inj H
  exact acr hE [.tmp 2] (.tmp .nil) (.one _) [] 9999
 rw [if_neg c8] at H
 refine kx (hT (eF c8)) ?_
 refine kx (hT (eF c8)) ?_
 refine kx (hT (eF c8)) ?_
 refine kv g0 (pkF (eF c8)) ?_
 refine kv g0 (mv) ?_
 refine kx (hT rfl) ?_
 refine kx (hT rfl) ?_
 refine kx (hT rfl) ?_
 refine kv g0 (pkF rfl) ?_
 refine kv g0 (mv) ?_
 refine kx (hT rfl) ?_
 refine kx (hT rfl) ?_
 refine kx (hT rfl) ?_
 refine kv g0 (pkF rfl) ?_
 refine kv g0 (asg) ?_
 refine wk_end ?_
 refine ac_next ?_
 refine aw_ret ?_
 obtain rfl := Option.some.inj H
 exact acr hE [.tmp 2] (.tmp .nil) (.one _) [] 9999
/-! spec_FrameOk -/
def spec_FrameOk.f (a0_0 : Int) (a0_1 : Int) (a0_2 : Int) (a0_3 : Int) (a0_4 : Int) (a0_5 : Int) (a0_6 : Int) : Option (Bool) := (spec_l01In.f a0_1 0 2).bind fun t1 => (if t1 = true then ((spec_l01In.f a0_2 1 1000000000).bind fun t4 => if t4 = true then if a0_0 = 1 then ((spec_ItemOk.f a0_3 a0_4 a0_5 a0_6).bind fun t8 => some t8) else if a0_0 = 2 then some (a0_3 == 0 && (a0_4 == 0 && (a0_5 == 0 && (a0_6 == 0)))) else some false else some false) else some false)
theorem spec_FrameOk.ok {a0_0 : Int} {a0_1 : Int} {a0_2 : Int} {a0_3 : Int} {a0_4 : Int} {a0_5 : Int} {a0_6 : Int} {r : Bool} (H : spec_FrameOk.f a0_0 a0_1 a0_2 a0_3 a0_4 a0_5 a0_6 = some r) : ACalls Try.prog 65 [] [.agg [.lit (.int .i64 a0_0), .lit (.int .i64 a0_1), .lit (.int .i64 a0_2), .lit (.int .i64 a0_3), .lit (.int .i64 a0_4), .lit (.int .i64 a0_5), .lit (.int .i64 a0_6)]] [] (.lit (.bool r)) := by
 refine acalls (fn := Try.f65) (nt := 28) Try.func65 rfl rfl (Nat.le_of_ble_eq_true rfl) fun E hE => ?_
 rw [spec_FrameOk.f] at H
 refine aw_grp1 ?_
 refine wk_start ?_
 refine kb g0 (bxA 0) ?_
 refine kv g0 (asg) ?_
 refine wk_end ?_
 refine ac_next ?_
 refine aw_grp1 ?_
 refine aw_grp1 ?_
 refine wk_start ?_
 refine kv g0 (faB 1 1) ?_
 refine kv g0 (ldB) ?_
 obtain ⟨t1, A2, H⟩ := of_bind H
 refine kcS0 5 (.lit (.bool t1)) [] g0 (cal (spec_l01In.ok A2) [] 9999 .n (hf := Try.func63)) rfl rfl ?_
 refine kv g0 (not_) ?_
 refine kv g0 (mv) ?_
 by_cases c3 : t1 = true
 ·rw [if_pos c3] at H
  refine kv (g1 (nF c3)) (faB 2 2) ?_
  refine kv (g1 (nF c3)) (ldB) ?_
  obtain ⟨t4, A5, H⟩ := of_bind H
  refine kcS0 10 (.lit (.bool t4)) [] (g1 (nF c3)) (cal (spec_l01In.ok A5) [] 9999 .n (hf := Try.func63)) rfl rfl ?_
  refine kv (g1 (nF c3)) (not_) ?_
  refine kv g0 (pkF (nF c3)) ?_
  refine wk_end ?_
  refine ac_next ?_
  by_cases c6 : t4 = true
  ·rw [if_pos c6] at H
   refine aw_ifF ?_ (nF c6)
   refine aw_skip ?_
   refine ac_next ?_
   refine aw_grp1 ?_
   refine aw_grp1 ?_
   refine wk_start ?_
   refine kv g0 (faB 0 0) ?_
   refine kv g0 (ldB) ?_
   refine kv g0 (eql) ?_
   refine wk_end ?_
   refine ac_next ?_
   by_cases c7 : a0_0 = 1
   ·rw [if_pos c7] at H
    refine aw_ifT ?_ (eT c7)
    refine aw_grp1 ?_
    refine wk_start ?_
    refine kv g0 (faB 3 3) ?_
    refine kv g0 (ldBA 4 [.lit (.int .i64 a0_3), .lit (.int .i64 a0_4), .lit (.int .i64 a0_5), .lit (.int .i64 a0_6)]) ?_
    obtain ⟨t8, A9, H⟩ := of_bind H
    refine kcS0 18 (.lit (.bool t8)) [] g0 (cal (spec_ItemOk.ok A9) [] 9999 .n (hf := Try.func69)) rfl rfl ?_
    refine kv g0 (asg) ?_
    refine wk_end ?_
    refine ac_next ?_
    refine aw_ret ?_
    refine ac_thenR ?_
    obtain rfl := Option.some.inj H
    exact acr hE [.tmp 2] (.tmp .nil) (.one _) [] 9999
   rw [if_neg c7] at H
   refine aw_ifF ?_ (eF c7)
   refine aw_skip ?_
   refine ac_next ?_
   refine aw_grp1 ?_
   refine wk_start ?_
   refine kv g0 (faB 0 0) ?_
   refine kv g0 (ldB) ?_
   refine kv g0 (eql) ?_
   refine kv g0 (mv) ?_
   by_cases c10 : a0_0 = 2
   ·rw [if_pos c10] at H
    refine kv (g1 (eT c10)) (faB 3 3) ?_
    refine kv (g1 (eT c10)) (ldBA 4 [.lit (.int .i64 a0_3), .lit (.int .i64 a0_4), .lit (.int .i64 a0_5), .lit (.int .i64 a0_6)]) ?_
    refine kv (g1 (eT c10)) (bld [(0, 1), (1, 1), (2, 1), (3, 1)] [.int .i64 0, .int .i64 0, .int .i64 0, .int .i64 0] [.lit (.int .i64 0), .lit (.int .i64 0), .lit (.int .i64 0), .lit (.int .i64 0)]) ?_
    refine kv (g1 (eT c10)) (eqS (fun w => eq34 _ w a0_3 a0_4 a0_5 a0_6 0 0 0 0)) ?_
    refine kv g0 (pkT (eT c10)) ?_
    refine kv g0 (asg) ?_
    refine wk_end ?_
    refine ac_next ?_
    refine aw_ret ?_
    obtain rfl := Option.some.inj H
    exact acr hE [.tmp 2] (.tmp .nil) (.one _) [] 9999
   rw [if_neg c10] at H
   refine kx (hT (eF c10)) ?_
   refine kx (hT (eF c10)) ?_
   refine kx (hT (eF c10)) ?_
   refine kx (hT (eF c10)) ?_
   refine kv g0 (pkF (eF c10)) ?_
   refine kv g0 (asg) ?_
   refine wk_end ?_
   refine ac_next ?_
   refine aw_ret ?_
   obtain rfl := Option.some.inj H
   exact acr hE [.tmp 2] (.tmp .nil) (.one _) [] 9999
  rw [if_neg c6] at H
  refine aw_ifT ?_ (nT (bF c6))
  refine aw_grp1 ?_
  refine wk_start ?_
  refine kv g0 (asg) ?_
  refine wk_end ?_
  refine ac_next ?_
  refine aw_ret ?_
  refine ac_thenR ?_
  obtain rfl := Option.some.inj H
  exact acr hE [.tmp 2] (.tmp .nil) (.one _) [] 9999
 rw [if_neg c3] at H
 refine kx (hF (nT (bF c3))) ?_
 refine kx (hF (nT (bF c3))) ?_
 refine kx (hF (nT (bF c3))) ?_
 refine kx (hF (nT (bF c3))) ?_
 refine kv g0 (pkT (nT (bF c3))) ?_
 refine wk_end ?_
 refine ac_next ?_
 refine aw_ifT ?_ rfl
 refine aw_grp1 ?_
 refine wk_start ?_
 refine kv g0 (asg) ?_
 refine wk_end ?_
 refine ac_next ?_
 refine aw_ret ?_
 refine ac_thenR ?_
 obtain rfl := Option.some.inj H
 exact acr hE [.tmp 2] (.tmp .nil) (.one _) [] 9999
/-! spec_l20Early -/
def spec_l20Early.l0 : Nat → (List S97) → Int → Int → Int → Option (Int)
 | 0, _, _, _, _ => none
 | k6 + 1, l0, a1, a2, p5 => if p5 < (l0.length : Int) then if 0 ≤ p5 then (if ((rd_T97 l0 p5).f0) = a1 then if ((rd_T97 l0 p5).f1) = a2 then some p5 else spec_l20Early.l0 k6 l0 a1 a2 (wrap64 (p5 + 1)) else spec_l20Early.l0 k6 l0 a1 a2 (wrap64 (p5 + 1))) else none else some (-1)
def spec_l20Early.f (k : Nat) (l0 : List S97) (a1 : Int) (a2 : Int) : Option (Int) := spec_l20Early.l0 k l0 a1 a2 0
theorem spec_l20Early.ok {k : Nat} {l0 : List S97} {a1 : Int} {a2 : Int} {r : Int} (H : spec_l20Early.f k l0 a1 a2 = some r) : ACalls Try.prog 66 [] [.sl .o 6 (l0.map e97), .lit (.int .i64 a1), .lit (.int .i64 a2)] [] (.lit (.int .i64 r)) := by
 refine acalls (fn := Try.f66) (nt := 31) Try.func66 rfl rfl (Nat.le_of_ble_eq_true rfl) fun E hE => ?_
 rw [spec_l20Early.f] at H
 refine aw_grp1 ?_
 refine wk_start ?_
 refine kv g0 (asg) ?_
 refine wk_end ?_
 refine ac_next ?_
 refine aw_grp1 ?_
 refine aw_grp1 ?_
 refine wk_start ?_
 refine kv g0 (asg) ?_
 refine wk_end ?_
 refine ac_next ?_
 refine aw_block ?_
 refine aw_loop1 (fun (k_ : Nat) (p5 : Int) => k_ ≤ k ∧ spec_l20Early.l0 k_ l0 a1 a2 p5 = some r) (fun (p5 : Int) => ⟨[(0, .sl .o 6 (l0.map e97)), (1, .lit (.int .i64 a1)), (2, .lit (.int .i64 a2)), (7, .lit (.int .i64 p5))], []⟩) k 0 ⟨Nat.le_refl _, H⟩ (fun K_ h_ => acw hE [] 9999 h_) (fun _ => by intro h_; have h_ := h_.2; rw [spec_l20Early.l0.eq_1] at h_; cases h_) ?_
 intro k6 p5 hq_ K11 hK12
 have hk6 := hq_.1
 have H := hq_.2
 clear hq_
 rw [spec_l20Early.l0.eq_2] at H
 refine aw_grp1 ?_
 refine aw_grp1 ?_
 refine wk_start ?_
 refine kv g0 (mv) ?_
 refine kv g0 (mv) ?_
 refine kv g0 (lnS lenE) ?_
 refine kv g0 (lss) ?_
 refine wk_end ?_
 refine ac_next ?_
 by_cases c7 : p5 < (l0.length : Int)
 ·rw [if_pos c7] at H
  refine aw_ifT ?_ (decide_eq_true c7)
  refine aw_skip ?_
  refine ac_next ?_
  refine aw_grp1 ?_
  refine aw_block ?_
  refine aw_grp1 ?_
  refine wk_start ?_
  refine kv g0 (mv) ?_
  refine kv g0 (mv) ?_
  obtain ⟨c8, H⟩ := of_if H
  refine kv g0 (ixS 97 (e97 (rd_T97 l0 p5)) c8 (getE (z := z97) c8 c7)) ?_
  refine kv g0 (faR 0 0) ?_
  refine kv g0 (ldR (.lit (.int .i64 ((rd_T97 l0 p5).f0)))) ?_
  refine kv g0 (mv) ?_
  refine kv g0 (eql) ?_
  refine kv g0 (mv) ?_
  by_cases c9 : ((rd_T97 l0 p5).f0) = a1
  ·rw [if_pos c9] at H
   refine kv (g1 (eT c9)) (mv) ?_
   refine kv (g1 (eT c9)) (mv) ?_
   refine kv (g1 (eT c9)) (ixS 97 (e97 (rd_T97 l0 p5)) c8 (getE (z := z97) c8 c7)) ?_
   refine kv (g1 (eT c9)) (faR 1 1) ?_
   refine kv (g1 (eT c9)) (ldR (.lit (.int .i64 ((rd_T97 l0 p5).f1)))) ?_
   refine kv (g1 (eT c9)) (mv) ?_
   refine kv (g1 (eT c9)) (eql) ?_
   refine kv g0 (pkT (eT c9)) ?_
   refine wk_end ?_
   refine ac_next ?_
   by_cases c10 : ((rd_T97 l0 p5).f1) = a2
   ·rw [if_pos c10] at H
    refine aw_ifT ?_ (eT c10)
    refine aw_grp1 ?_
    refine wk_start ?_
    refine kv g0 (mv) ?_
    refine kv g0 (asg) ?_
    refine wk_end ?_
    refine ac_next ?_
    refine aw_ret ?_
    refine ac_blkR ?_
    refine ac_thenR ?_
    refine ac_thenR ?_
    refine ac_blkR ?_
    refine ac_thenR ?_
    obtain rfl := Option.some.inj H
    exact acr hE [.tmp 6] (.tmp .nil) (.one _) [] 9999
   rw [if_neg c10] at H
   refine aw_ifF ?_ (eF c10)
   refine aw_skip ?_
   refine ac_blkN ?_
   refine ac_next ?_
   refine wk_start ?_
   refine kv g0 (mv) ?_
   refine kv g0 (add6) ?_
   refine kv g0 (asg) ?_
   refine wk_end ?_
   refine ac_k ?_
   exact acw hE [] 9999 (hK12 k6 (wrap64 (p5 + 1)) (Nat.le_refl _) ⟨by omega, H⟩)
  rw [if_neg c9] at H
  refine kx (hT (eF c9)) ?_
  refine kx (hT (eF c9)) ?_
  refine kx (hT (eF c9)) ?_
  refine kx (hT (eF c9)) ?_
  refine kx (hT (eF c9)) ?_
  refine kx (hT (eF c9)) ?_
  refine kx (hT (eF c9)) ?_
  refine kv g0 (pkF (eF c9)) ?_
  refine wk_end ?_
  refine ac_next ?_
  refine aw_ifF ?_ rfl
  refine aw_skip ?_
  refine ac_blkN ?_
  refine ac_next ?_
  refine wk_start ?_
  refine kv g0 (mv) ?_
  refine kv g0 (add6) ?_
  refine kv g0 (asg) ?_
  refine wk_end ?_
  refine ac_k ?_
  exact acw hE [] 9999 (hK12 k6 (wrap64 (p5 + 1)) (Nat.le_refl _) ⟨by omega, H⟩)
 rw [if_neg c7] at H
 refine aw_ifF ?_ (decide_eq_false c7)
 refine aw_exit ?_
 refine ac_then ?_
 refine ac_then ?_
 refine ac_hit rfl ?_
 refine ac_next ?_
 refine aw_grp1 ?_
 refine wk_start ?_
 refine kv g0 (asg) ?_
 refine wk_end ?_
 refine ac_next ?_
 refine aw_ret ?_
 obtain rfl := Option.some.inj H
 exact acr hE [.tmp 6] (.tmp .nil) (.one _) [] 9999
/-! spec_Kept -/
mutual
def spec_Kept.j0 : Nat → Int → Int → Int → Int → Int → Int → Int → ((List S98) × (List Int) × (List S97) × Int × (List Int)) → Bool → Option ((List S98) × (List Int) × (List S97) × Int × (List Int) × Bool)
 | 0, _, _, _, _, _, _, _, _, _ => none
 | k18 + 1, a1_0, a1_1, a1_2, a1_3, a1_4, a1_5, a1_6, t1, p17 => if p17 = true then (if t1.2.2.1.length + ([(⟨a1_1, a1_2, (⟨a1_3, a1_4, a1_5, a1_6⟩ : S34)⟩ : S97)] : List S97).length < 2932031007402 then some (t1.1, t1.2.1, t1.2.2.1 ++ ([(⟨a1_1, a1_2, (⟨a1_3, a1_4, a1_5, a1_6⟩ : S34)⟩ : S97)] : List S97), t1.2.2.2.1, t1.2.2.2.2, false) else none) else some (t1.1, t1.2.1, t1.2.2.1, t1.2.2.2.1, t1.2.2.2.2, false)
def spec_Kept.l0 : Nat → Int → Int → Int → Int → Int → Int → Int → ((List S98) × (List Int) × (List S97) × Int × (List Int)) → (List S98) → (List S97) → Int → Option ((List S98) × (List Int) × (List S97) × Int × (List Int) × Bool)
 | 0, _, _, _, _, _, _, _, _, _, _, _ => none
 | k39 + 1, a1_0, a1_1, a1_2, a1_3, a1_4, a1_5, a1_6, t1, q36, q37, p38 => if (q36.length : Int) < 200 then (spec_l20Early.f k39 q37 a1_1 p38).bind fun t41 => if t41 < 0 then spec_Kept.j1 k39 a1_0 a1_1 a1_2 a1_3 a1_4 a1_5 a1_6 t1 q36 q37 p38 else if 0 ≤ t41 then (if t41 < (q37.length : Int) then (if q36.length + ([(⟨a1_1, p38, (⟨(rd_T97 q37 t41).f2.f0, (rd_T97 q37 t41).f2.f1, (rd_T97 q37 t41).f2.f2, (rd_T97 q37 t41).f2.f3⟩ : S34)⟩ : S98)] : List S98).length < 2932031007402 then if t41 ≤ (q37.length : Int) then (if ([] : List S97).length + (q37.take t41.toNat).length < 2932031007402 then (if 0 ≤ (wrap64 (t41 + 1)) then (if (wrap64 (t41 + 1)) ≤ (q37.length : Int) then (if (([] : List S97) ++ (q37.take t41.toNat)).length + (q37.drop (wrap64 (t41 + 1)).toNat).length < 2932031007402 then spec_Kept.l0 k39 a1_0 a1_1 a1_2 a1_3 a1_4 a1_5 a1_6 t1 (q36 ++ ([(⟨a1_1, p38, (⟨(rd_T97 q37 t41).f2.f0, (rd_T97 q37 t41).f2.f1, (rd_T97 q37 t41).f2.f2, (rd_T97 q37 t41).f2.f3⟩ : S34)⟩ : S98)] : List S98)) ((([] : List S97) ++ (q37.take t41.toNat)) ++ (q37.drop (wrap64 (t41 + 1)).toNat)) (wrap64 (p38 + 1)) else none) else none) else none) else none) else none else none) else none) else none else spec_Kept.j1 k39 a1_0 a1_1 a1_2 a1_3 a1_4 a1_5 a1_6 t1 q36 q37 p38
def spec_Kept.j1 : Nat → Int → Int → Int → Int → Int → Int → Int → ((List S98) × (List Int) × (List S97) × Int × (List Int)) → (List S98) → (List S97) → Int → Option ((List S98) × (List Int) × (List S97) × Int × (List Int) × Bool)
 | 0, _, _, _, _, _, _, _, _, _, _, _ => none
 | k57 + 1, a1_0, a1_1, a1_2, a1_3, a1_4, a1_5, a1_6, t1, q54, q55, p56 => if a1_1 < (t1.2.1.length : Int) then some (q54, t1.2.1.set a1_1.toNat p56, q55, t1.2.2.2.1, t1.2.2.2.2, true) else none
end
def spec_Kept.f (k : Nat) (l0_0 : List S98) (l0_1 : List Int) (l0_2 : List S97) (a0_3 : Int) (l0_4 : List Int) (a1_0 : Int) (a1_1 : Int) (a1_2 : Int) (a1_3 : Int) (a1_4 : Int) (a1_5 : Int) (a1_6 : Int) : Option ((List S98) × (List Int) × (List S97) × Int × (List Int) × Bool) := (spec_l20Copy.f l0_0 l0_1 l0_2 a0_3 l0_4).bind fun t1 => (spec_FrameOk.f a1_0 a1_1 a1_2 a1_3 a1_4 a1_5 a1_6).bind fun t3 => (if t3 = true then (if a1_0 = 1 then (if a1_1 ≥ (l0_1.length : Int) then some (t1.1, t1.2.1, t1.2.2.1, t1.2.2.2.1, t1.2.2.2.2, false) else if (l0_0.length : Int) ≥ 200 then some (t1.1, t1.2.1, t1.2.2.1, t1.2.2.2.1, t1.2.2.2.2, false) else if 0 ≤ a1_1 then (if a1_1 < (l0_1.length : Int) then if a1_2 = (rd l0_1 a1_1) then if t1.1.length + ([(⟨a1_1, a1_2, (⟨a1_3, a1_4, a1_5, a1_6⟩ : S34)⟩ : S98)] : List S98).length < 2932031007402 then spec_Kept.l0 k a1_0 a1_1 a1_2 a1_3 a1_4 a1_5 a1_6 t1 (t1.1 ++ ([(⟨a1_1, a1_2, (⟨a1_3, a1_4, a1_5, a1_6⟩ : S34)⟩ : S98)] : List S98)) t1.2.2.1 (wrap64 ((rd l0_1 a1_1) + 1)) else none else (if a1_2 > (rd l0_1 a1_1) then (if (wrap64 (a1_2 - 3)) ≤ (rd l0_1 a1_1) then ((spec_l20Early.f k l0_2 a1_1 a1_2).bind fun t14 => (if t14 < 0 then spec_Kept.j0 k a1_0 a1_1 a1_2 a1_3 a1_4 a1_5 a1_6 t1 (decide ((l0_2.length : Int) < 3)) else spec_Kept.j0 k a1_0 a1_1 a1_2 a1_3 a1_4 a1_5 a1_6 t1 false)) else spec_Kept.j0 k a1_0 a1_1 a1_2 a1_3 a1_4 a1_5 a1_6 t1 false) else spec_Kept.j0 k a1_0 a1_1 a1_2 a1_3 a1_4 a1_5 a1_6 t1 false) else none) else none) else some (t1.1, t1.2.1, t1.2.2.1, t1.2.2.2.1, t1.2.2.2.2, false)) else some (t1.1, t1.2.1, t1.2.2.1, t1.2.2.2.1, t1.2.2.2.2, false))
theorem spec_Kept.ok {k : Nat} {l0_0 : List S98} {l0_1 : List Int} {l0_2 : List S97} {a0_3 : Int} {l0_4 : List Int} {a1_0 : Int} {a1_1 : Int} {a1_2 : Int} {a1_3 : Int} {a1_4 : Int} {a1_5 : Int} {a1_6 : Int} {r : (List S98) × (List Int) × (List S97) × Int × (List Int) × Bool} (H : spec_Kept.f k l0_0 l0_1 l0_2 a0_3 l0_4 a1_0 a1_1 a1_2 a1_3 a1_4 a1_5 a1_6 = some r) : ACalls Try.prog 21 [] [.agg [.sl .o 6 (l0_0.map e98), .sl .o 1 (l0_1.map (eI .i64)), .sl .o 6 (l0_2.map e97), .lit (.int .i64 a0_3), .sl .o 1 (l0_4.map (eI .i64))], .agg [.lit (.int .i64 a1_0), .lit (.int .i64 a1_1), .lit (.int .i64 a1_2), .lit (.int .i64 a1_3), .lit (.int .i64 a1_4), .lit (.int .i64 a1_5), .lit (.int .i64 a1_6)]] [(0, .row 98 6 (r.1.map e98)), (1, .row 3 1 (r.2.1.map (eI .i64))), (2, .row 97 6 (r.2.2.1.map e97)), (3, .row 3 1 (r.2.2.2.2.1.map (eI .i64)))] (.tup [.agg [.row 0, .row 1, .row 2, .lit (.int .i64 r.2.2.2.1), .row 3], .lit (.bool r.2.2.2.2.2)]) := by
 refine acalls (fn := Try.f21) (nt := 147) Try.func21 rfl rfl (Nat.le_of_ble_eq_true rfl) fun E hE => ?_
 rw [spec_Kept.f] at H
 refine aw_grp1 ?_
 refine wk_start ?_
 refine kb g0 (bxA 0) ?_
 refine kb g0 (bxA 1) ?_
 refine kb g0 (alc 2 [.slice none 0 0, .slice none 0 0, .slice none 0 0, .int .i64 0, .slice none 0 0] [.lit (.slice none 0 0), .lit (.slice none 0 0), .lit (.slice none 0 0), .lit (.int .i64 0), .lit (.slice none 0 0)]) ?_
 refine kv g0 (asg) ?_
 refine wk_end ?_
 refine ac_next ?_
 refine aw_grp1 ?_
 refine wk_start ?_
 refine kv g0 (ldBA 5 [.sl .o 6 (l0_0.map e98), .sl .o 1 (l0_1.map (eI .i64)), .sl .o 6 (l0_2.map e97), .lit (.int .i64 a0_3), .sl .o 1 (l0_4.map (eI .i64))]) ?_
 obtain ⟨t1, A2, H⟩ := of_bind H
 refine kcS4 10 (.agg [.row 3, .row 4, .row 5, .lit (.int .i64 t1.2.2.2.1), .row 6]) [(3, .row 98 6 (t1.1.map e98)), (4, .row 3 1 (t1.2.1.map (eI .i64))), (5, .row 97 6 (t1.2.2.1.map e97)), (6, .row 3 1 (t1.2.2.2.2.map (eI .i64)))] g0 (cal (spec_l20Copy.ok A2) [3, 4, 5, 6] 9999 .n (hf := Try.func64)) rfl rfl ?_
 refine kb g0 (alc 7 [.slice none 0 0, .slice none 0 0, .slice none 0 0, .int .i64 0, .slice none 0 0] [.lit (.slice none 0 0), .lit (.slice none 0 0), .lit (.slice none 0 0), .lit (.int .i64 0), .lit (.slice none 0 0)]) ?_
 refine ks g0 (stB 5 [.row 3, .row 4, .row 5, .lit (.int .i64 t1.2.2.2.1), .row 6]) ?_
 refine wk_end ?_
 refine ac_next ?_
 refine aw_grp1 ?_
 refine aw_grp1 ?_
 refine wk_start ?_
 refine kv g0 (ldBA 7 [.lit (.int .i64 a1_0), .lit (.int .i64 a1_1), .lit (.int .i64 a1_2), .lit (.int .i64 a1_3), .lit (.int .i64 a1_4), .lit (.int .i64 a1_5), .lit (.int .i64 a1_6)]) ?_
 obtain ⟨t3, A4, H⟩ := of_bind H
 refine kcS0 12 (.lit (.bool t3)) [] g0 (cal (spec_FrameOk.ok A4) [] 9999 .n (hf := Try.func65)) rfl rfl ?_
 refine kv g0 (not_) ?_
 refine kv g0 (mv) ?_
 by_cases c5 : t3 = true
 ·rw [if_pos c5] at H
  refine kv (g1 (nF c5)) (faB 0 0) ?_
  refine kv (g1 (nF c5)) (ldB) ?_
  refine kv (g1 (nF c5)) (neq) ?_
  refine kv g0 (pkF (nF c5)) ?_
  refine kv g0 (mv) ?_
  by_cases c6 : a1_0 = 1
  ·rw [if_pos c6] at H
   refine kv (g1 (eM c6)) (faB 1 1) ?_
   refine kv (g1 (eM c6)) (ldB) ?_
   refine kv (g1 (eM c6)) (faB 1 1) ?_
   refine kv (g1 (eM c6)) (ldB) ?_
   refine kv (g1 (eM c6)) (lnS lenE) ?_
   refine kv (g1 (eM c6)) (geq) ?_
   refine kv g0 (pkF (eM c6)) ?_
   refine kv g0 (mv) ?_
   by_cases c7 : a1_1 ≥ (l0_1.length : Int)
   ·rw [if_pos c7] at H
    refine kx (hF (decide_eq_true c7)) ?_
    refine kx (hF (decide_eq_true c7)) ?_
    refine kx (hF (decide_eq_true c7)) ?_
    refine kx (hF (decide_eq_true c7)) ?_
    refine kv g0 (pkT (decide_eq_true c7)) ?_
    refine wk_end ?_
    refine ac_next ?_
    refine aw_ifT ?_ rfl
    refine aw_grp1 ?_
    refine wk_start ?_
    refine kv g0 (ldBA 5 [.row 3, .row 4, .row 5, .lit (.int .i64 t1.2.2.2.1), .row 6]) ?_
    refine ks g0 (stB 5 [.row 3, .row 4, .row 5, .lit (.int .i64 t1.2.2.2.1), .row 6]) ?_
    refine kv g0 (asg) ?_
    refine wk_end ?_
    refine ac_next ?_
    refine aw_ret ?_
    refine ac_thenR ?_
    obtain rfl := Option.some.inj H
    exact acr hE [.cell 4 29, .tmp 5] (rcA 5 (.tmp .nil)) (.many _ _ _) [(0, 3), (1, 4), (2, 5), (3, 6)] 9999
   rw [if_neg c7] at H
   refine kv (g1 (decide_eq_false c7)) (faB 0 0) ?_
   refine kv (g1 (decide_eq_false c7)) (ldB) ?_
   refine kv (g1 (decide_eq_false c7)) (lnS lenE) ?_
   refine kv (g1 (decide_eq_false c7)) (geq) ?_
   refine kv g0 (pkF (decide_eq_false c7)) ?_
   refine wk_end ?_
   refine ac_next ?_
   by_cases c8 : (l0_0.length : Int) ≥ 200
   ·rw [if_pos c8] at H
    refine aw_ifT ?_ (decide_eq_true c8)
    refine aw_grp1 ?_
    refine wk_start ?_
    refine kv g0 (ldBA 5 [.row 3, .row 4, .row 5, .lit (.int .i64 t1.2.2.2.1), .row 6]) ?_
    refine ks g0 (stB 5 [.row 3, .row 4, .row 5, .lit (.int .i64 t1.2.2.2.1), .row 6]) ?_
    refine kv g0 (asg) ?_
    refine wk_end ?_
    refine ac_next ?_
    refine aw_ret ?_
    refine ac_thenR ?_
    obtain rfl := Option.some.inj H
    exact acr hE [.cell 4 29, .tmp 5] (rcA 5 (.tmp .nil)) (.many _ _ _) [(0, 3), (1, 4), (2, 5), (3, 6)] 9999
   rw [if_neg c8] at H
   refine aw_ifF ?_ (decide_eq_false c8)
   refine aw_skip ?_
   refine ac_next ?_
   refine aw_grp1 ?_
   refine wk_start ?_
   refine kv g0 (faB 1 1) ?_
   refine kv g0 (ldB) ?_
   refine kv g0 (faB 1 1) ?_
   refine kv g0 (ldB) ?_
   obtain ⟨c9, H⟩ := of_if H
   obtain ⟨c10, H⟩ := of_if H
   refine kv g0 (ixS 3 (eI .i64 (rd l0_1 a1_1)) c9 (getE (z := (0 : Int)) c9 c10)) ?_
   refine kv g0 (ldR (.lit (.int .i64 (rd l0_1 a1_1)))) ?_
   refine kv g0 (asg) ?_
   refine wk_end ?_
   refine ac_next ?_
   refine aw_grp1 ?_
   refine aw_grp1 ?_
   refine wk_start ?_
   refine kv g0 (faB 2 2) ?_
   refine kv g0 (ldB) ?_
   refine kv g0 (mv) ?_
   refine kv g0 (neq) ?_
   refine wk_end ?_
   refine ac_next ?_
   by_cases c11 : a1_2 = (rd l0_1 a1_1)
   ·rw [if_pos c11] at H
    refine aw_ifF ?_ (eM c11)
    refine aw_skip ?_
    refine ac_next ?_
    refine aw_grp1 ?_
    refine wk_start ?_
    refine kv g0 (faB 0 0) ?_
    refine kv g0 (ldB) ?_
    refine kv g0 (faB 1 1) ?_
    refine kv g0 (ldB) ?_
    refine kv g0 (faB 2 2) ?_
    refine kv g0 (ldB) ?_
    refine kv g0 (faB 3 3) ?_
    refine kv g0 (ldBA 4 [.lit (.int .i64 a1_3), .lit (.int .i64 a1_4), .lit (.int .i64 a1_5), .lit (.int .i64 a1_6)]) ?_
    refine kv g0 (bld [(0, 1), (1, 1), (2, 4)] [.int .i64 0, .int .i64 0, .int .i64 0, .int .i64 0, .int .i64 0, .int .i64 0] [.lit (.int .i64 a1_1), .lit (.int .i64 a1_2), .lit (.int .i64 a1_3), .lit (.int .i64 a1_4), .lit (.int .i64 a1_5), .lit (.int .i64 a1_6)]) ?_
    refine kb g0 (bsl 10 98 6 [.int .i64 0, .int .i64 0, .int .i64 0, .int .i64 0, .int .i64 0, .int .i64 0] (([(⟨a1_1, a1_2, (⟨a1_3, a1_4, a1_5, a1_6⟩ : S34)⟩ : S98)] : List S98).map e98)) ?_
    obtain ⟨c22, H⟩ := of_if H
    refine kc g0 (apR 11 98 6 48 [.int .i64 0, .int .i64 0, .int .i64 0, .int .i64 0, .int .i64 0, .int .i64 0] ((t1.1 ++ ([(⟨a1_1, a1_2, (⟨a1_3, a1_4, a1_5, a1_6⟩ : S34)⟩ : S98)] : List S98)).map e98) (.row rfl) (apb c22 rfl) appE) ?_
    refine kv g0 (faB 0 0) ?_
    refine ks g0 (stB 1 [.row 11, .row 4, .row 5, .lit (.int .i64 t1.2.2.2.1), .row 6]) ?_
    refine wk_end ?_
    refine ac_next ?_
    refine aw_grp1 ?_
    refine wk_start ?_
    refine kv g0 (mv) ?_
    refine kv g0 (add6) ?_
    refine kv g0 (asg) ?_
    refine wk_end ?_
    refine ac_next ?_
    refine aw_cut1 (J := fun K_ => ∀ (k_ : Nat) (q54 : List S98) (q55 : List S97) (p56 : Int), k_ ≤ k → spec_Kept.j1 k_ a1_0 a1_1 a1_2 a1_3 a1_4 a1_5 a1_6 t1 q54 q55 p56 = some r → ACont E 147 ⟨[(3, .box 1 0), (4, .box 2 0), (6, .box 7 0), (7, .lit (.int .i64 p56))], [(1, .box 36 [.lit (.int .i64 a1_0), .lit (.int .i64 a1_1), .lit (.int .i64 a1_2), .lit (.int .i64 a1_3), .lit (.int .i64 a1_4), .lit (.int .i64 a1_5), .lit (.int .i64 a1_6)]), (2, .box 29 [.lit (.slice none 0 0), .lit (.slice none 0 0), .lit (.slice none 0 0), .lit (.int .i64 0), .lit (.slice none 0 0)]), (4, .row 3 1 (t1.2.1.map (eI .i64))), (5, .row 97 6 (q55.map e97)), (6, .row 3 1 (t1.2.2.2.2.map (eI .i64))), (7, .box 29 [.row 11, .row 4, .row 5, .lit (.int .i64 t1.2.2.2.1), .row 6]), (11, .row 98 6 (q54.map e98))]⟩ K_) ?_ ?_
    ·intro K_ hJ59
     refine aw_block ?_
     refine aw_loop3 (fun (k_ : Nat) (q36 : List S98) (q37 : List S97) (p38 : Int) => k_ ≤ k ∧ spec_Kept.l0 k_ a1_0 a1_1 a1_2 a1_3 a1_4 a1_5 a1_6 t1 q36 q37 p38 = some r) (fun (q36 : List S98) (q37 : List S97) (p38 : Int) => ⟨[(3, .box 1 0), (4, .box 2 0), (6, .box 7 0), (7, .lit (.int .i64 p38))], [(1, .box 36 [.lit (.int .i64 a1_0), .lit (.int .i64 a1_1), .lit (.int .i64 a1_2), .lit (.int .i64 a1_3), .lit (.int .i64 a1_4), .lit (.int .i64 a1_5), .lit (.int .i64 a1_6)]), (2, .box 29 [.lit (.slice none 0 0), .lit (.slice none 0 0), .lit (.slice none 0 0), .lit (.int .i64 0), .lit (.slice none 0 0)]), (4, .row 3 1 (t1.2.1.map (eI .i64))), (5, .row 97 6 (q37.map e97)), (6, .row 3 1 (t1.2.2.2.2.map (eI .i64))), (7, .box 29 [.row 11, .row 4, .row 5, .lit (.int .i64 t1.2.2.2.1), .row 6]), (11, .row 98 6 (q36.map e98))]⟩) k (t1.1 ++ ([(⟨a1_1, a1_2, (⟨a1_3, a1_4, a1_5, a1_6⟩ : S34)⟩ : S98)] : List S98)) t1.2.2.1 (wrap64 ((rd l0_1 a1_1) + 1)) ⟨Nat.le_refl _, H⟩ (fun K_ h_ => acw hE [(1, 1), (2, 2), (4, 4), (5, 5), (6, 6), (7, 7), (11, 11)] 9999 h_) (fun _ _ _ => by intro h_; have h_ := h_.2; rw [spec_Kept.l0.eq_1] at h_; cases h_) ?_
     intro k39 q36 q37 p38 hq_ K52 hK53
     have hk39 := hq_.1
     have H := hq_.2
     clear hq_
     rw [spec_Kept.l0.eq_2] at H
     refine aw_grp1 ?_
     refine aw_grp1 ?_
     refine wk_start ?_
     refine kv g0 (faB 0 0) ?_
     refine kv g0 (ldB) ?_
     refine kv g0 (lnR lenE) ?_
     refine kv g0 (lss) ?_
     refine wk_end ?_
     refine ac_next ?_
     by_cases c40 : (q36.length : Int) < 200
     ·rw [if_pos c40] at H
      refine aw_ifT ?_ (decide_eq_true c40)
      refine aw_skip ?_
      refine ac_next ?_
      refine aw_block ?_
      refine aw_grp1 ?_
      refine wk_start ?_
      refine kv g0 (faB 2 2) ?_
      refine kv g0 (ldB) ?_
      refine kv g0 (faB 1 1) ?_
      refine kv g0 (ldB) ?_
      refine kv g0 (mv) ?_
      obtain ⟨t41, A42, H⟩ := of_bind H
      refine kcS0 107 (.lit (.int .i64 t41)) [] g0 (cal (spec_l20Early.ok A42) [] 9999 .n (hf := Try.func66)) rfl rfl ?_
      refine kv g0 (asg) ?_
      refine wk_end ?_
      refine ac_next ?_
      refine aw_grp1 ?_
      refine aw_grp1 ?_
      refine wk_start ?_
      refine kv g0 (mv) ?_
      refine kv g0 (lss) ?_
      refine wk_end ?_
      refine ac_next ?_
      by_cases c43 : t41 < 0
      ·rw [if_pos c43] at H
       refine aw_ifT ?_ (decide_eq_true c43)
       refine aw_exit ?_
       refine ac_then ?_
       refine ac_miss rfl ?_
       refine ac_then ?_
       refine ac_hit rfl ?_
       refine ac_k ?_
       exact acw hE [(1, 1), (2, 2), (4, 4), (5, 5), (6, 6), (7, 7), (11, 11)] 9999 (hJ59 k39 q36 q37 p38 (by omega) H)
      rw [if_neg c43] at H
      refine aw_ifF ?_ (decide_eq_false c43)
      refine aw_skip ?_
      refine ac_next ?_
      refine aw_grp1 ?_
      refine wk_start ?_
      refine kv g0 (faB 0 0) ?_
      refine kv g0 (ldB) ?_
      refine kv g0 (faB 1 1) ?_
      refine kv g0 (ldB) ?_
      refine kv g0 (mv) ?_
      refine kv g0 (faB 2 2) ?_
      refine kv g0 (ldB) ?_
      refine kv g0 (mv) ?_
      obtain ⟨c44, H⟩ := of_if H
      obtain ⟨c45, H⟩ := of_if H
      refine kv g0 (ixR 97 c44 (ltE c45)) ?_
      refine kv g0 (faE 2 2) ?_
      refine kv g0 (ldEA 4 (e97 (rd_T97 q37 t41)) [.lit (.int .i64 ((rd_T97 q37 t41).f2.f0)), .lit (.int .i64 ((rd_T97 q37 t41).f2.f1)), .lit (.int .i64 ((rd_T97 q37 t41).f2.f2)), .lit (.int .i64 ((rd_T97 q37 t41).f2.f3))] (getE (z := z97) c44 c45)) ?_
      refine kv g0 (bld [(0, 1), (1, 1), (2, 4)] [.int .i64 0, .int .i64 0, .int .i64 0, .int .i64 0, .int .i64 0, .int .i64 0] [.lit (.int .i64 a1_1), .lit (.int .i64 p38), .lit (.int .i64 ((rd_T97 q37 t41).f2.f0)), .lit (.int .i64 ((rd_T97 q37 t41).f2.f1)), .lit (.int .i64 ((rd_T97 q37 t41).f2.f2)), .lit (.int .i64 ((rd_T97 q37 t41).f2.f3))]) ?_
      refine kb g0 (bsl 12 98 6 [.int .i64 0, .int .i64 0, .int .i64 0, .int .i64 0, .int .i64 0, .int .i64 0] (([(⟨a1_1, p38, (⟨(rd_T97 q37 t41).f2.f0, (rd_T97 q37 t41).f2.f1, (rd_T97 q37 t41).f2.f2, (rd_T97 q37 t41).f2.f3⟩ : S34)⟩ : S98)] : List S98).map e98)) ?_
      obtain ⟨c46, H⟩ := of_if H
      refine kc g0 (apR 13 98 6 48 [.int .i64 0, .int .i64 0, .int .i64 0, .int .i64 0, .int .i64 0, .int .i64 0] ((q36 ++ ([(⟨a1_1, p38, (⟨(rd_T97 q37 t41).f2.f0, (rd_T97 q37 t41).f2.f1, (rd_T97 q37 t41).f2.f2, (rd_T97 q37 t41).f2.f3⟩ : S34)⟩ : S98)] : List S98)).map e98) (.row rfl) (apb c46 rfl) appE) ?_
      refine kv g0 (faB 0 0) ?_
      refine ks g0 (stB 1 [.row 13, .row 4, .row 5, .lit (.int .i64 t1.2.2.2.1), .row 6]) ?_
      refine wk_end_draw hM (by kernel_rfl) ?_
      refine ac_next ?_
      refine aw_grp1 ?_
      refine wk_start ?_
      refine kb g0 (bsl 14 97 6 [.int .i64 0, .int .i64 0, .int .i64 0, .int .i64 0, .int .i64 0, .int .i64 0] (([] : List S97).map e97)) ?_
      refine kv g0 (faB 2 2) ?_
      refine kv g0 (ldB) ?_
      refine kv g0 (mv) ?_
      obtain ⟨c47, H⟩ := of_if H
      refine kv g0 (srH 97 c44 c47) ?_
      obtain ⟨c48, H⟩ := of_if H
      refine kc g0 (apR 15 97 6 48 [.int .i64 0, .int .i64 0, .int .i64 0, .int .i64 0, .int .i64 0, .int .i64 0] ((([] : List S97) ++ (q37.take t41.toNat)).map e97) (nwS rfl mapT) (apb c48 rfl) appE) ?_
      refine kv g0 (faB 2 2) ?_
      refine kv g0 (ldB) ?_
      refine kv g0 (mv) ?_
      refine kv g0 (add6) ?_
      obtain ⟨c49, H⟩ := of_if H
      obtain ⟨c50, H⟩ := of_if H
      refine kv g0 (srL 97 c49 c50) ?_
      obtain ⟨c51, H⟩ := of_if H
      refine kc g0 (apR 16 97 6 48 [.int .i64 0, .int .i64 0, .int .i64 0, .int .i64 0, .int .i64 0, .int .i64 0] (((([] : List S97) ++ (q37.take t41.toNat)) ++ (q37.drop (wrap64 (t41 + 1)).toNat)).map e97) (nwS rfl mapD) (apb c51 rfl) appE) ?_
      refine kv g0 (faB 2 2) ?_
      refine ks g0 (stB 1 [.row 13, .row 4, .row 16, .lit (.int .i64 t1.2.2.2.1), .row 6]) ?_
      refine wk_end_draw hM (by kernel_rfl) ?_
      refine ac_next ?_
      refine wk_start ?_
      refine kv g0 (mv) ?_
      refine kv g0 (add6) ?_
      refine kv g0 (asg) ?_
      refine wk_end ?_
      refine ac_blkN ?_
      refine ac_k ?_
      exact acw hE [(1, 1), (2, 2), (4, 4), (5, 16), (6, 6), (7, 7), (11, 13)] 9999 (hK53 k39 (q36 ++ ([(⟨a1_1, p38, (⟨(rd_T97 q37 t41).f2.f0, (rd_T97 q37 t41).f2.f1, (rd_T97 q37 t41).f2.f2, (rd_T97 q37 t41).f2.f3⟩ : S34)⟩ : S98)] : List S98)) ((([] : List S97) ++ (q37.take t41.toNat)) ++ (q37.drop (wrap64 (t41 + 1)).toNat)) (wrap64 (p38 + 1)) (Nat.le_refl _) ⟨by omega, H⟩)
     rw [if_neg c40] at H
     refine aw_ifF ?_ (decide_eq_false c40)
     refine aw_exit ?_
     refine ac_then ?_
     refine ac_then ?_
     refine ac_hit rfl ?_
     refine ac_k ?_
     exact acw hE [(1, 1), (2, 2), (4, 4), (5, 5), (6, 6), (7, 7), (11, 11)] 9999 (hJ59 k39 q36 q37 p38 (by omega) H)
    intro k_ q54 q55 p56 hk_ H
    rcases k_ with _ | k57
    ·rw [spec_Kept.j1.eq_1] at H; cases H
    have hk57 : k57 ≤ k := by omega
    clear hk_
    rw [spec_Kept.j1.eq_2] at H
    refine aw_grp1 ?_
    refine wk_start ?_
    refine kv g0 (faB 1 1) ?_
    refine kv g0 (ldB) ?_
    refine kv g0 (faB 1 1) ?_
    refine kv g0 (ldB) ?_
    refine kv g0 (mv) ?_
    obtain ⟨c58, H⟩ := of_if H
    refine kv g0 (ixR 3 c9 (ltE c58)) ?_
    refine ks g0 (stE 1 (eI .i64 p56) ((t1.2.1.set a1_1.toNat p56).map (eI .i64)) (getE (z := (0 : Int)) c9 c58) setE) ?_
    refine wk_end ?_
    refine ac_next ?_
    refine aw_grp1 ?_
    refine wk_start ?_
    refine kv g0 (ldBA 5 [.row 11, .row 4, .row 5, .lit (.int .i64 t1.2.2.2.1), .row 6]) ?_
    refine ks g0 (stB 5 [.row 11, .row 4, .row 5, .lit (.int .i64 t1.2.2.2.1), .row 6]) ?_
    refine kv g0 (asg) ?_
    refine wk_end ?_
    refine ac_next ?_
    refine aw_ret ?_
    obtain rfl := Option.some.inj H
    exact acr hE [.cell 4 29, .tmp 5] (rcA 5 (.tmp .nil)) (.many _ _ _) [(0, 11), (1, 4), (2, 5), (3, 6)] 9999
   rw [if_neg c11] at H
   refine aw_ifT ?_ (eN c11)
   refine aw_grp1 ?_
   refine aw_cut1 (J := fun K_ => ∀ (k_ : Nat) (p17 : Bool), k_ ≤ k → spec_Kept.j0 k_ a1_0 a1_1 a1_2 a1_3 a1_4 a1_5 a1_6 t1 p17 = some r → ACont E 147 ⟨[(3, .box 1 0), (4, .box 2 0), (6, .box 7 0), (70, .lit (.bool p17))], [(1, .box 36 [.lit (.int .i64 a1_0), .lit (.int .i64 a1_1), .lit (.int .i64 a1_2), .lit (.int .i64 a1_3), .lit (.int .i64 a1_4), .lit (.int .i64 a1_5), .lit (.int .i64 a1_6)]), (2, .box 29 [.lit (.slice none 0 0), .lit (.slice none 0 0), .lit (.slice none 0 0), .lit (.int .i64 0), .lit (.slice none 0 0)]), (3, .row 98 6 (t1.1.map e98)), (4, .row 3 1 (t1.2.1.map (eI .i64))), (5, .row 97 6 (t1.2.2.1.map e97)), (6, .row 3 1 (t1.2.2.2.2.map (eI .i64))), (7, .box 29 [.row 3, .row 4, .row 5, .lit (.int .i64 t1.2.2.2.1), .row 6])]⟩ K_) ?_ ?_
   ·intro K_ hJ21
    refine wk_start ?_
    refine kv g0 (faB 2 2) ?_
    refine kv g0 (ldB) ?_
    refine kv g0 (mv) ?_
    refine kv g0 (gtr) ?_
    refine kv g0 (mv) ?_
    by_cases c12 : a1_2 > (rd l0_1 a1_1)
    ·rw [if_pos c12] at H
     refine kv (g1 (decide_eq_true c12)) (faB 2 2) ?_
     refine kv (g1 (decide_eq_true c12)) (ldB) ?_
     refine kv (g1 (decide_eq_true c12)) (sub6) ?_
     refine kv (g1 (decide_eq_true c12)) (mv) ?_
     refine kv (g1 (decide_eq_true c12)) (leq) ?_
     refine kv g0 (pkT (decide_eq_true c12)) ?_
     refine kv g0 (mv) ?_
     by_cases c13 : (wrap64 (a1_2 - 3)) ≤ (rd l0_1 a1_1)
     ·rw [if_pos c13] at H
      refine kv (g1 (decide_eq_true c13)) (faB 2 2) ?_
      refine kv (g1 (decide_eq_true c13)) (ldB) ?_
      refine kv (g1 (decide_eq_true c13)) (faB 1 1) ?_
      refine kv (g1 (decide_eq_true c13)) (ldB) ?_
      refine kv (g1 (decide_eq_true c13)) (faB 2 2) ?_
      refine kv (g1 (decide_eq_true c13)) (ldB) ?_
      obtain ⟨t14, A15, H⟩ := of_bind H
      refine kcS0 62 (.lit (.int .i64 t14)) [] (g1 (decide_eq_true c13)) (cal (spec_l20Early.ok A15) [] 9999 .n (hf := Try.func66)) rfl rfl ?_
      refine kv (g1 (decide_eq_true c13)) (lss) ?_
      refine kv g0 (pkT (decide_eq_true c13)) ?_
      refine kv g0 (mv) ?_
      by_cases c16 : t14 < 0
      ·rw [if_pos c16] at H
       refine kv (g1 (decide_eq_true c16)) (faB 2 2) ?_
       refine kv (g1 (decide_eq_true c16)) (ldB) ?_
       refine kv (g1 (decide_eq_true c16)) (lnS lenE) ?_
       refine kv (g1 (decide_eq_true c16)) (lss) ?_
       refine kv g0 (pkT (decide_eq_true c16)) ?_
       refine wk_end ?_
       refine ac_k ?_
       exact acw hE [(1, 1), (2, 2), (3, 3), (4, 4), (5, 5), (6, 6), (7, 7)] 9999 (hJ21 k (decide ((l0_2.length : Int) < 3)) (Nat.le_refl _) H)
      rw [if_neg c16] at H
      refine kx (hT (decide_eq_false c16)) ?_
      refine kx (hT (decide_eq_false c16)) ?_
      refine kx (hT (decide_eq_false c16)) ?_
      refine kx (hT (decide_eq_false c16)) ?_
      refine kv g0 (pkF (decide_eq_false c16)) ?_
      refine wk_end ?_
      refine ac_k ?_
      exact acw hE [(1, 1), (2, 2), (3, 3), (4, 4), (5, 5), (6, 6), (7, 7)] 9999 (hJ21 k false (Nat.le_refl _) H)
     rw [if_neg c13] at H
     refine kx (hT (decide_eq_false c13)) ?_
     refine kx (hT (decide_eq_false c13)) ?_
     refine kx (hT (decide_eq_false c13)) ?_
     refine kx (hT (decide_eq_false c13)) ?_
     refine kx (hT (decide_eq_false c13)) ?_
     refine kx (hT (decide_eq_false c13)) ?_
     refine kx (hT (decide_eq_false c13)) ?_
     refine kx (hT (decide_eq_false c13)) ?_
     refine kv g0 (pkF (decide_eq_false c13)) ?_
     refine kv g0 (mv) ?_
     refine kx (hT rfl) ?_
     refine kx (hT rfl) ?_
     refine kx (hT rfl) ?_
     refine kx (hT rfl) ?_
     refine kv g0 (pkF rfl) ?_
     refine wk_end ?_
     refine ac_k ?_
     exact acw hE [(1, 1), (2, 2), (3, 3), (4, 4), (5, 5), (6, 6), (7, 7)] 9999 (hJ21 k false (Nat.le_refl _) H)
    rw [if_neg c12] at H
    refine kx (hT (decide_eq_false c12)) ?_
    refine kx (hT (decide_eq_false c12)) ?_
    refine kx (hT (decide_eq_false c12)) ?_
    refine kx (hT (decide_eq_false c12)) ?_
    refine kx (hT (decide_eq_false c12)) ?_
    refine kv g0 (pkF (decide_eq_false c12)) ?_
    refine kv g0 (mv) ?_
    refine kx (hT rfl) ?_
    refine kx (hT rfl) ?_
    refine kx (hT rfl) ?_
    refine kx (hT rfl) ?_
    refine kx (hT rfl) ?_
    refine kx (hT rfl) ?_
    refine kx (hT rfl) ?_
    refine kx (hT rfl) ?_
    refine kv g0 (pkF rfl) ?_
    refine kv g0 (mv) ?_
    refine kx (hT rfl) ?_
    refine kx (hT rfl) ?_
    refine kx (hT rfl) ?_
    refine kx (hT rfl) ?_
    refine kv g0 (pkF rfl) ?_
    refine wk_end ?_
    refine ac_k ?_
    exact acw hE [(1, 1), (2, 2), (3, 3), (4, 4), (5, 5), (6, 6), (7, 7)] 9999 (hJ21 k false (Nat.le_refl _) H)
   intro k_ p17 hk_ H
   rcases k_ with _ | k18
   ·rw [spec_Kept.j0.eq_1] at H; cases H
   have hk18 : k18 ≤ k := by omega
   clear hk_
   rw [spec_Kept.j0.eq_2] at H
   by_cases c19 : p17 = true
   ·rw [if_pos c19] at H
    refine aw_ifT ?_ c19
    refine wk_start ?_
    refine kv g0 (faB 2 2) ?_
    refine kv g0 (ldB) ?_
    refine kv g0 (faB 1 1) ?_
    refine kv g0 (ldB) ?_
    refine kv g0 (faB 2 2) ?_
    refine kv g0 (ldB) ?_
    refine kv g0 (faB 3 3) ?_
    refine kv g0 (ldBA 4 [.lit (.int .i64 a1_3), .lit (.int .i64 a1_4), .lit (.int .i64 a1_5), .lit (.int .i64 a1_6)]) ?_
    refine kv g0 (bld [(0, 1), (1, 1), (2, 4)] [.int .i64 0, .int .i64 0, .int .i64 0, .int .i64 0, .int .i64 0, .int .i64 0] [.lit (.int .i64 a1_1), .lit (.int .i64 a1_2), .lit (.int .i64 a1_3), .lit (.int .i64 a1_4), .lit (.int .i64 a1_5), .lit (.int .i64 a1_6)]) ?_
    refine kb g0 (bsl 8 97 6 [.int .i64 0, .int .i64 0, .int .i64 0, .int .i64 0, .int .i64 0, .int .i64 0] (([(⟨a1_1, a1_2, (⟨a1_3, a1_4, a1_5, a1_6⟩ : S34)⟩ : S97)] : List S97).map e97)) ?_
    obtain ⟨c20, H⟩ := of_if H
    refine kc g0 (apR 9 97 6 48 [.int .i64 0, .int .i64 0, .int .i64 0, .int .i64 0, .int .i64 0, .int .i64 0] ((t1.2.2.1 ++ ([(⟨a1_1, a1_2, (⟨a1_3, a1_4, a1_5, a1_6⟩ : S34)⟩ : S97)] : List S97)).map e97) (.row rfl) (apb c20 rfl) appE) ?_
    refine kv g0 (faB 2 2) ?_
    refine ks g0 (stB 1 [.row 3, .row 4, .row 9, .lit (.int .i64 t1.2.2.2.1), .row 6]) ?_
    refine wk_end ?_
    refine ac_next ?_
    refine aw_grp1 ?_
    refine wk_start ?_
    refine kv g0 (ldBA 5 [.row 3, .row 4, .row 9, .lit (.int .i64 t1.2.2.2.1), .row 6]) ?_
    refine ks g0 (stB 5 [.row 3, .row 4, .row 9, .lit (.int .i64 t1.2.2.2.1), .row 6]) ?_
    refine kv g0 (asg) ?_
    refine wk_end ?_
    refine ac_next ?_
    refine aw_ret ?_
    refine ac_thenR ?_
    obtain rfl := Option.some.inj H
    exact acr hE [.cell 4 29, .tmp 5] (rcA 5 (.tmp .nil)) (.many _ _ _) [(0, 3), (1, 4), (2, 9), (3, 6)] 9999
   rw [if_neg c19] at H
   refine aw_ifF ?_ (bF c19)
   refine aw_skip ?_
   refine ac_next ?_
   refine aw_grp1 ?_
   refine wk_start ?_
   refine kv g0 (ldBA 5 [.row 3, .row 4, .row 5, .lit (.int .i64 t1.2.2.2.1), .row 6]) ?_
   refine ks g0 (stB 5 [.row 3, .row 4, .row 5, .lit (.int .i64 t1.2.2.2.1), .row 6]) ?_
   refine kv g0 (asg) ?_
   refine wk_end ?_
   refine ac_next ?_
   refine aw_ret ?_
   refine ac_thenR ?_
   obtain rfl := Option.some.inj H
   exact acr hE [.cell 4 29, .tmp 5] (rcA 5 (.tmp .nil)) (.many _ _ _) [(0, 3), (1, 4), (2, 5), (3, 6)] 9999
  rw [if_neg c6] at H
  refine kx (hF (eN c6)) ?_
  refine kx (hF (eN c6)) ?_
  refine kx (hF (eN c6)) ?_
  refine kx (hF (eN c6)) ?_
  refine kx (hF (eN c6)) ?_
  refine kx (hF (eN c6)) ?_
  refine kv g0 (pkT (eN c6)) ?_
  refine kv g0 (mv) ?_
  refine kx (hF rfl) ?_
  refine kx (hF rfl) ?_
  refine kx (hF rfl) ?_
  refine kx (hF rfl) ?_
  refine kv g0 (pkT rfl) ?_
  refine wk_end ?_
  refine ac_next ?_
  refine aw_ifT ?_ rfl
  refine aw_grp1 ?_
  refine wk_start ?_
  refine kv g0 (ldBA 5 [.row 3, .row 4, .row 5, .lit (.int .i64 t1.2.2.2.1), .row 6]) ?_
  refine ks g0 (stB 5 [.row 3, .row 4, .row 5, .lit (.int .i64 t1.2.2.2.1), .row 6]) ?_
  refine kv g0 (asg) ?_
  refine wk_end ?_
  refine ac_next ?_
  refine aw_ret ?_
  refine ac_thenR ?_
  obtain rfl := Option.some.inj H
  exact acr hE [.cell 4 29, .tmp 5] (rcA 5 (.tmp .nil)) (.many _ _ _) [(0, 3), (1, 4), (2, 5), (3, 6)] 9999
 rw [if_neg c5] at H
 refine kx (hF (nT (bF c5))) ?_
 refine kx (hF (nT (bF c5))) ?_
 refine kx (hF (nT (bF c5))) ?_
 refine kv g0 (pkT (nT (bF c5))) ?_
 refine kv g0 (mv) ?_
 refine kx (hF rfl) ?_
 refine kx (hF rfl) ?_
 refine kx (hF rfl) ?_
 refine kx (hF rfl) ?_
 refine kx (hF rfl) ?_
 refine kx (hF rfl) ?_
 refine kv g0 (pkT rfl) ?_
 refine kv g0 (mv) ?_
 refine kx (hF rfl) ?_
 refine kx (hF rfl) ?_
 refine kx (hF rfl) ?_
 refine kx (hF rfl) ?_
 refine kv g0 (pkT rfl) ?_
 refine wk_end ?_
 refine ac_next ?_
 refine aw_ifT ?_ rfl
 refine aw_grp1 ?_
 refine wk_start ?_
 refine kv g0 (ldBA 5 [.row 3, .row 4, .row 5, .lit (.int .i64 t1.2.2.2.1), .row 6]) ?_
 refine ks g0 (stB 5 [.row 3, .row 4, .row 5, .lit (.int .i64 t1.2.2.2.1), .row 6]) ?_
 refine kv g0 (asg) ?_
 refine wk_end ?_
 refine ac_next ?_
 refine aw_ret ?_
 refine ac_thenR ?_
 obtain rfl := Option.some.inj H
 exact acr hE [.cell 4 29, .tmp 5] (rcA 5 (.tmp .nil)) (.many _ _ _) [(0, 3), (1, 4), (2, 5), (3, 6)] 9999
/-! spec_l20Keeper -/
def spec_l20Keeper.l0 : Nat → (List Int) → Int → Int → (List S98) → (List Int) → (List S97) → Int → (List Int) → Int → Option ((List S98) × (List Int) × (List S97) × Int × (List Int) × (List Int) × Int × Int)
 | 0, _, _, _, _, _, _, _, _, _ => none
 | k34 + 1, q25, p26, p27, q28, q29, q30, p31, q32, p33 => (spec_l01Below.f q25 p26 p27 14).bind fun t35 => if p33 < t35.1 then (spec_l01Below.f t35.2.1 t35.2.2.1 t35.2.2.2 8).bind fun t38 => if t38.1 = 0 then ((spec_SaveKeeper.f q28 q29 q30 p31 q32).bind fun t41 => spec_l20Keeper.l0 k34 t38.2.1 t38.2.2.1 t38.2.2.2 t41.1 t41.2.1 t41.2.2.1 t41.2.2.2.1 t41.2.2.2.2 (wrap64 (p33 + 1))) else if t38.1 = 1 then ((spec_FallKeeper.f k34 q28 q29 q30 p31 q32).bind fun t44 => spec_l20Keeper.l0 k34 t38.2.1 t38.2.2.1 t38.2.2.2 t44.1 t44.2.1 t44.2.2.1 t44.2.2.2.1 t44.2.2.2.2 (wrap64 (p33 + 1))) else ((spec_l01Below.f t38.2.1 t38.2.2.1 t38.2.2.2 3).bind fun t46 => if 0 ≤ t46.1 then (if t46.1 < (q29.length : Int) then ((spec_l01PickInt.f t46.2.1 t46.2.2.1 t46.2.2.2 ([0, 0, 1, 2] : List Int)).bind fun t50 => ((spec_l17Item.f t50.2.1 t50.2.2.1 t50.2.2.2).bind fun t52 => ((spec_Kept.f k34 q28 q29 q30 p31 q32 1 t46.1 (wrap64 ((rd q29 t46.1) + t50.1)) t52.1 t52.2.1 t52.2.2.1 t52.2.2.2.1).bind fun t54 => spec_l20Keeper.l0 k34 t52.2.2.2.2.1 t52.2.2.2.2.2.1 t52.2.2.2.2.2.2 t54.1 t54.2.1 t54.2.2.1 t54.2.2.2.1 t54.2.2.2.2.1 (wrap64 (p33 + 1))))) else none) else none) else some (q28, q29, q30, p31, q32, t35.2.1, t35.2.2.1, t35.2.2.2)
def spec_l20Keeper.f (k : Nat) (l0_0 : List Int) (a0_1 : Int) (a0_2 : Int) : Option ((List S98) × (List Int) × (List S97) × Int × (List Int) × (List Int) × Int × Int) := (spec_KeeperNew.f k).bind fun t1 => spec_l20Keeper.l0 k l0_0 a0_1 a0_2 ([]) t1.1 ([]) t1.2.1 t1.2.2 0
theorem spec_l20Keeper.ok {k : Nat} {l0_0 : List Int} {a0_1 : Int} {a0_2 : Int} {r : (List S98) × (List Int) × (List S97) × Int × (List Int) × (List Int) × Int × Int} (H : spec_l20Keeper.f k l0_0 a0_1 a0_2 = some r) : ACalls Try.prog 58 [(0, .box 142 [.sl .u 1 (l0_0.map (eI .u8)), .lit (.int .i64 a0_1), .lit (.int .i64 a0_2)])] [.box 0 0] [(0, .box 142 [.sl .u 1 (r.2.2.2.2.2.1.map (eI .u8)), .lit (.int .i64 r.2.2.2.2.2.2.1), .lit (.int .i64 r.2.2.2.2.2.2.2)]), (1, .row 98 6 (r.1.map e98)), (2, .row 3 1 (r.2.1.map (eI .i64))), (3, .row 97 6 (r.2.2.1.map e97)), (4, .row 3 1 (r.2.2.2.2.1.map (eI .i64)))] (.agg [.row 1, .row 2, .row 3, .lit (.int .i64 r.2.2.2.1), .row 4]) := by
 refine acalls (fn := Try.f58) (nt := 44) Try.func58 rfl rfl (Nat.le_of_ble_eq_true rfl) fun E hE => ?_
 rw [spec_l20Keeper.f] at H
 refine aw_grp1 ?_
 refine wk_start ?_
 refine kb g0 (alc 1 [.slice none 0 0, .slice none 0 0, .slice none 0 0, .int .i64 0, .slice none 0 0] [.lit (.slice none 0 0), .lit (.slice none 0 0), .lit (.slice none 0 0), .lit (.int .i64 0), .lit (.slice none 0 0)]) ?_
 refine wk_end ?_
 refine ac_next ?_
 refine aw_grp1 ?_
 refine wk_start ?_
 obtain ⟨t1, A2, H⟩ := of_bind H
 refine kcS2 6 (.agg [.lit (.slice none 0 0), .row 2, .lit (.slice none 0 0), .lit (.int .i64 t1.2.1), .row 3]) [(2, .row 3 1 (t1.1.map (eI .i64))), (3, .row 3 1 (t1.2.2.map (eI .i64)))] g0 (cal (spec_KeeperNew.ok A2) [2, 3] 9999 .n (hf := Try.func114)) rfl rfl ?_
 refine kb g0 (alc 4 [.slice none 0 0, .slice none 0 0, .slice none 0 0, .int .i64 0, .slice none 0 0] [.lit (.slice none 0 0), .lit (.slice none 0 0), .lit (.slice none 0 0), .lit (.int .i64 0), .lit (.slice none 0 0)]) ?_
 refine ks g0 (stB 5 [.lit (.slice none 0 0), .row 2, .lit (.slice none 0 0), .lit (.int .i64 t1.2.1), .row 3]) ?_
 refine wk_end ?_
 refine ac_next ?_
 refine aw_grp1 ?_
 refine aw_grp1 ?_
 refine wk_start ?_
 refine kv g0 (asg) ?_
 refine wk_end ?_
 refine ac_next ?_
 refine aw_block ?_
 refine ac_nilB 4 0 18 98 6 [.row 18, .row 2, .lit (.slice none 0 0), .lit (.int .i64 t1.2.1), .row 3] ?_
 refine ac_nilB 4 2 19 97 6 [.row 18, .row 2, .row 19, .lit (.int .i64 t1.2.1), .row 3] ?_
 refine aw_loop9 (fun (k_ : Nat) (q25 : List Int) (p26 : Int) (p27 : Int) (q28 : List S98) (q29 : List Int) (q30 : List S97) (p31 : Int) (q32 : List Int) (p33 : Int) => k_ ≤ k ∧ spec_l20Keeper.l0 k_ q25 p26 p27 q28 q29 q30 p31 q32 p33 = some r) (fun (q25 : List Int) (p26 : Int) (p27 : Int) (q28 : List S98) (q29 : List Int) (q30 : List S97) (p31 : Int) (q32 : List Int) (p33 : Int) => ⟨[(0, .box 0 0), (2, .box 1 0), (3, .box 4 0), (4, .lit (.int .i64 p33))], [(0, .box 142 [.sl .u 1 (q25.map (eI .u8)), .lit (.int .i64 p26), .lit (.int .i64 p27)]), (1, .box 29 [.lit (.slice none 0 0), .lit (.slice none 0 0), .lit (.slice none 0 0), .lit (.int .i64 0), .lit (.slice none 0 0)]), (2, .row 3 1 (q29.map (eI .i64))), (3, .row 3 1 (q32.map (eI .i64))), (4, .box 29 [.row 18, .row 2, .row 19, .lit (.int .i64 p31), .row 3]), (18, .row 98 6 (q28.map e98)), (19, .row 97 6 (q30.map e97))]⟩) k l0_0 a0_1 a0_2 ([]) t1.1 ([]) t1.2.1 t1.2.2 0 ⟨Nat.le_refl _, H⟩ (fun K_ h_ => acw hE [(0, 0), (1, 1), (2, 2), (3, 3), (4, 4), (18, 18), (19, 19)] 9999 h_) (fun _ _ _ _ _ _ _ _ _ => by intro h_; have h_ := h_.2; rw [spec_l20Keeper.l0.eq_1] at h_; cases h_) ?_
 intro k34 q25 p26 p27 q28 q29 q30 p31 q32 p33 hq_ K56 hK57
 have hk34 := hq_.1
 have H := hq_.2
 clear hq_
 rw [spec_l20Keeper.l0.eq_2] at H
 refine aw_grp1 ?_
 refine aw_grp1 ?_
 refine wk_start ?_
 refine kv g0 (mv) ?_
 refine kv g0 (mv) ?_
 obtain ⟨t35, A36, H⟩ := of_bind H
 refine kcS1 9 (.lit (.int .i64 t35.1)) [(0, .box 142 [.sl .u 1 (t35.2.1.map (eI .u8)), .lit (.int .i64 t35.2.2.1), .lit (.int .i64 t35.2.2.2)])] g0 (cal (spec_l01Below.ok A36) [0] 9999 .u (hf := Try.func52)) rfl rfl ?_
 refine kv g0 (lss) ?_
 refine wk_end ?_
 refine ac_next ?_
 by_cases c37 : p33 < t35.1
 ·rw [if_pos c37] at H
  refine aw_ifT ?_ (decide_eq_true c37)
  refine aw_skip ?_
  refine ac_next ?_
  refine aw_grp1 ?_
  refine aw_block ?_
  refine aw_grp1 ?_
  refine wk_start ?_
  refine kv g0 (mv) ?_
  obtain ⟨t38, A39, H⟩ := of_bind H
  refine kcS1 14 (.lit (.int .i64 t38.1)) [(0, .box 142 [.sl .u 1 (t38.2.1.map (eI .u8)), .lit (.int .i64 t38.2.2.1), .lit (.int .i64 t38.2.2.2)])] g0 (cal (spec_l01Below.ok A39) [0] 9999 .u (hf := Try.func52)) rfl rfl ?_
  refine wk_end ?_
  refine ac_next ?_
  refine aw_block ?_
  refine aw_grp1 ?_
  refine wk_start ?_
  refine kv g0 (eql) ?_
  refine kv g0 (asg) ?_
  refine wk_end ?_
  refine ac_next ?_
  by_cases c40 : t38.1 = 0
  ·rw [if_pos c40] at H
   refine aw_ifT ?_ (eT c40)
   refine wk_start ?_
   refine kv g0 (ldBA 5 [.row 18, .row 2, .row 19, .lit (.int .i64 p31), .row 3]) ?_
   obtain ⟨t41, A42, H⟩ := of_bind H
   refine kcS4 38 (.agg [.row 20, .row 21, .row 22, .lit (.int .i64 t41.2.2.2.1), .row 23]) [(20, .row 98 6 (t41.1.map e98)), (21, .row 3 1 (t41.2.1.map (eI .i64))), (22, .row 97 6 (t41.2.2.1.map e97)), (23, .row 3 1 (t41.2.2.2.2.map (eI .i64)))] g0 (cal (spec_SaveKeeper.ok A42) [20, 21, 22, 23] 9999 .n (hf := Try.func27)) rfl rfl ?_
   refine ks g0 (stB 5 [.row 20, .row 21, .row 22, .lit (.int .i64 t41.2.2.2.1), .row 23]) ?_
   refine wk_end ?_
   refine ac_blkN ?_
   refine ac_blkN ?_
   refine ac_next ?_
   refine wk_start ?_
   refine kv g0 (mv) ?_
   refine kv g0 (add6) ?_
   refine kv g0 (asg) ?_
   refine wk_end ?_
   refine ac_k ?_
   exact acw hE [(0, 0), (1, 1), (2, 21), (3, 23), (4, 4), (18, 20), (19, 22)] 9999 (hK57 k34 t38.2.1 t38.2.2.1 t38.2.2.2 t41.1 t41.2.1 t41.2.2.1 t41.2.2.2.1 t41.2.2.2.2 (wrap64 (p33 + 1)) (Nat.le_refl _) ⟨by omega, H⟩)
  rw [if_neg c40] at H
  refine aw_ifF ?_ (eF c40)
  refine aw_grp1 ?_
  refine wk_start ?_
  refine kv g0 (eql) ?_
  refine kv g0 (asg) ?_
  refine wk_end ?_
  refine ac_next ?_
  by_cases c43 : t38.1 = 1
  ·rw [if_pos c43] at H
   refine aw_ifT ?_ (eT c43)
   refine wk_start ?_
   refine kv g0 (ldBA 5 [.row 18, .row 2, .row 19, .lit (.int .i64 p31), .row 3]) ?_
   obtain ⟨t44, A45, H⟩ := of_bind H
   refine kcS4 42 (.agg [.row 24, .row 25, .row 26, .lit (.int .i64 t44.2.2.2.1), .row 27]) [(24, .row 98 6 (t44.1.map e98)), (25, .row 3 1 (t44.2.1.map (eI .i64))), (26, .row 97 6 (t44.2.2.1.map e97)), (27, .row 3 1 (t44.2.2.2.2.map (eI .i64)))] g0 (cal (spec_FallKeeper.ok A45) [24, 25, 26, 27] 9999 .n (hf := Try.func28)) rfl rfl ?_
   refine ks g0 (stB 5 [.row 24, .row 25, .row 26, .lit (.int .i64 t44.2.2.2.1), .row 27]) ?_
   refine wk_end ?_
   refine ac_blkN ?_
   refine ac_blkN ?_
   refine ac_next ?_
   refine wk_start ?_
   refine kv g0 (mv) ?_
   refine kv g0 (add6) ?_
   refine kv g0 (asg) ?_
   refine wk_end ?_
   refine ac_k ?_
   exact acw hE [(0, 0), (1, 1), (2, 25), (3, 27), (4, 4), (18, 24), (19, 26)] 9999 (hK57 k34 t38.2.1 t38.2.2.1 t38.2.2.2 t44.1 t44.2.1 t44.2.2.1 t44.2.2.2.1 t44.2.2.2.2 (wrap64 (p33 + 1)) (Nat.le_refl _) ⟨by omega, H⟩)
  rw [if_neg c43] at H
  refine aw_ifF ?_ (eF c43)
  refine aw_grp1 ?_
  refine wk_start ?_
  refine kv g0 (mv) ?_
  obtain ⟨t46, A47, H⟩ := of_bind H
  refine kcS1 16 (.lit (.int .i64 t46.1)) [(0, .box 142 [.sl .u 1 (t46.2.1.map (eI .u8)), .lit (.int .i64 t46.2.2.1), .lit (.int .i64 t46.2.2.2)])] g0 (cal (spec_l01Below.ok A47) [0] 9999 .u (hf := Try.func52)) rfl rfl ?_
  refine kv g0 (asg) ?_
  refine wk_end ?_
  refine ac_next ?_
  refine wk_start ?_
  refine kv g0 (ldBA 5 [.row 18, .row 2, .row 19, .lit (.int .i64 p31), .row 3]) ?_
  refine kv g0 (mv) ?_
  refine kv g0 (faB 1 1) ?_
  refine kv g0 (ldB) ?_
  refine kv g0 (mv) ?_
  obtain ⟨c48, H⟩ := of_if H
  obtain ⟨c49, H⟩ := of_if H
  refine kv g0 (ixR 3 c48 (ltE c49)) ?_
  refine kv g0 (ldE (eI .i64 (rd q29 t46.1)) (.lit (.int .i64 (rd q29 t46.1))) (getE (z := (0 : Int)) c48 c49)) ?_
  refine kv g0 (mv) ?_
  refine kb g0 (bsl 28 3 1 [.int .i64 0] (([0, 0, 1, 2] : List Int).map (eI .i64))) ?_
  obtain ⟨t50, A51, H⟩ := of_bind H
  refine kcS1 27 (.lit (.int .i64 t50.1)) [(0, .box 142 [.sl .u 1 (t50.2.1.map (eI .u8)), .lit (.int .i64 t50.2.2.1), .lit (.int .i64 t50.2.2.2)])] g0 (cal (spec_l01PickInt.ok A51) [0] 9999 .u (hf := Try.func60)) rfl rfl ?_
  refine kv g0 (add6) ?_
  refine kv g0 (mv) ?_
  obtain ⟨t52, A53, H⟩ := of_bind H
  refine kcS1 30 (.agg [.lit (.int .i64 t52.1), .lit (.int .i64 t52.2.1), .lit (.int .i64 t52.2.2.1), .lit (.int .i64 t52.2.2.2.1)]) [(0, .box 142 [.sl .u 1 (t52.2.2.2.2.1.map (eI .u8)), .lit (.int .i64 t52.2.2.2.2.2.1), .lit (.int .i64 t52.2.2.2.2.2.2)])] g0 (cal (spec_l17Item.ok A53) [0] 9999 .u (hf := Try.func115)) rfl rfl ?_
  refine kv g0 (bld [(0, 1), (1, 1), (2, 1), (3, 4)] [.int .i64 0, .int .i64 0, .int .i64 0, .int .i64 0, .int .i64 0, .int .i64 0, .int .i64 0] [.lit (.int .i64 1), .lit (.int .i64 t46.1), .lit (.int .i64 (wrap64 ((rd q29 t46.1) + t50.1))), .lit (.int .i64 t52.1), .lit (.int .i64 t52.2.1), .lit (.int .i64 t52.2.2.1), .lit (.int .i64 t52.2.2.2.1)]) ?_
  obtain ⟨t54, A55, H⟩ := of_bind H
  refine kcS4 32 (.tup [.agg [.row 29, .row 30, .row 31, .lit (.int .i64 t54.2.2.2.1), .row 32], .lit (.bool t54.2.2.2.2.2)]) [(29, .row 98 6 (t54.1.map e98)), (30, .row 3 1 (t54.2.1.map (eI .i64))), (31, .row 97 6 (t54.2.2.1.map e97)), (32, .row 3 1 (t54.2.2.2.2.1.map (eI .i64)))] g0 (cal (spec_Kept.ok A55) [29, 30, 31, 32] 9999 .n (hf := Try.func21)) rfl rfl ?_
  refine kv g0 (mv) ?_
  refine kv g0 (ext) ?_
  refine kv g0 (ext) ?_
  refine ks g0 (stB 5 [.row 29, .row 30, .row 31, .lit (.int .i64 t54.2.2.2.1), .row 32]) ?_
  refine wk_end_draw hM (by kernel_rfl) ?_
  refine ac_blkN ?_
  refine ac_blkN ?_
  refine ac_next ?_
  refine wk_start ?_
  refine kv g0 (mv) ?_
  refine kv g0 (add6) ?_
  refine kv g0 (asg) ?_
  refine wk_end ?_
  refine ac_k ?_
  exact acw hE [(0, 0), (1, 1), (2, 30), (3, 32), (4, 4), (18, 29), (19, 31)] 9999 (hK57 k34 t52.2.2.2.2.1 t52.2.2.2.2.2.1 t52.2.2.2.2.2.2 t54.1 t54.2.1 t54.2.2.1 t54.2.2.2.1 t54.2.2.2.2.1 (wrap64 (p33 + 1)) (Nat.le_refl _) ⟨by omega, H⟩)
 rw [if_neg c37] at H
 refine aw_ifF ?_ (decide_eq_false c37)
 refine aw_exit ?_
 refine ac_then ?_
 refine ac_then ?_
 refine ac_hit rfl ?_
 refine ac_next ?_
 refine aw_grp1 ?_
 refine wk_start ?_
 refine kv g0 (ldBA 5 [.row 18, .row 2, .row 19, .lit (.int .i64 p31), .row 3]) ?_
 refine ks g0 (stB 5 [.row 18, .row 2, .row 19, .lit (.int .i64 p31), .row 3]) ?_
 refine wk_end ?_
 refine ac_next ?_
 refine aw_ret ?_
 obtain rfl := Option.some.inj H
 exact acr hE [.cell 2 29] (rcA 5 .nil) (.one _) [(0, 0), (1, 18), (2, 2), (3, 19), (4, 3)] 9999
/-! spec_DrawKeeper -/
def spec_DrawKeeper.f (k : Nat) (l0 : List Int) : Option ((List S98) × (List Int) × (List S97) × Int × (List Int)) := (spec_l01New.f k l0).bind fun t1 => ((spec_l20Keeper.f k t1.1 t1.2.1 t1.2.2).bind fun t3 => some (t3.1, t3.2.1, t3.2.2.1, t3.2.2.2.1, t3.2.2.2.2.1))
theorem spec_DrawKeeper.ok {k : Nat} {l0 : List Int} {r : (List S98) × (List Int) × (List S97) × Int × (List Int)} (H : spec_DrawKeeper.f k l0 = some r) : ACalls Try.prog 14 [] [.sl .o 1 (l0.map (eI .u8))] [(0, .row 98 6 (r.1.map e98)), (1, .row 3 1 (r.2.1.map (eI .i64))), (2, .row 97 6 (r.2.2.1.map e97)), (3, .row 3 1 (r.2.2.2.2.map (eI .i64)))] (.agg [.row 0, .row 1, .row 2, .lit (.int .i64 r.2.2.2.1), .row 3]) := by
 refine acalls (fn := Try.f14) (nt := 6) Try.func14 rfl rfl (Nat.le_of_ble_eq_true rfl) fun E hE => ?_
 rw [spec_DrawKeeper.f] at H
 refine aw_grp1 ?_
 refine wk_start ?_
 refine kb g0 (alc 0 [.slice none 0 0, .slice none 0 0, .slice none 0 0, .int .i64 0, .slice none 0 0] [.lit (.slice none 0 0), .lit (.slice none 0 0), .lit (.slice none 0 0), .lit (.int .i64 0), .lit (.slice none 0 0)]) ?_
 refine wk_end ?_
 refine ac_next ?_
 refine aw_grp1 ?_
 refine wk_start ?_
 refine kv g0 (mv) ?_
 obtain ⟨t1, A2, H⟩ := of_bind H
 refine kcS1 4 (.box 1 0) [(1, .box 142 [.sl .o 1 (t1.1.map (eI .u8)), .lit (.int .i64 t1.2.1), .lit (.int .i64 t1.2.2)])] g0 (cal (spec_l01New.ok A2) [1] 9999 .o (hf := Try.func50)) rfl rfl ?_
 obtain ⟨t3, A4, H⟩ := of_bind H
 refine kcS5 5 (.agg [.row 2, .row 3, .row 4, .lit (.int .i64 t3.2.2.2.1), .row 5]) [(1, .box 142 [.sl .o 1 (t3.2.2.2.2.2.1.map (eI .u8)), .lit (.int .i64 t3.2.2.2.2.2.2.1), .lit (.int .i64 t3.2.2.2.2.2.2.2)]), (2, .row 98 6 (t3.1.map e98)), (3, .row 3 1 (t3.2.1.map (eI .i64))), (4, .row 97 6 (t3.2.2.1.map e97)), (5, .row 3 1 (t3.2.2.2.2.1.map (eI .i64)))] g0 (cal (spec_l20Keeper.ok A4) [1, 2, 3, 4, 5] 9999 .o (hf := Try.func58)) rfl rfl ?_
 refine ks g0 (stB 5 [.row 2, .row 3, .row 4, .lit (.int .i64 t3.2.2.2.1), .row 5]) ?_
 refine wk_end ?_
 refine ac_next ?_
 refine aw_ret ?_
 obtain rfl := Option.some.inj H
 exact acr hE [.cell 2 29] (rcA 5 .nil) (.one _) [(0, 2), (1, 3), (2, 4), (3, 5)] 9999
/-! impl_SaveKeeper -/
def impl_SaveKeeper.f (l0_0 : List S98) (l0_1 : List Int) (l0_2 : List S97) (a0_3 : Int) (l0_4 : List Int) : Option ((List S98) × (List Int) × (List S97) × Int × (List Int)) := (impl_copyKeeper.f l0_0 l0_1 l0_2 a0_3 l0_4).bind fun t1 => (impl_copyInts.f t1.2.1).bind fun t3 => some (t1.1, t1.2.1, t1.2.2.1, (t1.1.length : Int), t3)
theorem impl_SaveKeeper.ok {l0_0 : List S98} {l0_1 : List Int} {l0_2 : List S97} {a0_3 : Int} {l0_4 : List Int} {r : (List S98) × (List Int) × (List S97) × Int × (List Int)} (H : impl_SaveKeeper.f l0_0 l0_1 l0_2 a0_3 l0_4 = some r) : ACalls Try.prog 15 [] [.agg [.sl .o 6 (l0_0.map e98), .sl .o 1 (l0_1.map (eI .i64)), .sl .o 6 (l0_2.map e97), .lit (.int .i64 a0_3), .sl .o 1 (l0_4.map (eI .i64))]] [(0, .row 98 6 (r.1.map e98)), (1, .row 3 1 (r.2.1.map (eI .i64))), (2, .row 97 6 (r.2.2.1.map e97)), (3, .row 3 1 (r.2.2.2.2.map (eI .i64)))] (.agg [.row 0, .row 1, .row 2, .lit (.int .i64 r.2.2.2.1), .row 3]) := by
 refine acalls (fn := Try.f15) (nt := 15) Try.func15 rfl rfl (Nat.le_of_ble_eq_true rfl) fun E hE => ?_
 rw [impl_SaveKeeper.f] at H
 refine aw_grp1 ?_
 refine wk_start ?_
 refine kb g0 (bxA 0) ?_
 refine kb g0 (alc 1 [.slice none 0 0, .slice none 0 0, .slice none 0 0, .int .i64 0, .slice none 0 0] [.lit (.slice none 0 0), .lit (.slice none 0 0), .lit (.slice none 0 0), .lit (.int .i64 0), .lit (.slice none 0 0)]) ?_
 refine wk_end ?_
 refine ac_next ?_
 refine aw_grp1 ?_
 refine wk_start ?_
 refine kv g0 (ldBA 5 [.sl .o 6 (l0_0.map e98), .sl .o 1 (l0_1.map (eI .i64)), .sl .o 6 (l0_2.map e97), .lit (.int .i64 a0_3), .sl .o 1 (l0_4.map (eI .i64))]) ?_
 obtain ⟨t1, A2, H⟩ := of_bind H
 refine kcS4 5 (.agg [.row 2, .row 3, .row 4, .lit (.int .i64 t1.2.2.2.1), .row 5]) [(2, .row 98 6 (t1.1.map e98)), (3, .row 3 1 (t1.2.1.map (eI .i64))), (4, .row 97 6 (t1.2.2.1.map e97)), (5, .row 3 1 (t1.2.2.2.2.map (eI .i64)))] g0 (cal (impl_copyKeeper.ok A2) [2, 3, 4, 5] 9999 .n (hf := Try.func53)) rfl rfl ?_
 refine kb g0 (alc 6 [.slice none 0 0, .slice none 0 0, .slice none 0 0, .int .i64 0, .slice none 0 0] [.lit (.slice none 0 0), .lit (.slice none 0 0), .lit (.slice none 0 0), .lit (.int .i64 0), .lit (.slice none 0 0)]) ?_
 refine ks g0 (stB 5 [.row 2, .row 3, .row 4, .lit (.int .i64 t1.2.2.2.1), .row 5]) ?_
 refine wk_end ?_
 refine ac_next ?_
 refine aw_grp1 ?_
 refine wk_start ?_
 refine kv g0 (faB 0 0) ?_
 refine kv g0 (ldB) ?_
 refine kv g0 (lnR lenE) ?_
 refine kv g0 (faB 3 3) ?_
 refine ks g0 (stB 1 [.row 2, .row 3, .row 4, .lit (.int .i64 (t1.1.length : Int)), .row 5]) ?_
 refine wk_end ?_
 refine ac_next ?_
 refine aw_grp1 ?_
 refine wk_start ?_
 refine kv g0 (faB 1 1) ?_
 refine kv g0 (ldB) ?_
 obtain ⟨t3, A4, H⟩ := of_bind H
 refine kcS1 12 (.row 7) [(7, .row 3 1 (t3.map (eI .i64)))] g0 (cal (impl_copyInts.ok A4) [7] 9999 .n (hf := Try.func59)) rfl rfl ?_
 refine kv g0 (faB 4 4) ?_
 refine ks g0 (stB 1 [.row 2, .row 3, .row 4, .lit (.int .i64 (t1.1.length : Int)), .row 7]) ?_
 refine wk_end ?_
 refine ac_next ?_
 refine aw_grp1 ?_
 refine wk_start ?_
 refine kv g0 (ldBA 5 [.row 2, .row 3, .row 4, .lit (.int .i64 (t1.1.length : Int)), .row 7]) ?_
 refine ks g0 (stB 5 [.row 2, .row 3, .row 4, .lit (.int .i64 (t1.1.length : Int)), .row 7]) ?_
 refine wk_end ?_
 refine ac_next ?_
 refine aw_ret ?_
 obtain rfl := Option.some.inj H
 exact acr hE [.cell 2 29] (rcA 5 .nil) (.one _) [(0, 2), (1, 3), (2, 4), (3, 7)] 9999
/-! impl_FallKeeper -/
def impl_FallKeeper.j0 : Nat → ((List S98) × (List Int) × (List S97) × Int × (List Int)) → (List S98) → Option ((List S98) × (List Int) × (List S97) × Int × (List Int))
 | 0, _, _ => none
 | k9 + 1, t1, q8 => (impl_copyInts.f t1.2.2.2.2).bind fun t10 => some (q8, t10, ([] : List S97), t1.2.2.2.1, t1.2.2.2.2)
def impl_FallKeeper.f (k : Nat) (l0_0 : List S98) (l0_1 : List Int) (l0_2 : List S97) (a0_3 : Int) (l0_4 : List Int) : Option ((List S98) × (List Int) × (List S97) × Int × (List Int)) := (impl_copyKeeper.f l0_0 l0_1 l0_2 a0_3 l0_4).bind fun t1 => (impl_within.f a0_3 0 (l0_0.length : Int)).bind fun t3 => if t3 = true then (if 0 ≤ a0_3 then (if a0_3 ≤ (t1.1.length : Int) then impl_FallKeeper.j0 k t1 (t1.1.take a0_3.toNat) else none) else none) else impl_FallKeeper.j0 k t1 t1.1
theorem impl_FallKeeper.ok {k : Nat} {l0_0 : List S98} {l0_1 : List Int} {l0_2 : List S97} {a0_3 : Int} {l0_4 : List Int} {r : (List S98) × (List Int) × (List S97) × Int × (List Int)} (H : impl_FallKeeper.f k l0_0 l0_1 l0_2 a0_3 l0_4 = some r) : ACalls Try.prog 16 [] [.agg [.sl .o 6 (l0_0.map e98), .sl .o 1 (l0_1.map (eI .i64)), .sl .o 6 (l0_2.map e97), .lit (.int .i64 a0_3), .sl .o 1 (l0_4.map (eI .i64))]] [(0, .row 98 6 (r.1.map e98)), (1, .row 3 1 (r.2.1.map (eI .i64))), (2, .row 97 6 (r.2.2.1.map e97)), (3, .row 3 1 (r.2.2.2.2.map (eI .i64)))] (.agg [.row 0, .row 1, .row 2, .lit (.int .i64 r.2.2.2.1), .row 3]) := by
 refine acalls (fn := Try.f16) (nt := 25) Try.func16 rfl rfl (Nat.le_of_ble_eq_true rfl) fun E hE => ?_
 rw [impl_FallKeeper.f] at H
 refine aw_grp1 ?_
 refine wk_start ?_
 refine kb g0 (bxA 0) ?_
 refine kb g0 (alc 1 [.slice none 0 0, .slice none 0 0, .slice none 0 0, .int .i64 0, .slice none 0 0] [.lit (.slice none 0 0), .lit (.slice none 0 0), .lit (.slice none 0 0), .lit (.int .i64 0), .lit (.slice none 0 0)]) ?_
 refine wk_end ?_
 refine ac_next ?_
 refine aw_grp1 ?_
 refine wk_start ?_
 refine kv g0 (ldBA 5 [.sl .o 6 (l0_0.map e98), .sl .o 1 (l0_1.map (eI .i64)), .sl .o 6 (l0_2.map e97), .lit (.int .i64 a0_3), .sl .o 1 (l0_4.map (eI .i64))]) ?_
 obtain ⟨t1, A2, H⟩ := of_bind H
 refine kcS4 5 (.agg [.row 2, .row 3, .row 4, .lit (.int .i64 t1.2.2.2.1), .row 5]) [(2, .row 98 6 (t1.1.map e98)), (3, .row 3 1 (t1.2.1.map (eI .i64))), (4, .row 97 6 (t1.2.2.1.map e97)), (5, .row 3 1 (t1.2.2.2.2.map (eI .i64)))] g0 (cal (impl_copyKeeper.ok A2) [2, 3, 4, 5] 9999 .n (hf := Try.func53)) rfl rfl ?_
 refine kb g0 (alc 6 [.slice none 0 0, .slice none 0 0, .slice none 0 0, .int .i64 0, .slice none 0 0] [.lit (.slice none 0 0), .lit (.slice none 0 0), .lit (.slice none 0 0), .lit (.int .i64 0), .lit (.slice none 0 0)]) ?_
 refine ks g0 (stB 5 [.row 2, .row 3, .row 4, .lit (.int .i64 t1.2.2.2.1), .row 5]) ?_
 refine wk_end ?_
 refine ac_next ?_
 refine aw_cut1 (J := fun K_ => ∀ (k_ : Nat) (q8 : List S98), k_ ≤ k → impl_FallKeeper.j0 k_ t1 q8 = some r → ACont E 25 ⟨[(2, .box 1 0), (3, .box 6 0)], [(1, .box 29 [.lit (.slice none 0 0), .lit (.slice none 0 0), .lit (.slice none 0 0), .lit (.int .i64 0), .lit (.slice none 0 0)]), (3, .row 3 1 (t1.2.1.map (eI .i64))), (4, .row 97 6 (t1.2.2.1.map e97)), (5, .row 3 1 (t1.2.2.2.2.map (eI .i64))), (6, .box 29 [.row 7, .row 3, .row 4, .lit (.int .i64 t1.2.2.2.1), .row 5]), (7, .row 98 6 (q8.map e98))]⟩ K_) ?_ ?_
 ·intro K_ hJ12
  refine aw_grp1 ?_
  refine wk_start ?_
  refine kv g0 (faB 3 3) ?_
  refine kv g0 (ldB) ?_
  refine kv g0 (faB 0 0) ?_
  refine kv g0 (ldB) ?_
  refine kv g0 (lnS lenE) ?_
  obtain ⟨t3, A4, H⟩ := of_bind H
  refine kcS0 11 (.lit (.bool t3)) [] g0 (cal (impl_within.ok A4) [] 9999 .n (hf := Try.func55)) rfl rfl ?_
  refine wk_end ?_
  refine ac_next ?_
  by_cases c5 : t3 = true
  ·rw [if_pos c5] at H
   refine aw_ifT ?_ c5
   refine wk_start ?_
   refine kv g0 (faB 0 0) ?_
   refine kv g0 (ldB) ?_
   refine kv g0 (faB 3 3) ?_
   refine kv g0 (ldB) ?_
   obtain ⟨c6, H⟩ := of_if H
   obtain ⟨c7, H⟩ := of_if H
   refine kv g0 (srH 98 c6 c7) ?_
   refine kv g0 (faB 0 0) ?_
   refine ks g0 (stB 1 [.sub 2 6 0 a0_3.toNat, .row 3, .row 4, .lit (.int .i64 t1.2.2.2.1), .row 5]) ?_
   refine wk_end ?_
   refine ac_preB 6 0 7 ((t1.1.take a0_3.toNat).map e98) [.row 7, .row 3, .row 4, .lit (.int .i64 t1.2.2.2.1), .row 5] ?_ (List.map_take ..).symm
   refine ac_k ?_
   exact acw hE [(1, 1), (3, 3), (4, 4), (5, 5), (6, 6), (7, 7)] 9999 (hJ12 k (t1.1.take a0_3.toNat) (Nat.le_refl _) H)
  rw [if_neg c5] at H
  refine aw_ifF ?_ (bF c5)
  refine aw_skip ?_
  refine ac_k ?_
  exact acw hE [(1, 1), (3, 3), (4, 4), (5, 5), (6, 6), (7, 2)] 9999 (hJ12 k t1.1 (Nat.le_refl _) H)
 intro k_ q8 hk_ H
 rcases k_ with _ | k9
 ·rw [impl_FallKeeper.j0.eq_1] at H; cases H
 have hk9 : k9 ≤ k := by omega
 clear hk_
 rw [impl_FallKeeper.j0.eq_2] at H
 refine aw_grp1 ?_
 refine wk_start ?_
 refine kv g0 (faB 4 4) ?_
 refine kv g0 (ldB) ?_
 obtain ⟨t10, A11, H⟩ := of_bind H
 refine kcS1 20 (.row 8) [(8, .row 3 1 (t10.map (eI .i64)))] g0 (cal (impl_copyInts.ok A11) [8] 9999 .n (hf := Try.func59)) rfl rfl ?_
 refine kv g0 (faB 1 1) ?_
 refine ks g0 (stB 1 [.row 7, .row 8, .row 4, .lit (.int .i64 t1.2.2.2.1), .row 5]) ?_
 refine wk_end ?_
 refine ac_next ?_
 refine aw_grp1 ?_
 refine wk_start ?_
 refine kb g0 (bsl 9 97 6 [.int .i64 0, .int .i64 0, .int .i64 0, .int .i64 0, .int .i64 0, .int .i64 0] (([] : List S97).map e97)) ?_
 refine kv g0 (faB 2 2) ?_
 refine ks g0 (stB 1 [.row 7, .row 8, .row 9, .lit (.int .i64 t1.2.2.2.1), .row 5]) ?_
 refine wk_end ?_
 refine ac_next ?_
 refine aw_grp1 ?_
 refine wk_start ?_
 refine kv g0 (ldBA 5 [.row 7, .row 8, .row 9, .lit (.int .i64 t1.2.2.2.1), .row 5]) ?_
 refine ks g0 (stB 5 [.row 7, .row 8, .row 9, .lit (.int .i64 t1.2.2.2.1), .row 5]) ?_
 refine wk_end ?_
 refine ac_next ?_
 refine aw_ret ?_
 obtain rfl := Option.some.inj H
 exact acr hE [.cell 2 29] (rcA 5 .nil) (.one _) [(0, 7), (1, 8), (2, 9), (3, 5)] 9999
/-! impl_AckOf -/
def impl_AckOf.f (l0_0 : List S98) (l0_1 : List Int) (l0_2 : List S97) (a0_3 : Int) (l0_4 : List Int) (a1 : Int) : Option (Int × Int × Int × Int × Int × Int × Int × Bool) := (impl_within.f a1 0 (wrap64 ((l0_4.length : Int) - 1))).bind fun t1 => if t1 = true then if 0 ≤ a1 then (if a1 < (l0_4.length : Int) then some (2, a1, (rd l0_4 a1), 0, 0, 0, 0, true) else none) else none else some (0, 0, 0, 0, 0, 0, 0, false)
theorem impl_AckOf.ok {l0_0 : List S98} {l0_1 : List Int} {l0_2 : List S97} {a0_3 : Int} {l0_4 : List Int} {a1 : Int} {r : Int × Int × Int × Int × Int × Int × Int × Bool} (H : impl_AckOf.f l0_0 l0_1 l0_2 a0_3 l0_4 a1 = some r) : ACalls Try.prog 17 [] [.agg [.sl .o 6 (l0_0.map e98), .sl .o 1 (l0_1.map (eI .i64)), .sl .o 6 (l0_2.map e97), .lit (.int .i64 a0_3), .sl .o 1 (l0_4.map (eI .i64))], .lit (.int .i64 a1)] [] (.tup [.agg [.lit (.int .i64 r.1), .lit (.int .i64 r.2.1), .lit (.int .i64 r.2.2.1), .lit (.int .i64 r.2.2.2.1), .lit (.int .i64 r.2.2.2.2.1), .lit (.int .i64 r.2.2.2.2.2.1), .lit (.int .i64 r.2.2.2.2.2.2.1)], .lit (.bool r.2.2.2.2.2.2.2)]) := by
 refine acalls (fn := Try.f17) (nt := 21) Try.func17 rfl rfl (Nat.le_of_ble_eq_true rfl) fun E hE => ?_
 rw [impl_AckOf.f] at H
 refine aw_grp1 ?_
 refine wk_start ?_
 refine kb g0 (bxA 0) ?_
 refine kb g0 (alc 1 [.int .i64 0, .int .i64 0, .int .i64 0, .int .i64 0, .int .i64 0, .int .i64 0, .int .i64 0] [.lit (.int .i64 0), .lit (.int .i64 0), .lit (.int .i64 0), .lit (.int .i64 0), .lit (.int .i64 0), .lit (.int .i64 0), .lit (.int .i64 0)]) ?_
 refine kv g0 (asg) ?_
 refine wk_end ?_
 refine ac_next ?_
 refine aw_grp1 ?_
 refine aw_grp1 ?_
 refine wk_start ?_
 refine kv g0 (mv) ?_
 refine kv g0 (faB 4 4) ?_
 refine kv g0 (ldB) ?_
 refine kv g0 (lnS lenE) ?_
 refine kv g0 (sub6) ?_
 obtain ⟨t1, A2, H⟩ := of_bind H
 refine kcS0 11 (.lit (.bool t1)) [] g0 (cal (impl_within.ok A2) [] 9999 .n (hf := Try.func55)) rfl rfl ?_
 refine kv g0 (not_) ?_
 refine wk_end ?_
 refine ac_next ?_
 by_cases c3 : t1 = true
 ·rw [if_pos c3] at H
  refine aw_ifF ?_ (nF c3)
  refine aw_skip ?_
  refine ac_next ?_
  refine aw_grp1 ?_
  refine wk_start ?_
  refine kv g0 (mv) ?_
  refine kv g0 (faB 4 4) ?_
  refine kv g0 (ldB) ?_
  refine kv g0 (mv) ?_
  obtain ⟨c4, H⟩ := of_if H
  obtain ⟨c5, H⟩ := of_if H
  refine kv g0 (ixS 3 (eI .i64 (rd l0_4 a1)) c4 (getE (z := (0 : Int)) c4 c5)) ?_
  refine kv g0 (ldR (.lit (.int .i64 (rd l0_4 a1)))) ?_
  refine kv g0 (bld [(0, 1), (1, 1), (2, 1), (3, 4)] [.int .i64 0, .int .i64 0, .int .i64 0, .int .i64 0, .int .i64 0, .int .i64 0, .int .i64 0] [.lit (.int .i64 2), .lit (.int .i64 a1), .lit (.int .i64 (rd l0_4 a1)), .lit (.int .i64 0), .lit (.int .i64 0), .lit (.int .i64 0), .lit (.int .i64 0)]) ?_
  refine ks g0 (stB 7 [.lit (.int .i64 2), .lit (.int .i64 a1), .lit (.int .i64 (rd l0_4 a1)), .lit (.int .i64 0), .lit (.int .i64 0), .lit (.int .i64 0), .lit (.int .i64 0)]) ?_
  refine kv g0 (asg) ?_
  refine wk_end ?_
  refine ac_next ?_
  refine aw_ret ?_
  obtain rfl := Option.some.inj H
  exact acr hE [.cell 4 36, .tmp 5] (rcA 7 (.tmp .nil)) (.many _ _ _) [] 9999
 rw [if_neg c3] at H
 refine aw_ifT ?_ (nT (bF c3))
 refine aw_grp1 ?_
 refine wk_start ?_
 refine kv g0 (bld [(0, 1), (1, 1), (2, 1), (3, 4)] [.int .i64 0, .int .i64 0, .int .i64 0, .int .i64 0, .int .i64 0, .int .i64 0, .int .i64 0] [.lit (.int .i64 0), .lit (.int .i64 0), .lit (.int .i64 0), .lit (.int .i64 0), .lit (.int .i64 0), .lit (.int .i64 0), .lit (.int .i64 0)]) ?_
 refine ks g0 (stB 7 [.lit (.int .i64 0), .lit (.int .i64 0), .lit (.int .i64 0), .lit (.int .i64 0), .lit (.int .i64 0), .lit (.int .i64 0), .lit (.int .i64 0)]) ?_
 refine kv g0 (asg) ?_
 refine wk_end ?_
 refine ac_next ?_
 refine aw_ret ?_
 refine ac_thenR ?_
 obtain rfl := Option.some.inj H
 exact acr hE [.cell 4 36, .tmp 5] (rcA 7 (.tmp .nil)) (.many _ _ _) [] 9999
/-! laws_sameEntries -/
def laws_sameEntries.l0 : Nat → (List S98) → (List S98) → Int → Option (Bool)
 | 0, _, _, _ => none
 | k7 + 1, l0, l1, p6 => if p6 < (l0.length : Int) then if 0 ≤ p6 then (if p6 < (l1.length : Int) then if (((rd_T98 l0 p6).f0) == ((rd_T98 l1 p6).f0) && (((rd_T98 l0 p6).f1) == ((rd_T98 l1 p6).f1) && ((((rd_T98 l0 p6).f2.f0) == ((rd_T98 l1 p6).f2.f0) && (((rd_T98 l0 p6).f2.f1) == ((rd_T98 l1 p6).f2.f1) && (((rd_T98 l0 p6).f2.f2) == ((rd_T98 l1 p6).f2.f2) && (((rd_T98 l0 p6).f2.f3) == ((rd_T98 l1 p6).f2.f3)))))))) = true then laws_sameEntries.l0 k7 l0 l1 (wrap64 (p6 + 1)) else some false else none) else none else some true
def laws_sameEntries.f (k : Nat) (l0 : List S98) (l1 : List S98) : Option (Bool) := if (l0.length : Int) = (l1.length : Int) then laws_sameEntries.l0 k l0 l1 0 else some false
theorem laws_sameEntries.ok {k : Nat} {l0 : List S98} {l1 : List S98} {r : Bool} (H : laws_sameEntries.f k l0 l1 = some r) : ACalls Try.prog 18 [] [.sl .o 6 (l0.map e98), .sl .o 6 (l1.map e98)] [] (.lit (.bool r)) := by
 refine acalls (fn := Try.f18) (nt := 26) Try.func18 rfl rfl (Nat.le_of_ble_eq_true rfl) fun E hE => ?_
 rw [laws_sameEntries.f] at H
 refine aw_grp1 ?_
 refine wk_start ?_
 refine kv g0 (asg) ?_
 refine wk_end ?_
 refine ac_next ?_
 refine aw_grp1 ?_
 refine aw_grp1 ?_
 refine wk_start ?_
 refine kv g0 (mv) ?_
 refine kv g0 (lnS lenE) ?_
 refine kv g0 (mv) ?_
 refine kv g0 (lnS lenE) ?_
 refine kv g0 (neq) ?_
 refine wk_end ?_
 refine ac_next ?_
 by_cases c1 : (l0.length : Int) = (l1.length : Int)
 ·rw [if_pos c1] at H
  refine aw_ifF ?_ (eM c1)
  refine aw_skip ?_
  refine ac_next ?_
  refine aw_grp1 ?_
  refine aw_grp1 ?_
  refine wk_start ?_
  refine kv g0 (asg) ?_
  refine wk_end ?_
  refine ac_next ?_
  refine aw_block ?_
  refine aw_loop1 (fun (k_ : Nat) (p6 : Int) => k_ ≤ k ∧ laws_sameEntries.l0 k_ l0 l1 p6 = some r) (fun (p6 : Int) => ⟨[(0, .sl .o 6 (l0.map e98)), (1, .sl .o 6 (l1.map e98)), (5, .lit (.int .i64 p6))], []⟩) k 0 ⟨Nat.le_refl _, H⟩ (fun K_ h_ => acw hE [] 9999 h_) (fun _ => by intro h_; have h_ := h_.2; rw [laws_sameEntries.l0.eq_1] at h_; cases h_) ?_
  intro k7 p6 hq_ K12 hK13
  have hk7 := hq_.1
  have H := hq_.2
  clear hq_
  rw [laws_sameEntries.l0.eq_2] at H
  refine aw_grp1 ?_
  refine aw_grp1 ?_
  refine wk_start ?_
  refine kv g0 (mv) ?_
  refine kv g0 (mv) ?_
  refine kv g0 (lnS lenE) ?_
  refine kv g0 (lss) ?_
  refine wk_end ?_
  refine ac_next ?_
  by_cases c8 : p6 < (l0.length : Int)
  ·rw [if_pos c8] at H
   refine aw_ifT ?_ (decide_eq_true c8)
   refine aw_skip ?_
   refine ac_next ?_
   refine aw_grp1 ?_
   refine aw_block ?_
   refine aw_grp1 ?_
   refine wk_start ?_
   refine kv g0 (mv) ?_
   refine kv g0 (mv) ?_
   obtain ⟨c9, H⟩ := of_if H
   refine kv g0 (ixS 98 (e98 (rd_T98 l0 p6)) c9 (getE (z := z98) c9 c8)) ?_
   refine kv g0 (ldRA 6 [.lit (.int .i64 ((rd_T98 l0 p6).f0)), .lit (.int .i64 ((rd_T98 l0 p6).f1)), .lit (.int .i64 ((rd_T98 l0 p6).f2.f0)), .lit (.int .i64 ((rd_T98 l0 p6).f2.f1)), .lit (.int .i64 ((rd_T98 l0 p6).f2.f2)), .lit (.int .i64 ((rd_T98 l0 p6).f2.f3))]) ?_
   refine kv g0 (mv) ?_
   refine kv g0 (mv) ?_
   obtain ⟨c10, H⟩ := of_if H
   refine kv g0 (ixS 98 (e98 (rd_T98 l1 p6)) c9 (getE (z := z98) c9 c10)) ?_
   refine kv g0 (ldRA 6 [.lit (.int .i64 ((rd_T98 l1 p6).f0)), .lit (.int .i64 ((rd_T98 l1 p6).f1)), .lit (.int .i64 ((rd_T98 l1 p6).f2.f0)), .lit (.int .i64 ((rd_T98 l1 p6).f2.f1)), .lit (.int .i64 ((rd_T98 l1 p6).f2.f2)), .lit (.int .i64 ((rd_T98 l1 p6).f2.f3))]) ?_
   refine kv g0 (neS (fun w => eq98 _ w ((rd_T98 l0 p6).f0) ((rd_T98 l0 p6).f1) ((rd_T98 l0 p6).f2.f0) ((rd_T98 l0 p6).f2.f1) ((rd_T98 l0 p6).f2.f2) ((rd_T98 l0 p6).f2.f3) ((rd_T98 l1 p6).f0) ((rd_T98 l1 p6).f1) ((rd_T98 l1 p6).f2.f0) ((rd_T98 l1 p6).f2.f1) ((rd_T98 l1 p6).f2.f2) ((rd_T98 l1 p6).f2.f3))) ?_
   refine wk_end_draw hM (by kernel_rfl) ?_
   refine ac_next ?_
   by_cases c11 : (((rd_T98 l0 p6).f0) == ((rd_T98 l1 p6).f0) && (((rd_T98 l0 p6).f1) == ((rd_T98 l1 p6).f1) && ((((rd_T98 l0 p6).f2.f0) == ((rd_T98 l1 p6).f2.f0) && (((rd_T98 l0 p6).f2.f1) == ((rd_T98 l1 p6).f2.f1) && (((rd_T98 l0 p6).f2.f2) == ((rd_T98 l1 p6).f2.f2) && (((rd_T98 l0 p6).f2.f3) == ((rd_T98 l1 p6).f2.f3)))))))) = true
   ·rw [if_pos c11] at H
    refine aw_ifF ?_ (nF c11)
    refine aw_skip ?_
    refine ac_blkN ?_
    refine ac_next ?_
    refine wk_start ?_
    refine kv g0 (mv) ?_
    refine kv g0 (add6) ?_
    refine kv g0 (asg) ?_
    refine wk_end ?_
    refine ac_k ?_
    exact acw hE [] 9999 (hK13 k7 (wrap64 (p6 + 1)) (Nat.le_refl _) ⟨by omega, H⟩)
   rw [if_neg c11] at H
   refine aw_ifT ?_ (nT (bF c11))
   refine aw_grp1 ?_
   refine wk_start ?_
   refine kv g0 (asg) ?_
   refine wk_end ?_
   refine ac_next ?_
   refine aw_ret ?_
   refine ac_blkR ?_
   refine ac_thenR ?_
   refine ac_thenR ?_
   refine ac_blkR ?_
   refine ac_thenR ?_
   obtain rfl := Option.some.inj H
   exact acr hE [.tmp 4] (.tmp .nil) (.one _) [] 9999
  rw [if_neg c8] at H
  refine aw_ifF ?_ (decide_eq_false c8)
  refine aw_exit ?_
  refine ac_then ?_
  refine ac_then ?_
  refine ac_hit rfl ?_
  refine ac_next ?_
  refine aw_grp1 ?_
  refine wk_start ?_
  refine kv g0 (asg) ?_
  refine wk_end ?_
  refine ac_next ?_
  refine aw_ret ?_
  obtain rfl := Option.some.inj H
  exact acr hE [.tmp 4] (.tmp .nil) (.one _) [] 9999
 rw [if_neg c1] at H
 refine aw_ifT ?_ (eN c1)
 refine aw_grp1 ?_
 refine wk_start ?_
 refine kv g0 (asg) ?_
 refine wk_end ?_
 refine ac_next ?_
 refine aw_ret ?_
 refine ac_thenR ?_
 obtain rfl := Option.some.inj H
 exact acr hE [.tmp 4] (.tmp .nil) (.one _) [] 9999
/-! spec_EntriesOf -/
def spec_EntriesOf.l0 : Nat → (List S98) → (List Int) → (List S97) → Int → (List Int) → Int → (List S34) → Int → Option ((List S34))
 | 0, _, _, _, _, _, _, _, _ => none
 | k7 + 1, l0_0, l0_1, l0_2, a0_3, l0_4, a1, q5, p6 => if p6 < (l0_0.length : Int) then if 0 ≤ p6 then if ((rd_T98 l0_0 p6).f0) = a1 then (if q5.length + ([(⟨(rd_T98 l0_0 p6).f2.f0, (rd_T98 l0_0 p6).f2.f1, (rd_T98 l0_0 p6).f2.f2, (rd_T98 l0_0 p6).f2.f3⟩ : S34)] : List S34).length < 4398046511104 then spec_EntriesOf.l0 k7 l0_0 l0_1 l0_2 a0_3 l0_4 a1 (q5 ++ ([(⟨(rd_T98 l0_0 p6).f2.f0, (rd_T98 l0_0 p6).f2.f1, (rd_T98 l0_0 p6).f2.f2, (rd_T98 l0_0 p6).f2.f3⟩ : S34)] : List S34)) (wrap64 (p6 + 1)) else none) else spec_EntriesOf.l0 k7 l0_0 l0_1 l0_2 a0_3 l0_4 a1 q5 (wrap64 (p6 + 1)) else none else some q5
def spec_EntriesOf.f (k : Nat) (l0_0 : List S98) (l0_1 : List Int) (l0_2 : List S97) (a0_3 : Int) (l0_4 : List Int) (a1 : Int) : Option ((List S34)) := spec_EntriesOf.l0 k l0_0 l0_1 l0_2 a0_3 l0_4 a1 ([] : List S34) 0
theorem spec_EntriesOf.ok {k : Nat} {l0_0 : List S98} {l0_1 : List Int} {l0_2 : List S97} {a0_3 : Int} {l0_4 : List Int} {a1 : Int} {r : (List S34)} (H : spec_EntriesOf.f k l0_0 l0_1 l0_2 a0_3 l0_4 a1 = some r) : ACalls Try.prog 19 [] [.agg [.sl .o 6 (l0_0.map e98), .sl .o 1 (l0_1.map (eI .i64)), .sl .o 6 (l0_2.map e97), .lit (.int .i64 a0_3), .sl .o 1 (l0_4.map (eI .i64))], .lit (.int .i64 a1)] [(0, .row 34 4 (r.map e34))] (.row 0) := by
 refine acalls (fn := Try.f19) (nt := 33) Try.func19 rfl rfl (Nat.le_of_ble_eq_true rfl) fun E hE => ?_
 rw [spec_EntriesOf.f] at H
 refine aw_grp1 ?_
 refine wk_start ?_
 refine kb g0 (bxA 0) ?_
 refine kv g0 (asg) ?_
 refine wk_end ?_
 refine ac_next ?_
 refine aw_grp1 ?_
 refine wk_start ?_
 refine kb g0 (bsl 1 34 4 [.int .i64 0, .int .i64 0, .int .i64 0, .int .i64 0] (([] : List S34).map e34)) ?_
 refine kv g0 (asg) ?_
 refine wk_end ?_
 refine ac_next ?_
 refine aw_grp1 ?_
 refine aw_grp1 ?_
 refine wk_start ?_
 refine kv g0 (asg) ?_
 refine wk_end ?_
 refine ac_next ?_
 refine aw_block ?_
 refine aw_loop2 (fun (k_ : Nat) (q5 : List S34) (p6 : Int) => k_ ≤ k ∧ spec_EntriesOf.l0 k_ l0_0 l0_1 l0_2 a0_3 l0_4 a1 q5 p6 = some r) (fun (q5 : List S34) (p6 : Int) => ⟨[(1, .lit (.int .i64 a1)), (2, .box 0 0), (5, .row 1), (6, .lit (.int .i64 p6))], [(0, .box 29 [.sl .o 6 (l0_0.map e98), .sl .o 1 (l0_1.map (eI .i64)), .sl .o 6 (l0_2.map e97), .lit (.int .i64 a0_3), .sl .o 1 (l0_4.map (eI .i64))]), (1, .row 34 4 (q5.map e34))]⟩) k ([] : List S34) 0 ⟨Nat.le_refl _, H⟩ (fun K_ h_ => acw hE [(0, 0), (1, 1)] 9999 h_) (fun _ _ => by intro h_; have h_ := h_.2; rw [spec_EntriesOf.l0.eq_1] at h_; cases h_) ?_
 intro k7 q5 p6 hq_ K12 hK13
 have hk7 := hq_.1
 have H := hq_.2
 clear hq_
 rw [spec_EntriesOf.l0.eq_2] at H
 refine aw_grp1 ?_
 refine aw_grp1 ?_
 refine wk_start ?_
 refine kv g0 (mv) ?_
 refine kv g0 (faB 0 0) ?_
 refine kv g0 (ldB) ?_
 refine kv g0 (lnS lenE) ?_
 refine kv g0 (lss) ?_
 refine wk_end ?_
 refine ac_next ?_
 by_cases c8 : p6 < (l0_0.length : Int)
 ·rw [if_pos c8] at H
  refine aw_ifT ?_ (decide_eq_true c8)
  refine aw_skip ?_
  refine ac_next ?_
  refine aw_grp1 ?_
  refine aw_block ?_
  refine aw_grp1 ?_
  refine wk_start ?_
  refine kv g0 (faB 0 0) ?_
  refine kv g0 (ldB) ?_
  refine kv g0 (mv) ?_
  obtain ⟨c9, H⟩ := of_if H
  refine kv g0 (ixS 98 (e98 (rd_T98 l0_0 p6)) c9 (getE (z := z98) c9 c8)) ?_
  refine kv g0 (faR 0 0) ?_
  refine kv g0 (ldR (.lit (.int .i64 ((rd_T98 l0_0 p6).f0)))) ?_
  refine kv g0 (mv) ?_
  refine kv g0 (eql) ?_
  refine wk_end ?_
  refine ac_next ?_
  by_cases c10 : ((rd_T98 l0_0 p6).f0) = a1
  ·rw [if_pos c10] at H
   refine aw_ifT ?_ (eT c10)
   refine wk_start ?_
   refine kv g0 (mv) ?_
   refine kv g0 (faB 0 0) ?_
   refine kv g0 (ldB) ?_
   refine kv g0 (mv) ?_
   refine kv g0 (ixS 98 (e98 (rd_T98 l0_0 p6)) c9 (getE (z := z98) c9 c8)) ?_
   refine kv g0 (faR 2 2) ?_
   refine kv g0 (ldRA 4 [.lit (.int .i64 ((rd_T98 l0_0 p6).f2.f0)), .lit (.int .i64 ((rd_T98 l0_0 p6).f2.f1)), .lit (.int .i64 ((rd_T98 l0_0 p6).f2.f2)), .lit (.int .i64 ((rd_T98 l0_0 p6).f2.f3))]) ?_
   refine kb g0 (bsl 2 34 4 [.int .i64 0, .int .i64 0, .int .i64 0, .int .i64 0] (([(⟨(rd_T98 l0_0 p6).f2.f0, (rd_T98 l0_0 p6).f2.f1, (rd_T98 l0_0 p6).f2.f2, (rd_T98 l0_0 p6).f2.f3⟩ : S34)] : List S34).map e34)) ?_
   obtain ⟨c11, H⟩ := of_if H
   refine kc g0 (apR 3 34 4 32 [.int .i64 0, .int .i64 0, .int .i64 0, .int .i64 0] ((q5 ++ ([(⟨(rd_T98 l0_0 p6).f2.f0, (rd_T98 l0_0 p6).f2.f1, (rd_T98 l0_0 p6).f2.f2, (rd_T98 l0_0 p6).f2.f3⟩ : S34)] : List S34)).map e34) (.row rfl) (apb c11 rfl) appE) ?_
   refine kv g0 (asg) ?_
   refine wk_end ?_
   refine ac_blkN ?_
   refine ac_next ?_
   refine wk_start ?_
   refine kv g0 (mv) ?_
   refine kv g0 (add6) ?_
   refine kv g0 (asg) ?_
   refine wk_end ?_
   refine ac_k ?_
   exact acw hE [(0, 0), (1, 3)] 9999 (hK13 k7 (q5 ++ ([(⟨(rd_T98 l0_0 p6).f2.f0, (rd_T98 l0_0 p6).f2.f1, (rd_T98 l0_0 p6).f2.f2, (rd_T98 l0_0 p6).f2.f3⟩ : S34)] : List S34)) (wrap64 (p6 + 1)) (Nat.le_refl _) ⟨by omega, H⟩)
  rw [if_neg c10] at H
  refine aw_ifF ?_ (eF c10)
  refine aw_skip ?_
  refine ac_blkN ?_
  refine ac_next ?_
  refine wk_start ?_
  refine kv g0 (mv) ?_
  refine kv g0 (add6) ?_
  refine kv g0 (asg) ?_
  refine wk_end ?_
  refine ac_k ?_
  exact acw hE [(0, 0), (1, 1)] 9999 (hK13 k7 q5 (wrap64 (p6 + 1)) (Nat.le_refl _) ⟨by omega, H⟩)
 rw [if_neg c8] at H
 refine aw_ifF ?_ (decide_eq_false c8)
 refine aw_exit ?_
 refine ac_then ?_
 refine ac_then ?_
 refine ac_hit rfl ?_
 refine ac_next ?_
 refine aw_grp1 ?_
 refine wk_start ?_
 refine kv g0 (mv) ?_
 refine kv g0 (asg) ?_
 refine wk_end ?_
 refine ac_next ?_
 refine aw_ret ?_
 obtain rfl := Option.some.inj H
 exact acr hE [.tmp 4] (.tmp .nil) (.one _) [(0, 1)] 9999
/-! laws_FnKeeps -/
mutual
def laws_FnKeeps.l0 : Nat → (List Int) → ((List Int)) → (List S98) → (List Int) → (List S97) → Int → (List Int) → Int → Option (Bool)
 | 0, _, _, _, _, _, _, _, _ => none
 | k21 + 1, l0, t4, q15, q16, q17, p18, q19, p20 => if p20 < 12 then if 0 ≤ p20 then (if p20 < (t4.length : Int) then (impl_Kept.f k21 q15 q16 q17 p18 q19 1 1 (wrap64 (1 + ((rd t4 p20).tmod 5))) 1 (wrap64 (1 + ((rd t4 p20).tmod 5))) 7 0).bind fun t25 => (impl_KeeperOk.f k21 t25.1 t25.2.1 t25.2.2.1 t25.2.2.2.1 t25.2.2.2.2.1).bind fun t27 => if t27 = true then laws_FnKeeps.l0 k21 l0 t4 t25.1 t25.2.1 t25.2.2.1 t25.2.2.2.1 t25.2.2.2.2.1 (wrap64 (p20 + 1)) else some false else none) else none else (impl_EntriesOf.f k21 q15 q16 q17 p18 q19 1).bind fun t32 => laws_FnKeeps.l1 k21 l0 q15 q16 q17 p18 q19 t32 0
def laws_FnKeeps.l1 : Nat → (List Int) → (List S98) → (List Int) → (List S97) → Int → (List Int) → ((List S34)) → Int → Option (Bool)
 | 0, _, _, _, _, _, _, _, _ => none
 | k38 + 1, l0, q15, q16, q17, p18, q19, t32, p37 => if p37 < (t32.length : Int) then if 0 ≤ p37 then if ((rd_T34 t32 p37).f1) = (wrap64 (p37 + 1)) then laws_FnKeeps.l1 k38 l0 q15 q16 q17 p18 q19 t32 (wrap64 (p37 + 1)) else some false else none else (spec_DrawKeeper.f k38 l0).bind fun t44 => (impl_SaveKeeper.f t44.1 t44.2.1 t44.2.2.1 t44.2.2.2.1 t44.2.2.2.2).bind fun t46 => (impl_FallKeeper.f k38 t46.1 t46.2.1 t46.2.2.1 t46.2.2.2.1 t46.2.2.2.2).bind fun t48 => (impl_FallKeeper.f k38 t44.1 t44.2.1 t44.2.2.1 t44.2.2.2.1 t44.2.2.2.2).bind fun t50 => (impl_AckOf.f t44.1 t44.2.1 t44.2.2.1 t44.2.2.2.1 t44.2.2.2.2 1).bind fun t52 => if (t32.length : Int) ≤ 5 then ((impl_KeeperOk.f k38 t44.1 t44.2.1 t44.2.2.1 t44.2.2.2.1 t44.2.2.2.2).bind fun t55 => (if t55 = true then ((impl_KeeperOk.f k38 t48.1 t48.2.1 t48.2.2.1 t48.2.2.2.1 t48.2.2.2.2).bind fun t58 => (if t58 = true then ((impl_KeeperOk.f k38 t50.1 t50.2.1 t50.2.2.1 t50.2.2.2.1 t50.2.2.2.2).bind fun t61 => (if t61 = true then ((laws_sameEntries.f k38 t48.1 t44.1).bind fun t64 => (if t64 = true then (if 0 ≤ t44.2.2.2.1 then (if t44.2.2.2.1 ≤ (t44.1.length : Int) then ((laws_sameEntries.f k38 t50.1 (t44.1.take t44.2.2.2.1.toNat)).bind fun t69 => (if t69 = true then (if t52.2.2.2.2.2.2.2 = true then ((spec_EntriesOf.f k38 t50.1 t50.2.1 t50.2.2.1 t50.2.2.2.1 t50.2.2.2.2 1).bind fun t73 => (if t52.2.2.1 = (wrap64 ((t73.length : Int) + 1)) then ((impl_EntriesOf.f k38 q15 q16 q17 p18 q19 0).bind fun t76 => some ((t76.length : Int) == 0)) else some false)) else some false) else some false)) else none) else none) else some false)) else some false)) else some false)) else some false)) else some false
end
def laws_FnKeeps.f (k : Nat) (l0 : List Int) : Option (Bool) := (laws_big.f l0).bind fun t1 => if t1 = true then some true else (spec_DrawPlaces.f k l0).bind fun t4 => (impl_KeeperNew.f).bind fun t6 => laws_FnKeeps.l0 k l0 t4 ([]) t6.1 ([]) t6.2.1 t6.2.2 0
theorem laws_FnKeeps.ok {k : Nat} {l0 : List Int} {r : Bool} (H : laws_FnKeeps.f k l0 = some r) : ACalls Try.prog 3 [] [.sl .o 1 (l0.map (eI .u8))] [] (.lit (.bool r)) := by
 refine acalls (fn := Try.f3) (nt := 121) Try.func3 rfl rfl (Nat.le_of_ble_eq_true rfl) fun E hE => ?_
 rw [laws_FnKeeps.f] at H
 refine aw_grp1 ?_
 refine wk_start ?_
 refine kv g0 (asg) ?_
 refine wk_end ?_
 refine ac_next ?_
 refine aw_grp1 ?_
 refine aw_grp1 ?_
 refine wk_start ?_
 refine kv g0 (mv) ?_
 obtain ⟨t1, A2, H⟩ := of_bind H
 refine kcS0 16 (.lit (.bool t1)) [] g0 (cal (laws_big.ok A2) [] 9999 .n (hf := Try.func8)) rfl rfl ?_
 refine wk_end ?_
 refine ac_next ?_
 by_cases c3 : t1 = true
 ·rw [if_pos c3] at H
  refine aw_ifT ?_ c3
  refine aw_grp1 ?_
  refine wk_start ?_
  refine kv g0 (asg) ?_
  refine wk_end ?_
  refine ac_next ?_
  refine aw_ret ?_
  refine ac_thenR ?_
  obtain rfl := Option.some.inj H
  exact acr hE [.tmp 2] (.tmp .nil) (.one _) [] 9999
 rw [if_neg c3] at H
 refine aw_ifF ?_ (bF c3)
 refine aw_skip ?_
 refine ac_next ?_
 refine aw_grp1 ?_
 refine wk_start ?_
 refine kv g0 (mv) ?_
 obtain ⟨t4, A5, H⟩ := of_bind H
 refine kcS1 18 (.row 0) [(0, .row 3 1 (t4.map (eI .i64)))] g0 (cal (spec_DrawPlaces.ok A5) [0] 9999 .n (hf := Try.func9)) rfl rfl ?_
 refine kv g0 (asg) ?_
 refine wk_end ?_
 refine ac_next ?_
 refine aw_grp1 ?_
 refine wk_start ?_
 obtain ⟨t6, A7, H⟩ := of_bind H
 refine kcS2 19 (.agg [.lit (.slice none 0 0), .row 1, .lit (.slice none 0 0), .lit (.int .i64 t6.2.1), .row 2]) [(1, .row 3 1 (t6.1.map (eI .i64))), (2, .row 3 1 (t6.2.2.map (eI .i64)))] g0 (cal (impl_KeeperNew.ok A7) [1, 2] 9999 .n (hf := Try.func10)) rfl rfl ?_
 refine kb g0 (alc 3 [.slice none 0 0, .slice none 0 0, .slice none 0 0, .int .i64 0, .slice none 0 0] [.lit (.slice none 0 0), .lit (.slice none 0 0), .lit (.slice none 0 0), .lit (.int .i64 0), .lit (.slice none 0 0)]) ?_
 refine ks g0 (stB 5 [.lit (.slice none 0 0), .row 1, .lit (.slice none 0 0), .lit (.int .i64 t6.2.1), .row 2]) ?_
 refine wk_end ?_
 refine ac_next ?_
 refine aw_grp1 ?_
 refine aw_grp1 ?_
 refine wk_start ?_
 refine kv g0 (asg) ?_
 refine wk_end ?_
 refine ac_next ?_
 refine aw_block ?_
 refine ac_nilB 3 0 8 98 6 [.row 8, .row 1, .lit (.slice none 0 0), .lit (.int .i64 t6.2.1), .row 2] ?_
 refine ac_nilB 3 2 9 97 6 [.row 8, .row 1, .row 9, .lit (.int .i64 t6.2.1), .row 2] ?_
 refine aw_loop6 (fun (k_ : Nat) (q15 : List S98) (q16 : List Int) (q17 : List S97) (p18 : Int) (q19 : List Int) (p20 : Int) => k_ ≤ k ∧ laws_FnKeeps.l0 k_ l0 t4 q15 q16 q17 p18 q19 p20 = some r) (fun (q15 : List S98) (q16 : List Int) (q17 : List S97) (p18 : Int) (q19 : List Int) (p20 : Int) => ⟨[(0, .sl .o 1 (l0.map (eI .u8))), (3, .row 0), (4, .box 3 0), (5, .lit (.int .i64 p20))], [(0, .row 3 1 (t4.map (eI .i64))), (1, .row 3 1 (q16.map (eI .i64))), (2, .row 3 1 (q19.map (eI .i64))), (3, .box 29 [.row 8, .row 1, .row 9, .lit (.int .i64 p18), .row 2]), (8, .row 98 6 (q15.map e98)), (9, .row 97 6 (q17.map e97))]⟩) k ([]) t6.1 ([]) t6.2.1 t6.2.2 0 ⟨Nat.le_refl _, H⟩ (fun K_ h_ => acw hE [(0, 0), (1, 1), (2, 2), (3, 3), (8, 8), (9, 9)] 9999 h_) (fun _ _ _ _ _ _ => by intro h_; have h_ := h_.2; rw [laws_FnKeeps.l0.eq_1] at h_; cases h_) ?_
 intro k21 q15 q16 q17 p18 q19 p20 hq_ K30 hK31
 have hk21 := hq_.1
 have H := hq_.2
 clear hq_
 rw [laws_FnKeeps.l0.eq_2] at H
 refine aw_grp1 ?_
 refine aw_grp1 ?_
 refine wk_start ?_
 refine kv g0 (mv) ?_
 refine kv g0 (lss) ?_
 refine wk_end ?_
 refine ac_next ?_
 by_cases c22 : p20 < 12
 ·rw [if_pos c22] at H
  refine aw_ifT ?_ (decide_eq_true c22)
  refine aw_skip ?_
  refine ac_next ?_
  refine aw_grp1 ?_
  refine aw_block ?_
  refine aw_grp1 ?_
  refine wk_start ?_
  refine kv g0 (mv) ?_
  refine kv g0 (mv) ?_
  obtain ⟨c23, H⟩ := of_if H
  obtain ⟨c24, H⟩ := of_if H
  refine kv g0 (ixR 3 c23 (ltE c24)) ?_
  refine kv g0 (ldE (eI .i64 (rd t4 p20)) (.lit (.int .i64 (rd t4 p20))) (getE (z := (0 : Int)) c23 c24)) ?_
  refine kv g0 (rem (by decide : (5 : Int) ≠ 0)) ?_
  refine kv g0 (add6) ?_
  refine kv g0 (asg) ?_
  refine wk_end ?_
  refine ac_next ?_
  refine aw_grp1 ?_
  refine wk_start ?_
  refine kv g0 (ldBA 5 [.row 8, .row 1, .row 9, .lit (.int .i64 p18), .row 2]) ?_
  refine kv g0 (mv) ?_
  refine kv g0 (mv) ?_
  refine kv g0 (bld [(0, 1), (1, 1), (2, 1), (3, 1)] [.int .i64 0, .int .i64 0, .int .i64 0, .int .i64 0] [.lit (.int .i64 1), .lit (.int .i64 (wrap64 (1 + ((rd t4 p20).tmod 5)))), .lit (.int .i64 7), .lit (.int .i64 0)]) ?_
  refine kv g0 (bld [(0, 1), (1, 1), (2, 1), (3, 4)] [.int .i64 0, .int .i64 0, .int .i64 0, .int .i64 0, .int .i64 0, .int .i64 0, .int .i64 0] [.lit (.int .i64 1), .lit (.int .i64 1), .lit (.int .i64 (wrap64 (1 + ((rd t4 p20).tmod 5)))), .lit (.int .i64 1), .lit (.int .i64 (wrap64 (1 + ((rd t4 p20).tmod 5)))), .lit (.int .i64 7), .lit (.int .i64 0)]) ?_
  obtain ⟨t25, A26, H⟩ := of_bind H
  refine kcS4 36 (.tup [.agg [.row 10, .row 11, .row 12, .lit (.int .i64 t25.2.2.2.1), .row 13], .lit (.bool t25.2.2.2.2.2)]) [(10, .row 98 6 (t25.1.map e98)), (11, .row 3 1 (t25.2.1.map (eI .i64))), (12, .row 97 6 (t25.2.2.1.map e97)), (13, .row 3 1 (t25.2.2.2.2.1.map (eI .i64)))] g0 (cal (impl_Kept.ok A26) [10, 11, 12, 13] 9999 .n (hf := Try.func11)) rfl rfl ?_
  refine kv g0 (mv) ?_
  refine kv g0 (ext) ?_
  refine kv g0 (ext) ?_
  refine ks g0 (stB 5 [.row 10, .row 11, .row 12, .lit (.int .i64 t25.2.2.2.1), .row 13]) ?_
  refine wk_end ?_
  refine ac_next ?_
  refine aw_grp1 ?_
  refine wk_start ?_
  refine kv g0 (ldBA 5 [.row 10, .row 11, .row 12, .lit (.int .i64 t25.2.2.2.1), .row 13]) ?_
  obtain ⟨t27, A28, H⟩ := of_bind H
  refine kcS0 40 (.lit (.bool t27)) [] g0 (cal (impl_KeeperOk.ok A28) [] 9999 .n (hf := Try.func12)) rfl rfl ?_
  refine kv g0 (not_) ?_
  refine wk_end ?_
  refine ac_next ?_
  by_cases c29 : t27 = true
  ·rw [if_pos c29] at H
   refine aw_ifF ?_ (nF c29)
   refine aw_skip ?_
   refine ac_blkN ?_
   refine ac_next ?_
   refine wk_start ?_
   refine kv g0 (mv) ?_
   refine kv g0 (add6) ?_
   refine kv g0 (asg) ?_
   refine wk_end ?_
   refine ac_k ?_
   exact acw hE [(0, 0), (1, 11), (2, 13), (3, 3), (8, 10), (9, 12)] 9999 (hK31 k21 t25.1 t25.2.1 t25.2.2.1 t25.2.2.2.1 t25.2.2.2.2.1 (wrap64 (p20 + 1)) (Nat.le_refl _) ⟨by omega, H⟩)
  rw [if_neg c29] at H
  refine aw_ifT ?_ (nT (bF c29))
  refine aw_grp1 ?_
  refine wk_start ?_
  refine kv g0 (asg) ?_
  refine wk_end ?_
  refine ac_next ?_
  refine aw_ret ?_
  refine ac_blkR ?_
  refine ac_thenR ?_
  refine ac_thenR ?_
  refine ac_blkR ?_
  refine ac_thenR ?_
  obtain rfl := Option.some.inj H
  exact acr hE [.tmp 2] (.tmp .nil) (.one _) [] 9999
 rw [if_neg c22] at H
 refine aw_ifF ?_ (decide_eq_false c22)
 refine aw_exit ?_
 refine ac_then ?_
 refine ac_then ?_
 refine ac_hit rfl ?_
 refine ac_next ?_
 refine aw_grp1 ?_
 refine wk_start ?_
 refine kv g0 (ldBA 5 [.row 8, .row 1, .row 9, .lit (.int .i64 p18), .row 2]) ?_
 obtain ⟨t32, A33, H⟩ := of_bind H
 refine kcS1 43 (.row 14) [(14, .row 34 4 (t32.map e34))] g0 (cal (impl_EntriesOf.ok A33) [14] 9999 .n (hf := Try.func13)) rfl rfl ?_
 refine kv g0 (asg) ?_
 refine wk_end ?_
 refine ac_next ?_
 refine aw_grp1 ?_
 refine aw_grp1 ?_
 refine wk_start ?_
 refine kv g0 (asg) ?_
 refine wk_end ?_
 refine ac_next ?_
 refine aw_block ?_
 refine aw_loop1 (fun (k_ : Nat) (p37 : Int) => k_ ≤ k21 ∧ laws_FnKeeps.l1 k_ l0 q15 q16 q17 p18 q19 t32 p37 = some r) (fun (p37 : Int) => ⟨[(0, .sl .o 1 (l0.map (eI .u8))), (4, .box 3 0), (7, .row 14), (8, .lit (.int .i64 p37))], [(1, .row 3 1 (q16.map (eI .i64))), (2, .row 3 1 (q19.map (eI .i64))), (3, .box 29 [.row 8, .row 1, .row 9, .lit (.int .i64 p18), .row 2]), (8, .row 98 6 (q15.map e98)), (9, .row 97 6 (q17.map e97)), (14, .row 34 4 (t32.map e34))]⟩) k21 0 ⟨Nat.le_refl _, H⟩ (fun K_ h_ => acw hE [(1, 1), (2, 2), (3, 3), (8, 8), (9, 9), (14, 14)] 9999 h_) (fun _ => by intro h_; have h_ := h_.2; rw [laws_FnKeeps.l1.eq_1] at h_; cases h_) ?_
 intro k38 p37 hq_ K42 hK43
 have hk38 := hq_.1
 have H := hq_.2
 clear hq_
 rw [laws_FnKeeps.l1.eq_2] at H
 refine aw_grp1 ?_
 refine aw_grp1 ?_
 refine wk_start ?_
 refine kv g0 (mv) ?_
 refine kv g0 (mv) ?_
 refine kv g0 (lnR lenE) ?_
 refine kv g0 (lss) ?_
 refine wk_end ?_
 refine ac_next ?_
 by_cases c39 : p37 < (t32.length : Int)
 ·rw [if_pos c39] at H
  refine aw_ifT ?_ (decide_eq_true c39)
  refine aw_skip ?_
  refine ac_next ?_
  refine aw_grp1 ?_
  refine aw_block ?_
  refine aw_grp1 ?_
  refine wk_start ?_
  refine kv g0 (mv) ?_
  refine kv g0 (mv) ?_
  obtain ⟨c40, H⟩ := of_if H
  refine kv g0 (ixR 34 c40 (ltE c39)) ?_
  refine kv g0 (faE 1 1) ?_
  refine kv g0 (ldE (e34 (rd_T34 t32 p37)) (.lit (.int .i64 ((rd_T34 t32 p37).f1))) (getE (z := z34) c40 c39)) ?_
  refine kv g0 (mv) ?_
  refine kv g0 (add6) ?_
  refine kv g0 (neq) ?_
  refine wk_end ?_
  refine ac_next ?_
  by_cases c41 : ((rd_T34 t32 p37).f1) = (wrap64 (p37 + 1))
  ·rw [if_pos c41] at H
   refine aw_ifF ?_ (eM c41)
   refine aw_skip ?_
   refine ac_blkN ?_
   refine ac_next ?_
   refine wk_start ?_
   refine kv g0 (mv) ?_
   refine kv g0 (add6) ?_
   refine kv g0 (asg) ?_
   refine wk_end ?_
   refine ac_k ?_
   exact acw hE [(1, 1), (2, 2), (3, 3), (8, 8), (9, 9), (14, 14)] 9999 (hK43 k38 (wrap64 (p37 + 1)) (Nat.le_refl _) ⟨by omega, H⟩)
  rw [if_neg c41] at H
  refine aw_ifT ?_ (eN c41)
  refine aw_grp1 ?_
  refine wk_start ?_
  refine kv g0 (asg) ?_
  refine wk_end ?_
  refine ac_next ?_
  refine aw_ret ?_
  refine ac_blkR ?_
  refine ac_thenR ?_
  refine ac_thenR ?_
  refine ac_blkR ?_
  refine ac_thenR ?_
  obtain rfl := Option.some.inj H
  exact acr hE [.tmp 2] (.tmp .nil) (.one _) [] 9999
 rw [if_neg c39] at H
 refine aw_ifF ?_ (decide_eq_false c39)
 refine aw_exit ?_
 refine ac_then ?_
 refine ac_then ?_
 refine ac_hit rfl ?_
 refine ac_next ?_
 refine aw_grp1 ?_
 refine wk_start ?_
 refine kv g0 (mv) ?_
 obtain ⟨t44, A45, H⟩ := of_bind H
 refine kcS4 59 (.agg [.row 15, .row 16, .row 17, .lit (.int .i64 t44.2.2.2.1), .row 18]) [(15, .row 98 6 (t44.1.map e98)), (16, .row 3 1 (t44.2.1.map (eI .i64))), (17, .row 97 6 (t44.2.2.1.map e97)), (18, .row 3 1 (t44.2.2.2.2.map (eI .i64)))] g0 (cal (spec_DrawKeeper.ok A45) [15, 16, 17, 18] 9999 .n (hf := Try.func14)) rfl rfl ?_
 refine kb g0 (alc 19 [.slice none 0 0, .slice none 0 0, .slice none 0 0, .int .i64 0, .slice none 0 0] [.lit (.slice none 0 0), .lit (.slice none 0 0), .lit (.slice none 0 0), .lit (.int .i64 0), .lit (.slice none 0 0)]) ?_
 refine ks g0 (stB 5 [.row 15, .row 16, .row 17, .lit (.int .i64 t44.2.2.2.1), .row 18]) ?_
 refine wk_end ?_
 refine ac_next ?_
 refine aw_grp1 ?_
 refine wk_start ?_
 refine kv g0 (ldBA 5 [.row 15, .row 16, .row 17, .lit (.int .i64 t44.2.2.2.1), .row 18]) ?_
 obtain ⟨t46, A47, H⟩ := of_bind H
 refine kcS4 61 (.agg [.row 20, .row 21, .row 22, .lit (.int .i64 t46.2.2.2.1), .row 23]) [(20, .row 98 6 (t46.1.map e98)), (21, .row 3 1 (t46.2.1.map (eI .i64))), (22, .row 97 6 (t46.2.2.1.map e97)), (23, .row 3 1 (t46.2.2.2.2.map (eI .i64)))] g0 (cal (impl_SaveKeeper.ok A47) [20, 21, 22, 23] 9999 .n (hf := Try.func15)) rfl rfl ?_
 refine kb g0 (alc 24 [.slice none 0 0, .slice none 0 0, .slice none 0 0, .int .i64 0, .slice none 0 0] [.lit (.slice none 0 0), .lit (.slice none 0 0), .lit (.slice none 0 0), .lit (.int .i64 0), .lit (.slice none 0 0)]) ?_
 refine ks g0 (stB 5 [.row 20, .row 21, .row 22, .lit (.int .i64 t46.2.2.2.1), .row 23]) ?_
 refine wk_end ?_
 refine ac_next ?_
 refine aw_grp1 ?_
 refine wk_start ?_
 refine kv g0 (ldBA 5 [.row 20, .row 21, .row 22, .lit (.int .i64 t46.2.2.2.1), .row 23]) ?_
 obtain ⟨t48, A49, H⟩ := of_bind H
 refine kcS4 63 (.agg [.row 25, .row 26, .row 27, .lit (.int .i64 t48.2.2.2.1), .row 28]) [(25, .row 98 6 (t48.1.map e98)), (26, .row 3 1 (t48.2.1.map (eI .i64))), (27, .row 97 6 (t48.2.2.1.map e97)), (28, .row 3 1 (t48.2.2.2.2.map (eI .i64)))] g0 (cal (impl_FallKeeper.ok A49) [25, 26, 27, 28] 9999 .n (hf := Try.func16)) rfl rfl ?_
 refine kb g0 (alc 29 [.slice none 0 0, .slice none 0 0, .slice none 0 0, .int .i64 0, .slice none 0 0] [.lit (.slice none 0 0), .lit (.slice none 0 0), .lit (.slice none 0 0), .lit (.int .i64 0), .lit (.slice none 0 0)]) ?_
 refine ks g0 (stB 5 [.row 25, .row 26, .row 27, .lit (.int .i64 t48.2.2.2.1), .row 28]) ?_
 refine wk_end ?_
 refine ac_next ?_
 refine aw_grp1 ?_
 refine wk_start ?_
 refine kv g0 (ldBA 5 [.row 15, .row 16, .row 17, .lit (.int .i64 t44.2.2.2.1), .row 18]) ?_
 obtain ⟨t50, A51, H⟩ := of_bind H
 refine kcS4 65 (.agg [.row 30, .row 31, .row 32, .lit (.int .i64 t50.2.2.2.1), .row 33]) [(30, .row 98 6 (t50.1.map e98)), (31, .row 3 1 (t50.2.1.map (eI .i64))), (32, .row 97 6 (t50.2.2.1.map e97)), (33, .row 3 1 (t50.2.2.2.2.map (eI .i64)))] g0 (cal (impl_FallKeeper.ok A51) [30, 31, 32, 33] 9999 .n (hf := Try.func16)) rfl rfl ?_
 refine kb g0 (alc 34 [.slice none 0 0, .slice none 0 0, .slice none 0 0, .int .i64 0, .slice none 0 0] [.lit (.slice none 0 0), .lit (.slice none 0 0), .lit (.slice none 0 0), .lit (.int .i64 0), .lit (.slice none 0 0)]) ?_
 refine ks g0 (stB 5 [.row 30, .row 31, .row 32, .lit (.int .i64 t50.2.2.2.1), .row 33]) ?_
 refine wk_end ?_
 refine ac_next ?_
 refine aw_grp1 ?_
 refine wk_start ?_
 refine kv g0 (ldBA 5 [.row 15, .row 16, .row 17, .lit (.int .i64 t44.2.2.2.1), .row 18]) ?_
 obtain ⟨t52, A53, H⟩ := of_bind H
 refine kcS0 68 (.tup [.agg [.lit (.int .i64 t52.1), .lit (.int .i64 t52.2.1), .lit (.int .i64 t52.2.2.1), .lit (.int .i64 t52.2.2.2.1), .lit (.int .i64 t52.2.2.2.2.1), .lit (.int .i64 t52.2.2.2.2.2.1), .lit (.int .i64 t52.2.2.2.2.2.2.1)], .lit (.bool t52.2.2.2.2.2.2.2)]) [] g0 (cal (impl_AckOf.ok A53) [] 9999 .n (hf := Try.func17)) rfl rfl ?_
 refine kv g0 (mv) ?_
 refine kv g0 (ext) ?_
 refine kv g0 (ext) ?_
 refine kb g0 (alc 35 [.int .i64 0, .int .i64 0, .int .i64 0, .int .i64 0, .int .i64 0, .int .i64 0, .int .i64 0] [.lit (.int .i64 0), .lit (.int .i64 0), .lit (.int .i64 0), .lit (.int .i64 0), .lit (.int .i64 0), .lit (.int .i64 0), .lit (.int .i64 0)]) ?_
 refine ks g0 (stB 7 [.lit (.int .i64 t52.1), .lit (.int .i64 t52.2.1), .lit (.int .i64 t52.2.2.1), .lit (.int .i64 t52.2.2.2.1), .lit (.int .i64 t52.2.2.2.2.1), .lit (.int .i64 t52.2.2.2.2.2.1), .lit (.int .i64 t52.2.2.2.2.2.2.1)]) ?_
 refine kv g0 (asg) ?_
 refine wk_end ?_
 refine ac_next ?_
 refine aw_grp1 ?_
 refine wk_start ?_
 refine kv g0 (mv) ?_
 refine kv g0 (lnR lenE) ?_
 refine kv g0 (leq) ?_
 refine kv g0 (mv) ?_
 by_cases c54 : (t32.length : Int) ≤ 5
 ·rw [if_pos c54] at H
  refine kv (g1 (decide_eq_true c54)) (ldBA 5 [.row 15, .row 16, .row 17, .lit (.int .i64 t44.2.2.2.1), .row 18]) ?_
  obtain ⟨t55, A56, H⟩ := of_bind H
  refine kcS0 76 (.lit (.bool t55)) [] (g1 (decide_eq_true c54)) (cal (impl_KeeperOk.ok A56) [] 9999 .n (hf := Try.func12)) rfl rfl ?_
  refine kv g0 (pkT (decide_eq_true c54)) ?_
  refine kv g0 (mv) ?_
  by_cases c57 : t55 = true
  ·rw [if_pos c57] at H
   refine kv (g1 c57) (ldBA 5 [.row 25, .row 26, .row 27, .lit (.int .i64 t48.2.2.2.1), .row 28]) ?_
   obtain ⟨t58, A59, H⟩ := of_bind H
   refine kcS0 80 (.lit (.bool t58)) [] (g1 c57) (cal (impl_KeeperOk.ok A59) [] 9999 .n (hf := Try.func12)) rfl rfl ?_
   refine kv g0 (pkT c57) ?_
   refine kv g0 (mv) ?_
   by_cases c60 : t58 = true
   ·rw [if_pos c60] at H
    refine kv (g1 c60) (ldBA 5 [.row 30, .row 31, .row 32, .lit (.int .i64 t50.2.2.2.1), .row 33]) ?_
    obtain ⟨t61, A62, H⟩ := of_bind H
    refine kcS0 84 (.lit (.bool t61)) [] (g1 c60) (cal (impl_KeeperOk.ok A62) [] 9999 .n (hf := Try.func12)) rfl rfl ?_
    refine kv g0 (pkT c60) ?_
    refine kv g0 (mv) ?_
    by_cases c63 : t61 = true
    ·rw [if_pos c63] at H
     refine kv (g1 c63) (faB 0 0) ?_
     refine kv (g1 c63) (ldB) ?_
     refine kv (g1 c63) (faB 0 0) ?_
     refine kv (g1 c63) (ldB) ?_
     obtain ⟨t64, A65, H⟩ := of_bind H
     refine kcS0 91 (.lit (.bool t64)) [] (g1 c63) (cal (laws_sameEntries.ok A65) [] 9999 .n (hf := Try.func18)) rfl rfl ?_
     refine kv g0 (pkT c63) ?_
     refine kv g0 (mv) ?_
     by_cases c66 : t64 = true
     ·rw [if_pos c66] at H
      refine kv (g1 c66) (faB 0 0) ?_
      refine kv (g1 c66) (ldB) ?_
      refine kv (g1 c66) (faB 0 0) ?_
      refine kv (g1 c66) (ldB) ?_
      refine kv (g1 c66) (faB 3 3) ?_
      refine kv (g1 c66) (ldB) ?_
      obtain ⟨c67, H⟩ := of_if H
      obtain ⟨c68, H⟩ := of_if H
      refine kv (g1 c66) (srH 98 c67 c68) ?_
      obtain ⟨t69, A70, H⟩ := of_bind H
      refine kcS0 101 (.lit (.bool t69)) [] (g1 c66) (cal (laws_sameEntries.ok A70) [] 9999 .n (hf := Try.func18) (hargs := by rw [← mapT]; rfl)) rfl rfl ?_
      refine kv g0 (pkT c66) ?_
      refine kv g0 (mv) ?_
      by_cases c71 : t69 = true
      ·rw [if_pos c71] at H
       refine kv (g1 c71) (mv) ?_
       refine kv g0 (pkT c71) ?_
       refine kv g0 (mv) ?_
       by_cases c72 : t52.2.2.2.2.2.2.2 = true
       ·rw [if_pos c72] at H
        refine kv (g1 c72) (faB 2 2) ?_
        refine kv (g1 c72) (ldB) ?_
        refine kv (g1 c72) (ldBA 5 [.row 30, .row 31, .row 32, .lit (.int .i64 t50.2.2.2.1), .row 33]) ?_
        obtain ⟨t73, A74, H⟩ := of_bind H
        refine kcS1 110 (.row 36) [(36, .row 34 4 (t73.map e34))] (g1 c72) (cal (spec_EntriesOf.ok A74) [36] 9999 .n (hf := Try.func19)) rfl rfl ?_
        refine kv (g1 c72) (lnR lenE) ?_
        refine kv (g1 c72) (add6) ?_
        refine kv (g1 c72) (eql) ?_
        refine kv g0 (pkT c72) ?_
        refine kv g0 (mv) ?_
        by_cases c75 : t52.2.2.1 = (wrap64 ((t73.length : Int) + 1))
        ·rw [if_pos c75] at H
         refine kv (g1 (eT c75)) (ldBA 5 [.row 8, .row 1, .row 9, .lit (.int .i64 p18), .row 2]) ?_
         obtain ⟨t76, A77, H⟩ := of_bind H
         refine kcS1 117 (.row 37) [(37, .row 34 4 (t76.map e34))] (g1 (eT c75)) (cal (impl_EntriesOf.ok A77) [37] 9999 .n (hf := Try.func13)) rfl rfl ?_
         refine kv (g1 (eT c75)) (lnR lenE) ?_
         refine kv (g1 (eT c75)) (eql) ?_
         refine kv g0 (pkT (eT c75)) ?_
         refine kv g0 (asg) ?_
         refine wk_end_draw hM (by kernel_rfl) ?_
         refine ac_next ?_
         refine aw_ret ?_
         obtain rfl := Option.some.inj H
         exact acr hE [.tmp 2] (.tmp .nil) (.one _) [] 9999
        rw [if_neg c75] at H
        refine kx (hT (eF c75)) ?_
        refine kx (hT (eF c75)) ?_
        refine kx (hT (eF c75)) ?_
        refine kx (hT (eF c75)) ?_
        refine kv g0 (pkF (eF c75)) ?_
        refine kv g0 (asg) ?_
        refine wk_end_draw hM (by kernel_rfl) ?_
        refine ac_next ?_
        refine aw_ret ?_
        obtain rfl := Option.some.inj H
        exact acr hE [.tmp 2] (.tmp .nil) (.one _) [] 9999
       rw [if_neg c72] at H
       refine kx (hT (bF c72)) ?_
       refine kx (hT (bF c72)) ?_
       refine kx (hT (bF c72)) ?_
       refine kx (hT (bF c72)) ?_
       refine kx (hT (bF c72)) ?_
       refine kx (hT (bF c72)) ?_
       refine kx (hT (bF c72)) ?_
       refine kv g0 (pkF (bF c72)) ?_
       refine kv g0 (mv) ?_
       refine kx (hT rfl) ?_
       refine kx (hT rfl) ?_
       refine kx (hT rfl) ?_
       refine kx (hT rfl) ?_
       refine kv g0 (pkF rfl) ?_
       refine kv g0 (asg) ?_
       refine wk_end_draw hM (by kernel_rfl) ?_
       refine ac_next ?_
       refine aw_ret ?_
       obtain rfl := Option.some.inj H
       exact acr hE [.tmp 2] (.tmp .nil) (.one _) [] 9999
      rw [if_neg c71] at H
      refine kx (hT (bF c71)) ?_
      refine kv g0 (pkF (bF c71)) ?_
      refine kv g0 (mv) ?_
      refine kx (hT rfl) ?_
      refine kx (hT rfl) ?_
      refine kx (hT rfl) ?_
      refine kx (hT rfl) ?_
      refine kx (hT rfl) ?_
      refine kx (hT rfl) ?_
      refine kx (hT rfl) ?_
      refine kv g0 (pkF rfl) ?_
      refine kv g0 (mv) ?_
      refine kx (hT rfl) ?_
      refine kx (hT rfl) ?_
      refine kx (hT rfl) ?_
      refine kx (hT rfl) ?_
      refine kv g0 (pkF rfl) ?_
      refine kv g0 (asg) ?_
      refine wk_end_draw hM (by kernel_rfl) ?_
      refine ac_next ?_
      refine aw_ret ?_
      obtain rfl := Option.some.inj H
      exact acr hE [.tmp 2] (.tmp .nil) (.one _) [] 9999
     rw [if_neg c66] at H
     refine kx (hT (bF c66)) ?_
     refine kx (hT (bF c66)) ?_
     refine kx (hT (bF c66)) ?_
     refine kx (hT (bF c66)) ?_
     refine kx (hT (bF c66)) ?_
     refine kx (hT (bF c66)) ?_
     refine kx (hT (bF c66)) ?_
     refine kx (hT (bF c66)) ?_
     refine kv g0 (pkF (bF c66)) ?_
     refine kv g0 (mv) ?_
     refine kx (hT rfl) ?_
     refine kv g0 (pkF rfl) ?_
     refine kv g0 (mv) ?_
     refine kx (hT rfl) ?_
     refine kx (hT rfl) ?_
     refine kx (hT rfl) ?_
     refine kx (hT rfl) ?_
     refine kx (hT rfl) ?_
     refine kx (hT rfl) ?_
     refine kx (hT rfl) ?_
     refine kv g0 (pkF rfl) ?_
     refine kv g0 (mv) ?_
     refine kx (hT rfl) ?_
     refine kx (hT rfl) ?_
     refine kx (hT rfl) ?_
     refine kx (hT rfl) ?_
     refine kv g0 (pkF rfl) ?_
     refine kv g0 (asg) ?_
     refine wk_end_draw hM (by kernel_rfl) ?_
     refine ac_next ?_
     refine aw_ret ?_
     obtain rfl := Option.some.inj H
     exact acr hE [.tmp 2] (.tmp .nil) (.one _) [] 9999
    rw [if_neg c63] at H
    refine kx (hT (bF c63)) ?_
    refine kx (hT (bF c63)) ?_
    refine kx (hT (bF c63)) ?_
    refine kx (hT (bF c63)) ?_
    refine kx (hT (bF c63)) ?_
    refine kv g0 (pkF (bF c63)) ?_
    refine kv g0 (mv) ?_
    refine kx (hT rfl) ?_
    refine kx (hT rfl) ?_
    refine kx (hT rfl) ?_
    refine kx (hT rfl) ?_
    refine kx (hT rfl) ?_
    refine kx (hT rfl) ?_
    refine kx (hT rfl) ?_
    refine kx (hT rfl) ?_
    refine kv g0 (pkF rfl) ?_
    refine kv g0 (mv) ?_
    refine kx (hT rfl) ?_
    refine kv g0 (pkF rfl) ?_
    refine kv g0 (mv) ?_
    refine kx (hT rfl) ?_
    refine kx (hT rfl) ?_
    refine kx (hT rfl) ?_
    refine kx (hT rfl) ?_
    refine kx (hT rfl) ?_
    refine kx (hT rfl) ?_
    refine kx (hT rfl) ?_
    refine kv g0 (pkF rfl) ?_
    refine kv g0 (mv) ?_
    refine kx (hT rfl) ?_
    refine kx (hT rfl) ?_
    refine kx (hT rfl) ?_
    refine kx (hT rfl) ?_
    refine kv g0 (pkF rfl) ?_
    refine kv g0 (asg) ?_
    refine wk_end_draw hM (by kernel_rfl) ?_
    refine ac_next ?_
    refine aw_ret ?_
    obtain rfl := Option.some.inj H
    exact acr hE [.tmp 2] (.tmp .nil) (.one _) [] 9999
   rw [if_neg c60] at H
   refine kx (hT (bF c60)) ?_
   refine kx (hT (bF c60)) ?_
   refine kv g0 (pkF (bF c60)) ?_
   refine kv g0 (mv) ?_
   refine kx (hT rfl) ?_
   refine kx (hT rfl) ?_
   refine kx (hT rfl) ?_
   refine kx (hT rfl) ?_
   refine kx (hT rfl) ?_
   refine kv g0 (pkF rfl) ?_
   refine kv g0 (mv) ?_
   refine kx (hT rfl) ?_
   refine kx (hT rfl) ?_
   refine kx (hT rfl) ?_
   refine kx (hT rfl) ?_
   refine kx (hT rfl) ?_
   refine kx (hT rfl) ?_
   refine kx (hT rfl) ?_
   refine kx (hT rfl) ?_
   refine kv g0 (pkF rfl) ?_
   refine kv g0 (mv) ?_
   refine kx (hT rfl) ?_
   refine kv g0 (pkF rfl) ?_
   refine kv g0 (mv) ?_
   refine kx (hT rfl) ?_
   refine kx (hT rfl) ?_
   refine kx (hT rfl) ?_
   refine kx (hT rfl) ?_
   refine kx (hT rfl) ?_
   refine kx (hT rfl) ?_
   refine kx (hT rfl) ?_
   refine kv g0 (pkF rfl) ?_
   refine kv g0 (mv) ?_
   refine kx (hT rfl) ?_
   refine kx (hT rfl) ?_
   refine kx (hT rfl) ?_
   refine kx (hT rfl) ?_
   refine kv g0 (pkF rfl) ?_
   refine kv g0 (asg) ?_
   refine wk_end_draw hM (by kernel_rfl) ?_
   refine ac_next ?_
   refine aw_ret ?_
   obtain rfl := Option.some.inj H
   exact acr hE [.tmp 2] (.tmp .nil) (.one _) [] 9999
  rw [if_neg c57] at H
  refine kx (hT (bF c57)) ?_
  refine kx (hT (bF c57)) ?_
  refine kv g0 (pkF (bF c57)) ?_
  refine kv g0 (mv) ?_
  refine kx (hT rfl) ?_
  refine kx (hT rfl) ?_
  refine kv g0 (pkF rfl) ?_
  refine kv g0 (mv) ?_
  refine kx (hT rfl) ?_
  refine kx (hT rfl) ?_
  refine kx (hT rfl) ?_
  refine kx (hT rfl) ?_
  refine kx (hT rfl) ?_
  refine kv g0 (pkF rfl) ?_
  refine kv g0 (mv) ?_
  refine kx (hT rfl) ?_
  refine kx (hT rfl) ?_
  refine kx (hT rfl) ?_
  refine kx (hT rfl) ?_
  refine kx (hT rfl) ?_
  refine kx (hT rfl) ?_
  refine kx (hT rfl) ?_
  refine kx (hT rfl) ?_
  refine kv g0 (pkF rfl) ?_
  refine kv g0 (mv) ?_
  refine kx (hT rfl) ?_
  refine kv g0 (pkF rfl) ?_
  refine kv g0 (mv) ?_
  refine kx (hT rfl) ?_
  refine kx (hT rfl) ?_
  refine kx (hT rfl) ?_
  refine kx (hT rfl) ?_
  refine kx (hT rfl) ?_
  refine kx (hT rfl) ?_
  refine kx (hT rfl) ?_
  refine kv g0 (pkF rfl) ?_
  refine kv g0 (mv) ?_
  refine kx (hT rfl) ?_
  refine kx (hT rfl) ?_
  refine kx (hT rfl) ?_
  refine kx (hT rfl) ?_
  refine kv g0 (pkF rfl) ?_
  refine kv g0 (asg) ?_
  refine wk_end_draw hM (by kernel_rfl) ?_
  refine ac_next ?_
  refine aw_ret ?_
  obtain rfl := Option.some.inj H
  exact acr hE [.tmp 2] (.tmp .nil) (.one _) [] 9999
 rw [if_neg c54] at H
 refine kx (hT (decide_eq_false c54)) ?_
 refine kx (hT (decide_eq_false c54)) ?_
 refine kv g0 (pkF (decide_eq_false c54)) ?_
 refine kv g0 (mv) ?_
 refine kx (hT rfl) ?_
 refine kx (hT rfl) ?_
 refine kv g0 (pkF rfl) ?_
 refine kv g0 (mv) ?_
 refine kx (hT rfl) ?_
 refine kx (hT rfl) ?_
 refine kv g0 (pkF rfl) ?_
 refine kv g0 (mv) ?_
 refine kx (hT rfl) ?_
 refine kx (hT rfl) ?_
 refine kx (hT rfl) ?_
 refine kx (hT rfl) ?_
 refine kx (hT rfl) ?_
 refine kv g0 (pkF rfl) ?_
 refine kv g0 (mv) ?_
 refine kx (hT rfl) ?_
 refine kx (hT rfl) ?_
 refine kx (hT rfl) ?_
 refine kx (hT rfl) ?_
 refine kx (hT rfl) ?_
 refine kx (hT rfl) ?_
 refine kx (hT rfl) ?_
 refine kx (hT rfl) ?_
 refine kv g0 (pkF rfl) ?_
 refine kv g0 (mv) ?_
 refine kx (hT rfl) ?_
 refine kv g0 (pkF rfl) ?_
 refine kv g0 (mv) ?_
 refine kx (hT rfl) ?_
 refine kx (hT rfl) ?_
 refine kx (hT rfl) ?_
 refine kx (hT rfl) ?_
 refine kx (hT rfl) ?_
 refine kx (hT rfl) ?_
 refine kx (hT rfl) ?_
 refine kv g0 (pkF rfl) ?_
 refine kv g0 (mv) ?_
 refine kx (hT rfl) ?_
 refine kx (hT rfl) ?_
 refine kx (hT rfl) ?_
 refine kx (hT rfl) ?_
 refine kv g0 (pkF rfl) ?_
 refine kv g0 (asg) ?_
 refine wk_end_draw hM (by kernel_rfl) ?_
 refine ac_next ?_
 refine aw_ret ?_
 obtain rfl := Option.some.inj H
 exact acr hE [.tmp 2] (.tmp .nil) (.one _) [] 9999
end Go.Proofs.Ytfeaemlakniijaa.PFnKeeps
