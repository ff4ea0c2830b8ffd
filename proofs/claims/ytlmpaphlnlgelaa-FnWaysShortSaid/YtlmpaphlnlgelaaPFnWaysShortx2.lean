import Derived.Test.YtlmpaphlnlgelaaPFnWaysShortx1
set_option linter.unusedVariables false
set_option linter.unusedSimpArgs false
set_option maxRecDepth 100000
namespace Go.Proofs.Ytlmpaphlnlgelaa.PFnWaysShort
open Go Go.RowKit Go.Proofs.YtlmpaphlnlgelaaA
/-! spec_l12Above -/
def spec_l12Above.f (a0_0 : Int) (a0_1 : Int) (a0_2 : Int) (a0_3 : Int) (a0_4 : Int) (a0_5 : Int) (a1 : Int) (a2 : ByteArray) (a3 : ByteArray) (a4 : ByteArray) : Option ((List S76)) := (spec_l12Half.f a0_0 a0_1 a0_2 a0_3 a0_4 a0_5 true).bind fun t1 => (if a2.size + (⟨#[97]⟩ : ByteArray).size ≤ 9223372036854775807 then ((spec_l11Asks.f 4 a0_4 a3 (a2 ++ (⟨#[97]⟩ : ByteArray))).bind fun t4 => (if t1.length + ([(⟨t4.1, (⟨t4.2.1, t4.2.2.1, t4.2.2.2.1, t4.2.2.2.2.1⟩ : S55), t4.2.2.2.2.2.1, t4.2.2.2.2.2.2⟩ : S76), (⟨a2 ++ (⟨#[97]⟩ : ByteArray), (⟨0, 0, 0, 0⟩ : S55), ByteArray.empty, ByteArray.empty⟩ : S76)] : List S76).length < 1759218604441 then if a2.size + (⟨#[98]⟩ : ByteArray).size ≤ 9223372036854775807 then ((spec_l11Asks.f 3 a0_4 (a2 ++ (⟨#[98]⟩ : ByteArray)) a4).bind fun t8 => (if (t1 ++ ([(⟨t4.1, (⟨t4.2.1, t4.2.2.1, t4.2.2.2.1, t4.2.2.2.2.1⟩ : S55), t4.2.2.2.2.2.1, t4.2.2.2.2.2.2⟩ : S76), (⟨a2 ++ (⟨#[97]⟩ : ByteArray), (⟨0, 0, 0, 0⟩ : S55), ByteArray.empty, ByteArray.empty⟩ : S76)] : List S76)).length + ([(⟨t8.1, (⟨t8.2.1, t8.2.2.1, t8.2.2.2.1, t8.2.2.2.2.1⟩ : S55), t8.2.2.2.2.2.1, t8.2.2.2.2.2.2⟩ : S76), (⟨a2 ++ (⟨#[98]⟩ : ByteArray), (⟨0, 0, 0, 0⟩ : S55), ByteArray.empty, ByteArray.empty⟩ : S76)] : List S76).length < 1759218604441 then (spec_l12Half.f a0_0 a0_1 a0_2 a0_3 a0_4 a0_5 false).bind fun t11 => (if ((t1 ++ ([(⟨t4.1, (⟨t4.2.1, t4.2.2.1, t4.2.2.2.1, t4.2.2.2.2.1⟩ : S55), t4.2.2.2.2.2.1, t4.2.2.2.2.2.2⟩ : S76), (⟨a2 ++ (⟨#[97]⟩ : ByteArray), (⟨0, 0, 0, 0⟩ : S55), ByteArray.empty, ByteArray.empty⟩ : S76)] : List S76)) ++ ([(⟨t8.1, (⟨t8.2.1, t8.2.2.1, t8.2.2.2.1, t8.2.2.2.2.1⟩ : S55), t8.2.2.2.2.2.1, t8.2.2.2.2.2.2⟩ : S76), (⟨a2 ++ (⟨#[98]⟩ : ByteArray), (⟨0, 0, 0, 0⟩ : S55), ByteArray.empty, ByteArray.empty⟩ : S76)] : List S76)).length + t11.length < 1759218604441 then (spec_l11Asks.f a1 a0_5 a3 a4).bind fun t14 => (if (((t1 ++ ([(⟨t4.1, (⟨t4.2.1, t4.2.2.1, t4.2.2.2.1, t4.2.2.2.2.1⟩ : S55), t4.2.2.2.2.2.1, t4.2.2.2.2.2.2⟩ : S76), (⟨a2 ++ (⟨#[97]⟩ : ByteArray), (⟨0, 0, 0, 0⟩ : S55), ByteArray.empty, ByteArray.empty⟩ : S76)] : List S76)) ++ ([(⟨t8.1, (⟨t8.2.1, t8.2.2.1, t8.2.2.2.1, t8.2.2.2.2.1⟩ : S55), t8.2.2.2.2.2.1, t8.2.2.2.2.2.2⟩ : S76), (⟨a2 ++ (⟨#[98]⟩ : ByteArray), (⟨0, 0, 0, 0⟩ : S55), ByteArray.empty, ByteArray.empty⟩ : S76)] : List S76)) ++ t11).length + ([(⟨t14.1, (⟨t14.2.1, t14.2.2.1, t14.2.2.2.1, t14.2.2.2.2.1⟩ : S55), t14.2.2.2.2.2.1, t14.2.2.2.2.2.2⟩ : S76)] : List S76).length < 1759218604441 then some ((((t1 ++ ([(⟨t4.1, (⟨t4.2.1, t4.2.2.1, t4.2.2.2.1, t4.2.2.2.2.1⟩ : S55), t4.2.2.2.2.2.1, t4.2.2.2.2.2.2⟩ : S76), (⟨a2 ++ (⟨#[97]⟩ : ByteArray), (⟨0, 0, 0, 0⟩ : S55), ByteArray.empty, ByteArray.empty⟩ : S76)] : List S76)) ++ ([(⟨t8.1, (⟨t8.2.1, t8.2.2.1, t8.2.2.2.1, t8.2.2.2.2.1⟩ : S55), t8.2.2.2.2.2.1, t8.2.2.2.2.2.2⟩ : S76), (⟨a2 ++ (⟨#[98]⟩ : ByteArray), (⟨0, 0, 0, 0⟩ : S55), ByteArray.empty, ByteArray.empty⟩ : S76)] : List S76)) ++ t11) ++ ([(⟨t14.1, (⟨t14.2.1, t14.2.2.1, t14.2.2.2.1, t14.2.2.2.2.1⟩ : S55), t14.2.2.2.2.2.1, t14.2.2.2.2.2.2⟩ : S76)] : List S76)) else none) else none) else none)) else none else none)) else none)
theorem spec_l12Above.ok {a0_0 : Int} {a0_1 : Int} {a0_2 : Int} {a0_3 : Int} {a0_4 : Int} {a0_5 : Int} {a1 : Int} {a2 : ByteArray} {a3 : ByteArray} {a4 : ByteArray} {r : (List S76)} (H : spec_l12Above.f a0_0 a0_1 a0_2 a0_3 a0_4 a0_5 a1 a2 a3 a4 = some r) : ACalls Try.prog 98 [] [.agg [.lit (.int .i64 a0_0), .lit (.int .i64 a0_1), .lit (.int .i64 a0_2), .lit (.int .i64 a0_3), .lit (.int .i64 a0_4), .lit (.int .i64 a0_5)], .lit (.int .i64 a1), .lit (.string a2), .lit (.string a3), .lit (.string a4)] [(0, .row 76 7 (r.map e76))] (.row 0) := by
 refine acalls (fn := Try.f98) (nt := 53) Try.func98 rfl rfl (Nat.le_of_ble_eq_true rfl) fun E hE => ?_
 rw [spec_l12Above.f] at H
 refine aw_grp1 ?_
 refine wk_start ?_
 refine kb g0 (bxA 0) ?_
 refine kv g0 (asg) ?_
 refine wk_end ?_
 refine ac_next ?_
 refine aw_grp1 ?_
 refine wk_start ?_
 refine kv g0 (ldBA 6 [.lit (.int .i64 a0_0), .lit (.int .i64 a0_1), .lit (.int .i64 a0_2), .lit (.int .i64 a0_3), .lit (.int .i64 a0_4), .lit (.int .i64 a0_5)]) ?_
 obtain ⟨t1, A2, H⟩ := of_bind H
 refine kcS1 13 (.row 1) [(1, .row 76 7 (t1.map e76))] g0 (cal (spec_l12Half.ok A2) [1] 9999 .n (hf := Try.func100)) rfl rfl ?_
 refine kv g0 (faB 4 4) ?_
 refine kv g0 (faB 0 4) ?_
 refine kv g0 (ldB) ?_
 refine kv g0 (mv) ?_
 refine kv g0 (mv) ?_
 obtain ⟨c3, H⟩ := of_if H
 refine kv g0 (cat c3) ?_
 obtain ⟨t4, A5, H⟩ := of_bind H
 refine kcS0 20 (.agg [.lit (.string t4.1), .lit (.int .i64 t4.2.1), .lit (.int .i64 t4.2.2.1), .lit (.int .i64 t4.2.2.2.1), .lit (.int .i64 t4.2.2.2.2.1), .lit (.string t4.2.2.2.2.2.1), .lit (.string t4.2.2.2.2.2.2)]) [] g0 (cal (spec_l11Asks.ok A5) [] 9999 .n (hf := Try.func40)) rfl rfl ?_
 refine kv g0 (mv) ?_
 refine kv g0 (cat c3) ?_
 refine kv g0 (bld [(0, 1), (1, 4), (5, 1), (6, 1)] [.string .empty, .int .i64 0, .int .i64 0, .int .i64 0, .int .i64 0, .string .empty, .string .empty] [.lit (.string (a2 ++ (⟨#[97]⟩ : ByteArray))), .lit (.int .i64 0), .lit (.int .i64 0), .lit (.int .i64 0), .lit (.int .i64 0), .lit (.string ByteArray.empty), .lit (.string ByteArray.empty)]) ?_
 refine kb g0 (bsl 2 76 7 [.string .empty, .int .i64 0, .int .i64 0, .int .i64 0, .int .i64 0, .string .empty, .string .empty] (([(⟨t4.1, (⟨t4.2.1, t4.2.2.1, t4.2.2.2.1, t4.2.2.2.2.1⟩ : S55), t4.2.2.2.2.2.1, t4.2.2.2.2.2.2⟩ : S76), (⟨a2 ++ (⟨#[97]⟩ : ByteArray), (⟨0, 0, 0, 0⟩ : S55), ByteArray.empty, ByteArray.empty⟩ : S76)] : List S76).map e76)) ?_
 obtain ⟨c6, H⟩ := of_if H
 refine kc g0 (apR 3 76 7 80 [.string .empty, .int .i64 0, .int .i64 0, .int .i64 0, .int .i64 0, .string .empty, .string .empty] ((t1 ++ ([(⟨t4.1, (⟨t4.2.1, t4.2.2.1, t4.2.2.2.1, t4.2.2.2.2.1⟩ : S55), t4.2.2.2.2.2.1, t4.2.2.2.2.2.2⟩ : S76), (⟨a2 ++ (⟨#[97]⟩ : ByteArray), (⟨0, 0, 0, 0⟩ : S55), ByteArray.empty, ByteArray.empty⟩ : S76)] : List S76)).map e76) (.row rfl) (apb c6 rfl) appE) ?_
 refine kv g0 (asg) ?_
 refine wk_end_draw hM (by kernel_rfl) ?_
 refine ac_next ?_
 refine aw_grp1 ?_
 refine wk_start ?_
 refine kv g0 (mv) ?_
 refine kv g0 (faB 4 4) ?_
 refine kv g0 (faB 0 4) ?_
 refine kv g0 (ldB) ?_
 refine kv g0 (mv) ?_
 obtain ⟨c7, H⟩ := of_if H
 refine kv g0 (cat c7) ?_
 refine kv g0 (mv) ?_
 obtain ⟨t8, A9, H⟩ := of_bind H
 refine kcS0 33 (.agg [.lit (.string t8.1), .lit (.int .i64 t8.2.1), .lit (.int .i64 t8.2.2.1), .lit (.int .i64 t8.2.2.2.1), .lit (.int .i64 t8.2.2.2.2.1), .lit (.string t8.2.2.2.2.2.1), .lit (.string t8.2.2.2.2.2.2)]) [] g0 (cal (spec_l11Asks.ok A9) [] 9999 .n (hf := Try.func40)) rfl rfl ?_
 refine kv g0 (mv) ?_
 refine kv g0 (cat c7) ?_
 refine kv g0 (bld [(0, 1), (1, 4), (5, 1), (6, 1)] [.string .empty, .int .i64 0, .int .i64 0, .int .i64 0, .int .i64 0, .string .empty, .string .empty] [.lit (.string (a2 ++ (⟨#[98]⟩ : ByteArray))), .lit (.int .i64 0), .lit (.int .i64 0), .lit (.int .i64 0), .lit (.int .i64 0), .lit (.string ByteArray.empty), .lit (.string ByteArray.empty)]) ?_
 refine kb g0 (bsl 4 76 7 [.string .empty, .int .i64 0, .int .i64 0, .int .i64 0, .int .i64 0, .string .empty, .string .empty] (([(⟨t8.1, (⟨t8.2.1, t8.2.2.1, t8.2.2.2.1, t8.2.2.2.2.1⟩ : S55), t8.2.2.2.2.2.1, t8.2.2.2.2.2.2⟩ : S76), (⟨a2 ++ (⟨#[98]⟩ : ByteArray), (⟨0, 0, 0, 0⟩ : S55), ByteArray.empty, ByteArray.empty⟩ : S76)] : List S76).map e76)) ?_
 obtain ⟨c10, H⟩ := of_if H
 refine kc g0 (apR 5 76 7 80 [.string .empty, .int .i64 0, .int .i64 0, .int .i64 0, .int .i64 0, .string .empty, .string .empty] (((t1 ++ ([(⟨t4.1, (⟨t4.2.1, t4.2.2.1, t4.2.2.2.1, t4.2.2.2.2.1⟩ : S55), t4.2.2.2.2.2.1, t4.2.2.2.2.2.2⟩ : S76), (⟨a2 ++ (⟨#[97]⟩ : ByteArray), (⟨0, 0, 0, 0⟩ : S55), ByteArray.empty, ByteArray.empty⟩ : S76)] : List S76)) ++ ([(⟨t8.1, (⟨t8.2.1, t8.2.2.1, t8.2.2.2.1, t8.2.2.2.2.1⟩ : S55), t8.2.2.2.2.2.1, t8.2.2.2.2.2.2⟩ : S76), (⟨a2 ++ (⟨#[98]⟩ : ByteArray), (⟨0, 0, 0, 0⟩ : S55), ByteArray.empty, ByteArray.empty⟩ : S76)] : List S76)).map e76) (.row rfl) (apb c10 rfl) appE) ?_
 refine kv g0 (asg) ?_
 refine wk_end ?_
 refine ac_next ?_
 refine aw_grp1 ?_
 refine wk_start ?_
 refine kv g0 (mv) ?_
 refine kv g0 (ldBA 6 [.lit (.int .i64 a0_0), .lit (.int .i64 a0_1), .lit (.int .i64 a0_2), .lit (.int .i64 a0_3), .lit (.int .i64 a0_4), .lit (.int .i64 a0_5)]) ?_
 obtain ⟨t11, A12, H⟩ := of_bind H
 refine kcS1 41 (.row 6) [(6, .row 76 7 (t11.map e76))] g0 (cal (spec_l12Half.ok A12) [6] 9999 .n (hf := Try.func100)) rfl rfl ?_
 obtain ⟨c13, H⟩ := of_if H
 refine kc g0 (apR 7 76 7 80 [.string .empty, .int .i64 0, .int .i64 0, .int .i64 0, .int .i64 0, .string .empty, .string .empty] ((((t1 ++ ([(⟨t4.1, (⟨t4.2.1, t4.2.2.1, t4.2.2.2.1, t4.2.2.2.2.1⟩ : S55), t4.2.2.2.2.2.1, t4.2.2.2.2.2.2⟩ : S76), (⟨a2 ++ (⟨#[97]⟩ : ByteArray), (⟨0, 0, 0, 0⟩ : S55), ByteArray.empty, ByteArray.empty⟩ : S76)] : List S76)) ++ ([(⟨t8.1, (⟨t8.2.1, t8.2.2.1, t8.2.2.2.1, t8.2.2.2.2.1⟩ : S55), t8.2.2.2.2.2.1, t8.2.2.2.2.2.2⟩ : S76), (⟨a2 ++ (⟨#[98]⟩ : ByteArray), (⟨0, 0, 0, 0⟩ : S55), ByteArray.empty, ByteArray.empty⟩ : S76)] : List S76)) ++ t11).map e76) (.row rfl) (apb c13 rfl) appE) ?_
 refine kv g0 (asg) ?_
 refine wk_end ?_
 refine ac_next ?_
 refine aw_grp1 ?_
 refine wk_start ?_
 refine kv g0 (mv) ?_
 refine kv g0 (mv) ?_
 refine kv g0 (faB 4 4) ?_
 refine kv g0 (faB 1 5) ?_
 refine kv g0 (ldB) ?_
 refine kv g0 (mv) ?_
 refine kv g0 (mv) ?_
 obtain ⟨t14, A15, H⟩ := of_bind H
 refine kcS0 50 (.agg [.lit (.string t14.1), .lit (.int .i64 t14.2.1), .lit (.int .i64 t14.2.2.1), .lit (.int .i64 t14.2.2.2.1), .lit (.int .i64 t14.2.2.2.2.1), .lit (.string t14.2.2.2.2.2.1), .lit (.string t14.2.2.2.2.2.2)]) [] g0 (cal (spec_l11Asks.ok A15) [] 9999 .n (hf := Try.func40)) rfl rfl ?_
 refine kb g0 (bsl 8 76 7 [.string .empty, .int .i64 0, .int .i64 0, .int .i64 0, .int .i64 0, .string .empty, .string .empty] (([(⟨t14.1, (⟨t14.2.1, t14.2.2.1, t14.2.2.2.1, t14.2.2.2.2.1⟩ : S55), t14.2.2.2.2.2.1, t14.2.2.2.2.2.2⟩ : S76)] : List S76).map e76)) ?_
 obtain ⟨c16, H⟩ := of_if H
 refine kc g0 (apR 9 76 7 80 [.string .empty, .int .i64 0, .int .i64 0, .int .i64 0, .int .i64 0, .string .empty, .string .empty] (((((t1 ++ ([(⟨t4.1, (⟨t4.2.1, t4.2.2.1, t4.2.2.2.1, t4.2.2.2.2.1⟩ : S55), t4.2.2.2.2.2.1, t4.2.2.2.2.2.2⟩ : S76), (⟨a2 ++ (⟨#[97]⟩ : ByteArray), (⟨0, 0, 0, 0⟩ : S55), ByteArray.empty, ByteArray.empty⟩ : S76)] : List S76)) ++ ([(⟨t8.1, (⟨t8.2.1, t8.2.2.1, t8.2.2.2.1, t8.2.2.2.2.1⟩ : S55), t8.2.2.2.2.2.1, t8.2.2.2.2.2.2⟩ : S76), (⟨a2 ++ (⟨#[98]⟩ : ByteArray), (⟨0, 0, 0, 0⟩ : S55), ByteArray.empty, ByteArray.empty⟩ : S76)] : List S76)) ++ t11) ++ ([(⟨t14.1, (⟨t14.2.1, t14.2.2.1, t14.2.2.2.1, t14.2.2.2.2.1⟩ : S55), t14.2.2.2.2.2.1, t14.2.2.2.2.2.2⟩ : S76)] : List S76)).map e76) (.row rfl) (apb c16 rfl) appE) ?_
 refine kv g0 (asg) ?_
 refine wk_end ?_
 refine ac_next ?_
 refine aw_ret ?_
 obtain rfl := Option.some.inj H
 exact acr hE [.tmp 10] (.tmp .nil) (.one _) [(0, 9)] 9999
/-! spec_CondLines -/
def spec_CondLines.f (a0_0 : Int) (a0_1 : Int) (a0_2 : Int) (a0_3 : Int) (a0_4 : Int) (a0_5 : Int) (a1 : ByteArray) (a2 : ByteArray) (a3 : ByteArray) : Option ((List S76)) := (spec_CondOk.f a0_0 a0_1 a0_2 a0_3 a0_4 a0_5).bind fun t1 => if t1 = true then if a0_3 = 1 then ((spec_l12Same.f a0_0 a0_1 a0_2 a0_3 a0_4 a0_5 a1 a2 a3).bind fun t5 => some t5) else if a0_3 = 2 then ((spec_l12Same.f a0_0 a0_1 a0_2 a0_3 a0_4 a0_5 a1 a3 a2).bind fun t8 => some t8) else if a0_3 = 5 then ((spec_l12Above.f a0_0 a0_1 a0_2 a0_3 a0_4 a0_5 4 a1 a2 a3).bind fun t11 => some t11) else if a0_3 = 6 then ((spec_l12Above.f a0_0 a0_1 a0_2 a0_3 a0_4 a0_5 5 a1 a2 a3).bind fun t14 => some t14) else if a0_3 = 4 then ((spec_l12Above.f a0_0 a0_1 a0_2 a0_3 a0_4 a0_5 4 a1 a3 a2).bind fun t17 => some t17) else (spec_l12Above.f a0_0 a0_1 a0_2 a0_3 a0_4 a0_5 5 a1 a3 a2).bind fun t19 => some t19 else some ([] : List S76)
theorem spec_CondLines.ok {a0_0 : Int} {a0_1 : Int} {a0_2 : Int} {a0_3 : Int} {a0_4 : Int} {a0_5 : Int} {a1 : ByteArray} {a2 : ByteArray} {a3 : ByteArray} {r : (List S76)} (H : spec_CondLines.f a0_0 a0_1 a0_2 a0_3 a0_4 a0_5 a1 a2 a3 = some r) : ACalls Try.prog 89 [] [.agg [.lit (.int .i64 a0_0), .lit (.int .i64 a0_1), .lit (.int .i64 a0_2), .lit (.int .i64 a0_3), .lit (.int .i64 a0_4), .lit (.int .i64 a0_5)], .lit (.string a1), .lit (.string a2), .lit (.string a3)] [(0, .row 76 7 (r.map e76))] (.row 0) := by
 refine acalls (fn := Try.f89) (nt := 55) Try.func89 rfl rfl (Nat.le_of_ble_eq_true rfl) fun E hE => ?_
 rw [spec_CondLines.f] at H
 refine aw_grp1 ?_
 refine wk_start ?_
 refine kb g0 (bxA 0) ?_
 refine kv g0 (asg) ?_
 refine wk_end ?_
 refine ac_next ?_
 refine aw_grp1 ?_
 refine aw_grp1 ?_
 refine wk_start ?_
 refine kv g0 (ldBA 6 [.lit (.int .i64 a0_0), .lit (.int .i64 a0_1), .lit (.int .i64 a0_2), .lit (.int .i64 a0_3), .lit (.int .i64 a0_4), .lit (.int .i64 a0_5)]) ?_
 obtain ⟨t1, A2, H⟩ := of_bind H
 refine kcS0 10 (.lit (.bool t1)) [] g0 (cal (spec_CondOk.ok A2) [] 9999 .n (hf := Try.func61)) rfl rfl ?_
 refine kv g0 (not_) ?_
 refine wk_end ?_
 refine ac_next ?_
 by_cases c3 : t1 = true
 ·rw [if_pos c3] at H
  refine aw_ifF ?_ (nF c3)
  refine aw_skip ?_
  refine ac_next ?_
  refine aw_grp1 ?_
  refine aw_grp1 ?_
  refine wk_start ?_
  refine kv g0 (faB 3 3) ?_
  refine kv g0 (ldB) ?_
  refine wk_end ?_
  refine ac_next ?_
  refine aw_block ?_
  refine aw_grp1 ?_
  refine wk_start ?_
  refine kv g0 (eql) ?_
  refine kv g0 (asg) ?_
  refine wk_end ?_
  refine ac_next ?_
  by_cases c4 : a0_3 = 1
  ·rw [if_pos c4] at H
   refine aw_ifT ?_ (eT c4)
   refine aw_grp1 ?_
   refine wk_start ?_
   refine kv g0 (ldBA 6 [.lit (.int .i64 a0_0), .lit (.int .i64 a0_1), .lit (.int .i64 a0_2), .lit (.int .i64 a0_3), .lit (.int .i64 a0_4), .lit (.int .i64 a0_5)]) ?_
   refine kv g0 (mv) ?_
   refine kv g0 (mv) ?_
   refine kv g0 (mv) ?_
   obtain ⟨t5, A6, H⟩ := of_bind H
   refine kcS1 21 (.row 2) [(2, .row 76 7 (t5.map e76))] g0 (cal (spec_l12Same.ok A6) [2] 9999 .n (hf := Try.func97)) rfl rfl ?_
   refine kv g0 (asg) ?_
   refine wk_end ?_
   refine ac_next ?_
   refine aw_ret ?_
   refine ac_blkR ?_
   refine ac_thenR ?_
   obtain rfl := Option.some.inj H
   exact acr hE [.tmp 8] (.tmp .nil) (.one _) [(0, 2)] 9999
  rw [if_neg c4] at H
  refine aw_ifF ?_ (eF c4)
  refine aw_grp1 ?_
  refine wk_start ?_
  refine kv g0 (eql) ?_
  refine kv g0 (asg) ?_
  refine wk_end ?_
  refine ac_next ?_
  by_cases c7 : a0_3 = 2
  ·rw [if_pos c7] at H
   refine aw_ifT ?_ (eT c7)
   refine aw_grp1 ?_
   refine wk_start ?_
   refine kv g0 (ldBA 6 [.lit (.int .i64 a0_0), .lit (.int .i64 a0_1), .lit (.int .i64 a0_2), .lit (.int .i64 a0_3), .lit (.int .i64 a0_4), .lit (.int .i64 a0_5)]) ?_
   refine kv g0 (mv) ?_
   refine kv g0 (mv) ?_
   refine kv g0 (mv) ?_
   obtain ⟨t8, A9, H⟩ := of_bind H
   refine kcS1 28 (.row 3) [(3, .row 76 7 (t8.map e76))] g0 (cal (spec_l12Same.ok A9) [3] 9999 .n (hf := Try.func97)) rfl rfl ?_
   refine kv g0 (asg) ?_
   refine wk_end ?_
   refine ac_next ?_
   refine aw_ret ?_
   refine ac_blkR ?_
   refine ac_thenR ?_
   obtain rfl := Option.some.inj H
   exact acr hE [.tmp 8] (.tmp .nil) (.one _) [(0, 3)] 9999
  rw [if_neg c7] at H
  refine aw_ifF ?_ (eF c7)
  refine aw_grp1 ?_
  refine wk_start ?_
  refine kv g0 (eql) ?_
  refine kv g0 (asg) ?_
  refine wk_end ?_
  refine ac_next ?_
  by_cases c10 : a0_3 = 5
  ·rw [if_pos c10] at H
   refine aw_ifT ?_ (eT c10)
   refine aw_grp1 ?_
   refine wk_start ?_
   refine kv g0 (ldBA 6 [.lit (.int .i64 a0_0), .lit (.int .i64 a0_1), .lit (.int .i64 a0_2), .lit (.int .i64 a0_3), .lit (.int .i64 a0_4), .lit (.int .i64 a0_5)]) ?_
   refine kv g0 (mv) ?_
   refine kv g0 (mv) ?_
   refine kv g0 (mv) ?_
   obtain ⟨t11, A12, H⟩ := of_bind H
   refine kcS1 35 (.row 4) [(4, .row 76 7 (t11.map e76))] g0 (cal (spec_l12Above.ok A12) [4] 9999 .n (hf := Try.func98)) rfl rfl ?_
   refine kv g0 (asg) ?_
   refine wk_end ?_
   refine ac_next ?_
   refine aw_ret ?_
   refine ac_blkR ?_
   refine ac_thenR ?_
   obtain rfl := Option.some.inj H
   exact acr hE [.tmp 8] (.tmp .nil) (.one _) [(0, 4)] 9999
  rw [if_neg c10] at H
  refine aw_ifF ?_ (eF c10)
  refine aw_grp1 ?_
  refine wk_start ?_
  refine kv g0 (eql) ?_
  refine kv g0 (asg) ?_
  refine wk_end ?_
  refine ac_next ?_
  by_cases c13 : a0_3 = 6
  ·rw [if_pos c13] at H
   refine aw_ifT ?_ (eT c13)
   refine aw_grp1 ?_
   refine wk_start ?_
   refine kv g0 (ldBA 6 [.lit (.int .i64 a0_0), .lit (.int .i64 a0_1), .lit (.int .i64 a0_2), .lit (.int .i64 a0_3), .lit (.int .i64 a0_4), .lit (.int .i64 a0_5)]) ?_
   refine kv g0 (mv) ?_
   refine kv g0 (mv) ?_
   refine kv g0 (mv) ?_
   obtain ⟨t14, A15, H⟩ := of_bind H
   refine kcS1 42 (.row 5) [(5, .row 76 7 (t14.map e76))] g0 (cal (spec_l12Above.ok A15) [5] 9999 .n (hf := Try.func98)) rfl rfl ?_
   refine kv g0 (asg) ?_
   refine wk_end ?_
   refine ac_next ?_
   refine aw_ret ?_
   refine ac_blkR ?_
   refine ac_thenR ?_
   obtain rfl := Option.some.inj H
   exact acr hE [.tmp 8] (.tmp .nil) (.one _) [(0, 5)] 9999
  rw [if_neg c13] at H
  refine aw_ifF ?_ (eF c13)
  refine aw_grp1 ?_
  refine wk_start ?_
  refine kv g0 (eql) ?_
  refine kv g0 (asg) ?_
  refine wk_end ?_
  refine ac_next ?_
  by_cases c16 : a0_3 = 4
  ·rw [if_pos c16] at H
   refine aw_ifT ?_ (eT c16)
   refine aw_grp1 ?_
   refine wk_start ?_
   refine kv g0 (ldBA 6 [.lit (.int .i64 a0_0), .lit (.int .i64 a0_1), .lit (.int .i64 a0_2), .lit (.int .i64 a0_3), .lit (.int .i64 a0_4), .lit (.int .i64 a0_5)]) ?_
   refine kv g0 (mv) ?_
   refine kv g0 (mv) ?_
   refine kv g0 (mv) ?_
   obtain ⟨t17, A18, H⟩ := of_bind H
   refine kcS1 49 (.row 6) [(6, .row 76 7 (t17.map e76))] g0 (cal (spec_l12Above.ok A18) [6] 9999 .n (hf := Try.func98)) rfl rfl ?_
   refine kv g0 (asg) ?_
   refine wk_end ?_
   refine ac_next ?_
   refine aw_ret ?_
   refine ac_blkR ?_
   refine ac_thenR ?_
   obtain rfl := Option.some.inj H
   exact acr hE [.tmp 8] (.tmp .nil) (.one _) [(0, 6)] 9999
  rw [if_neg c16] at H
  refine aw_ifF ?_ (eF c16)
  refine aw_skip ?_
  refine ac_blkN ?_
  refine ac_next ?_
  refine aw_grp1 ?_
  refine wk_start ?_
  refine kv g0 (ldBA 6 [.lit (.int .i64 a0_0), .lit (.int .i64 a0_1), .lit (.int .i64 a0_2), .lit (.int .i64 a0_3), .lit (.int .i64 a0_4), .lit (.int .i64 a0_5)]) ?_
  refine kv g0 (mv) ?_
  refine kv g0 (mv) ?_
  refine kv g0 (mv) ?_
  obtain ⟨t19, A20, H⟩ := of_bind H
  refine kcS1 54 (.row 7) [(7, .row 76 7 (t19.map e76))] g0 (cal (spec_l12Above.ok A20) [7] 9999 .n (hf := Try.func98)) rfl rfl ?_
  refine kv g0 (asg) ?_
  refine wk_end ?_
  refine ac_next ?_
  refine aw_ret ?_
  obtain rfl := Option.some.inj H
  exact acr hE [.tmp 8] (.tmp .nil) (.one _) [(0, 7)] 9999
 rw [if_neg c3] at H
 refine aw_ifT ?_ (nT (bF c3))
 refine aw_grp1 ?_
 refine wk_start ?_
 refine kb g0 (bsl 1 76 7 [.string .empty, .int .i64 0, .int .i64 0, .int .i64 0, .int .i64 0, .string .empty, .string .empty] (([] : List S76).map e76)) ?_
 refine kv g0 (asg) ?_
 refine wk_end ?_
 refine ac_next ?_
 refine aw_ret ?_
 refine ac_thenR ?_
 obtain rfl := Option.some.inj H
 exact acr hE [.tmp 8] (.tmp .nil) (.one _) [(0, 1)] 9999
/-! spec_ResultOf -/
def spec_ResultOf.f (a0 : Int) (a1 : Int) : Option (Int) := (spec_l01In.f a0 0 5).bind fun t1 => (if t1 = true then ((spec_l01In.f a1 0 65535).bind fun t4 => if t4 = true then some (wrap64 ((wrap64 (65536 * a0)) + a1)) else some 0) else some 0)
theorem spec_ResultOf.ok {a0 : Int} {a1 : Int} {r : Int} (H : spec_ResultOf.f a0 a1 = some r) : ACalls Try.prog 48 [] [.lit (.int .i64 a0), .lit (.int .i64 a1)] [] (.lit (.int .i64 r)) := by
 refine acalls (fn := Try.f48) (nt := 17) Try.func48 rfl rfl (Nat.le_of_ble_eq_true rfl) fun E hE => ?_
 rw [spec_ResultOf.f] at H
 refine aw_grp1 ?_
 refine wk_start ?_
 refine kv g0 (asg) ?_
 refine wk_end ?_
 refine ac_next ?_
 refine aw_grp1 ?_
 refine aw_grp1 ?_
 refine wk_start ?_
 refine kv g0 (mv) ?_
 obtain ⟨t1, A2, H⟩ := of_bind H
 refine kcS0 6 (.lit (.bool t1)) [] g0 (cal (spec_l01In.ok A2) [] 9999 .n (hf := Try.func22)) rfl rfl ?_
 refine kv g0 (not_) ?_
 refine kv g0 (mv) ?_
 by_cases c3 : t1 = true
 ·rw [if_pos c3] at H
  refine kv (g1 (nF c3)) (mv) ?_
  obtain ⟨t4, A5, H⟩ := of_bind H
  refine kcS0 10 (.lit (.bool t4)) [] (g1 (nF c3)) (cal (spec_l01In.ok A5) [] 9999 .n (hf := Try.func22)) rfl rfl ?_
  refine kv (g1 (nF c3)) (not_) ?_
  refine kv g0 (pkF (nF c3)) ?_
  refine wk_end ?_
  refine ac_next ?_
  by_cases c6 : t4 = true
  ·rw [if_pos c6] at H
   refine aw_ifF ?_ (nF c6)
   refine aw_skip ?_
   refine ac_next ?_
   refine aw_grp1 ?_
   refine wk_start ?_
   refine kv g0 (mv) ?_
   refine kv g0 (mul6) ?_
   refine kv g0 (mv) ?_
   refine kv g0 (add6) ?_
   refine kv g0 (asg) ?_
   refine wk_end ?_
   refine ac_next ?_
   refine aw_ret ?_
   obtain rfl := Option.some.inj H
   exact acr hE [.tmp 4] (.tmp .nil) (.one _) [] 9999
  rw [if_neg c6] at H
  refine aw_ifT ?_ (nT (bF c6))
  refine aw_grp1 ?_
  refine wk_start ?_
  refine kv g0 (asg) ?_
  refine wk_end ?_
  refine ac_next ?_
  refine aw_ret ?_
  refine ac_thenR ?_
  obtain rfl := Option.some.inj H
  exact acr hE [.tmp 4] (.tmp .nil) (.one _) [] 9999
 rw [if_neg c3] at H
 refine kx (hF (nT (bF c3))) ?_
 refine kx (hF (nT (bF c3))) ?_
 refine kx (hF (nT (bF c3))) ?_
 refine kv g0 (pkT (nT (bF c3))) ?_
 refine wk_end ?_
 refine ac_next ?_
 refine aw_ifT ?_ rfl
 refine aw_grp1 ?_
 refine wk_start ?_
 refine kv g0 (asg) ?_
 refine wk_end ?_
 refine ac_next ?_
 refine aw_ret ?_
 refine ac_thenR ?_
 obtain rfl := Option.some.inj H
 exact acr hE [.tmp 4] (.tmp .nil) (.one _) [] 9999
/-! spec_RuleLines -/
def spec_RuleLines.l0 : Nat → (List Int) → (List S94) → Int → Int → ByteArray → ByteArray → (List S76) → Int → Option ((List S76))
 | 0, _, _, _, _, _, _, _, _ => none
 | k16 + 1, l0_0, l0_1, a0_2, a0_3, a1, a2, q14, p15 => if p15 < (l0_1.length : Int) then if a1.size + (⟨#[110]⟩ : ByteArray).size ≤ 9223372036854775807 then ((spec_Decimal.f k16 p15).bind fun t19 => (if (a1 ++ (⟨#[110]⟩ : ByteArray)).size + t19.size ≤ 9223372036854775807 then if 0 ≤ p15 then ((spec_Decimal.f k16 p15).bind fun t23 => (if a1.size + t23.size ≤ 9223372036854775807 then ((spec_CondLines.f ((rd_T94 l0_1 p15).f0) ((rd_T94 l0_1 p15).f1.f0) ((rd_T94 l0_1 p15).f1.f1) ((rd_T94 l0_1 p15).f2) ((rd_T94 l0_1 p15).f3.f0) ((rd_T94 l0_1 p15).f3.f1) (a1 ++ t23) ((a1 ++ (⟨#[110]⟩ : ByteArray)) ++ t19) a2).bind fun t26 => (if q14.length + t26.length < 1759218604441 then if (q14 ++ t26).length + ([(⟨(a1 ++ (⟨#[110]⟩ : ByteArray)) ++ t19, (⟨0, 0, 0, 0⟩ : S55), ByteArray.empty, ByteArray.empty⟩ : S76)] : List S76).length < 1759218604441 then spec_RuleLines.l0 k16 l0_0 l0_1 a0_2 a0_3 a1 a2 ((q14 ++ t26) ++ ([(⟨(a1 ++ (⟨#[110]⟩ : ByteArray)) ++ t19, (⟨0, 0, 0, 0⟩ : S55), ByteArray.empty, ByteArray.empty⟩ : S76)] : List S76)) (wrap64 (p15 + 1)) else none else none)) else none)) else none else none)) else none else (spec_ResultOf.f a0_2 a0_3).bind fun t32 => ((spec_l11Word.f 8 t32).bind fun t34 => (if q14.length + ([(⟨t34.1, (⟨t34.2.1, t34.2.2.1, t34.2.2.2.1, t34.2.2.2.2.1⟩ : S55), t34.2.2.2.2.2.1, t34.2.2.2.2.2.2⟩ : S76)] : List S76).length < 1759218604441 then some (q14 ++ ([(⟨t34.1, (⟨t34.2.1, t34.2.2.1, t34.2.2.2.1, t34.2.2.2.2.1⟩ : S55), t34.2.2.2.2.2.1, t34.2.2.2.2.2.2⟩ : S76)] : List S76)) else none))
def spec_RuleLines.f (k : Nat) (l0_0 : List Int) (l0_1 : List S94) (a0_2 : Int) (a0_3 : Int) (a1 : ByteArray) (a2 : ByteArray) : Option ((List S76)) := spec_RuleLines.l0 k l0_0 l0_1 a0_2 a0_3 a1 a2 ([] : List S76) 0
theorem spec_RuleLines.ok {k : Nat} {l0_0 : List Int} {l0_1 : List S94} {a0_2 : Int} {a0_3 : Int} {a1 : ByteArray} {a2 : ByteArray} {r : (List S76)} (H : spec_RuleLines.f k l0_0 l0_1 a0_2 a0_3 a1 a2 = some r) : ACalls Try.prog 74 [] [.agg [.sl .o 1 (l0_0.map (eI .i64)), .sl .o 6 (l0_1.map e94), .lit (.int .i64 a0_2), .lit (.int .i64 a0_3)], .lit (.string a1), .lit (.string a2)] [(0, .row 76 7 (r.map e76))] (.row 0) := by
 refine acalls (fn := Try.f74) (nt := 51) Try.func74 rfl rfl (Nat.le_of_ble_eq_true rfl) fun E hE => ?_
 rw [spec_RuleLines.f] at H
 refine aw_grp1 ?_
 refine wk_start ?_
 refine kb g0 (bxA 0) ?_
 refine kv g0 (asg) ?_
 refine wk_end ?_
 refine ac_next ?_
 refine aw_grp1 ?_
 refine wk_start ?_
 refine kb g0 (bsl 1 76 7 [.string .empty, .int .i64 0, .int .i64 0, .int .i64 0, .int .i64 0, .string .empty, .string .empty] (([] : List S76).map e76)) ?_
 refine kv g0 (asg) ?_
 refine wk_end ?_
 refine ac_next ?_
 refine aw_grp1 ?_
 refine aw_grp1 ?_
 refine wk_start ?_
 refine kv g0 (asg) ?_
 refine wk_end ?_
 refine ac_next ?_
 refine aw_block ?_
 refine aw_loop2 (fun (k_ : Nat) (q14 : List S76) (p15 : Int) => k_ ≤ k ∧ spec_RuleLines.l0 k_ l0_0 l0_1 a0_2 a0_3 a1 a2 q14 p15 = some r) (fun (q14 : List S76) (p15 : Int) => ⟨[(1, .lit (.string a1)), (2, .lit (.string a2)), (3, .box 0 0), (7, .row 1), (8, .lit (.int .i64 p15))], [(0, .box 67 [.sl .o 1 (l0_0.map (eI .i64)), .sl .o 6 (l0_1.map e94), .lit (.int .i64 a0_2), .lit (.int .i64 a0_3)]), (1, .row 76 7 (q14.map e76))]⟩) k ([] : List S76) 0 ⟨Nat.le_refl _, H⟩ (fun K_ h_ => acw hE [(0, 0), (1, 1)] 9999 h_) (fun _ _ => by intro h_; have h_ := h_.2; rw [spec_RuleLines.l0.eq_1] at h_; cases h_) ?_
 intro k16 q14 p15 hq_ K30 hK31
 have hk16 := hq_.1
 have H := hq_.2
 clear hq_
 rw [spec_RuleLines.l0.eq_2] at H
 refine aw_grp1 ?_
 refine aw_grp1 ?_
 refine wk_start ?_
 refine kv g0 (mv) ?_
 refine kv g0 (faB 1 1) ?_
 refine kv g0 (ldB) ?_
 refine kv g0 (lnS lenE) ?_
 refine kv g0 (lss) ?_
 refine wk_end ?_
 refine ac_next ?_
 by_cases c17 : p15 < (l0_1.length : Int)
 ·rw [if_pos c17] at H
  refine aw_ifT ?_ (decide_eq_true c17)
  refine aw_skip ?_
  refine ac_next ?_
  refine aw_grp1 ?_
  refine aw_block ?_
  refine aw_grp1 ?_
  refine wk_start ?_
  refine kv g0 (mv) ?_
  obtain ⟨c18, H⟩ := of_if H
  refine kv g0 (cat c18) ?_
  refine kv g0 (mv) ?_
  obtain ⟨t19, A20, H⟩ := of_bind H
  refine kcS0 21 (.lit (.string t19)) [] g0 (cal (spec_Decimal.ok A20) [] 9999 .n (hf := Try.func88)) rfl rfl ?_
  obtain ⟨c21, H⟩ := of_if H
  refine kv g0 (cat c21) ?_
  refine kv g0 (asg) ?_
  refine wk_end ?_
  refine ac_next ?_
  refine aw_grp1 ?_
  refine wk_start ?_
  refine kv g0 (mv) ?_
  refine kv g0 (faB 1 1) ?_
  refine kv g0 (ldB) ?_
  refine kv g0 (mv) ?_
  obtain ⟨c22, H⟩ := of_if H
  refine kv g0 (ixS 94 (e94 (rd_T94 l0_1 p15)) c22 (getE (z := z94) c22 c17)) ?_
  refine kv g0 (ldRA 6 [.lit (.int .i64 ((rd_T94 l0_1 p15).f0)), .lit (.int .i64 ((rd_T94 l0_1 p15).f1.f0)), .lit (.int .i64 ((rd_T94 l0_1 p15).f1.f1)), .lit (.int .i64 ((rd_T94 l0_1 p15).f2)), .lit (.int .i64 ((rd_T94 l0_1 p15).f3.f0)), .lit (.int .i64 ((rd_T94 l0_1 p15).f3.f1))]) ?_
  refine kv g0 (mv) ?_
  refine kv g0 (mv) ?_
  obtain ⟨t23, A24, H⟩ := of_bind H
  refine kcS0 31 (.lit (.string t23)) [] g0 (cal (spec_Decimal.ok A24) [] 9999 .n (hf := Try.func88)) rfl rfl ?_
  obtain ⟨c25, H⟩ := of_if H
  refine kv g0 (cat c25) ?_
  refine kv g0 (mv) ?_
  refine kv g0 (mv) ?_
  obtain ⟨t26, A27, H⟩ := of_bind H
  refine kcS1 35 (.row 2) [(2, .row 76 7 (t26.map e76))] g0 (cal (spec_CondLines.ok A27) [2] 9999 .n (hf := Try.func89)) rfl rfl ?_
  obtain ⟨c28, H⟩ := of_if H
  refine kc g0 (apR 3 76 7 80 [.string .empty, .int .i64 0, .int .i64 0, .int .i64 0, .int .i64 0, .string .empty, .string .empty] ((q14 ++ t26).map e76) (.row rfl) (apb c28 rfl) appE) ?_
  refine kv g0 (asg) ?_
  refine wk_end_draw hM (by kernel_rfl) ?_
  refine ac_next ?_
  refine wk_start ?_
  refine kv g0 (mv) ?_
  refine kv g0 (mv) ?_
  refine kv g0 (bld [(0, 1), (1, 4), (5, 1), (6, 1)] [.string .empty, .int .i64 0, .int .i64 0, .int .i64 0, .int .i64 0, .string .empty, .string .empty] [.lit (.string ((a1 ++ (⟨#[110]⟩ : ByteArray)) ++ t19)), .lit (.int .i64 0), .lit (.int .i64 0), .lit (.int .i64 0), .lit (.int .i64 0), .lit (.string ByteArray.empty), .lit (.string ByteArray.empty)]) ?_
  refine kb g0 (bsl 4 76 7 [.string .empty, .int .i64 0, .int .i64 0, .int .i64 0, .int .i64 0, .string .empty, .string .empty] (([(⟨(a1 ++ (⟨#[110]⟩ : ByteArray)) ++ t19, (⟨0, 0, 0, 0⟩ : S55), ByteArray.empty, ByteArray.empty⟩ : S76)] : List S76).map e76)) ?_
  obtain ⟨c29, H⟩ := of_if H
  refine kc g0 (apR 5 76 7 80 [.string .empty, .int .i64 0, .int .i64 0, .int .i64 0, .int .i64 0, .string .empty, .string .empty] (((q14 ++ t26) ++ ([(⟨(a1 ++ (⟨#[110]⟩ : ByteArray)) ++ t19, (⟨0, 0, 0, 0⟩ : S55), ByteArray.empty, ByteArray.empty⟩ : S76)] : List S76)).map e76) (.row rfl) (apb c29 rfl) appE) ?_
  refine kv g0 (asg) ?_
  refine wk_end ?_
  refine ac_blkN ?_
  refine ac_next ?_
  refine wk_start ?_
  refine kv g0 (mv) ?_
  refine kv g0 (add6) ?_
  refine kv g0 (asg) ?_
  refine wk_end ?_
  refine ac_k ?_
  exact acw hE [(0, 0), (1, 5)] 9999 (hK31 k16 ((q14 ++ t26) ++ ([(⟨(a1 ++ (⟨#[110]⟩ : ByteArray)) ++ t19, (⟨0, 0, 0, 0⟩ : S55), ByteArray.empty, ByteArray.empty⟩ : S76)] : List S76)) (wrap64 (p15 + 1)) (Nat.le_refl _) ⟨by omega, H⟩)
 rw [if_neg c17] at H
 refine aw_ifF ?_ (decide_eq_false c17)
 refine aw_exit ?_
 refine ac_then ?_
 refine ac_then ?_
 refine ac_hit rfl ?_
 refine ac_next ?_
 refine aw_grp1 ?_
 refine wk_start ?_
 refine kv g0 (mv) ?_
 refine kv g0 (faB 2 2) ?_
 refine kv g0 (ldB) ?_
 refine kv g0 (faB 3 3) ?_
 refine kv g0 (ldB) ?_
 obtain ⟨t32, A33, H⟩ := of_bind H
 refine kcS0 47 (.lit (.int .i64 t32)) [] g0 (cal (spec_ResultOf.ok A33) [] 9999 .n (hf := Try.func48)) rfl rfl ?_
 obtain ⟨t34, A35, H⟩ := of_bind H
 refine kcS0 48 (.agg [.lit (.string t34.1), .lit (.int .i64 t34.2.1), .lit (.int .i64 t34.2.2.1), .lit (.int .i64 t34.2.2.2.1), .lit (.int .i64 t34.2.2.2.2.1), .lit (.string t34.2.2.2.2.2.1), .lit (.string t34.2.2.2.2.2.2)]) [] g0 (cal (spec_l11Word.ok A35) [] 9999 .n (hf := Try.func39)) rfl rfl ?_
 refine kb g0 (bsl 6 76 7 [.string .empty, .int .i64 0, .int .i64 0, .int .i64 0, .int .i64 0, .string .empty, .string .empty] (([(⟨t34.1, (⟨t34.2.1, t34.2.2.1, t34.2.2.2.1, t34.2.2.2.2.1⟩ : S55), t34.2.2.2.2.2.1, t34.2.2.2.2.2.2⟩ : S76)] : List S76).map e76)) ?_
 obtain ⟨c36, H⟩ := of_if H
 refine kc g0 (apR 7 76 7 80 [.string .empty, .int .i64 0, .int .i64 0, .int .i64 0, .int .i64 0, .string .empty, .string .empty] ((q14 ++ ([(⟨t34.1, (⟨t34.2.1, t34.2.2.1, t34.2.2.2.1, t34.2.2.2.2.1⟩ : S55), t34.2.2.2.2.2.1, t34.2.2.2.2.2.2⟩ : S76)] : List S76)).map e76) (.row rfl) (apb c36 rfl) appE) ?_
 refine kv g0 (asg) ?_
 refine wk_end ?_
 refine ac_next ?_
 refine aw_ret ?_
 obtain rfl := Option.some.inj H
 exact acr hE [.tmp 6] (.tmp .nil) (.one _) [(0, 7)] 9999
/-! spec_ChainLines -/
mutual
def spec_ChainLines.j0 : Nat → Int → Int → Int → (List S67) → Int → Bool → ByteArray → (List S76) → Int → Option ((List S76))
 | 0, _, _, _, _, _, _, _, _, _ => none
 | k27 + 1, a0_0, a0_1, a0_2, l0_3, a1, a2, a3, q16, p17 => if a3.size + (strOfNums ([IntKind.u8.wrap (wrap64 (97 + p17))] : List Int)).size ≤ 9223372036854775807 then if (a3 ++ (strOfNums ([IntKind.u8.wrap (wrap64 (97 + p17))] : List Int))).size + (⟨#[122]⟩ : ByteArray).size ≤ 9223372036854775807 then ((spec_RuleLines.f k27 ((rd_T67 l0_3 p17).f0) ((rd_T67 l0_3 p17).f1) ((rd_T67 l0_3 p17).f2) ((rd_T67 l0_3 p17).f3) (a3 ++ (strOfNums ([IntKind.u8.wrap (wrap64 (97 + p17))] : List Int))) ((a3 ++ (strOfNums ([IntKind.u8.wrap (wrap64 (97 + p17))] : List Int))) ++ (⟨#[122]⟩ : ByteArray))).bind fun t30 => (if q16.length + t30.length < 1759218604441 then if (q16 ++ t30).length + ([(⟨(a3 ++ (strOfNums ([IntKind.u8.wrap (wrap64 (97 + p17))] : List Int))) ++ (⟨#[122]⟩ : ByteArray), (⟨0, 0, 0, 0⟩ : S55), ByteArray.empty, ByteArray.empty⟩ : S76)] : List S76).length < 1759218604441 then spec_ChainLines.l0 k27 a0_0 a0_1 a0_2 l0_3 a1 a2 a3 ((q16 ++ t30) ++ ([(⟨(a3 ++ (strOfNums ([IntKind.u8.wrap (wrap64 (97 + p17))] : List Int))) ++ (⟨#[122]⟩ : ByteArray), (⟨0, 0, 0, 0⟩ : S55), ByteArray.empty, ByteArray.empty⟩ : S76)] : List S76)) (wrap64 (p17 + 1)) else none else none)) else none else none
def spec_ChainLines.l0 : Nat → Int → Int → Int → (List S67) → Int → Bool → ByteArray → (List S76) → Int → Option ((List S76))
 | 0, _, _, _, _, _, _, _, _, _ => none
 | k18 + 1, a0_0, a0_1, a0_2, l0_3, a1, a2, a3, q16, p17 => if p17 < (l0_3.length : Int) then if p17 < 26 then if 0 ≤ p17 then if (((rd_T67 l0_3 p17).f0).length : Int) > 0 then (if a2 = true then spec_ChainLines.l0 k18 a0_0 a0_1 a0_2 l0_3 a1 a2 a3 q16 (wrap64 (p17 + 1)) else ((spec_l09In.f k18 ((rd_T67 l0_3 p17).f0) a1).bind fun t24 => if t24 = true then spec_ChainLines.j0 k18 a0_0 a0_1 a0_2 l0_3 a1 a2 a3 q16 p17 else spec_ChainLines.l0 k18 a0_0 a0_1 a0_2 l0_3 a1 a2 a3 q16 (wrap64 (p17 + 1)))) else spec_ChainLines.j0 k18 a0_0 a0_1 a0_2 l0_3 a1 a2 a3 q16 p17 else none else spec_ChainLines.j1 k18 a0_0 a0_1 a0_2 l0_3 q16 else spec_ChainLines.j1 k18 a0_0 a0_1 a0_2 l0_3 q16
def spec_ChainLines.j1 : Nat → Int → Int → Int → (List S67) → (List S76) → Option ((List S76))
 | 0, _, _, _, _, _ => none
 | k38 + 1, a0_0, a0_1, a0_2, l0_3, q37 => (spec_ResultOf.f a0_1 a0_2).bind fun t39 => ((spec_l11Word.f 8 t39).bind fun t41 => (if q37.length + ([(⟨t41.1, (⟨t41.2.1, t41.2.2.1, t41.2.2.2.1, t41.2.2.2.2.1⟩ : S55), t41.2.2.2.2.2.1, t41.2.2.2.2.2.2⟩ : S76)] : List S76).length < 1759218604441 then some (q37 ++ ([(⟨t41.1, (⟨t41.2.1, t41.2.2.1, t41.2.2.2.1, t41.2.2.2.2.1⟩ : S55), t41.2.2.2.2.2.1, t41.2.2.2.2.2.2⟩ : S76)] : List S76)) else none))
end
def spec_ChainLines.f (k : Nat) (a0_0 : Int) (a0_1 : Int) (a0_2 : Int) (l0_3 : List S67) (a1 : Int) (a2 : Bool) (a3 : ByteArray) : Option ((List S76)) := spec_ChainLines.l0 k a0_0 a0_1 a0_2 l0_3 a1 a2 a3 ([] : List S76) 0
theorem spec_ChainLines.ok {k : Nat} {a0_0 : Int} {a0_1 : Int} {a0_2 : Int} {l0_3 : List S67} {a1 : Int} {a2 : Bool} {a3 : ByteArray} {r : (List S76)} (H : spec_ChainLines.f k a0_0 a0_1 a0_2 l0_3 a1 a2 a3 = some r) : ACalls Try.prog 62 [] [.agg [.lit (.int .i64 a0_0), .lit (.int .i64 a0_1), .lit (.int .i64 a0_2), .sl .o 4 (l0_3.map e67)], .lit (.int .i64 a1), .lit (.bool a2), .lit (.string a3)] [(0, .row 76 7 (r.map e76))] (.row 0) := by
 refine acalls (fn := Try.f62) (nt := 73) Try.func62 rfl rfl (Nat.le_of_ble_eq_true rfl) fun E hE => ?_
 rw [spec_ChainLines.f] at H
 refine aw_grp1 ?_
 refine wk_start ?_
 refine kb g0 (bxA 0) ?_
 refine kv g0 (asg) ?_
 refine wk_end ?_
 refine ac_next ?_
 refine aw_grp1 ?_
 refine wk_start ?_
 refine kb g0 (bsl 1 76 7 [.string .empty, .int .i64 0, .int .i64 0, .int .i64 0, .int .i64 0, .string .empty, .string .empty] (([] : List S76).map e76)) ?_
 refine kv g0 (asg) ?_
 refine wk_end ?_
 refine ac_next ?_
 refine aw_cut1 (J := fun K_ => ∀ (k_ : Nat) (q37 : List S76), k_ ≤ k → spec_ChainLines.j1 k_ a0_0 a0_1 a0_2 l0_3 q37 = some r → ACont E 73 ⟨[(4, .box 0 0), (9, .row 1)], [(0, .box 26 [.lit (.int .i64 a0_0), .lit (.int .i64 a0_1), .lit (.int .i64 a0_2), .sl .o 4 (l0_3.map e67)]), (1, .row 76 7 (q37.map e76))]⟩ K_) ?_ ?_
 ·intro K_ hJ44
  refine aw_grp1 ?_
  refine wk_start ?_
  refine kv g0 (asg) ?_
  refine wk_end ?_
  refine ac_next ?_
  refine aw_block ?_
  refine aw_loop2 (fun (k_ : Nat) (q16 : List S76) (p17 : Int) => k_ ≤ k ∧ spec_ChainLines.l0 k_ a0_0 a0_1 a0_2 l0_3 a1 a2 a3 q16 p17 = some r) (fun (q16 : List S76) (p17 : Int) => ⟨[(1, .lit (.int .i64 a1)), (2, .lit (.bool a2)), (3, .lit (.string a3)), (4, .box 0 0), (9, .row 1), (10, .lit (.int .i64 p17))], [(0, .box 26 [.lit (.int .i64 a0_0), .lit (.int .i64 a0_1), .lit (.int .i64 a0_2), .sl .o 4 (l0_3.map e67)]), (1, .row 76 7 (q16.map e76))]⟩) k ([] : List S76) 0 ⟨Nat.le_refl _, H⟩ (fun K_ h_ => acw hE [(0, 0), (1, 1)] 9999 h_) (fun _ _ => by intro h_; have h_ := h_.2; rw [spec_ChainLines.l0.eq_1] at h_; cases h_) ?_
  intro k18 q16 p17 hq_ K35 hK36
  have hk18 := hq_.1
  have H := hq_.2
  clear hq_
  rw [spec_ChainLines.l0.eq_2] at H
  refine aw_grp1 ?_
  refine aw_grp1 ?_
  refine wk_start ?_
  refine kv g0 (mv) ?_
  refine kv g0 (faB 3 3) ?_
  refine kv g0 (ldB) ?_
  refine kv g0 (lnS lenE) ?_
  refine kv g0 (lss) ?_
  refine kv g0 (mv) ?_
  by_cases c19 : p17 < (l0_3.length : Int)
  ·rw [if_pos c19] at H
   refine kv (g1 (decide_eq_true c19)) (mv) ?_
   refine kv (g1 (decide_eq_true c19)) (lss) ?_
   refine kv g0 (pkT (decide_eq_true c19)) ?_
   refine wk_end ?_
   refine ac_next ?_
   by_cases c20 : p17 < 26
   ·rw [if_pos c20] at H
    refine aw_ifT ?_ (decide_eq_true c20)
    refine aw_skip ?_
    refine ac_next ?_
    refine aw_grp1 ?_
    refine aw_block ?_
    refine aw_grp1 ?_
    refine wk_start ?_
    refine kv g0 (faB 3 3) ?_
    refine kv g0 (ldB) ?_
    refine kv g0 (mv) ?_
    obtain ⟨c21, H⟩ := of_if H
    refine kv g0 (ixS 67 (e67 (rd_T67 l0_3 p17)) c21 (getE (z := z67) c21 c19)) ?_
    refine kv g0 (ldRA 4 [.sl .o 1 (((rd_T67 l0_3 p17).f0).map (eI .i64)), .sl .o 6 (((rd_T67 l0_3 p17).f1).map e94), .lit (.int .i64 ((rd_T67 l0_3 p17).f2)), .lit (.int .i64 ((rd_T67 l0_3 p17).f3))]) ?_
    refine kb g0 (alc 2 [.slice none 0 0, .slice none 0 0, .int .i64 0, .int .i64 0] [.lit (.slice none 0 0), .lit (.slice none 0 0), .lit (.int .i64 0), .lit (.int .i64 0)]) ?_
    refine ks g0 (stB 4 [.sl .o 1 (((rd_T67 l0_3 p17).f0).map (eI .i64)), .sl .o 6 (((rd_T67 l0_3 p17).f1).map e94), .lit (.int .i64 ((rd_T67 l0_3 p17).f2)), .lit (.int .i64 ((rd_T67 l0_3 p17).f3))]) ?_
    refine wk_end ?_
    refine ac_next ?_
    refine aw_cut1 (J := fun K_ => ∀ (k_ : Nat), k_ ≤ k18 → spec_ChainLines.j0 k_ a0_0 a0_1 a0_2 l0_3 a1 a2 a3 q16 p17  = some r → ACont E 73 ⟨[(1, .lit (.int .i64 a1)), (2, .lit (.bool a2)), (3, .lit (.string a3)), (4, .box 0 0), (9, .row 1), (10, .lit (.int .i64 p17)), (11, .box 2 0)], [(0, .box 26 [.lit (.int .i64 a0_0), .lit (.int .i64 a0_1), .lit (.int .i64 a0_2), .sl .o 4 (l0_3.map e67)]), (1, .row 76 7 (q16.map e76)), (2, .box 67 [.sl .o 1 (((rd_T67 l0_3 p17).f0).map (eI .i64)), .sl .o 6 (((rd_T67 l0_3 p17).f1).map e94), .lit (.int .i64 ((rd_T67 l0_3 p17).f2)), .lit (.int .i64 ((rd_T67 l0_3 p17).f3))])]⟩ K_) ?_ ?_
    ·intro K_ hJ34
     refine aw_grp1 ?_
     refine wk_start ?_
     refine kv g0 (faB 0 0) ?_
     refine kv g0 (ldB) ?_
     refine kv g0 (lnS lenE) ?_
     refine kv g0 (gtr) ?_
     refine kv g0 (mv) ?_
     by_cases c22 : (((rd_T67 l0_3 p17).f0).length : Int) > 0
     ·rw [if_pos c22] at H
      refine kv (g1 (decide_eq_true c22)) (mv) ?_
      refine kv (g1 (decide_eq_true c22)) (mv) ?_
      by_cases c23 : a2 = true
      ·rw [if_pos c23] at H
       refine kx (hF c23) ?_
       refine kx (hF c23) ?_
       refine kx (hF c23) ?_
       refine kx (hF c23) ?_
       refine kx (hF c23) ?_
       refine kv (g1 (decide_eq_true c22)) (pkT c23) ?_
       refine kv g0 (pkT (decide_eq_true c22)) ?_
       refine wk_end ?_
       refine ac_next ?_
       refine aw_ifT ?_ rfl
       refine aw_exit ?_
       refine ac_then ?_
       refine ac_hit rfl ?_
       refine ac_next ?_
       refine wk_start ?_
       refine kv g0 (mv) ?_
       refine kv g0 (add6) ?_
       refine kv g0 (asg) ?_
       refine wk_end ?_
       refine ac_k ?_
       exact acw hE [(0, 0), (1, 1)] 9999 (hK36 k18 q16 (wrap64 (p17 + 1)) (Nat.le_refl _) ⟨by omega, H⟩)
      rw [if_neg c23] at H
      refine kv (g1 (bF c23)) (faB 0 0) ?_
      refine kv (g1 (bF c23)) (ldB) ?_
      refine kv (g1 (bF c23)) (mv) ?_
      obtain ⟨t24, A25, H⟩ := of_bind H
      refine kcS0 40 (.lit (.bool t24)) [] (g1 (bF c23)) (cal (spec_l09In.ok A25) [] 9999 .n (hf := Try.func55)) rfl rfl ?_
      refine kv (g1 (bF c23)) (not_) ?_
      refine kv (g1 (decide_eq_true c22)) (pkF (bF c23)) ?_
      refine kv g0 (pkT (decide_eq_true c22)) ?_
      refine wk_end ?_
      refine ac_next ?_
      by_cases c26 : t24 = true
      ·rw [if_pos c26] at H
       refine aw_ifF ?_ (nF c26)
       refine aw_skip ?_
       refine ac_k ?_
       exact acw hE [(0, 0), (1, 1), (2, 2)] 9999 (hJ34 k18 (Nat.le_refl _) H)
      rw [if_neg c26] at H
      refine aw_ifT ?_ (nT (bF c26))
      refine aw_exit ?_
      refine ac_then ?_
      refine ac_hit rfl ?_
      refine ac_next ?_
      refine wk_start ?_
      refine kv g0 (mv) ?_
      refine kv g0 (add6) ?_
      refine kv g0 (asg) ?_
      refine wk_end ?_
      refine ac_k ?_
      exact acw hE [(0, 0), (1, 1)] 9999 (hK36 k18 q16 (wrap64 (p17 + 1)) (Nat.le_refl _) ⟨by omega, H⟩)
     rw [if_neg c22] at H
     refine kx (hT (decide_eq_false c22)) ?_
     refine ku (neT (hT (decide_eq_false c22))) ?_
     refine ku neU ?_
     refine ku neU ?_
     refine ku neU ?_
     refine ku neU ?_
     refine ku neU ?_
     refine kx (hT (decide_eq_false c22)) ?_
     refine kv g0 (pkF (decide_eq_false c22)) ?_
     refine wk_end ?_
     refine ac_next ?_
     refine aw_ifF ?_ rfl
     refine aw_skip ?_
     refine ac_k ?_
     exact acw hE [(0, 0), (1, 1), (2, 2)] 9999 (hJ34 k18 (Nat.le_refl _) H)
    intro k_  hk_ H
    rcases k_ with _ | k27
    ·rw [spec_ChainLines.j0.eq_1] at H; cases H
    have hk27 : k27 ≤ k18 := by omega
    clear hk_
    rw [spec_ChainLines.j0.eq_2] at H
    refine aw_grp1 ?_
    refine wk_start ?_
    refine kv g0 (mv) ?_
    refine kv g0 (mv) ?_
    refine kv g0 (add6) ?_
    refine kv g0 (cnv .u8) ?_
    refine kb g0 (bsl 3 5 1 [.int .u8 0] (([IntKind.u8.wrap (wrap64 (97 + p17))] : List Int).map (eI .u8))) ?_
    refine kv g0 (cvB (.row rfl)) ?_
    obtain ⟨c28, H⟩ := of_if H
    refine kv g0 (cat c28) ?_
    refine kv g0 (asg) ?_
    refine wk_end ?_
    refine ac_next ?_
    refine aw_grp1 ?_
    refine wk_start ?_
    refine kv g0 (mv) ?_
    refine kv g0 (ldBA 4 [.sl .o 1 (((rd_T67 l0_3 p17).f0).map (eI .i64)), .sl .o 6 (((rd_T67 l0_3 p17).f1).map e94), .lit (.int .i64 ((rd_T67 l0_3 p17).f2)), .lit (.int .i64 ((rd_T67 l0_3 p17).f3))]) ?_
    refine kv g0 (mv) ?_
    refine kv g0 (mv) ?_
    obtain ⟨c29, H⟩ := of_if H
    refine kv g0 (cat c29) ?_
    obtain ⟨t30, A31, H⟩ := of_bind H
    refine kcS1 56 (.row 4) [(4, .row 76 7 (t30.map e76))] g0 (cal (spec_RuleLines.ok A31) [4] 9999 .n (hf := Try.func74)) rfl rfl ?_
    obtain ⟨c32, H⟩ := of_if H
    refine kc g0 (apR 5 76 7 80 [.string .empty, .int .i64 0, .int .i64 0, .int .i64 0, .int .i64 0, .string .empty, .string .empty] ((q16 ++ t30).map e76) (.row rfl) (apb c32 rfl) appE) ?_
    refine kv g0 (asg) ?_
    refine wk_end ?_
    refine ac_next ?_
    refine wk_start ?_
    refine kv g0 (mv) ?_
    refine kv g0 (mv) ?_
    refine kv g0 (cat c29) ?_
    refine kv g0 (bld [(0, 1), (1, 4), (5, 1), (6, 1)] [.string .empty, .int .i64 0, .int .i64 0, .int .i64 0, .int .i64 0, .string .empty, .string .empty] [.lit (.string ((a3 ++ (strOfNums ([IntKind.u8.wrap (wrap64 (97 + p17))] : List Int))) ++ (⟨#[122]⟩ : ByteArray))), .lit (.int .i64 0), .lit (.int .i64 0), .lit (.int .i64 0), .lit (.int .i64 0), .lit (.string ByteArray.empty), .lit (.string ByteArray.empty)]) ?_
    refine kb g0 (bsl 6 76 7 [.string .empty, .int .i64 0, .int .i64 0, .int .i64 0, .int .i64 0, .string .empty, .string .empty] (([(⟨(a3 ++ (strOfNums ([IntKind.u8.wrap (wrap64 (97 + p17))] : List Int))) ++ (⟨#[122]⟩ : ByteArray), (⟨0, 0, 0, 0⟩ : S55), ByteArray.empty, ByteArray.empty⟩ : S76)] : List S76).map e76)) ?_
    obtain ⟨c33, H⟩ := of_if H
    refine kc g0 (apR 7 76 7 80 [.string .empty, .int .i64 0, .int .i64 0, .int .i64 0, .int .i64 0, .string .empty, .string .empty] (((q16 ++ t30) ++ ([(⟨(a3 ++ (strOfNums ([IntKind.u8.wrap (wrap64 (97 + p17))] : List Int))) ++ (⟨#[122]⟩ : ByteArray), (⟨0, 0, 0, 0⟩ : S55), ByteArray.empty, ByteArray.empty⟩ : S76)] : List S76)).map e76) (.row rfl) (apb c33 rfl) appE) ?_
    refine kv g0 (asg) ?_
    refine wk_end ?_
    refine ac_blkN ?_
    refine ac_next ?_
    refine wk_start ?_
    refine kv g0 (mv) ?_
    refine kv g0 (add6) ?_
    refine kv g0 (asg) ?_
    refine wk_end ?_
    refine ac_k ?_
    exact acw hE [(0, 0), (1, 7)] 9999 (hK36 k27 ((q16 ++ t30) ++ ([(⟨(a3 ++ (strOfNums ([IntKind.u8.wrap (wrap64 (97 + p17))] : List Int))) ++ (⟨#[122]⟩ : ByteArray), (⟨0, 0, 0, 0⟩ : S55), ByteArray.empty, ByteArray.empty⟩ : S76)] : List S76)) (wrap64 (p17 + 1)) (by omega) ⟨by omega, H⟩)
   rw [if_neg c20] at H
   refine aw_ifF ?_ (decide_eq_false c20)
   refine aw_exit ?_
   refine ac_then ?_
   refine ac_then ?_
   refine ac_hit rfl ?_
   refine ac_k ?_
   exact acw hE [(0, 0), (1, 1)] 9999 (hJ44 k18 q16 (by omega) H)
  rw [if_neg c19] at H
  refine kx (hT (decide_eq_false c19)) ?_
  refine kx (hT (decide_eq_false c19)) ?_
  refine kv g0 (pkF (decide_eq_false c19)) ?_
  refine wk_end ?_
  refine ac_next ?_
  refine aw_ifF ?_ rfl
  refine aw_exit ?_
  refine ac_then ?_
  refine ac_then ?_
  refine ac_hit rfl ?_
  refine ac_k ?_
  exact acw hE [(0, 0), (1, 1)] 9999 (hJ44 k18 q16 (by omega) H)
 intro k_ q37 hk_ H
 rcases k_ with _ | k38
 ·rw [spec_ChainLines.j1.eq_1] at H; cases H
 have hk38 : k38 ≤ k := by omega
 clear hk_
 rw [spec_ChainLines.j1.eq_2] at H
 refine aw_grp1 ?_
 refine wk_start ?_
 refine kv g0 (mv) ?_
 refine kv g0 (faB 1 1) ?_
 refine kv g0 (ldB) ?_
 refine kv g0 (faB 2 2) ?_
 refine kv g0 (ldB) ?_
 obtain ⟨t39, A40, H⟩ := of_bind H
 refine kcS0 69 (.lit (.int .i64 t39)) [] g0 (cal (spec_ResultOf.ok A40) [] 9999 .n (hf := Try.func48)) rfl rfl ?_
 obtain ⟨t41, A42, H⟩ := of_bind H
 refine kcS0 70 (.agg [.lit (.string t41.1), .lit (.int .i64 t41.2.1), .lit (.int .i64 t41.2.2.1), .lit (.int .i64 t41.2.2.2.1), .lit (.int .i64 t41.2.2.2.2.1), .lit (.string t41.2.2.2.2.2.1), .lit (.string t41.2.2.2.2.2.2)]) [] g0 (cal (spec_l11Word.ok A42) [] 9999 .n (hf := Try.func39)) rfl rfl ?_
 refine kb g0 (bsl 8 76 7 [.string .empty, .int .i64 0, .int .i64 0, .int .i64 0, .int .i64 0, .string .empty, .string .empty] (([(⟨t41.1, (⟨t41.2.1, t41.2.2.1, t41.2.2.2.1, t41.2.2.2.2.1⟩ : S55), t41.2.2.2.2.2.1, t41.2.2.2.2.2.2⟩ : S76)] : List S76).map e76)) ?_
 obtain ⟨c43, H⟩ := of_if H
 refine kc g0 (apR 9 76 7 80 [.string .empty, .int .i64 0, .int .i64 0, .int .i64 0, .int .i64 0, .string .empty, .string .empty] ((q37 ++ ([(⟨t41.1, (⟨t41.2.1, t41.2.2.1, t41.2.2.2.1, t41.2.2.2.2.1⟩ : S55), t41.2.2.2.2.2.1, t41.2.2.2.2.2.2⟩ : S76)] : List S76)).map e76) (.row rfl) (apb c43 rfl) appE) ?_
 refine kv g0 (asg) ?_
 refine wk_end ?_
 refine ac_next ?_
 refine aw_ret ?_
 obtain rfl := Option.some.inj H
 exact acr hE [.tmp 8] (.tmp .nil) (.one _) [(0, 9)] 9999
/-! spec_TreeLines -/
def spec_TreeLines.f : Nat → Int → Int → Int → (List S67) → (List Int) → ByteArray → Option ((List S76))
 | 0, _, _, _, _, _, _ => none
 | k + 1, a0_0, a0_1, a0_2, l0_3, l1, a2 => if (l1.length : Int) = 0 then ((spec_ChainLines.f k a0_0 a0_1 a0_2 l0_3 0 true a2).bind fun t2 => some t2) else if (l1.length : Int) = 1 then (if 0 < (l1.length : Int) then (if a2.size + (⟨#[121]⟩ : ByteArray).size ≤ 9223372036854775807 then (if a2.size + (⟨#[120]⟩ : ByteArray).size ≤ 9223372036854775807 then ((spec_l11Asks.f 3 (rd l1 0) (a2 ++ (⟨#[121]⟩ : ByteArray)) (a2 ++ (⟨#[120]⟩ : ByteArray))).bind fun t8 => (spec_ChainLines.f k a0_0 a0_1 a0_2 l0_3 (rd l1 0) false (a2 ++ (⟨#[121]⟩ : ByteArray))).bind fun t10 => (if ([(⟨t8.1, (⟨t8.2.1, t8.2.2.1, t8.2.2.2.1, t8.2.2.2.2.1⟩ : S55), t8.2.2.2.2.2.1, t8.2.2.2.2.2.2⟩ : S76), (⟨a2 ++ (⟨#[121]⟩ : ByteArray), (⟨0, 0, 0, 0⟩ : S55), ByteArray.empty, ByteArray.empty⟩ : S76)] : List S76).length + t10.length < 1759218604441 then if (([(⟨t8.1, (⟨t8.2.1, t8.2.2.1, t8.2.2.2.1, t8.2.2.2.2.1⟩ : S55), t8.2.2.2.2.2.1, t8.2.2.2.2.2.2⟩ : S76), (⟨a2 ++ (⟨#[121]⟩ : ByteArray), (⟨0, 0, 0, 0⟩ : S55), ByteArray.empty, ByteArray.empty⟩ : S76)] : List S76) ++ t10).length + ([(⟨a2 ++ (⟨#[120]⟩ : ByteArray), (⟨0, 0, 0, 0⟩ : S55), ByteArray.empty, ByteArray.empty⟩ : S76)] : List S76).length < 1759218604441 then (spec_ChainLines.f k a0_0 a0_1 a0_2 l0_3 0 true (a2 ++ (⟨#[120]⟩ : ByteArray))).bind fun t14 => (if ((([(⟨t8.1, (⟨t8.2.1, t8.2.2.1, t8.2.2.2.1, t8.2.2.2.2.1⟩ : S55), t8.2.2.2.2.2.1, t8.2.2.2.2.2.2⟩ : S76), (⟨a2 ++ (⟨#[121]⟩ : ByteArray), (⟨0, 0, 0, 0⟩ : S55), ByteArray.empty, ByteArray.empty⟩ : S76)] : List S76) ++ t10) ++ ([(⟨a2 ++ (⟨#[120]⟩ : ByteArray), (⟨0, 0, 0, 0⟩ : S55), ByteArray.empty, ByteArray.empty⟩ : S76)] : List S76)).length + t14.length < 1759218604441 then some (((([(⟨t8.1, (⟨t8.2.1, t8.2.2.1, t8.2.2.2.1, t8.2.2.2.2.1⟩ : S55), t8.2.2.2.2.2.1, t8.2.2.2.2.2.2⟩ : S76), (⟨a2 ++ (⟨#[121]⟩ : ByteArray), (⟨0, 0, 0, 0⟩ : S55), ByteArray.empty, ByteArray.empty⟩ : S76)] : List S76) ++ t10) ++ ([(⟨a2 ++ (⟨#[120]⟩ : ByteArray), (⟨0, 0, 0, 0⟩ : S55), ByteArray.empty, ByteArray.empty⟩ : S76)] : List S76)) ++ t14) else none) else none else none)) else none) else none) else none) else if 0 ≤ (wrap64 ((l1.length : Int).tdiv 2)) then (if (wrap64 ((l1.length : Int).tdiv 2)) < (l1.length : Int) then (if a2.size + (⟨#[104]⟩ : ByteArray).size ≤ 9223372036854775807 then (if a2.size + (⟨#[108]⟩ : ByteArray).size ≤ 9223372036854775807 then ((spec_l11Asks.f 5 (rd l1 (wrap64 ((l1.length : Int).tdiv 2))) (a2 ++ (⟨#[104]⟩ : ByteArray)) (a2 ++ (⟨#[108]⟩ : ByteArray))).bind fun t21 => if (wrap64 ((l1.length : Int).tdiv 2)) ≤ (l1.length : Int) then ((spec_TreeLines.f k a0_0 a0_1 a0_2 l0_3 (l1.take (wrap64 ((l1.length : Int).tdiv 2)).toNat) (a2 ++ (⟨#[108]⟩ : ByteArray))).bind fun t24 => (if ([(⟨t21.1, (⟨t21.2.1, t21.2.2.1, t21.2.2.2.1, t21.2.2.2.2.1⟩ : S55), t21.2.2.2.2.2.1, t21.2.2.2.2.2.2⟩ : S76), (⟨a2 ++ (⟨#[108]⟩ : ByteArray), (⟨0, 0, 0, 0⟩ : S55), ByteArray.empty, ByteArray.empty⟩ : S76)] : List S76).length + t24.length < 1759218604441 then if (([(⟨t21.1, (⟨t21.2.1, t21.2.2.1, t21.2.2.2.1, t21.2.2.2.2.1⟩ : S55), t21.2.2.2.2.2.1, t21.2.2.2.2.2.2⟩ : S76), (⟨a2 ++ (⟨#[108]⟩ : ByteArray), (⟨0, 0, 0, 0⟩ : S55), ByteArray.empty, ByteArray.empty⟩ : S76)] : List S76) ++ t24).length + ([(⟨a2 ++ (⟨#[104]⟩ : ByteArray), (⟨0, 0, 0, 0⟩ : S55), ByteArray.empty, ByteArray.empty⟩ : S76)] : List S76).length < 1759218604441 then (spec_TreeLines.f k a0_0 a0_1 a0_2 l0_3 (l1.drop (wrap64 ((l1.length : Int).tdiv 2)).toNat) (a2 ++ (⟨#[104]⟩ : ByteArray))).bind fun t28 => (if ((([(⟨t21.1, (⟨t21.2.1, t21.2.2.1, t21.2.2.2.1, t21.2.2.2.2.1⟩ : S55), t21.2.2.2.2.2.1, t21.2.2.2.2.2.2⟩ : S76), (⟨a2 ++ (⟨#[108]⟩ : ByteArray), (⟨0, 0, 0, 0⟩ : S55), ByteArray.empty, ByteArray.empty⟩ : S76)] : List S76) ++ t24) ++ ([(⟨a2 ++ (⟨#[104]⟩ : ByteArray), (⟨0, 0, 0, 0⟩ : S55), ByteArray.empty, ByteArray.empty⟩ : S76)] : List S76)).length + t28.length < 1759218604441 then some (((([(⟨t21.1, (⟨t21.2.1, t21.2.2.1, t21.2.2.2.1, t21.2.2.2.2.1⟩ : S55), t21.2.2.2.2.2.1, t21.2.2.2.2.2.2⟩ : S76), (⟨a2 ++ (⟨#[108]⟩ : ByteArray), (⟨0, 0, 0, 0⟩ : S55), ByteArray.empty, ByteArray.empty⟩ : S76)] : List S76) ++ t24) ++ ([(⟨a2 ++ (⟨#[104]⟩ : ByteArray), (⟨0, 0, 0, 0⟩ : S55), ByteArray.empty, ByteArray.empty⟩ : S76)] : List S76)) ++ t28) else none) else none else none)) else none) else none) else none) else none) else none
theorem spec_TreeLines.ok {k : Nat} {a0_0 : Int} {a0_1 : Int} {a0_2 : Int} {l0_3 : List S67} {l1 : List Int} {a2 : ByteArray} {r : (List S76)} (H : spec_TreeLines.f k a0_0 a0_1 a0_2 l0_3 l1 a2 = some r) : ACalls Try.prog 41 [] [.agg [.lit (.int .i64 a0_0), .lit (.int .i64 a0_1), .lit (.int .i64 a0_2), .sl .o 4 (l0_3.map e67)], .sl .o 1 (l1.map (eI .i64)), .lit (.string a2)] [(0, .row 76 7 (r.map e76))] (.row 0) := by
 induction k generalizing a0_0 a0_1 a0_2 l0_3 l1 a2 r with
 | zero => rw [spec_TreeLines.f] at H; cases H
 | succ k ih =>
 refine acalls (fn := Try.f41) (nt := 92) Try.func41 rfl rfl (Nat.le_of_ble_eq_true rfl) fun E hE => ?_
 rw [spec_TreeLines.f] at H
 refine aw_grp1 ?_
 refine wk_start ?_
 refine kb g0 (bxA 0) ?_
 refine kv g0 (asg) ?_
 refine wk_end ?_
 refine ac_next ?_
 refine aw_grp1 ?_
 refine wk_start ?_
 refine kv g0 (mv) ?_
 refine kv g0 (lnS lenE) ?_
 refine kv g0 (asg) ?_
 refine wk_end ?_
 refine ac_next ?_
 refine aw_grp1 ?_
 refine aw_grp1 ?_
 refine wk_start ?_
 refine kv g0 (mv) ?_
 refine kv g0 (eql) ?_
 refine wk_end ?_
 refine ac_next ?_
 by_cases c1 : (l1.length : Int) = 0
 ·rw [if_pos c1] at H
  refine aw_ifT ?_ (eT c1)
  refine aw_grp1 ?_
  refine wk_start ?_
  refine kv g0 (ldBA 4 [.lit (.int .i64 a0_0), .lit (.int .i64 a0_1), .lit (.int .i64 a0_2), .sl .o 4 (l0_3.map e67)]) ?_
  refine kv g0 (mv) ?_
  obtain ⟨t2, A3, H⟩ := of_bind H
  refine kcS1 17 (.row 1) [(1, .row 76 7 (t2.map e76))] g0 (cal (spec_ChainLines.ok A3) [1] 9999 .n (hf := Try.func62)) rfl rfl ?_
  refine kv g0 (asg) ?_
  refine wk_end ?_
  refine ac_next ?_
  refine aw_ret ?_
  refine ac_thenR ?_
  obtain rfl := Option.some.inj H
  exact acr hE [.tmp 6] (.tmp .nil) (.one _) [(0, 1)] 9999
 rw [if_neg c1] at H
 refine aw_ifF ?_ (eF c1)
 refine aw_skip ?_
 refine ac_next ?_
 refine aw_grp1 ?_
 refine aw_grp1 ?_
 refine wk_start ?_
 refine kv g0 (mv) ?_
 refine kv g0 (eql) ?_
 refine wk_end ?_
 refine ac_next ?_
 by_cases c4 : (l1.length : Int) = 1
 ·rw [if_pos c4] at H
  refine aw_ifT ?_ (eT c4)
  refine aw_grp1 ?_
  refine wk_start ?_
  refine kv g0 (mv) ?_
  obtain ⟨c5, H⟩ := of_if H
  refine kv g0 (ixS 3 (eI .i64 (rd l1 0)) (by decide : (0 : Int) ≤ 0) (getE (z := (0 : Int)) (by decide : (0 : Int) ≤ 0) c5)) ?_
  refine kv g0 (ldR (.lit (.int .i64 (rd l1 0)))) ?_
  refine kv g0 (mv) ?_
  obtain ⟨c6, H⟩ := of_if H
  refine kv g0 (cat c6) ?_
  refine kv g0 (mv) ?_
  obtain ⟨c7, H⟩ := of_if H
  refine kv g0 (cat c7) ?_
  obtain ⟨t8, A9, H⟩ := of_bind H
  refine kcS0 27 (.agg [.lit (.string t8.1), .lit (.int .i64 t8.2.1), .lit (.int .i64 t8.2.2.1), .lit (.int .i64 t8.2.2.2.1), .lit (.int .i64 t8.2.2.2.2.1), .lit (.string t8.2.2.2.2.2.1), .lit (.string t8.2.2.2.2.2.2)]) [] g0 (cal (spec_l11Asks.ok A9) [] 9999 .n (hf := Try.func40)) rfl rfl ?_
  refine kv g0 (mv) ?_
  refine kv g0 (cat c6) ?_
  refine kv g0 (bld [(0, 1), (1, 4), (5, 1), (6, 1)] [.string .empty, .int .i64 0, .int .i64 0, .int .i64 0, .int .i64 0, .string .empty, .string .empty] [.lit (.string (a2 ++ (⟨#[121]⟩ : ByteArray))), .lit (.int .i64 0), .lit (.int .i64 0), .lit (.int .i64 0), .lit (.int .i64 0), .lit (.string ByteArray.empty), .lit (.string ByteArray.empty)]) ?_
  refine kb g0 (bsl 2 76 7 [.string .empty, .int .i64 0, .int .i64 0, .int .i64 0, .int .i64 0, .string .empty, .string .empty] (([(⟨t8.1, (⟨t8.2.1, t8.2.2.1, t8.2.2.2.1, t8.2.2.2.2.1⟩ : S55), t8.2.2.2.2.2.1, t8.2.2.2.2.2.2⟩ : S76), (⟨a2 ++ (⟨#[121]⟩ : ByteArray), (⟨0, 0, 0, 0⟩ : S55), ByteArray.empty, ByteArray.empty⟩ : S76)] : List S76).map e76)) ?_
  refine kv g0 (asg) ?_
  refine wk_end ?_
  refine ac_next ?_
  refine aw_grp1 ?_
  refine wk_start ?_
  refine kv g0 (mv) ?_
  refine kv g0 (ldBA 4 [.lit (.int .i64 a0_0), .lit (.int .i64 a0_1), .lit (.int .i64 a0_2), .sl .o 4 (l0_3.map e67)]) ?_
  refine kv g0 (mv) ?_
  refine kv g0 (ixS 3 (eI .i64 (rd l1 0)) (by decide : (0 : Int) ≤ 0) (getE (z := (0 : Int)) (by decide : (0 : Int) ≤ 0) c5)) ?_
  refine kv g0 (ldR (.lit (.int .i64 (rd l1 0)))) ?_
  refine kv g0 (mv) ?_
  refine kv g0 (cat c6) ?_
  obtain ⟨t10, A11, H⟩ := of_bind H
  refine kcS1 39 (.row 3) [(3, .row 76 7 (t10.map e76))] g0 (cal (spec_ChainLines.ok A11) [3] 9999 .n (hf := Try.func62)) rfl rfl ?_
  obtain ⟨c12, H⟩ := of_if H
  refine kc g0 (apR 4 76 7 80 [.string .empty, .int .i64 0, .int .i64 0, .int .i64 0, .int .i64 0, .string .empty, .string .empty] ((([(⟨t8.1, (⟨t8.2.1, t8.2.2.1, t8.2.2.2.1, t8.2.2.2.2.1⟩ : S55), t8.2.2.2.2.2.1, t8.2.2.2.2.2.2⟩ : S76), (⟨a2 ++ (⟨#[121]⟩ : ByteArray), (⟨0, 0, 0, 0⟩ : S55), ByteArray.empty, ByteArray.empty⟩ : S76)] : List S76) ++ t10).map e76) (.row rfl) (apb c12 rfl) appE) ?_
  refine kv g0 (asg) ?_
  refine wk_end_draw hM (by kernel_rfl) ?_
  refine ac_next ?_
  refine aw_grp1 ?_
  refine wk_start ?_
  refine kv g0 (mv) ?_
  refine kv g0 (mv) ?_
  refine kv g0 (cat c7) ?_
  refine kv g0 (bld [(0, 1), (1, 4), (5, 1), (6, 1)] [.string .empty, .int .i64 0, .int .i64 0, .int .i64 0, .int .i64 0, .string .empty, .string .empty] [.lit (.string (a2 ++ (⟨#[120]⟩ : ByteArray))), .lit (.int .i64 0), .lit (.int .i64 0), .lit (.int .i64 0), .lit (.int .i64 0), .lit (.string ByteArray.empty), .lit (.string ByteArray.empty)]) ?_
  refine kb g0 (bsl 5 76 7 [.string .empty, .int .i64 0, .int .i64 0, .int .i64 0, .int .i64 0, .string .empty, .string .empty] (([(⟨a2 ++ (⟨#[120]⟩ : ByteArray), (⟨0, 0, 0, 0⟩ : S55), ByteArray.empty, ByteArray.empty⟩ : S76)] : List S76).map e76)) ?_
  obtain ⟨c13, H⟩ := of_if H
  refine kc g0 (apR 6 76 7 80 [.string .empty, .int .i64 0, .int .i64 0, .int .i64 0, .int .i64 0, .string .empty, .string .empty] (((([(⟨t8.1, (⟨t8.2.1, t8.2.2.1, t8.2.2.2.1, t8.2.2.2.2.1⟩ : S55), t8.2.2.2.2.2.1, t8.2.2.2.2.2.2⟩ : S76), (⟨a2 ++ (⟨#[121]⟩ : ByteArray), (⟨0, 0, 0, 0⟩ : S55), ByteArray.empty, ByteArray.empty⟩ : S76)] : List S76) ++ t10) ++ ([(⟨a2 ++ (⟨#[120]⟩ : ByteArray), (⟨0, 0, 0, 0⟩ : S55), ByteArray.empty, ByteArray.empty⟩ : S76)] : List S76)).map e76) (.row rfl) (apb c13 rfl) appE) ?_
  refine kv g0 (asg) ?_
  refine wk_end ?_
  refine ac_next ?_
  refine aw_grp1 ?_
  refine wk_start ?_
  refine kv g0 (mv) ?_
  refine kv g0 (ldBA 4 [.lit (.int .i64 a0_0), .lit (.int .i64 a0_1), .lit (.int .i64 a0_2), .sl .o 4 (l0_3.map e67)]) ?_
  refine kv g0 (mv) ?_
  refine kv g0 (cat c7) ?_
  obtain ⟨t14, A15, H⟩ := of_bind H
  refine kcS1 51 (.row 7) [(7, .row 76 7 (t14.map e76))] g0 (cal (spec_ChainLines.ok A15) [7] 9999 .n (hf := Try.func62)) rfl rfl ?_
  obtain ⟨c16, H⟩ := of_if H
  refine kc g0 (apR 8 76 7 80 [.string .empty, .int .i64 0, .int .i64 0, .int .i64 0, .int .i64 0, .string .empty, .string .empty] ((((([(⟨t8.1, (⟨t8.2.1, t8.2.2.1, t8.2.2.2.1, t8.2.2.2.2.1⟩ : S55), t8.2.2.2.2.2.1, t8.2.2.2.2.2.2⟩ : S76), (⟨a2 ++ (⟨#[121]⟩ : ByteArray), (⟨0, 0, 0, 0⟩ : S55), ByteArray.empty, ByteArray.empty⟩ : S76)] : List S76) ++ t10) ++ ([(⟨a2 ++ (⟨#[120]⟩ : ByteArray), (⟨0, 0, 0, 0⟩ : S55), ByteArray.empty, ByteArray.empty⟩ : S76)] : List S76)) ++ t14).map e76) (.row rfl) (apb c16 rfl) appE) ?_
  refine kv g0 (asg) ?_
  refine wk_end ?_
  refine ac_next ?_
  refine aw_ret ?_
  refine ac_thenR ?_
  obtain rfl := Option.some.inj H
  exact acr hE [.tmp 6] (.tmp .nil) (.one _) [(0, 8)] 9999
 rw [if_neg c4] at H
 refine aw_ifF ?_ (eF c4)
 refine aw_skip ?_
 refine ac_next ?_
 refine aw_grp1 ?_
 refine wk_start ?_
 refine kv g0 (mv) ?_
 refine kv g0 (quo6 (by decide : (2 : Int) ≠ 0)) ?_
 refine kv g0 (asg) ?_
 refine wk_end ?_
 refine ac_next ?_
 refine aw_grp1 ?_
 refine wk_start ?_
 refine kv g0 (mv) ?_
 refine kv g0 (mv) ?_
 obtain ⟨c17, H⟩ := of_if H
 obtain ⟨c18, H⟩ := of_if H
 refine kv g0 (ixS 3 (eI .i64 (rd l1 (wrap64 ((l1.length : Int).tdiv 2)))) c17 (getE (z := (0 : Int)) c17 c18)) ?_
 refine kv g0 (ldR (.lit (.int .i64 (rd l1 (wrap64 ((l1.length : Int).tdiv 2)))))) ?_
 refine kv g0 (mv) ?_
 obtain ⟨c19, H⟩ := of_if H
 refine kv g0 (cat c19) ?_
 refine kv g0 (mv) ?_
 obtain ⟨c20, H⟩ := of_if H
 refine kv g0 (cat c20) ?_
 obtain ⟨t21, A22, H⟩ := of_bind H
 refine kcS0 63 (.agg [.lit (.string t21.1), .lit (.int .i64 t21.2.1), .lit (.int .i64 t21.2.2.1), .lit (.int .i64 t21.2.2.2.1), .lit (.int .i64 t21.2.2.2.2.1), .lit (.string t21.2.2.2.2.2.1), .lit (.string t21.2.2.2.2.2.2)]) [] g0 (cal (spec_l11Asks.ok A22) [] 9999 .n (hf := Try.func40)) rfl rfl ?_
 refine kv g0 (mv) ?_
 refine kv g0 (cat c20) ?_
 refine kv g0 (bld [(0, 1), (1, 4), (5, 1), (6, 1)] [.string .empty, .int .i64 0, .int .i64 0, .int .i64 0, .int .i64 0, .string .empty, .string .empty] [.lit (.string (a2 ++ (⟨#[108]⟩ : ByteArray))), .lit (.int .i64 0), .lit (.int .i64 0), .lit (.int .i64 0), .lit (.int .i64 0), .lit (.string ByteArray.empty), .lit (.string ByteArray.empty)]) ?_
 refine kb g0 (bsl 9 76 7 [.string .empty, .int .i64 0, .int .i64 0, .int .i64 0, .int .i64 0, .string .empty, .string .empty] (([(⟨t21.1, (⟨t21.2.1, t21.2.2.1, t21.2.2.2.1, t21.2.2.2.2.1⟩ : S55), t21.2.2.2.2.2.1, t21.2.2.2.2.2.2⟩ : S76), (⟨a2 ++ (⟨#[108]⟩ : ByteArray), (⟨0, 0, 0, 0⟩ : S55), ByteArray.empty, ByteArray.empty⟩ : S76)] : List S76).map e76)) ?_
 refine kv g0 (asg) ?_
 refine wk_end ?_
 refine ac_next ?_
 refine aw_grp1 ?_
 refine wk_start ?_
 refine kv g0 (mv) ?_
 refine kv g0 (ldBA 4 [.lit (.int .i64 a0_0), .lit (.int .i64 a0_1), .lit (.int .i64 a0_2), .sl .o 4 (l0_3.map e67)]) ?_
 refine kv g0 (mv) ?_
 refine kv g0 (mv) ?_
 obtain ⟨c23, H⟩ := of_if H
 refine kv g0 (slH 3 c17 c23) ?_
 refine kv g0 (mv) ?_
 refine kv g0 (cat c20) ?_
 obtain ⟨t24, A25, H⟩ := of_bind H
 refine kcS1 75 (.row 10) [(10, .row 76 7 (t24.map e76))] g0 (cal (ih (H := A25)) [10] 9999 .n (hf := Try.func41)) rfl rfl ?_
 obtain ⟨c26, H⟩ := of_if H
 refine kc g0 (apR 11 76 7 80 [.string .empty, .int .i64 0, .int .i64 0, .int .i64 0, .int .i64 0, .string .empty, .string .empty] ((([(⟨t21.1, (⟨t21.2.1, t21.2.2.1, t21.2.2.2.1, t21.2.2.2.2.1⟩ : S55), t21.2.2.2.2.2.1, t21.2.2.2.2.2.2⟩ : S76), (⟨a2 ++ (⟨#[108]⟩ : ByteArray), (⟨0, 0, 0, 0⟩ : S55), ByteArray.empty, ByteArray.empty⟩ : S76)] : List S76) ++ t24).map e76) (.row rfl) (apb c26 rfl) appE) ?_
 refine kv g0 (asg) ?_
 refine wk_end_draw hM (by kernel_rfl) ?_
 refine ac_next ?_
 refine aw_grp1 ?_
 refine wk_start ?_
 refine kv g0 (mv) ?_
 refine kv g0 (mv) ?_
 refine kv g0 (cat c19) ?_
 refine kv g0 (bld [(0, 1), (1, 4), (5, 1), (6, 1)] [.string .empty, .int .i64 0, .int .i64 0, .int .i64 0, .int .i64 0, .string .empty, .string .empty] [.lit (.string (a2 ++ (⟨#[104]⟩ : ByteArray))), .lit (.int .i64 0), .lit (.int .i64 0), .lit (.int .i64 0), .lit (.int .i64 0), .lit (.string ByteArray.empty), .lit (.string ByteArray.empty)]) ?_
 refine kb g0 (bsl 12 76 7 [.string .empty, .int .i64 0, .int .i64 0, .int .i64 0, .int .i64 0, .string .empty, .string .empty] (([(⟨a2 ++ (⟨#[104]⟩ : ByteArray), (⟨0, 0, 0, 0⟩ : S55), ByteArray.empty, ByteArray.empty⟩ : S76)] : List S76).map e76)) ?_
 obtain ⟨c27, H⟩ := of_if H
 refine kc g0 (apR 13 76 7 80 [.string .empty, .int .i64 0, .int .i64 0, .int .i64 0, .int .i64 0, .string .empty, .string .empty] (((([(⟨t21.1, (⟨t21.2.1, t21.2.2.1, t21.2.2.2.1, t21.2.2.2.2.1⟩ : S55), t21.2.2.2.2.2.1, t21.2.2.2.2.2.2⟩ : S76), (⟨a2 ++ (⟨#[108]⟩ : ByteArray), (⟨0, 0, 0, 0⟩ : S55), ByteArray.empty, ByteArray.empty⟩ : S76)] : List S76) ++ t24) ++ ([(⟨a2 ++ (⟨#[104]⟩ : ByteArray), (⟨0, 0, 0, 0⟩ : S55), ByteArray.empty, ByteArray.empty⟩ : S76)] : List S76)).map e76) (.row rfl) (apb c27 rfl) appE) ?_
 refine kv g0 (asg) ?_
 refine wk_end ?_
 refine ac_next ?_
 refine aw_grp1 ?_
 refine wk_start ?_
 refine kv g0 (mv) ?_
 refine kv g0 (ldBA 4 [.lit (.int .i64 a0_0), .lit (.int .i64 a0_1), .lit (.int .i64 a0_2), .sl .o 4 (l0_3.map e67)]) ?_
 refine kv g0 (mv) ?_
 refine kv g0 (mv) ?_
 refine kv g0 (slL 3 c17 c23) ?_
 refine kv g0 (mv) ?_
 refine kv g0 (cat c19) ?_
 obtain ⟨t28, A29, H⟩ := of_bind H
 refine kcS1 90 (.row 14) [(14, .row 76 7 (t28.map e76))] g0 (cal (ih (H := A29)) [14] 9999 .n (hf := Try.func41)) rfl rfl ?_
 obtain ⟨c30, H⟩ := of_if H
 refine kc g0 (apR 15 76 7 80 [.string .empty, .int .i64 0, .int .i64 0, .int .i64 0, .int .i64 0, .string .empty, .string .empty] ((((([(⟨t21.1, (⟨t21.2.1, t21.2.2.1, t21.2.2.2.1, t21.2.2.2.2.1⟩ : S55), t21.2.2.2.2.2.1, t21.2.2.2.2.2.2⟩ : S76), (⟨a2 ++ (⟨#[108]⟩ : ByteArray), (⟨0, 0, 0, 0⟩ : S55), ByteArray.empty, ByteArray.empty⟩ : S76)] : List S76) ++ t24) ++ ([(⟨a2 ++ (⟨#[104]⟩ : ByteArray), (⟨0, 0, 0, 0⟩ : S55), ByteArray.empty, ByteArray.empty⟩ : S76)] : List S76)) ++ t28).map e76) (.row rfl) (apb c30 rfl) appE) ?_
 refine kv g0 (asg) ?_
 refine wk_end_draw hM (by kernel_rfl) ?_
 refine ac_next ?_
 refine aw_ret ?_
 obtain rfl := Option.some.inj H
 exact acr hE [.tmp 6] (.tmp .nil) (.one _) [(0, 15)] 9999
/-! spec_PolicyLines -/
def spec_PolicyLines.f (k : Nat) (a0_0 : Int) (a0_1 : Int) (a0_2 : Int) (l0_3 : List S67) : Option ((List S76)) := (spec_l11Word.f 1 1).bind fun t1 => ((spec_l11Asks.f 3 a0_0 (⟨#[112]⟩ : ByteArray) (⟨#[113]⟩ : ByteArray)).bind fun t3 => ((spec_l11Word.f 8 0).bind fun t5 => ((spec_l11Word.f 1 0).bind fun t7 => (spec_NumsOf.f k a0_0 a0_1 a0_2 l0_3).bind fun t9 => ((spec_TreeLines.f k a0_0 a0_1 a0_2 l0_3 t9 (⟨#[116]⟩ : ByteArray)).bind fun t11 => (if ([(⟨t1.1, (⟨t1.2.1, t1.2.2.1, t1.2.2.2.1, t1.2.2.2.2.1⟩ : S55), t1.2.2.2.2.2.1, t1.2.2.2.2.2.2⟩ : S76), (⟨t3.1, (⟨t3.2.1, t3.2.2.1, t3.2.2.2.1, t3.2.2.2.2.1⟩ : S55), t3.2.2.2.2.2.1, t3.2.2.2.2.2.2⟩ : S76), (⟨(⟨#[113]⟩ : ByteArray), (⟨0, 0, 0, 0⟩ : S55), ByteArray.empty, ByteArray.empty⟩ : S76), (⟨t5.1, (⟨t5.2.1, t5.2.2.1, t5.2.2.2.1, t5.2.2.2.2.1⟩ : S55), t5.2.2.2.2.2.1, t5.2.2.2.2.2.2⟩ : S76), (⟨(⟨#[112]⟩ : ByteArray), (⟨0, 0, 0, 0⟩ : S55), ByteArray.empty, ByteArray.empty⟩ : S76), (⟨t7.1, (⟨t7.2.1, t7.2.2.1, t7.2.2.2.1, t7.2.2.2.2.1⟩ : S55), t7.2.2.2.2.2.1, t7.2.2.2.2.2.2⟩ : S76)] : List S76).length + t11.length < 1759218604441 then some (([(⟨t1.1, (⟨t1.2.1, t1.2.2.1, t1.2.2.2.1, t1.2.2.2.2.1⟩ : S55), t1.2.2.2.2.2.1, t1.2.2.2.2.2.2⟩ : S76), (⟨t3.1, (⟨t3.2.1, t3.2.2.1, t3.2.2.2.1, t3.2.2.2.2.1⟩ : S55), t3.2.2.2.2.2.1, t3.2.2.2.2.2.2⟩ : S76), (⟨(⟨#[113]⟩ : ByteArray), (⟨0, 0, 0, 0⟩ : S55), ByteArray.empty, ByteArray.empty⟩ : S76), (⟨t5.1, (⟨t5.2.1, t5.2.2.1, t5.2.2.2.1, t5.2.2.2.2.1⟩ : S55), t5.2.2.2.2.2.1, t5.2.2.2.2.2.2⟩ : S76), (⟨(⟨#[112]⟩ : ByteArray), (⟨0, 0, 0, 0⟩ : S55), ByteArray.empty, ByteArray.empty⟩ : S76), (⟨t7.1, (⟨t7.2.1, t7.2.2.1, t7.2.2.2.1, t7.2.2.2.2.1⟩ : S55), t7.2.2.2.2.2.1, t7.2.2.2.2.2.2⟩ : S76)] : List S76) ++ t11) else none)))))
theorem spec_PolicyLines.ok {k : Nat} {a0_0 : Int} {a0_1 : Int} {a0_2 : Int} {l0_3 : List S67} {r : (List S76)} (H : spec_PolicyLines.f k a0_0 a0_1 a0_2 l0_3 = some r) : ACalls Try.prog 20 [] [.agg [.lit (.int .i64 a0_0), .lit (.int .i64 a0_1), .lit (.int .i64 a0_2), .sl .o 4 (l0_3.map e67)]] [(0, .row 76 7 (r.map e76))] (.row 0) := by
 refine acalls (fn := Try.f20) (nt := 19) Try.func20 rfl rfl (Nat.le_of_ble_eq_true rfl) fun E hE => ?_
 rw [spec_PolicyLines.f] at H
 refine aw_grp1 ?_
 refine wk_start ?_
 refine kb g0 (bxA 0) ?_
 refine kv g0 (asg) ?_
 refine wk_end ?_
 refine ac_next ?_
 refine aw_grp1 ?_
 refine wk_start ?_
 obtain ⟨t1, A2, H⟩ := of_bind H
 refine kcS0 4 (.agg [.lit (.string t1.1), .lit (.int .i64 t1.2.1), .lit (.int .i64 t1.2.2.1), .lit (.int .i64 t1.2.2.2.1), .lit (.int .i64 t1.2.2.2.2.1), .lit (.string t1.2.2.2.2.2.1), .lit (.string t1.2.2.2.2.2.2)]) [] g0 (cal (spec_l11Word.ok A2) [] 9999 .n (hf := Try.func39)) rfl rfl ?_
 refine kv g0 (faB 0 0) ?_
 refine kv g0 (ldB) ?_
 obtain ⟨t3, A4, H⟩ := of_bind H
 refine kcS0 7 (.agg [.lit (.string t3.1), .lit (.int .i64 t3.2.1), .lit (.int .i64 t3.2.2.1), .lit (.int .i64 t3.2.2.2.1), .lit (.int .i64 t3.2.2.2.2.1), .lit (.string t3.2.2.2.2.2.1), .lit (.string t3.2.2.2.2.2.2)]) [] g0 (cal (spec_l11Asks.ok A4) [] 9999 .n (hf := Try.func40)) rfl rfl ?_
 refine kv g0 (bld [(0, 1), (1, 4), (5, 1), (6, 1)] [.string .empty, .int .i64 0, .int .i64 0, .int .i64 0, .int .i64 0, .string .empty, .string .empty] [.lit (.string (⟨#[113]⟩ : ByteArray)), .lit (.int .i64 0), .lit (.int .i64 0), .lit (.int .i64 0), .lit (.int .i64 0), .lit (.string ByteArray.empty), .lit (.string ByteArray.empty)]) ?_
 obtain ⟨t5, A6, H⟩ := of_bind H
 refine kcS0 9 (.agg [.lit (.string t5.1), .lit (.int .i64 t5.2.1), .lit (.int .i64 t5.2.2.1), .lit (.int .i64 t5.2.2.2.1), .lit (.int .i64 t5.2.2.2.2.1), .lit (.string t5.2.2.2.2.2.1), .lit (.string t5.2.2.2.2.2.2)]) [] g0 (cal (spec_l11Word.ok A6) [] 9999 .n (hf := Try.func39)) rfl rfl ?_
 refine kv g0 (bld [(0, 1), (1, 4), (5, 1), (6, 1)] [.string .empty, .int .i64 0, .int .i64 0, .int .i64 0, .int .i64 0, .string .empty, .string .empty] [.lit (.string (⟨#[112]⟩ : ByteArray)), .lit (.int .i64 0), .lit (.int .i64 0), .lit (.int .i64 0), .lit (.int .i64 0), .lit (.string ByteArray.empty), .lit (.string ByteArray.empty)]) ?_
 obtain ⟨t7, A8, H⟩ := of_bind H
 refine kcS0 11 (.agg [.lit (.string t7.1), .lit (.int .i64 t7.2.1), .lit (.int .i64 t7.2.2.1), .lit (.int .i64 t7.2.2.2.1), .lit (.int .i64 t7.2.2.2.2.1), .lit (.string t7.2.2.2.2.2.1), .lit (.string t7.2.2.2.2.2.2)]) [] g0 (cal (spec_l11Word.ok A8) [] 9999 .n (hf := Try.func39)) rfl rfl ?_
 refine kb g0 (bsl 1 76 7 [.string .empty, .int .i64 0, .int .i64 0, .int .i64 0, .int .i64 0, .string .empty, .string .empty] (([(⟨t1.1, (⟨t1.2.1, t1.2.2.1, t1.2.2.2.1, t1.2.2.2.2.1⟩ : S55), t1.2.2.2.2.2.1, t1.2.2.2.2.2.2⟩ : S76), (⟨t3.1, (⟨t3.2.1, t3.2.2.1, t3.2.2.2.1, t3.2.2.2.2.1⟩ : S55), t3.2.2.2.2.2.1, t3.2.2.2.2.2.2⟩ : S76), (⟨(⟨#[113]⟩ : ByteArray), (⟨0, 0, 0, 0⟩ : S55), ByteArray.empty, ByteArray.empty⟩ : S76), (⟨t5.1, (⟨t5.2.1, t5.2.2.1, t5.2.2.2.1, t5.2.2.2.2.1⟩ : S55), t5.2.2.2.2.2.1, t5.2.2.2.2.2.2⟩ : S76), (⟨(⟨#[112]⟩ : ByteArray), (⟨0, 0, 0, 0⟩ : S55), ByteArray.empty, ByteArray.empty⟩ : S76), (⟨t7.1, (⟨t7.2.1, t7.2.2.1, t7.2.2.2.1, t7.2.2.2.2.1⟩ : S55), t7.2.2.2.2.2.1, t7.2.2.2.2.2.2⟩ : S76)] : List S76).map e76) (hl := by kernel_rfl)) ?_
 refine kv g0 (asg) ?_
 refine wk_end_draw hM (by kernel_rfl) ?_
 refine ac_next ?_
 refine aw_grp1 ?_
 refine wk_start ?_
 refine kv g0 (mv) ?_
 refine kv g0 (ldBA 4 [.lit (.int .i64 a0_0), .lit (.int .i64 a0_1), .lit (.int .i64 a0_2), .sl .o 4 (l0_3.map e67)]) ?_
 refine kv g0 (ldBA 4 [.lit (.int .i64 a0_0), .lit (.int .i64 a0_1), .lit (.int .i64 a0_2), .sl .o 4 (l0_3.map e67)]) ?_
 obtain ⟨t9, A10, H⟩ := of_bind H
 refine kcS1 16 (.row 2) [(2, .row 3 1 (t9.map (eI .i64)))] g0 (cal (spec_NumsOf.ok A10) [2] 9999 .n (hf := Try.func42)) rfl rfl ?_
 obtain ⟨t11, A12, H⟩ := of_bind H
 refine kcS1 17 (.row 3) [(3, .row 76 7 (t11.map e76))] g0 (cal (spec_TreeLines.ok A12) [3] 9999 .n (hf := Try.func41)) rfl rfl ?_
 obtain ⟨c13, H⟩ := of_if H
 refine kc g0 (apR 4 76 7 80 [.string .empty, .int .i64 0, .int .i64 0, .int .i64 0, .int .i64 0, .string .empty, .string .empty] ((([(⟨t1.1, (⟨t1.2.1, t1.2.2.1, t1.2.2.2.1, t1.2.2.2.2.1⟩ : S55), t1.2.2.2.2.2.1, t1.2.2.2.2.2.2⟩ : S76), (⟨t3.1, (⟨t3.2.1, t3.2.2.1, t3.2.2.2.1, t3.2.2.2.2.1⟩ : S55), t3.2.2.2.2.2.1, t3.2.2.2.2.2.2⟩ : S76), (⟨(⟨#[113]⟩ : ByteArray), (⟨0, 0, 0, 0⟩ : S55), ByteArray.empty, ByteArray.empty⟩ : S76), (⟨t5.1, (⟨t5.2.1, t5.2.2.1, t5.2.2.2.1, t5.2.2.2.2.1⟩ : S55), t5.2.2.2.2.2.1, t5.2.2.2.2.2.2⟩ : S76), (⟨(⟨#[112]⟩ : ByteArray), (⟨0, 0, 0, 0⟩ : S55), ByteArray.empty, ByteArray.empty⟩ : S76), (⟨t7.1, (⟨t7.2.1, t7.2.2.1, t7.2.2.2.1, t7.2.2.2.2.1⟩ : S55), t7.2.2.2.2.2.1, t7.2.2.2.2.2.2⟩ : S76)] : List S76) ++ t11).map e76) (.row rfl) (apb c13 rfl) appE) ?_
 refine kv g0 (asg) ?_
 refine wk_end_draw hM (by kernel_rfl) ?_
 refine ac_next ?_
 refine aw_ret ?_
 obtain rfl := Option.some.inj H
 exact acr hE [.tmp 2] (.tmp .nil) (.one _) [(0, 4)] 9999
/-! spec_l11Place -/
def spec_l11Place.f (a0_0 : ByteArray) (a0_1 : Int) (a0_2 : Int) (a0_3 : Int) (a0_4 : Int) (a0_5 : ByteArray) (a0_6 : ByteArray) : Option (Bool) := some (a0_1 == 0 && (a0_2 == 0 && (a0_3 == 0 && (a0_4 == 0))))
theorem spec_l11Place.ok {a0_0 : ByteArray} {a0_1 : Int} {a0_2 : Int} {a0_3 : Int} {a0_4 : Int} {a0_5 : ByteArray} {a0_6 : ByteArray} {r : Bool} (H : spec_l11Place.f a0_0 a0_1 a0_2 a0_3 a0_4 a0_5 a0_6 = some r) : ACalls Try.prog 65 [] [.agg [.lit (.string a0_0), .lit (.int .i64 a0_1), .lit (.int .i64 a0_2), .lit (.int .i64 a0_3), .lit (.int .i64 a0_4), .lit (.string a0_5), .lit (.string a0_6)]] [] (.lit (.bool r)) := by
 refine acalls (fn := Try.f65) (nt := 7) Try.func65 rfl rfl (Nat.le_of_ble_eq_true rfl) fun E hE => ?_
 rw [spec_l11Place.f] at H
 refine aw_grp1 ?_
 refine wk_start ?_
 refine kb g0 (bxA 0) ?_
 refine kv g0 (asg) ?_
 refine wk_end ?_
 refine ac_next ?_
 refine aw_grp1 ?_
 refine wk_start ?_
 refine kv g0 (faB 1 1) ?_
 refine kv g0 (ldBA 4 [.lit (.int .i64 a0_1), .lit (.int .i64 a0_2), .lit (.int .i64 a0_3), .lit (.int .i64 a0_4)]) ?_
 refine kv g0 (bld [(0, 1), (1, 1), (2, 1), (3, 1)] [.int .i64 0, .int .i64 0, .int .i64 0, .int .i64 0] [.lit (.int .i64 0), .lit (.int .i64 0), .lit (.int .i64 0), .lit (.int .i64 0)]) ?_
 refine kv g0 (eqS (fun w => eq55 _ w a0_1 a0_2 a0_3 a0_4 0 0 0 0)) ?_
 refine kv g0 (asg) ?_
 refine wk_end ?_
 refine ac_next ?_
 refine aw_ret ?_
 obtain rfl := Option.some.inj H
 exact acr hE [.tmp 2] (.tmp .nil) (.one _) [] 9999
/-! spec_l11At -/
def spec_l11At.l0 : Nat → (List S76) → ByteArray → Int → Option (Int)
 | 0, _, _, _ => none
 | k8 + 1, l0, a1, p7 => if p7 < (l0.length : Int) then if 0 ≤ p7 then ((spec_l11Place.f ((rd_T76 l0 p7).f0) ((rd_T76 l0 p7).f1.f0) ((rd_T76 l0 p7).f1.f1) ((rd_T76 l0 p7).f1.f2) ((rd_T76 l0 p7).f1.f3) ((rd_T76 l0 p7).f2) ((rd_T76 l0 p7).f3)).bind fun t11 => (if t11 = true then if (((rd_T76 l0 p7).f0).toList == a1.toList) = true then some p7 else spec_l11At.l0 k8 l0 a1 (wrap64 (p7 + 1)) else spec_l11At.l0 k8 l0 a1 (wrap64 (p7 + 1)))) else none else some (-1)
def spec_l11At.f (k : Nat) (l0 : List S76) (a1 : ByteArray) : Option (Int) := spec_l11At.l0 k l0 a1 0
theorem spec_l11At.ok {k : Nat} {l0 : List S76} {a1 : ByteArray} {r : Int} (H : spec_l11At.f k l0 a1 = some r) : ACalls Try.prog 66 [] [.sl .o 7 (l0.map e76), .lit (.string a1)] [] (.lit (.int .i64 r)) := by
 refine acalls (fn := Try.f66) (nt := 27) Try.func66 rfl rfl (Nat.le_of_ble_eq_true rfl) fun E hE => ?_
 rw [spec_l11At.f] at H
 refine aw_grp1 ?_
 refine wk_start ?_
 refine kv g0 (asg) ?_
 refine wk_end ?_
 refine ac_next ?_
 refine aw_grp1 ?_
 refine aw_grp1 ?_
 refine wk_start ?_
 refine kv g0 (asg) ?_
 refine wk_end ?_
 refine ac_next ?_
 refine aw_block ?_
 refine aw_loop1 (fun (k_ : Nat) (p7 : Int) => k_ ≤ k ∧ spec_l11At.l0 k_ l0 a1 p7 = some r) (fun (p7 : Int) => ⟨[(0, .sl .o 7 (l0.map e76)), (1, .lit (.string a1)), (5, .lit (.int .i64 p7))], []⟩) k 0 ⟨Nat.le_refl _, H⟩ (fun K_ h_ => acw hE [] 9999 h_) (fun _ => by intro h_; have h_ := h_.2; rw [spec_l11At.l0.eq_1] at h_; cases h_) ?_
 intro k8 p7 hq_ K15 hK16
 have hk8 := hq_.1
 have H := hq_.2
 clear hq_
 rw [spec_l11At.l0.eq_2] at H
 refine aw_grp1 ?_
 refine aw_grp1 ?_
 refine wk_start ?_
 refine kv g0 (mv) ?_
 refine kv g0 (mv) ?_
 refine kv g0 (lnS lenE) ?_
 refine kv g0 (lss) ?_
 refine wk_end ?_
 refine ac_next ?_
 by_cases c9 : p7 < (l0.length : Int)
 ·rw [if_pos c9] at H
  refine aw_ifT ?_ (decide_eq_true c9)
  refine aw_skip ?_
  refine ac_next ?_
  refine aw_grp1 ?_
  refine aw_block ?_
  refine aw_grp1 ?_
  refine wk_start ?_
  refine kv g0 (mv) ?_
  refine kv g0 (mv) ?_
  obtain ⟨c10, H⟩ := of_if H
  refine kv g0 (ixS 76 (e76 (rd_T76 l0 p7)) c10 (getE (z := z76) c10 c9)) ?_
  refine kv g0 (ldRA 7 [.lit (.string ((rd_T76 l0 p7).f0)), .lit (.int .i64 ((rd_T76 l0 p7).f1.f0)), .lit (.int .i64 ((rd_T76 l0 p7).f1.f1)), .lit (.int .i64 ((rd_T76 l0 p7).f1.f2)), .lit (.int .i64 ((rd_T76 l0 p7).f1.f3)), .lit (.string ((rd_T76 l0 p7).f2)), .lit (.string ((rd_T76 l0 p7).f3))]) ?_
  obtain ⟨t11, A12, H⟩ := of_bind H
  refine kcS0 16 (.lit (.bool t11)) [] g0 (cal (spec_l11Place.ok A12) [] 9999 .n (hf := Try.func65)) rfl rfl ?_
  refine kv g0 (mv) ?_
  by_cases c13 : t11 = true
  ·rw [if_pos c13] at H
   refine kv (g1 c13) (mv) ?_
   refine kv (g1 c13) (mv) ?_
   refine kv (g1 c13) (ixS 76 (e76 (rd_T76 l0 p7)) c10 (getE (z := z76) c10 c9)) ?_
   refine kv (g1 c13) (faR 0 0) ?_
   refine kv (g1 c13) (ldR (.lit (.string ((rd_T76 l0 p7).f0)))) ?_
   refine kv (g1 c13) (mv) ?_
   refine kv (g1 c13) (seq) ?_
   refine kv g0 (pkT c13) ?_
   refine wk_end ?_
   refine ac_next ?_
   by_cases c14 : (((rd_T76 l0 p7).f0).toList == a1.toList) = true
   ·rw [if_pos c14] at H
    refine aw_ifT ?_ c14
    refine aw_grp1 ?_
    refine wk_start ?_
    refine kv g0 (mv) ?_
    refine kv g0 (asg) ?_
    refine wk_end ?_
    refine ac_next ?_
    refine aw_ret ?_
    refine ac_blkR ?_
    refine ac_thenR ?_
    refine ac_thenR ?_
    refine ac_blkR ?_
    refine ac_thenR ?_
    obtain rfl := Option.some.inj H
    exact acr hE [.tmp 4] (.tmp .nil) (.one _) [] 9999
   rw [if_neg c14] at H
   refine aw_ifF ?_ (bF c14)
   refine aw_skip ?_
   refine ac_blkN ?_
   refine ac_next ?_
   refine wk_start ?_
   refine kv g0 (mv) ?_
   refine kv g0 (add6) ?_
   refine kv g0 (asg) ?_
   refine wk_end ?_
   refine ac_k ?_
   exact acw hE [] 9999 (hK16 k8 (wrap64 (p7 + 1)) (Nat.le_refl _) ⟨by omega, H⟩)
  rw [if_neg c13] at H
  refine kx (hT (bF c13)) ?_
  refine kx (hT (bF c13)) ?_
  refine kx (hT (bF c13)) ?_
  refine kx (hT (bF c13)) ?_
  refine kx (hT (bF c13)) ?_
  refine kx (hT (bF c13)) ?_
  refine kx (hT (bF c13)) ?_
  refine kv g0 (pkF (bF c13)) ?_
  refine wk_end ?_
  refine ac_next ?_
  refine aw_ifF ?_ rfl
  refine aw_skip ?_
  refine ac_blkN ?_
  refine ac_next ?_
  refine wk_start ?_
  refine kv g0 (mv) ?_
  refine kv g0 (add6) ?_
  refine kv g0 (asg) ?_
  refine wk_end ?_
  refine ac_k ?_
  exact acw hE [] 9999 (hK16 k8 (wrap64 (p7 + 1)) (Nat.le_refl _) ⟨by omega, H⟩)
 rw [if_neg c9] at H
 refine aw_ifF ?_ (decide_eq_false c9)
 refine aw_exit ?_
 refine ac_then ?_
 refine ac_then ?_
 refine ac_hit rfl ?_
 refine ac_next ?_
 refine aw_grp1 ?_
 refine wk_start ?_
 refine kv g0 (asg) ?_
 refine wk_end ?_
 refine ac_next ?_
 refine aw_ret ?_
 obtain rfl := Option.some.inj H
 exact acr hE [.tmp 4] (.tmp .nil) (.one _) [] 9999
/-! spec_l06Ask -/
def spec_l06Ask.f (a0 : Int) : Option (Bool) := (spec_l01In.f a0 3 6).bind fun t1 => some t1
theorem spec_l06Ask.ok {a0 : Int} {r : Bool} (H : spec_l06Ask.f a0 = some r) : ACalls Try.prog 46 [] [.lit (.int .i64 a0)] [] (.lit (.bool r)) := by
 refine acalls (fn := Try.f46) (nt := 5) Try.func46 rfl rfl (Nat.le_of_ble_eq_true rfl) fun E hE => ?_
 rw [spec_l06Ask.f] at H
 refine aw_grp1 ?_
 refine wk_start ?_
 refine kv g0 (asg) ?_
 refine wk_end ?_
 refine ac_next ?_
 refine aw_grp1 ?_
 refine wk_start ?_
 refine kv g0 (mv) ?_
 obtain ⟨t1, A2, H⟩ := of_bind H
 refine kcS0 4 (.lit (.bool t1)) [] g0 (cal (spec_l01In.ok A2) [] 9999 .n (hf := Try.func22)) rfl rfl ?_
 refine kv g0 (asg) ?_
 refine wk_end ?_
 refine ac_next ?_
 refine aw_ret ?_
 obtain rfl := Option.some.inj H
 exact acr hE [.tmp 2] (.tmp .nil) (.one _) [] 9999
/-! spec_InsOk -/
def spec_InsOk.j0 : Nat → Int → Int → Int → Int → Option (Bool)
 | 0, _, _, _, _ => none
 | k18 + 1, a0_0, a0_1, a0_2, a0_3 => if a0_0 = 1 then some (decide (a0_1 < 8)) else if a0_0 = 7 then some (decide (a0_1 < 400)) else some true
def spec_InsOk.f (k : Nat) (a0_0 : Int) (a0_1 : Int) (a0_2 : Int) (a0_3 : Int) : Option (Bool) := (spec_l01In.f a0_0 1 8).bind fun t1 => (if t1 = true then ((spec_HalfOk.f a0_1).bind fun t4 => (if t4 = true then ((spec_l01In.f a0_2 0 15).bind fun t7 => (if t7 = true then ((spec_l01In.f a0_3 0 15).bind fun t10 => if t10 = true then (spec_l06Ask.f a0_0).bind fun t13 => (if t13 = true then spec_InsOk.j0 k a0_0 a0_1 a0_2 a0_3 else (if a0_2 = 0 then if a0_3 = 0 then spec_InsOk.j0 k a0_0 a0_1 a0_2 a0_3 else some false else some false)) else some false) else some false)) else some false)) else some false)
theorem spec_InsOk.ok {k : Nat} {a0_0 : Int} {a0_1 : Int} {a0_2 : Int} {a0_3 : Int} {r : Bool} (H : spec_InsOk.f k a0_0 a0_1 a0_2 a0_3 = some r) : ACalls Try.prog 23 [] [.agg [.lit (.int .i64 a0_0), .lit (.int .i64 a0_1), .lit (.int .i64 a0_2), .lit (.int .i64 a0_3)]] [] (.lit (.bool r)) := by
 refine acalls (fn := Try.f23) (nt := 51) Try.func23 rfl rfl (Nat.le_of_ble_eq_true rfl) fun E hE => ?_
 rw [spec_InsOk.f] at H
 refine aw_grp1 ?_
 refine wk_start ?_
 refine kb g0 (bxA 0) ?_
 refine kv g0 (asg) ?_
 refine wk_end ?_
 refine ac_next ?_
 refine aw_grp1 ?_
 refine aw_grp1 ?_
 refine wk_start ?_
 refine kv g0 (faB 0 0) ?_
 refine kv g0 (ldB) ?_
 obtain ⟨t1, A2, H⟩ := of_bind H
 refine kcS0 5 (.lit (.bool t1)) [] g0 (cal (spec_l01In.ok A2) [] 9999 .n (hf := Try.func22)) rfl rfl ?_
 refine kv g0 (not_) ?_
 refine kv g0 (mv) ?_
 by_cases c3 : t1 = true
 ·rw [if_pos c3] at H
  refine kv (g1 (nF c3)) (faB 1 1) ?_
  refine kv (g1 (nF c3)) (ldB) ?_
  obtain ⟨t4, A5, H⟩ := of_bind H
  refine kcS0 10 (.lit (.bool t4)) [] (g1 (nF c3)) (cal (spec_HalfOk.ok A5) [] 9999 .n (hf := Try.func37)) rfl rfl ?_
  refine kv (g1 (nF c3)) (not_) ?_
  refine kv g0 (pkF (nF c3)) ?_
  refine kv g0 (mv) ?_
  by_cases c6 : t4 = true
  ·rw [if_pos c6] at H
   refine kv (g1 (nF c6)) (faB 2 2) ?_
   refine kv (g1 (nF c6)) (ldB) ?_
   obtain ⟨t7, A8, H⟩ := of_bind H
   refine kcS0 16 (.lit (.bool t7)) [] (g1 (nF c6)) (cal (spec_l01In.ok A8) [] 9999 .n (hf := Try.func22)) rfl rfl ?_
   refine kv (g1 (nF c6)) (not_) ?_
   refine kv g0 (pkF (nF c6)) ?_
   refine kv g0 (mv) ?_
   by_cases c9 : t7 = true
   ·rw [if_pos c9] at H
    refine kv (g1 (nF c9)) (faB 3 3) ?_
    refine kv (g1 (nF c9)) (ldB) ?_
    obtain ⟨t10, A11, H⟩ := of_bind H
    refine kcS0 22 (.lit (.bool t10)) [] (g1 (nF c9)) (cal (spec_l01In.ok A11) [] 9999 .n (hf := Try.func22)) rfl rfl ?_
    refine kv (g1 (nF c9)) (not_) ?_
    refine kv g0 (pkF (nF c9)) ?_
    refine wk_end ?_
    refine ac_next ?_
    by_cases c12 : t10 = true
    ·rw [if_pos c12] at H
     refine aw_ifF ?_ (nF c12)
     refine aw_skip ?_
     refine ac_next ?_
     refine aw_cut1 (J := fun K_ => ∀ (k_ : Nat), k_ ≤ k → spec_InsOk.j0 k_ a0_0 a0_1 a0_2 a0_3  = some r → ACont E 51 ⟨[(1, .box 0 0)], [(0, .box 55 [.lit (.int .i64 a0_0), .lit (.int .i64 a0_1), .lit (.int .i64 a0_2), .lit (.int .i64 a0_3)])]⟩ K_) ?_ ?_
     ·intro K_ hJ21
      refine aw_grp1 ?_
      refine wk_start ?_
      refine kv g0 (faB 0 0) ?_
      refine kv g0 (ldB) ?_
      obtain ⟨t13, A14, H⟩ := of_bind H
      refine kcS0 27 (.lit (.bool t13)) [] g0 (cal (spec_l06Ask.ok A14) [] 9999 .n (hf := Try.func46)) rfl rfl ?_
      refine kv g0 (not_) ?_
      refine kv g0 (mv) ?_
      by_cases c15 : t13 = true
      ·rw [if_pos c15] at H
       refine kx (hT (nF c15)) ?_
       refine kx (hT (nF c15)) ?_
       refine kx (hT (nF c15)) ?_
       refine ku (neT (hT (nF c15))) ?_
       refine ku neU ?_
       refine ku neU ?_
       refine ku neU ?_
       refine kx (hT (nF c15)) ?_
       refine kv g0 (pkF (nF c15)) ?_
       refine wk_end ?_
       refine ac_next ?_
       refine aw_ifF ?_ rfl
       refine aw_skip ?_
       refine ac_k ?_
       exact acw hE [(0, 0)] 9999 (hJ21 k (Nat.le_refl _) H)
      rw [if_neg c15] at H
      refine kv (g1 (nT (bF c15))) (faB 2 2) ?_
      refine kv (g1 (nT (bF c15))) (ldB) ?_
      refine kv (g1 (nT (bF c15))) (neq) ?_
      refine kv (g1 (nT (bF c15))) (mv) ?_
      by_cases c16 : a0_2 = 0
      ·rw [if_pos c16] at H
       refine kv (g1 (eM c16)) (faB 3 3) ?_
       refine kv (g1 (eM c16)) (ldB) ?_
       refine kv (g1 (eM c16)) (neq) ?_
       refine kv (g1 (nT (bF c15))) (pkF (eM c16)) ?_
       refine kv g0 (pkT (nT (bF c15))) ?_
       refine wk_end ?_
       refine ac_next ?_
       by_cases c17 : a0_3 = 0
       ·rw [if_pos c17] at H
        refine aw_ifF ?_ (eM c17)
        refine aw_skip ?_
        refine ac_k ?_
        exact acw hE [(0, 0)] 9999 (hJ21 k (Nat.le_refl _) H)
       rw [if_neg c17] at H
       refine aw_ifT ?_ (eN c17)
       refine aw_grp1 ?_
       refine wk_start ?_
       refine kv g0 (asg) ?_
       refine wk_end ?_
       refine ac_next ?_
       refine aw_ret ?_
       refine ac_thenR ?_
       obtain rfl := Option.some.inj H
       exact acr hE [.tmp 2] (.tmp .nil) (.one _) [] 9999
      rw [if_neg c16] at H
      refine kx (hF (eN c16)) ?_
      refine kx (hF (eN c16)) ?_
      refine kx (hF (eN c16)) ?_
      refine kv (g1 (nT (bF c15))) (pkT (eN c16)) ?_
      refine kv g0 (pkT (nT (bF c15))) ?_
      refine wk_end ?_
      refine ac_next ?_
      refine aw_ifT ?_ rfl
      refine aw_grp1 ?_
      refine wk_start ?_
      refine kv g0 (asg) ?_
      refine wk_end ?_
      refine ac_next ?_
      refine aw_ret ?_
      refine ac_thenR ?_
      obtain rfl := Option.some.inj H
      exact acr hE [.tmp 2] (.tmp .nil) (.one _) [] 9999
     intro k_  hk_ H
     rcases k_ with _ | k18
     ·rw [spec_InsOk.j0.eq_1] at H; cases H
     have hk18 : k18 ≤ k := by omega
     clear hk_
     rw [spec_InsOk.j0.eq_2] at H
     refine aw_grp1 ?_
     refine aw_grp1 ?_
     refine wk_start ?_
     refine kv g0 (faB 0 0) ?_
     refine kv g0 (ldB) ?_
     refine wk_end ?_
     refine ac_next ?_
     refine aw_block ?_
     refine aw_grp1 ?_
     refine wk_start ?_
     refine kv g0 (eql) ?_
     refine kv g0 (asg) ?_
     refine wk_end ?_
     refine ac_next ?_
     by_cases c19 : a0_0 = 1
     ·rw [if_pos c19] at H
      refine aw_ifT ?_ (eT c19)
      refine aw_grp1 ?_
      refine wk_start ?_
      refine kv g0 (faB 1 1) ?_
      refine kv g0 (ldB) ?_
      refine kv g0 (lss) ?_
      refine kv g0 (asg) ?_
      refine wk_end ?_
      refine ac_next ?_
      refine aw_ret ?_
      refine ac_blkR ?_
      refine ac_thenR ?_
      obtain rfl := Option.some.inj H
      exact acr hE [.tmp 2] (.tmp .nil) (.one _) [] 9999
     rw [if_neg c19] at H
     refine aw_ifF ?_ (eF c19)
     refine aw_grp1 ?_
     refine wk_start ?_
     refine kv g0 (eql) ?_
     refine kv g0 (asg) ?_
     refine wk_end ?_
     refine ac_next ?_
     by_cases c20 : a0_0 = 7
     ·rw [if_pos c20] at H
      refine aw_ifT ?_ (eT c20)
      refine aw_grp1 ?_
      refine wk_start ?_
      refine kv g0 (faB 1 1) ?_
      refine kv g0 (ldB) ?_
      refine kv g0 (lss) ?_
      refine kv g0 (asg) ?_
      refine wk_end ?_
      refine ac_next ?_
      refine aw_ret ?_
      refine ac_blkR ?_
      refine ac_thenR ?_
      obtain rfl := Option.some.inj H
      exact acr hE [.tmp 2] (.tmp .nil) (.one _) [] 9999
     rw [if_neg c20] at H
     refine aw_ifF ?_ (eF c20)
     refine aw_skip ?_
     refine ac_blkN ?_
     refine ac_next ?_
     refine aw_grp1 ?_
     refine wk_start ?_
     refine kv g0 (asg) ?_
     refine wk_end ?_
     refine ac_next ?_
     refine aw_ret ?_
     obtain rfl := Option.some.inj H
     exact acr hE [.tmp 2] (.tmp .nil) (.one _) [] 9999
    rw [if_neg c12] at H
    refine aw_ifT ?_ (nT (bF c12))
    refine aw_grp1 ?_
    refine wk_start ?_
    refine kv g0 (asg) ?_
    refine wk_end ?_
    refine ac_next ?_
    refine aw_ret ?_
    refine ac_thenR ?_
    obtain rfl := Option.some.inj H
    exact acr hE [.tmp 2] (.tmp .nil) (.one _) [] 9999
   rw [if_neg c9] at H
   refine kx (hF (nT (bF c9))) ?_
   refine kx (hF (nT (bF c9))) ?_
   refine kx (hF (nT (bF c9))) ?_
   refine kx (hF (nT (bF c9))) ?_
   refine kv g0 (pkT (nT (bF c9))) ?_
   refine wk_end ?_
   refine ac_next ?_
   refine aw_ifT ?_ rfl
   refine aw_grp1 ?_
   refine wk_start ?_
   refine kv g0 (asg) ?_
   refine wk_end ?_
   refine ac_next ?_
   refine aw_ret ?_
   refine ac_thenR ?_
   obtain rfl := Option.some.inj H
   exact acr hE [.tmp 2] (.tmp .nil) (.one _) [] 9999
  rw [if_neg c6] at H
  refine kx (hF (nT (bF c6))) ?_
  refine kx (hF (nT (bF c6))) ?_
  refine kx (hF (nT (bF c6))) ?_
  refine kx (hF (nT (bF c6))) ?_
  refine kv g0 (pkT (nT (bF c6))) ?_
  refine kv g0 (mv) ?_
  refine kx (hF rfl) ?_
  refine kx (hF rfl) ?_
  refine kx (hF rfl) ?_
  refine kx (hF rfl) ?_
  refine kv g0 (pkT rfl) ?_
  refine wk_end ?_
  refine ac_next ?_
  refine aw_ifT ?_ rfl
  refine aw_grp1 ?_
  refine wk_start ?_
  refine kv g0 (asg) ?_
  refine wk_end ?_
  refine ac_next ?_
  refine aw_ret ?_
  refine ac_thenR ?_
  obtain rfl := Option.some.inj H
  exact acr hE [.tmp 2] (.tmp .nil) (.one _) [] 9999
 rw [if_neg c3] at H
 refine kx (hF (nT (bF c3))) ?_
 refine kx (hF (nT (bF c3))) ?_
 refine kx (hF (nT (bF c3))) ?_
 refine kx (hF (nT (bF c3))) ?_
 refine kv g0 (pkT (nT (bF c3))) ?_
 refine kv g0 (mv) ?_
 refine kx (hF rfl) ?_
 refine kx (hF rfl) ?_
 refine kx (hF rfl) ?_
 refine kx (hF rfl) ?_
 refine kv g0 (pkT rfl) ?_
 refine kv g0 (mv) ?_
 refine kx (hF rfl) ?_
 refine kx (hF rfl) ?_
 refine kx (hF rfl) ?_
 refine kx (hF rfl) ?_
 refine kv g0 (pkT rfl) ?_
 refine wk_end ?_
 refine ac_next ?_
 refine aw_ifT ?_ rfl
 refine aw_grp1 ?_
 refine wk_start ?_
 refine kv g0 (asg) ?_
 refine wk_end ?_
 refine ac_next ?_
 refine aw_ret ?_
 refine ac_thenR ?_
 obtain rfl := Option.some.inj H
 exact acr hE [.tmp 2] (.tmp .nil) (.one _) [] 9999
/-! spec_l11Line -/
def spec_l11Line.j0 : Nat → (List S76) → Int → Option (Bool)
 | 0, _, _ => none
 | k24 + 1, l0, a1 => if ((rd_T76 l0 a1).f1.f0) = 7 then (if (((rd_T76 l0 a1).f3).toList == ByteArray.empty.toList) = true then ((spec_l11At.f k24 l0 ((rd_T76 l0 a1).f2)).bind fun t27 => some (decide (t27 > a1))) else some false) else (spec_l06Ask.f ((rd_T76 l0 a1).f1.f0)).bind fun t29 => if t29 = true then ((spec_l11At.f k24 l0 ((rd_T76 l0 a1).f2)).bind fun t32 => (if t32 > a1 then ((spec_l11At.f k24 l0 ((rd_T76 l0 a1).f3)).bind fun t35 => some (decide (t35 > a1))) else some false)) else if (((rd_T76 l0 a1).f2).toList == ByteArray.empty.toList) = true then some (((rd_T76 l0 a1).f3).toList == ByteArray.empty.toList) else some false
def spec_l11Line.f (k : Nat) (l0 : List S76) (a1 : Int) : Option (Bool) := if 0 ≤ a1 then (if a1 < (l0.length : Int) then (spec_l11Place.f ((rd_T76 l0 a1).f0) ((rd_T76 l0 a1).f1.f0) ((rd_T76 l0 a1).f1.f1) ((rd_T76 l0 a1).f1.f2) ((rd_T76 l0 a1).f1.f3) ((rd_T76 l0 a1).f2) ((rd_T76 l0 a1).f3)).bind fun t3 => if t3 = true then ((spec_l01In.f (((rd_T76 l0 a1).f0).size : Int) 1 12).bind fun t6 => (if t6 = true then (if (((rd_T76 l0 a1).f2).toList == ByteArray.empty.toList) = true then (if (((rd_T76 l0 a1).f3).toList == ByteArray.empty.toList) = true then ((spec_l11At.f k l0 ((rd_T76 l0 a1).f0)).bind fun t11 => some (t11 == a1)) else some false) else some false) else some false)) else if (((rd_T76 l0 a1).f0).toList == ByteArray.empty.toList) = true then (if ((rd_T76 l0 a1).f1.f2) = 0 then (if ((rd_T76 l0 a1).f1.f3) = 0 then (if ((rd_T76 l0 a1).f1.f0) = 7 then (if ((rd_T76 l0 a1).f1.f1) = 0 then ((spec_InsOk.f k ((rd_T76 l0 a1).f1.f0) ((rd_T76 l0 a1).f1.f1) ((rd_T76 l0 a1).f1.f2) ((rd_T76 l0 a1).f1.f3)).bind fun t18 => if t18 = true then spec_l11Line.j0 k l0 a1 else some false) else some false) else ((spec_InsOk.f k ((rd_T76 l0 a1).f1.f0) ((rd_T76 l0 a1).f1.f1) ((rd_T76 l0 a1).f1.f2) ((rd_T76 l0 a1).f1.f3)).bind fun t20 => if t20 = true then spec_l11Line.j0 k l0 a1 else some false)) else some false) else some false) else some false else none) else none
theorem spec_l11Line.ok {k : Nat} {l0 : List S76} {a1 : Int} {r : Bool} (H : spec_l11Line.f k l0 a1 = some r) : ACalls Try.prog 75 [] [.sl .o 7 (l0.map e76), .lit (.int .i64 a1)] [] (.lit (.bool r)) := by
 refine acalls (fn := Try.f75) (nt := 104) Try.func75 rfl rfl (Nat.le_of_ble_eq_true rfl) fun E hE => ?_
 rw [spec_l11Line.f] at H
 refine aw_grp1 ?_
 refine wk_start ?_
 refine kv g0 (asg) ?_
 refine wk_end ?_
 refine ac_next ?_
 refine aw_grp1 ?_
 refine wk_start ?_
 refine kv g0 (mv) ?_
 refine kv g0 (mv) ?_
 obtain ⟨c1, H⟩ := of_if H
 obtain ⟨c2, H⟩ := of_if H
 refine kv g0 (ixS 76 (e76 (rd_T76 l0 a1)) c1 (getE (z := z76) c1 c2)) ?_
 refine kv g0 (ldRA 7 [.lit (.string ((rd_T76 l0 a1).f0)), .lit (.int .i64 ((rd_T76 l0 a1).f1.f0)), .lit (.int .i64 ((rd_T76 l0 a1).f1.f1)), .lit (.int .i64 ((rd_T76 l0 a1).f1.f2)), .lit (.int .i64 ((rd_T76 l0 a1).f1.f3)), .lit (.string ((rd_T76 l0 a1).f2)), .lit (.string ((rd_T76 l0 a1).f3))]) ?_
 refine kb g0 (alc 0 [.string .empty, .int .i64 0, .int .i64 0, .int .i64 0, .int .i64 0, .string .empty, .string .empty] [.lit (.string ByteArray.empty), .lit (.int .i64 0), .lit (.int .i64 0), .lit (.int .i64 0), .lit (.int .i64 0), .lit (.string ByteArray.empty), .lit (.string ByteArray.empty)]) ?_
 refine ks g0 (stB 7 [.lit (.string ((rd_T76 l0 a1).f0)), .lit (.int .i64 ((rd_T76 l0 a1).f1.f0)), .lit (.int .i64 ((rd_T76 l0 a1).f1.f1)), .lit (.int .i64 ((rd_T76 l0 a1).f1.f2)), .lit (.int .i64 ((rd_T76 l0 a1).f1.f3)), .lit (.string ((rd_T76 l0 a1).f2)), .lit (.string ((rd_T76 l0 a1).f3))]) ?_
 refine wk_end ?_
 refine ac_next ?_
 refine aw_grp1 ?_
 refine aw_grp1 ?_
 refine wk_start ?_
 refine kv g0 (ldBA 7 [.lit (.string ((rd_T76 l0 a1).f0)), .lit (.int .i64 ((rd_T76 l0 a1).f1.f0)), .lit (.int .i64 ((rd_T76 l0 a1).f1.f1)), .lit (.int .i64 ((rd_T76 l0 a1).f1.f2)), .lit (.int .i64 ((rd_T76 l0 a1).f1.f3)), .lit (.string ((rd_T76 l0 a1).f2)), .lit (.string ((rd_T76 l0 a1).f3))]) ?_
 obtain ⟨t3, A4, H⟩ := of_bind H
 refine kcS0 12 (.lit (.bool t3)) [] g0 (cal (spec_l11Place.ok A4) [] 9999 .n (hf := Try.func65)) rfl rfl ?_
 refine wk_end ?_
 refine ac_next ?_
 by_cases c5 : t3 = true
 ·rw [if_pos c5] at H
  refine aw_ifT ?_ c5
  refine aw_grp1 ?_
  refine wk_start ?_
  refine kv g0 (faB 0 0) ?_
  refine kv g0 (ldB) ?_
  refine kv g0 (lnT) ?_
  obtain ⟨t6, A7, H⟩ := of_bind H
  refine kcS0 16 (.lit (.bool t6)) [] g0 (cal (spec_l01In.ok A7) [] 9999 .n (hf := Try.func22)) rfl rfl ?_
  refine kv g0 (mv) ?_
  by_cases c8 : t6 = true
  ·rw [if_pos c8] at H
   refine kv (g1 c8) (faB 5 5) ?_
   refine kv (g1 c8) (ldB) ?_
   refine kv (g1 c8) (seq) ?_
   refine kv g0 (pkT c8) ?_
   refine kv g0 (mv) ?_
   by_cases c9 : (((rd_T76 l0 a1).f2).toList == ByteArray.empty.toList) = true
   ·rw [if_pos c9] at H
    refine kv (g1 c9) (faB 6 6) ?_
    refine kv (g1 c9) (ldB) ?_
    refine kv (g1 c9) (seq) ?_
    refine kv g0 (pkT c9) ?_
    refine kv g0 (mv) ?_
    by_cases c10 : (((rd_T76 l0 a1).f3).toList == ByteArray.empty.toList) = true
    ·rw [if_pos c10] at H
     refine kv (g1 c10) (mv) ?_
     refine kv (g1 c10) (faB 0 0) ?_
     refine kv (g1 c10) (ldB) ?_
     obtain ⟨t11, A12, H⟩ := of_bind H
     refine kcS0 31 (.lit (.int .i64 t11)) [] (g1 c10) (cal (spec_l11At.ok A12) [] 9999 .n (hf := Try.func66)) rfl rfl ?_
     refine kv (g1 c10) (mv) ?_
     refine kv (g1 c10) (eql) ?_
     refine kv g0 (pkT c10) ?_
     refine kv g0 (asg) ?_
     refine wk_end ?_
     refine ac_next ?_
     refine aw_ret ?_
     refine ac_thenR ?_
     obtain rfl := Option.some.inj H
     exact acr hE [.tmp 4] (.tmp .nil) (.one _) [] 9999
    rw [if_neg c10] at H
    refine kx (hT (bF c10)) ?_
    refine kx (hT (bF c10)) ?_
    refine kx (hT (bF c10)) ?_
    refine kx (hT (bF c10)) ?_
    refine kx (hT (bF c10)) ?_
    refine kx (hT (bF c10)) ?_
    refine kv g0 (pkF (bF c10)) ?_
    refine kv g0 (asg) ?_
    refine wk_end ?_
    refine ac_next ?_
    refine aw_ret ?_
    refine ac_thenR ?_
    obtain rfl := Option.some.inj H
    exact acr hE [.tmp 4] (.tmp .nil) (.one _) [] 9999
   rw [if_neg c9] at H
   refine kx (hT (bF c9)) ?_
   refine kx (hT (bF c9)) ?_
   refine kx (hT (bF c9)) ?_
   refine kv g0 (pkF (bF c9)) ?_
   refine kv g0 (mv) ?_
   refine kx (hT rfl) ?_
   refine kx (hT rfl) ?_
   refine kx (hT rfl) ?_
   refine kx (hT rfl) ?_
   refine kx (hT rfl) ?_
   refine kx (hT rfl) ?_
   refine kv g0 (pkF rfl) ?_
   refine kv g0 (asg) ?_
   refine wk_end ?_
   refine ac_next ?_
   refine aw_ret ?_
   refine ac_thenR ?_
   obtain rfl := Option.some.inj H
   exact acr hE [.tmp 4] (.tmp .nil) (.one _) [] 9999
  rw [if_neg c8] at H
  refine kx (hT (bF c8)) ?_
  refine kx (hT (bF c8)) ?_
  refine kx (hT (bF c8)) ?_
  refine kv g0 (pkF (bF c8)) ?_
  refine kv g0 (mv) ?_
  refine kx (hT rfl) ?_
  refine kx (hT rfl) ?_
  refine kx (hT rfl) ?_
  refine kv g0 (pkF rfl) ?_
  refine kv g0 (mv) ?_
  refine kx (hT rfl) ?_
  refine kx (hT rfl) ?_
  refine kx (hT rfl) ?_
  refine kx (hT rfl) ?_
  refine kx (hT rfl) ?_
  refine kx (hT rfl) ?_
  refine kv g0 (pkF rfl) ?_
  refine kv g0 (asg) ?_
  refine wk_end ?_
  refine ac_next ?_
  refine aw_ret ?_
  refine ac_thenR ?_
  obtain rfl := Option.some.inj H
  exact acr hE [.tmp 4] (.tmp .nil) (.one _) [] 9999
 rw [if_neg c5] at H
 refine aw_ifF ?_ (bF c5)
 refine aw_skip ?_
 refine ac_next ?_
 refine aw_grp1 ?_
 refine wk_start ?_
 refine kv g0 (faB 1 1) ?_
 refine kv g0 (ldBA 4 [.lit (.int .i64 ((rd_T76 l0 a1).f1.f0)), .lit (.int .i64 ((rd_T76 l0 a1).f1.f1)), .lit (.int .i64 ((rd_T76 l0 a1).f1.f2)), .lit (.int .i64 ((rd_T76 l0 a1).f1.f3))]) ?_
 refine kb g0 (alc 1 [.int .i64 0, .int .i64 0, .int .i64 0, .int .i64 0] [.lit (.int .i64 0), .lit (.int .i64 0), .lit (.int .i64 0), .lit (.int .i64 0)]) ?_
 refine ks g0 (stB 4 [.lit (.int .i64 ((rd_T76 l0 a1).f1.f0)), .lit (.int .i64 ((rd_T76 l0 a1).f1.f1)), .lit (.int .i64 ((rd_T76 l0 a1).f1.f2)), .lit (.int .i64 ((rd_T76 l0 a1).f1.f3))]) ?_
 refine wk_end ?_
 refine ac_next ?_
 refine aw_cut1 (J := fun K_ => ∀ (k_ : Nat), k_ ≤ k → spec_l11Line.j0 k_ l0 a1  = some r → ACont E 104 ⟨[(0, .sl .o 7 (l0.map e76)), (1, .lit (.int .i64 a1)), (5, .box 0 0), (6, .box 1 0)], [(0, .box 76 [.lit (.string ((rd_T76 l0 a1).f0)), .lit (.int .i64 ((rd_T76 l0 a1).f1.f0)), .lit (.int .i64 ((rd_T76 l0 a1).f1.f1)), .lit (.int .i64 ((rd_T76 l0 a1).f1.f2)), .lit (.int .i64 ((rd_T76 l0 a1).f1.f3)), .lit (.string ((rd_T76 l0 a1).f2)), .lit (.string ((rd_T76 l0 a1).f3))]), (1, .box 55 [.lit (.int .i64 ((rd_T76 l0 a1).f1.f0)), .lit (.int .i64 ((rd_T76 l0 a1).f1.f1)), .lit (.int .i64 ((rd_T76 l0 a1).f1.f2)), .lit (.int .i64 ((rd_T76 l0 a1).f1.f3))])]⟩ K_) ?_ ?_
 ·intro K_ hJ38
  refine aw_grp1 ?_
  refine wk_start ?_
  refine kv g0 (faB 0 0) ?_
  refine kv g0 (ldB) ?_
  refine kv g0 (sne) ?_
  refine kv g0 (mv) ?_
  by_cases c13 : (((rd_T76 l0 a1).f0).toList == ByteArray.empty.toList) = true
  ·rw [if_pos c13] at H
   refine kv (g1 (nF c13)) (faB 2 2) ?_
   refine kv (g1 (nF c13)) (ldB) ?_
   refine kv (g1 (nF c13)) (neq) ?_
   refine kv g0 (pkF (nF c13)) ?_
   refine kv g0 (mv) ?_
   by_cases c14 : ((rd_T76 l0 a1).f1.f2) = 0
   ·rw [if_pos c14] at H
    refine kv (g1 (eM c14)) (faB 3 3) ?_
    refine kv (g1 (eM c14)) (ldB) ?_
    refine kv (g1 (eM c14)) (neq) ?_
    refine kv g0 (pkF (eM c14)) ?_
    refine kv g0 (mv) ?_
    by_cases c15 : ((rd_T76 l0 a1).f1.f3) = 0
    ·rw [if_pos c15] at H
     refine kv (g1 (eM c15)) (faB 0 0) ?_
     refine kv (g1 (eM c15)) (ldB) ?_
     refine kv (g1 (eM c15)) (eql) ?_
     refine kv (g1 (eM c15)) (mv) ?_
     by_cases c16 : ((rd_T76 l0 a1).f1.f0) = 7
     ·rw [if_pos c16] at H
      refine kv (g1 (eT c16)) (faB 1 1) ?_
      refine kv (g1 (eT c16)) (ldB) ?_
      refine kv (g1 (eT c16)) (neq) ?_
      refine kv (g1 (eM c15)) (pkT (eT c16)) ?_
      refine kv g0 (pkF (eM c15)) ?_
      refine kv g0 (mv) ?_
      by_cases c17 : ((rd_T76 l0 a1).f1.f1) = 0
      ·rw [if_pos c17] at H
       refine kv (g1 (eM c17)) (ldBA 4 [.lit (.int .i64 ((rd_T76 l0 a1).f1.f0)), .lit (.int .i64 ((rd_T76 l0 a1).f1.f1)), .lit (.int .i64 ((rd_T76 l0 a1).f1.f2)), .lit (.int .i64 ((rd_T76 l0 a1).f1.f3))]) ?_
       obtain ⟨t18, A19, H⟩ := of_bind H
       refine kcS0 62 (.lit (.bool t18)) [] (g1 (eM c17)) (cal (spec_InsOk.ok A19) [] 9999 .n (hf := Try.func23)) rfl rfl ?_
       refine kv (g1 (eM c17)) (not_) ?_
       refine kv g0 (pkF (eM c17)) ?_
       refine wk_end ?_
       refine ac_next ?_
       by_cases c22 : t18 = true
       ·rw [if_pos c22] at H
        refine aw_ifF ?_ (nF c22)
        refine aw_skip ?_
        refine ac_k ?_
        exact acw hE [(0, 0), (1, 1)] 9999 (hJ38 k (Nat.le_refl _) H)
       rw [if_neg c22] at H
       refine aw_ifT ?_ (nT (bF c22))
       refine aw_grp1 ?_
       refine wk_start ?_
       refine kv g0 (asg) ?_
       refine wk_end ?_
       refine ac_next ?_
       refine aw_ret ?_
       refine ac_thenR ?_
       obtain rfl := Option.some.inj H
       exact acr hE [.tmp 4] (.tmp .nil) (.one _) [] 9999
      rw [if_neg c17] at H
      refine kx (hF (eN c17)) ?_
      refine kx (hF (eN c17)) ?_
      refine kx (hF (eN c17)) ?_
      refine kv g0 (pkT (eN c17)) ?_
      refine wk_end ?_
      refine ac_next ?_
      refine aw_ifT ?_ rfl
      refine aw_grp1 ?_
      refine wk_start ?_
      refine kv g0 (asg) ?_
      refine wk_end ?_
      refine ac_next ?_
      refine aw_ret ?_
      refine ac_thenR ?_
      obtain rfl := Option.some.inj H
      exact acr hE [.tmp 4] (.tmp .nil) (.one _) [] 9999
     rw [if_neg c16] at H
     refine kx (hT (eF c16)) ?_
     refine kx (hT (eF c16)) ?_
     refine kx (hT (eF c16)) ?_
     refine kv (g1 (eM c15)) (pkF (eF c16)) ?_
     refine kv g0 (pkF (eM c15)) ?_
     refine kv g0 (mv) ?_
     refine kv (g1 rfl) (ldBA 4 [.lit (.int .i64 ((rd_T76 l0 a1).f1.f0)), .lit (.int .i64 ((rd_T76 l0 a1).f1.f1)), .lit (.int .i64 ((rd_T76 l0 a1).f1.f2)), .lit (.int .i64 ((rd_T76 l0 a1).f1.f3))]) ?_
     obtain ⟨t20, A21, H⟩ := of_bind H
     refine kcS0 62 (.lit (.bool t20)) [] (g1 rfl) (cal (spec_InsOk.ok A21) [] 9999 .n (hf := Try.func23)) rfl rfl ?_
     refine kv (g1 rfl) (not_) ?_
     refine kv g0 (pkF rfl) ?_
     refine wk_end ?_
     refine ac_next ?_
     by_cases c23 : t20 = true
     ·rw [if_pos c23] at H
      refine aw_ifF ?_ (nF c23)
      refine aw_skip ?_
      refine ac_k ?_
      exact acw hE [(0, 0), (1, 1)] 9999 (hJ38 k (Nat.le_refl _) H)
     rw [if_neg c23] at H
     refine aw_ifT ?_ (nT (bF c23))
     refine aw_grp1 ?_
     refine wk_start ?_
     refine kv g0 (asg) ?_
     refine wk_end ?_
     refine ac_next ?_
     refine aw_ret ?_
     refine ac_thenR ?_
     obtain rfl := Option.some.inj H
     exact acr hE [.tmp 4] (.tmp .nil) (.one _) [] 9999
    rw [if_neg c15] at H
    refine kx (hF (eN c15)) ?_
    refine kx (hF (eN c15)) ?_
    refine kx (hF (eN c15)) ?_
    refine ku (neT (hF (eN c15))) ?_
    refine ku neU ?_
    refine ku neU ?_
    refine ku neU ?_
    refine kx (hF (eN c15)) ?_
    refine kv g0 (pkT (eN c15)) ?_
    refine kv g0 (mv) ?_
    refine kx (hF rfl) ?_
    refine kx (hF rfl) ?_
    refine kx (hF rfl) ?_
    refine kv g0 (pkT rfl) ?_
    refine wk_end ?_
    refine ac_next ?_
    refine aw_ifT ?_ rfl
    refine aw_grp1 ?_
    refine wk_start ?_
    refine kv g0 (asg) ?_
    refine wk_end ?_
    refine ac_next ?_
    refine aw_ret ?_
    refine ac_thenR ?_
    obtain rfl := Option.some.inj H
    exact acr hE [.tmp 4] (.tmp .nil) (.one _) [] 9999
   rw [if_neg c14] at H
   refine kx (hF (eN c14)) ?_
   refine kx (hF (eN c14)) ?_
   refine kx (hF (eN c14)) ?_
   refine kv g0 (pkT (eN c14)) ?_
   refine kv g0 (mv) ?_
   refine kx (hF rfl) ?_
   refine kx (hF rfl) ?_
   refine kx (hF rfl) ?_
   refine ku (neT (hF rfl)) ?_
   refine ku neU ?_
   refine ku neU ?_
   refine ku neU ?_
   refine kx (hF rfl) ?_
   refine kv g0 (pkT rfl) ?_
   refine kv g0 (mv) ?_
   refine kx (hF rfl) ?_
   refine kx (hF rfl) ?_
   refine kx (hF rfl) ?_
   refine kv g0 (pkT rfl) ?_
   refine wk_end ?_
   refine ac_next ?_
   refine aw_ifT ?_ rfl
   refine aw_grp1 ?_
   refine wk_start ?_
   refine kv g0 (asg) ?_
   refine wk_end ?_
   refine ac_next ?_
   refine aw_ret ?_
   refine ac_thenR ?_
   obtain rfl := Option.some.inj H
   exact acr hE [.tmp 4] (.tmp .nil) (.one _) [] 9999
  rw [if_neg c13] at H
  refine kx (hF (nT (bF c13))) ?_
  refine kx (hF (nT (bF c13))) ?_
  refine kx (hF (nT (bF c13))) ?_
  refine kv g0 (pkT (nT (bF c13))) ?_
  refine kv g0 (mv) ?_
  refine kx (hF rfl) ?_
  refine kx (hF rfl) ?_
  refine kx (hF rfl) ?_
  refine kv g0 (pkT rfl) ?_
  refine kv g0 (mv) ?_
  refine kx (hF rfl) ?_
  refine kx (hF rfl) ?_
  refine kx (hF rfl) ?_
  refine ku (neT (hF rfl)) ?_
  refine ku neU ?_
  refine ku neU ?_
  refine ku neU ?_
  refine kx (hF rfl) ?_
  refine kv g0 (pkT rfl) ?_
  refine kv g0 (mv) ?_
  refine kx (hF rfl) ?_
  refine kx (hF rfl) ?_
  refine kx (hF rfl) ?_
  refine kv g0 (pkT rfl) ?_
  refine wk_end ?_
  refine ac_next ?_
  refine aw_ifT ?_ rfl
  refine aw_grp1 ?_
  refine wk_start ?_
  refine kv g0 (asg) ?_
  refine wk_end ?_
  refine ac_next ?_
  refine aw_ret ?_
  refine ac_thenR ?_
  obtain rfl := Option.some.inj H
  exact acr hE [.tmp 4] (.tmp .nil) (.one _) [] 9999
 intro k_  hk_ H
 rcases k_ with _ | k24
 ·rw [spec_l11Line.j0.eq_1] at H; cases H
 have hk24 : k24 ≤ k := by omega
 clear hk_
 rw [spec_l11Line.j0.eq_2] at H
 refine aw_grp1 ?_
 refine aw_grp1 ?_
 refine wk_start ?_
 refine kv g0 (faB 0 0) ?_
 refine kv g0 (ldB) ?_
 refine kv g0 (eql) ?_
 refine wk_end ?_
 refine ac_next ?_
 by_cases c25 : ((rd_T76 l0 a1).f1.f0) = 7
 ·rw [if_pos c25] at H
  refine aw_ifT ?_ (eT c25)
  refine aw_grp1 ?_
  refine wk_start ?_
  refine kv g0 (faB 6 6) ?_
  refine kv g0 (ldB) ?_
  refine kv g0 (seq) ?_
  refine kv g0 (mv) ?_
  by_cases c26 : (((rd_T76 l0 a1).f3).toList == ByteArray.empty.toList) = true
  ·rw [if_pos c26] at H
   refine kv (g1 c26) (mv) ?_
   refine kv (g1 c26) (faB 5 5) ?_
   refine kv (g1 c26) (ldB) ?_
   obtain ⟨t27, A28, H⟩ := of_bind H
   refine kcS0 75 (.lit (.int .i64 t27)) [] (g1 c26) (cal (spec_l11At.ok A28) [] 9999 .n (hf := Try.func66)) rfl rfl ?_
   refine kv (g1 c26) (mv) ?_
   refine kv (g1 c26) (gtr) ?_
   refine kv g0 (pkT c26) ?_
   refine kv g0 (asg) ?_
   refine wk_end ?_
   refine ac_next ?_
   refine aw_ret ?_
   refine ac_thenR ?_
   obtain rfl := Option.some.inj H
   exact acr hE [.tmp 4] (.tmp .nil) (.one _) [] 9999
  rw [if_neg c26] at H
  refine kx (hT (bF c26)) ?_
  refine kx (hT (bF c26)) ?_
  refine kx (hT (bF c26)) ?_
  refine kx (hT (bF c26)) ?_
  refine kx (hT (bF c26)) ?_
  refine kx (hT (bF c26)) ?_
  refine kv g0 (pkF (bF c26)) ?_
  refine kv g0 (asg) ?_
  refine wk_end ?_
  refine ac_next ?_
  refine aw_ret ?_
  refine ac_thenR ?_
  obtain rfl := Option.some.inj H
  exact acr hE [.tmp 4] (.tmp .nil) (.one _) [] 9999
 rw [if_neg c25] at H
 refine aw_ifF ?_ (eF c25)
 refine aw_skip ?_
 refine ac_next ?_
 refine aw_grp1 ?_
 refine aw_grp1 ?_
 refine wk_start ?_
 refine kv g0 (faB 0 0) ?_
 refine kv g0 (ldB) ?_
 obtain ⟨t29, A30, H⟩ := of_bind H
 refine kcS0 81 (.lit (.bool t29)) [] g0 (cal (spec_l06Ask.ok A30) [] 9999 .n (hf := Try.func46)) rfl rfl ?_
 refine wk_end ?_
 refine ac_next ?_
 by_cases c31 : t29 = true
 ·rw [if_pos c31] at H
  refine aw_ifT ?_ c31
  refine aw_grp1 ?_
  refine wk_start ?_
  refine kv g0 (mv) ?_
  refine kv g0 (faB 5 5) ?_
  refine kv g0 (ldB) ?_
  obtain ⟨t32, A33, H⟩ := of_bind H
  refine kcS0 85 (.lit (.int .i64 t32)) [] g0 (cal (spec_l11At.ok A33) [] 9999 .n (hf := Try.func66)) rfl rfl ?_
  refine kv g0 (mv) ?_
  refine kv g0 (gtr) ?_
  refine kv g0 (mv) ?_
  by_cases c34 : t32 > a1
  ·rw [if_pos c34] at H
   refine kv (g1 (decide_eq_true c34)) (mv) ?_
   refine kv (g1 (decide_eq_true c34)) (faB 6 6) ?_
   refine kv (g1 (decide_eq_true c34)) (ldB) ?_
   obtain ⟨t35, A36, H⟩ := of_bind H
   refine kcS0 92 (.lit (.int .i64 t35)) [] (g1 (decide_eq_true c34)) (cal (spec_l11At.ok A36) [] 9999 .n (hf := Try.func66)) rfl rfl ?_
   refine kv (g1 (decide_eq_true c34)) (mv) ?_
   refine kv (g1 (decide_eq_true c34)) (gtr) ?_
   refine kv g0 (pkT (decide_eq_true c34)) ?_
   refine kv g0 (asg) ?_
   refine wk_end ?_
   refine ac_next ?_
   refine aw_ret ?_
   refine ac_thenR ?_
   obtain rfl := Option.some.inj H
   exact acr hE [.tmp 4] (.tmp .nil) (.one _) [] 9999
  rw [if_neg c34] at H
  refine kx (hT (decide_eq_false c34)) ?_
  refine kx (hT (decide_eq_false c34)) ?_
  refine kx (hT (decide_eq_false c34)) ?_
  refine kx (hT (decide_eq_false c34)) ?_
  refine kx (hT (decide_eq_false c34)) ?_
  refine kx (hT (decide_eq_false c34)) ?_
  refine kv g0 (pkF (decide_eq_false c34)) ?_
  refine kv g0 (asg) ?_
  refine wk_end ?_
  refine ac_next ?_
  refine aw_ret ?_
  refine ac_thenR ?_
  obtain rfl := Option.some.inj H
  exact acr hE [.tmp 4] (.tmp .nil) (.one _) [] 9999
 rw [if_neg c31] at H
 refine aw_ifF ?_ (bF c31)
 refine aw_skip ?_
 refine ac_next ?_
 refine aw_grp1 ?_
 refine wk_start ?_
 refine kv g0 (faB 5 5) ?_
 refine kv g0 (ldB) ?_
 refine kv g0 (seq) ?_
 refine kv g0 (mv) ?_
 by_cases c37 : (((rd_T76 l0 a1).f2).toList == ByteArray.empty.toList) = true
 ·rw [if_pos c37] at H
  refine kv (g1 c37) (faB 6 6) ?_
  refine kv (g1 c37) (ldB) ?_
  refine kv (g1 c37) (seq) ?_
  refine kv g0 (pkT c37) ?_
  refine kv g0 (asg) ?_
  refine wk_end ?_
  refine ac_next ?_
  refine aw_ret ?_
  obtain rfl := Option.some.inj H
  exact acr hE [.tmp 4] (.tmp .nil) (.one _) [] 9999
 rw [if_neg c37] at H
 refine kx (hT (bF c37)) ?_
 refine kx (hT (bF c37)) ?_
 refine kx (hT (bF c37)) ?_
 refine kv g0 (pkF (bF c37)) ?_
 refine kv g0 (asg) ?_
 refine wk_end ?_
 refine ac_next ?_
 refine aw_ret ?_
 obtain rfl := Option.some.inj H
 exact acr hE [.tmp 4] (.tmp .nil) (.one _) [] 9999
/-! spec_LinesOk -/
def spec_LinesOk.l0 : Nat → (List S76) → Int → Option (Bool)
 | 0, _, _ => none
 | k13 + 1, l0, p12 => if p12 < (l0.length : Int) then (spec_l11Line.f k13 l0 p12).bind fun t15 => if t15 = true then spec_LinesOk.l0 k13 l0 (wrap64 (p12 + 1)) else some false else some true
def spec_LinesOk.f (k : Nat) (l0 : List S76) : Option (Bool) := (spec_l01In.f (l0.length : Int) 1 600).bind fun t1 => (if t1 = true then (if 0 ≤ (wrap64 ((l0.length : Int) - 1)) then (if (wrap64 ((l0.length : Int) - 1)) < (l0.length : Int) then if ((rd_T76 l0 (wrap64 ((l0.length : Int) - 1))).f1.f0) = 8 then spec_LinesOk.l0 k l0 0 else some false else none) else none) else some false)
theorem spec_LinesOk.ok {k : Nat} {l0 : List S76} {r : Bool} (H : spec_LinesOk.f k l0 = some r) : ACalls Try.prog 64 [] [.sl .o 7 (l0.map e76)] [] (.lit (.bool r)) := by
 refine acalls (fn := Try.f64) (nt := 29) Try.func64 rfl rfl (Nat.le_of_ble_eq_true rfl) fun E hE => ?_
 rw [spec_LinesOk.f] at H
 refine aw_grp1 ?_
 refine wk_start ?_
 refine kv g0 (asg) ?_
 refine wk_end ?_
 refine ac_next ?_
 refine aw_grp1 ?_
 refine aw_grp1 ?_
 refine wk_start ?_
 refine kv g0 (mv) ?_
 refine kv g0 (lnS lenE) ?_
 obtain ⟨t1, A2, H⟩ := of_bind H
 refine kcS0 6 (.lit (.bool t1)) [] g0 (cal (spec_l01In.ok A2) [] 9999 .n (hf := Try.func22)) rfl rfl ?_
 refine kv g0 (not_) ?_
 refine kv g0 (mv) ?_
 by_cases c3 : t1 = true
 ·rw [if_pos c3] at H
  refine kv (g1 (nF c3)) (mv) ?_
  refine kv (g1 (nF c3)) (mv) ?_
  refine kv (g1 (nF c3)) (lnS lenE) ?_
  refine kv (g1 (nF c3)) (sub6) ?_
  obtain ⟨c4, H⟩ := of_if H
  obtain ⟨c5, H⟩ := of_if H
  refine kv (g1 (nF c3)) (ixS 76 (e76 (rd_T76 l0 (wrap64 ((l0.length : Int) - 1)))) c4 (getE (z := z76) c4 c5)) ?_
  refine kv (g1 (nF c3)) (faR 1 1) ?_
  refine kv (g1 (nF c3)) (faR 0 1) ?_
  refine kv (g1 (nF c3)) (ldR (.lit (.int .i64 ((rd_T76 l0 (wrap64 ((l0.length : Int) - 1))).f1.f0)))) ?_
  refine kv (g1 (nF c3)) (neq) ?_
  refine kv g0 (pkF (nF c3)) ?_
  refine wk_end ?_
  refine ac_next ?_
  by_cases c6 : ((rd_T76 l0 (wrap64 ((l0.length : Int) - 1))).f1.f0) = 8
  ·rw [if_pos c6] at H
   refine aw_ifF ?_ (eM c6)
   refine aw_skip ?_
   refine ac_next ?_
   refine aw_grp1 ?_
   refine aw_grp1 ?_
   refine wk_start ?_
   refine kv g0 (asg) ?_
   refine wk_end ?_
   refine ac_next ?_
   refine aw_block ?_
   refine aw_loop1 (fun (k_ : Nat) (p12 : Int) => k_ ≤ k ∧ spec_LinesOk.l0 k_ l0 p12 = some r) (fun (p12 : Int) => ⟨[(0, .sl .o 7 (l0.map e76)), (3, .lit (.int .i64 p12))], []⟩) k 0 ⟨Nat.le_refl _, H⟩ (fun K_ h_ => acw hE [] 9999 h_) (fun _ => by intro h_; have h_ := h_.2; rw [spec_LinesOk.l0.eq_1] at h_; cases h_) ?_
   intro k13 p12 hq_ K18 hK19
   have hk13 := hq_.1
   have H := hq_.2
   clear hq_
   rw [spec_LinesOk.l0.eq_2] at H
   refine aw_grp1 ?_
   refine aw_grp1 ?_
   refine wk_start ?_
   refine kv g0 (mv) ?_
   refine kv g0 (mv) ?_
   refine kv g0 (lnS lenE) ?_
   refine kv g0 (lss) ?_
   refine wk_end ?_
   refine ac_next ?_
   by_cases c14 : p12 < (l0.length : Int)
   ·rw [if_pos c14] at H
    refine aw_ifT ?_ (decide_eq_true c14)
    refine aw_skip ?_
    refine ac_next ?_
    refine aw_grp1 ?_
    refine aw_block ?_
    refine aw_grp1 ?_
    refine wk_start ?_
    refine kv g0 (mv) ?_
    refine kv g0 (mv) ?_
    obtain ⟨t15, A16, H⟩ := of_bind H
    refine kcS0 27 (.lit (.bool t15)) [] g0 (cal (spec_l11Line.ok A16) [] 9999 .n (hf := Try.func75)) rfl rfl ?_
    refine kv g0 (not_) ?_
    refine wk_end ?_
    refine ac_next ?_
    by_cases c17 : t15 = true
    ·rw [if_pos c17] at H
     refine aw_ifF ?_ (nF c17)
     refine aw_skip ?_
     refine ac_blkN ?_
     refine ac_next ?_
     refine wk_start ?_
     refine kv g0 (mv) ?_
     refine kv g0 (add6) ?_
     refine kv g0 (asg) ?_
     refine wk_end ?_
     refine ac_k ?_
     exact acw hE [] 9999 (hK19 k13 (wrap64 (p12 + 1)) (Nat.le_refl _) ⟨by omega, H⟩)
    rw [if_neg c17] at H
    refine aw_ifT ?_ (nT (bF c17))
    refine aw_grp1 ?_
    refine wk_start ?_
    refine kv g0 (asg) ?_
    refine wk_end ?_
    refine ac_next ?_
    refine aw_ret ?_
    refine ac_blkR ?_
    refine ac_thenR ?_
    refine ac_thenR ?_
    refine ac_blkR ?_
    refine ac_thenR ?_
    obtain rfl := Option.some.inj H
    exact acr hE [.tmp 2] (.tmp .nil) (.one _) [] 9999
   rw [if_neg c14] at H
   refine aw_ifF ?_ (decide_eq_false c14)
   refine aw_exit ?_
   refine ac_then ?_
   refine ac_then ?_
   refine ac_hit rfl ?_
   refine ac_next ?_
   refine aw_grp1 ?_
   refine wk_start ?_
   refine kv g0 (asg) ?_
   refine wk_end ?_
   refine ac_next ?_
   refine aw_ret ?_
   obtain rfl := Option.some.inj H
   exact acr hE [.tmp 2] (.tmp .nil) (.one _) [] 9999
  rw [if_neg c6] at H
  refine aw_ifT ?_ (eN c6)
  refine aw_grp1 ?_
  refine wk_start ?_
  refine kv g0 (asg) ?_
  refine wk_end ?_
  refine ac_next ?_
  refine aw_ret ?_
  refine ac_thenR ?_
  obtain rfl := Option.some.inj H
  exact acr hE [.tmp 2] (.tmp .nil) (.one _) [] 9999
 rw [if_neg c3] at H
 refine kx (hF (nT (bF c3))) ?_
 refine kx (hF (nT (bF c3))) ?_
 refine kx (hF (nT (bF c3))) ?_
 refine kx (hF (nT (bF c3))) ?_
 refine kx (hF (nT (bF c3))) ?_
 refine kx (hF (nT (bF c3))) ?_
 refine kx (hF (nT (bF c3))) ?_
 refine kx (hF (nT (bF c3))) ?_
 refine kx (hF (nT (bF c3))) ?_
 refine kv g0 (pkT (nT (bF c3))) ?_
 refine wk_end ?_
 refine ac_next ?_
 refine aw_ifT ?_ rfl
 refine aw_grp1 ?_
 refine wk_start ?_
 refine kv g0 (asg) ?_
 refine wk_end ?_
 refine ac_next ?_
 refine aw_ret ?_
 refine ac_thenR ?_
 obtain rfl := Option.some.inj H
 exact acr hE [.tmp 2] (.tmp .nil) (.one _) [] 9999
/-! spec_l11Ways -/
mutual
def spec_l11Ways.j1 : Nat → (List S76) → (List Int) → (List Int) → Int → Int → Int → Option ((List Int) × (List Int))
 | 0, _, _, _, _, _, _ => none
 | k33 + 1, l0, q17, q18, p19, p26, p32 => if q17.length + ([p26] : List Int).length < 17592186044416 then if q18.length + ([p32] : List Int).length < 17592186044416 then spec_l11Ways.l0 k33 l0 (q17 ++ ([p26] : List Int)) (q18 ++ ([p32] : List Int)) (wrap64 (p19 + 1)) else none else none
def spec_l11Ways.j0 : Nat → (List S76) → (List Int) → (List Int) → Int → Int → Option ((List Int) × (List Int))
 | 0, _, _, _, _, _ => none
 | k27 + 1, l0, q17, q18, p19, p26 => if 0 ≤ p19 then if (((rd_T76 l0 p19).f3).toList == ByteArray.empty.toList) = true then spec_l11Ways.j1 k27 l0 q17 q18 p19 p26 (-1) else ((spec_l11At.f k27 l0 ((rd_T76 l0 p19).f3)).bind fun t30 => spec_l11Ways.j1 k27 l0 q17 q18 p19 p26 t30) else none
def spec_l11Ways.l0 : Nat → (List S76) → (List Int) → (List Int) → Int → Option ((List Int) × (List Int))
 | 0, _, _, _, _ => none
 | k20 + 1, l0, q17, q18, p19 => if p19 < (l0.length : Int) then if 0 ≤ p19 then if (((rd_T76 l0 p19).f2).toList == ByteArray.empty.toList) = true then spec_l11Ways.j0 k20 l0 q17 q18 p19 (-1) else ((spec_l11At.f k20 l0 ((rd_T76 l0 p19).f2)).bind fun t24 => spec_l11Ways.j0 k20 l0 q17 q18 p19 t24) else none else some (q17, q18)
end
def spec_l11Ways.f (k : Nat) (l0 : List S76) : Option ((List Int) × (List Int)) := spec_l11Ways.l0 k l0 ([] : List Int) ([] : List Int) 0
theorem spec_l11Ways.ok {k : Nat} {l0 : List S76} {r : (List Int) × (List Int)} (H : spec_l11Ways.f k l0 = some r) : ACalls Try.prog 44 [] [.sl .o 7 (l0.map e76)] [(0, .row 3 1 (r.1.map (eI .i64))), (1, .row 3 1 (r.2.map (eI .i64)))] (.tup [.row 0, .row 1]) := by
 refine acalls (fn := Try.f44) (nt := 53) Try.func44 rfl rfl (Nat.le_of_ble_eq_true rfl) fun E hE => ?_
 rw [spec_l11Ways.f] at H
 refine aw_grp1 ?_
 refine wk_start ?_
 refine kv g0 (asg) ?_
 refine kv g0 (asg) ?_
 refine wk_end ?_
 refine ac_next ?_
 refine aw_grp1 ?_
 refine wk_start ?_
 refine kb g0 (bsl 0 3 1 [.int .i64 0] (([] : List Int).map (eI .i64))) ?_
 refine kv g0 (asg) ?_
 refine wk_end ?_
 refine ac_next ?_
 refine aw_grp1 ?_
 refine wk_start ?_
 refine kb g0 (bsl 1 3 1 [.int .i64 0] (([] : List Int).map (eI .i64))) ?_
 refine kv g0 (asg) ?_
 refine wk_end ?_
 refine ac_next ?_
 refine aw_grp1 ?_
 refine aw_grp1 ?_
 refine wk_start ?_
 refine kv g0 (asg) ?_
 refine wk_end ?_
 refine ac_next ?_
 refine aw_block ?_
 refine aw_loop3 (fun (k_ : Nat) (q17 : List Int) (q18 : List Int) (p19 : Int) => k_ ≤ k ∧ spec_l11Ways.l0 k_ l0 q17 q18 p19 = some r) (fun (q17 : List Int) (q18 : List Int) (p19 : Int) => ⟨[(0, .sl .o 7 (l0.map e76)), (4, .row 0), (5, .row 1), (6, .lit (.int .i64 p19))], [(0, .row 3 1 (q17.map (eI .i64))), (1, .row 3 1 (q18.map (eI .i64)))]⟩) k ([] : List Int) ([] : List Int) 0 ⟨Nat.le_refl _, H⟩ (fun K_ h_ => acw hE [(0, 0), (1, 1)] 9999 h_) (fun _ _ _ => by intro h_; have h_ := h_.2; rw [spec_l11Ways.l0.eq_1] at h_; cases h_) ?_
 intro k20 q17 q18 p19 hq_ K38 hK39
 have hk20 := hq_.1
 have H := hq_.2
 clear hq_
 rw [spec_l11Ways.l0.eq_2] at H
 refine aw_grp1 ?_
 refine aw_grp1 ?_
 refine wk_start ?_
 refine kv g0 (mv) ?_
 refine kv g0 (mv) ?_
 refine kv g0 (lnS lenE) ?_
 refine kv g0 (lss) ?_
 refine wk_end ?_
 refine ac_next ?_
 by_cases c21 : p19 < (l0.length : Int)
 ·rw [if_pos c21] at H
  refine aw_ifT ?_ (decide_eq_true c21)
  refine aw_skip ?_
  refine ac_next ?_
  refine aw_grp1 ?_
  refine aw_block ?_
  refine aw_grp1 ?_
  refine wk_start ?_
  refine kv g0 (asg) ?_
  refine wk_end ?_
  refine ac_next ?_
  refine aw_grp1 ?_
  refine wk_start ?_
  refine kv g0 (asg) ?_
  refine wk_end ?_
  refine ac_next ?_
  refine aw_cut1 (J := fun K_ => ∀ (k_ : Nat) (p26 : Int), k_ ≤ k20 → spec_l11Ways.j0 k_ l0 q17 q18 p19 p26 = some r → ACont E 53 ⟨[(0, .sl .o 7 (l0.map e76)), (4, .row 0), (5, .row 1), (6, .lit (.int .i64 p19)), (7, .lit (.int .i64 p26)), (8, .lit (.int .i64 (-1)))], [(0, .row 3 1 (q17.map (eI .i64))), (1, .row 3 1 (q18.map (eI .i64)))]⟩ K_) ?_ ?_
  ·intro K_ hJ37
   refine aw_grp1 ?_
   refine wk_start ?_
   refine kv g0 (mv) ?_
   refine kv g0 (mv) ?_
   obtain ⟨c22, H⟩ := of_if H
   refine kv g0 (ixS 76 (e76 (rd_T76 l0 p19)) c22 (getE (z := z76) c22 c21)) ?_
   refine kv g0 (faR 5 5) ?_
   refine kv g0 (ldR (.lit (.string ((rd_T76 l0 p19).f2)))) ?_
   refine kv g0 (sne) ?_
   refine wk_end ?_
   refine ac_next ?_
   by_cases c23 : (((rd_T76 l0 p19).f2).toList == ByteArray.empty.toList) = true
   ·rw [if_pos c23] at H
    refine aw_ifF ?_ (nF c23)
    refine aw_skip ?_
    refine ac_k ?_
    exact acw hE [(0, 0), (1, 1)] 9999 (hJ37 k20 (-1) (Nat.le_refl _) H)
   rw [if_neg c23] at H
   refine aw_ifT ?_ (nT (bF c23))
   refine wk_start ?_
   refine kv g0 (mv) ?_
   refine kv g0 (mv) ?_
   refine kv g0 (mv) ?_
   refine kv g0 (ixS 76 (e76 (rd_T76 l0 p19)) c22 (getE (z := z76) c22 c21)) ?_
   refine kv g0 (faR 5 5) ?_
   refine kv g0 (ldR (.lit (.string ((rd_T76 l0 p19).f2)))) ?_
   obtain ⟨t24, A25, H⟩ := of_bind H
   refine kcS0 29 (.lit (.int .i64 t24)) [] g0 (cal (spec_l11At.ok A25) [] 9999 .n (hf := Try.func66)) rfl rfl ?_
   refine kv g0 (asg) ?_
   refine wk_end ?_
   refine ac_k ?_
   exact acw hE [(0, 0), (1, 1)] 9999 (hJ37 k20 t24 (Nat.le_refl _) H)
  intro k_ p26 hk_ H
  rcases k_ with _ | k27
  ·rw [spec_l11Ways.j0.eq_1] at H; cases H
  have hk27 : k27 ≤ k20 := by omega
  clear hk_
  rw [spec_l11Ways.j0.eq_2] at H
  refine aw_cut1 (J := fun K_ => ∀ (k_ : Nat) (p32 : Int), k_ ≤ k27 → spec_l11Ways.j1 k_ l0 q17 q18 p19 p26 p32 = some r → ACont E 53 ⟨[(0, .sl .o 7 (l0.map e76)), (4, .row 0), (5, .row 1), (6, .lit (.int .i64 p19)), (7, .lit (.int .i64 p26)), (8, .lit (.int .i64 p32))], [(0, .row 3 1 (q17.map (eI .i64))), (1, .row 3 1 (q18.map (eI .i64)))]⟩ K_) ?_ ?_
  ·intro K_ hJ36
   refine aw_grp1 ?_
   refine wk_start ?_
   refine kv g0 (mv) ?_
   refine kv g0 (mv) ?_
   obtain ⟨c28, H⟩ := of_if H
   refine kv g0 (ixS 76 (e76 (rd_T76 l0 p19)) c28 (getE (z := z76) c28 c21)) ?_
   refine kv g0 (faR 6 6) ?_
   refine kv g0 (ldR (.lit (.string ((rd_T76 l0 p19).f3)))) ?_
   refine kv g0 (sne) ?_
   refine wk_end ?_
   refine ac_next ?_
   by_cases c29 : (((rd_T76 l0 p19).f3).toList == ByteArray.empty.toList) = true
   ·rw [if_pos c29] at H
    refine aw_ifF ?_ (nF c29)
    refine aw_skip ?_
    refine ac_k ?_
    exact acw hE [(0, 0), (1, 1)] 9999 (hJ36 k27 (-1) (Nat.le_refl _) H)
   rw [if_neg c29] at H
   refine aw_ifT ?_ (nT (bF c29))
   refine wk_start ?_
   refine kv g0 (mv) ?_
   refine kv g0 (mv) ?_
   refine kv g0 (mv) ?_
   refine kv g0 (ixS 76 (e76 (rd_T76 l0 p19)) c28 (getE (z := z76) c28 c21)) ?_
   refine kv g0 (faR 6 6) ?_
   refine kv g0 (ldR (.lit (.string ((rd_T76 l0 p19).f3)))) ?_
   obtain ⟨t30, A31, H⟩ := of_bind H
   refine kcS0 42 (.lit (.int .i64 t30)) [] g0 (cal (spec_l11At.ok A31) [] 9999 .n (hf := Try.func66)) rfl rfl ?_
   refine kv g0 (asg) ?_
   refine wk_end ?_
   refine ac_k ?_
   exact acw hE [(0, 0), (1, 1)] 9999 (hJ36 k27 t30 (Nat.le_refl _) H)
  intro k_ p32 hk_ H
  rcases k_ with _ | k33
  ·rw [spec_l11Ways.j1.eq_1] at H; cases H
  have hk33 : k33 ≤ k27 := by omega
  clear hk_
  rw [spec_l11Ways.j1.eq_2] at H
  refine aw_grp1 ?_
  refine wk_start ?_
  refine kv g0 (mv) ?_
  refine kv g0 (mv) ?_
  refine kb g0 (bsl 2 3 1 [.int .i64 0] (([p26] : List Int).map (eI .i64))) ?_
  obtain ⟨c34, H⟩ := of_if H
  refine kc g0 (apR 3 3 1 8 [.int .i64 0] ((q17 ++ ([p26] : List Int)).map (eI .i64)) (.row rfl) (apb c34 rfl) appE) ?_
  refine kv g0 (asg) ?_
  refine wk_end ?_
  refine ac_next ?_
  refine wk_start ?_
  refine kv g0 (mv) ?_
  refine kv g0 (mv) ?_
  refine kb g0 (bsl 4 3 1 [.int .i64 0] (([p32] : List Int).map (eI .i64))) ?_
  obtain ⟨c35, H⟩ := of_if H
  refine kc g0 (apR 5 3 1 8 [.int .i64 0] ((q18 ++ ([p32] : List Int)).map (eI .i64)) (.row rfl) (apb c35 rfl) appE) ?_
  refine kv g0 (asg) ?_
  refine wk_end ?_
  refine ac_blkN ?_
  refine ac_next ?_
  refine wk_start ?_
  refine kv g0 (mv) ?_
  refine kv g0 (add6) ?_
  refine kv g0 (asg) ?_
  refine wk_end ?_
  refine ac_k ?_
  exact acw hE [(0, 3), (1, 5)] 9999 (hK39 k33 (q17 ++ ([p26] : List Int)) (q18 ++ ([p32] : List Int)) (wrap64 (p19 + 1)) (by omega) ⟨by omega, H⟩)
 rw [if_neg c21] at H
 refine aw_ifF ?_ (decide_eq_false c21)
 refine aw_exit ?_
 refine ac_then ?_
 refine ac_then ?_
 refine ac_hit rfl ?_
 refine ac_next ?_
 refine aw_grp1 ?_
 refine wk_start ?_
 refine kv g0 (mv) ?_
 refine kv g0 (mv) ?_
 refine kv g0 (asg) ?_
 refine kv g0 (asg) ?_
 refine wk_end ?_
 refine ac_next ?_
 refine aw_ret ?_
 obtain rfl := Option.some.inj H
 exact acr hE [.tmp 2, .tmp 3] (.tmp (.tmp .nil)) (.many _ _ _) [(0, 0), (1, 1)] 9999
/-! spec_l11Begins -/
def spec_l11Begins.l0 : Nat → (List Int) → (List Int) → Int → Int → Option ((List Int))
 | 0, _, _, _, _ => none
 | k7 + 1, l0, q4, p5, p6 => if p6 < (l0.length : Int) then if q4.length + ([p5] : List Int).length < 17592186044416 then if 0 ≤ p6 then spec_l11Begins.l0 k7 l0 (q4 ++ ([p5] : List Int)) (wrap64 (p5 + (rd l0 p6))) (wrap64 (p6 + 1)) else none else none else some q4
def spec_l11Begins.f (k : Nat) (l0 : List Int) : Option ((List Int)) := spec_l11Begins.l0 k l0 ([] : List Int) 0 0
theorem spec_l11Begins.ok {k : Nat} {l0 : List Int} {r : (List Int)} (H : spec_l11Begins.f k l0 = some r) : ACalls Try.prog 45 [] [.sl .o 1 (l0.map (eI .i64))] [(0, .row 3 1 (r.map (eI .i64)))] (.row 0) := by
 refine acalls (fn := Try.f45) (nt := 24) Try.func45 rfl rfl (Nat.le_of_ble_eq_true rfl) fun E hE => ?_
 rw [spec_l11Begins.f] at H
 refine aw_grp1 ?_
 refine wk_start ?_
 refine kv g0 (asg) ?_
 refine wk_end ?_
 refine ac_next ?_
 refine aw_grp1 ?_
 refine wk_start ?_
 refine kb g0 (bsl 0 3 1 [.int .i64 0] (([] : List Int).map (eI .i64))) ?_
 refine kv g0 (asg) ?_
 refine wk_end ?_
 refine ac_next ?_
 refine aw_grp1 ?_
 refine wk_start ?_
 refine kv g0 (asg) ?_
 refine wk_end ?_
 refine ac_next ?_
 refine aw_grp1 ?_
 refine aw_grp1 ?_
 refine wk_start ?_
 refine kv g0 (asg) ?_
 refine wk_end ?_
 refine ac_next ?_
 refine aw_block ?_
 refine aw_loop3 (fun (k_ : Nat) (q4 : List Int) (p5 : Int) (p6 : Int) => k_ ≤ k ∧ spec_l11Begins.l0 k_ l0 q4 p5 p6 = some r) (fun (q4 : List Int) (p5 : Int) (p6 : Int) => ⟨[(0, .sl .o 1 (l0.map (eI .i64))), (3, .row 0), (4, .lit (.int .i64 p5)), (5, .lit (.int .i64 p6))], [(0, .row 3 1 (q4.map (eI .i64)))]⟩) k ([] : List Int) 0 0 ⟨Nat.le_refl _, H⟩ (fun K_ h_ => acw hE [(0, 0)] 9999 h_) (fun _ _ _ => by intro h_; have h_ := h_.2; rw [spec_l11Begins.l0.eq_1] at h_; cases h_) ?_
 intro k7 q4 p5 p6 hq_ K11 hK12
 have hk7 := hq_.1
 have H := hq_.2
 clear hq_
 rw [spec_l11Begins.l0.eq_2] at H
 refine aw_grp1 ?_
 refine aw_grp1 ?_
 refine wk_start ?_
 refine kv g0 (mv) ?_
 refine kv g0 (mv) ?_
 refine kv g0 (lnS lenE) ?_
 refine kv g0 (lss) ?_
 refine wk_end ?_
 refine ac_next ?_
 by_cases c8 : p6 < (l0.length : Int)
 ·rw [if_pos c8] at H
  refine aw_ifT ?_ (decide_eq_true c8)
  refine aw_skip ?_
  refine ac_next ?_
  refine aw_grp1 ?_
  refine aw_block ?_
  refine aw_grp1 ?_
  refine wk_start ?_
  refine kv g0 (mv) ?_
  refine kv g0 (mv) ?_
  refine kb g0 (bsl 1 3 1 [.int .i64 0] (([p5] : List Int).map (eI .i64))) ?_
  obtain ⟨c9, H⟩ := of_if H
  refine kc g0 (apR 2 3 1 8 [.int .i64 0] ((q4 ++ ([p5] : List Int)).map (eI .i64)) (.row rfl) (apb c9 rfl) appE) ?_
  refine kv g0 (asg) ?_
  refine wk_end ?_
  refine ac_next ?_
  refine wk_start ?_
  refine kv g0 (mv) ?_
  refine kv g0 (mv) ?_
  refine kv g0 (mv) ?_
  obtain ⟨c10, H⟩ := of_if H
  refine kv g0 (ixS 3 (eI .i64 (rd l0 p6)) c10 (getE (z := (0 : Int)) c10 c8)) ?_
  refine kv g0 (ldR (.lit (.int .i64 (rd l0 p6)))) ?_
  refine kv g0 (add6) ?_
  refine kv g0 (asg) ?_
  refine wk_end ?_
  refine ac_blkN ?_
  refine ac_next ?_
  refine wk_start ?_
  refine kv g0 (mv) ?_
  refine kv g0 (add6) ?_
  refine kv g0 (asg) ?_
  refine wk_end ?_
  refine ac_k ?_
  exact acw hE [(0, 2)] 9999 (hK12 k7 (q4 ++ ([p5] : List Int)) (wrap64 (p5 + (rd l0 p6))) (wrap64 (p6 + 1)) (Nat.le_refl _) ⟨by omega, H⟩)
 rw [if_neg c8] at H
 refine aw_ifF ?_ (decide_eq_false c8)
 refine aw_exit ?_
 refine ac_then ?_
 refine ac_then ?_
 refine ac_hit rfl ?_
 refine ac_next ?_
 refine aw_grp1 ?_
 refine wk_start ?_
 refine kv g0 (mv) ?_
 refine kv g0 (asg) ?_
 refine wk_end ?_
 refine ac_next ?_
 refine aw_ret ?_
 obtain rfl := Option.some.inj H
 exact acr hE [.tmp 2] (.tmp .nil) (.one _) [(0, 0)] 9999
end Go.Proofs.Ytlmpaphlnlgelaa.PFnWaysShort
