import Derived.Test.YtkkglhhkpihmgaaPFnExactWorldNewx0
set_option linter.unusedVariables false
set_option linter.unusedSimpArgs false
set_option maxRecDepth 100000
namespace Go.Proofs.Ytkkglhhkpihmgaa.PFnExactWorldNew
open Go Go.RowKit Go.Proofs.YtkkglhhkpihmgaaA
/-! spec_KeeperNew -/
def spec_KeeperNew.l0 : Nat → (List Int) → (List Int) → Int → Option ((List Int) × Int × (List Int))
 | 0, _, _, _ => none
 | k6 + 1, q3, q4, p5 => if p5 < 3 then if q3.length + ([1] : List Int).length < 17592186044416 then if q4.length + ([1] : List Int).length < 17592186044416 then spec_KeeperNew.l0 k6 (q3 ++ ([1] : List Int)) (q4 ++ ([1] : List Int)) (wrap64 (p5 + 1)) else none else none else some (q3, 0, q4)
def spec_KeeperNew.f (k : Nat)  : Option ((List Int) × Int × (List Int)) := spec_KeeperNew.l0 k ([]) ([]) 0
theorem spec_KeeperNew.ok {k : Nat} {r : (List Int) × Int × (List Int)} (H : spec_KeeperNew.f k = some r) : ACalls Try.prog 17 [] [] [(0, .row 3 1 (r.1.map (eI .i64))), (1, .row 3 1 (r.2.2.map (eI .i64)))] (.agg [.lit (.slice none 0 0), .row 0, .lit (.slice none 0 0), .lit (.int .i64 r.2.1), .row 1]) := by
 refine acalls (fn := Try.f17) (nt := 19) Try.func17 rfl rfl (Nat.le_of_ble_eq_true rfl) fun E hE => ?_
 rw [spec_KeeperNew.f] at H
 refine aw_grp1 ?_
 refine wk_start ?_
 refine kb g0 (alc 0 [.slice none 0 0, .slice none 0 0, .slice none 0 0, .int .i64 0, .slice none 0 0] [.lit (.slice none 0 0), .lit (.slice none 0 0), .lit (.slice none 0 0), .lit (.int .i64 0), .lit (.slice none 0 0)]) ?_
 refine wk_end ?_
 refine ac_next ?_
 refine aw_grp1 ?_
 refine wk_start ?_
 refine kv g0 (bld [(0, 1), (1, 1), (2, 1), (3, 1), (4, 1)] [.slice none 0 0, .slice none 0 0, .slice none 0 0, .int .i64 0, .slice none 0 0] [.lit (.slice none 0 0), .lit (.slice none 0 0), .lit (.slice none 0 0), .lit (.int .i64 0), .lit (.slice none 0 0)]) ?_
 refine kb g0 (alc 1 [.slice none 0 0, .slice none 0 0, .slice none 0 0, .int .i64 0, .slice none 0 0] [.lit (.slice none 0 0), .lit (.slice none 0 0), .lit (.slice none 0 0), .lit (.int .i64 0), .lit (.slice none 0 0)]) ?_
 refine ks g0 (stB 5 [.lit (.slice none 0 0), .lit (.slice none 0 0), .lit (.slice none 0 0), .lit (.int .i64 0), .lit (.slice none 0 0)]) ?_
 refine wk_end ?_
 refine ac_next ?_
 refine aw_grp1 ?_
 refine aw_grp1 ?_
 refine wk_start ?_
 refine kv g0 (asg) ?_
 refine wk_end ?_
 refine ac_next ?_
 refine aw_block ?_
 refine ac_nilB 1 1 6 3 1 [.lit (.slice none 0 0), .row 6, .lit (.slice none 0 0), .lit (.int .i64 0), .lit (.slice none 0 0)] ?_
 refine ac_nilB 1 4 7 3 1 [.lit (.slice none 0 0), .row 6, .lit (.slice none 0 0), .lit (.int .i64 0), .row 7] ?_
 refine aw_loop3 (fun (k_ : Nat) (q3 : List Int) (q4 : List Int) (p5 : Int) => k_ ≤ k ∧ spec_KeeperNew.l0 k_ q3 q4 p5 = some r) (fun (q3 : List Int) (q4 : List Int) (p5 : Int) => ⟨[(0, .box 0 0), (1, .box 1 0), (2, .lit (.int .i64 p5))], [(0, .box 29 [.lit (.slice none 0 0), .lit (.slice none 0 0), .lit (.slice none 0 0), .lit (.int .i64 0), .lit (.slice none 0 0)]), (1, .box 29 [.lit (.slice none 0 0), .row 6, .lit (.slice none 0 0), .lit (.int .i64 0), .row 7]), (6, .row 3 1 (q3.map (eI .i64))), (7, .row 3 1 (q4.map (eI .i64)))]⟩) k ([]) ([]) 0 ⟨Nat.le_refl _, H⟩ (fun K_ h_ => acw hE [(0, 0), (1, 1), (6, 6), (7, 7)] 9999 h_) (fun _ _ _ => by intro h_; have h_ := h_.2; rw [spec_KeeperNew.l0.eq_1] at h_; cases h_) ?_
 intro k6 q3 q4 p5 hq_ K10 hK11
 have hk6 := hq_.1
 have H := hq_.2
 clear hq_
 rw [spec_KeeperNew.l0.eq_2] at H
 refine aw_grp1 ?_
 refine aw_grp1 ?_
 refine wk_start ?_
 refine kv g0 (mv) ?_
 refine kv g0 (lss) ?_
 refine wk_end ?_
 refine ac_next ?_
 by_cases c7 : p5 < 3
 ·rw [if_pos c7] at H
  refine aw_ifT ?_ (decide_eq_true c7)
  refine aw_skip ?_
  refine ac_next ?_
  refine aw_grp1 ?_
  refine aw_block ?_
  refine aw_grp1 ?_
  refine wk_start ?_
  refine kv g0 (faB 1 1) ?_
  refine kv g0 (ldB) ?_
  refine kb g0 (bsl 8 3 1 [.int .i64 0] (([1] : List Int).map (eI .i64))) ?_
  obtain ⟨c8, H⟩ := of_if H
  refine kc g0 (apR 9 3 1 8 [.int .i64 0] ((q3 ++ ([1] : List Int)).map (eI .i64)) (.row rfl) (apb c8 rfl) appE) ?_
  refine kv g0 (faB 1 1) ?_
  refine ks g0 (stB 1 [.lit (.slice none 0 0), .row 9, .lit (.slice none 0 0), .lit (.int .i64 0), .row 7]) ?_
  refine wk_end ?_
  refine ac_next ?_
  refine wk_start ?_
  refine kv g0 (faB 4 4) ?_
  refine kv g0 (ldB) ?_
  refine kb g0 (bsl 10 3 1 [.int .i64 0] (([1] : List Int).map (eI .i64))) ?_
  obtain ⟨c9, H⟩ := of_if H
  refine kc g0 (apR 11 3 1 8 [.int .i64 0] ((q4 ++ ([1] : List Int)).map (eI .i64)) (.row rfl) (apb c9 rfl) appE) ?_
  refine kv g0 (faB 4 4) ?_
  refine ks g0 (stB 1 [.lit (.slice none 0 0), .row 9, .lit (.slice none 0 0), .lit (.int .i64 0), .row 11]) ?_
  refine wk_end ?_
  refine ac_blkN ?_
  refine ac_next ?_
  refine wk_start ?_
  refine kv g0 (mv) ?_
  refine kv g0 (add6) ?_
  refine kv g0 (asg) ?_
  refine wk_end ?_
  refine ac_k ?_
  exact acw hE [(0, 0), (1, 1), (6, 9), (7, 11)] 9999 (hK11 k6 (q3 ++ ([1] : List Int)) (q4 ++ ([1] : List Int)) (wrap64 (p5 + 1)) (Nat.le_refl _) ⟨by omega, H⟩)
 rw [if_neg c7] at H
 refine aw_ifF ?_ (decide_eq_false c7)
 refine aw_exit ?_
 refine ac_then ?_
 refine ac_then ?_
 refine ac_hit rfl ?_
 refine ac_next ?_
 refine aw_grp1 ?_
 refine wk_start ?_
 refine kv g0 (ldBA 5 [.lit (.slice none 0 0), .row 6, .lit (.slice none 0 0), .lit (.int .i64 0), .row 7]) ?_
 refine ks g0 (stB 5 [.lit (.slice none 0 0), .row 6, .lit (.slice none 0 0), .lit (.int .i64 0), .row 7]) ?_
 refine wk_end ?_
 refine ac_next ?_
 refine aw_ret ?_
 obtain rfl := Option.some.inj H
 exact acr hE [.cell 0 29] (rcA 5 .nil) (.one _) [(0, 6), (1, 7)] 9999
/-! spec_RingNew -/
def spec_RingNew.f  : Option ((List S131) × Int × Int × Int) := some (([] : List S131), 5, 0, 0)
theorem spec_RingNew.ok {r : (List S131) × Int × Int × Int} (H : spec_RingNew.f = some r) : ACalls Try.prog 18 [] [] [] (.agg [.sl .n 4 (r.1.map e131), .lit (.int .i64 r.2.1), .lit (.int .i64 r.2.2.1), .lit (.int .i64 r.2.2.2)]) := by
 refine acalls (fn := Try.f18) (nt := 2) Try.func18 rfl rfl (Nat.le_of_ble_eq_true rfl) fun E hE => ?_
 rw [spec_RingNew.f] at H
 refine aw_grp1 ?_
 refine wk_start ?_
 refine kb g0 (alc 0 [.slice none 0 0, .int .i64 0, .int .i64 0, .int .i64 0] [.lit (.slice none 0 0), .lit (.int .i64 0), .lit (.int .i64 0), .lit (.int .i64 0)]) ?_
 refine wk_end ?_
 refine ac_next ?_
 refine aw_grp1 ?_
 refine wk_start ?_
 refine kv g0 (bld [(0, 1), (1, 1), (2, 1), (3, 1)] [.slice none 0 0, .int .i64 0, .int .i64 0, .int .i64 0] [.lit (.slice none 0 0), .lit (.int .i64 5), .lit (.int .i64 0), .lit (.int .i64 0)]) ?_
 refine ks g0 (stB 4 [.lit (.slice none 0 0), .lit (.int .i64 5), .lit (.int .i64 0), .lit (.int .i64 0)]) ?_
 refine wk_end ?_
 refine ac_next ?_
 refine aw_ret ?_
 refine ac_nzB 0 [.sl .n 4 (([] : List S131).map e131), .lit (.int .i64 5), .lit (.int .i64 0), .lit (.int .i64 0)] ?_
 obtain rfl := Option.some.inj H
 exact acr hE [.cell 0 59] (rcA 4 .nil) (.one _) [] 9999
/-! spec_SenderNew -/
def spec_SenderNew.f (a0 : Int) : Option (Int × Int × (List S131) × Int × Int) := some (a0, 1, ([] : List S131), 0, 1)
theorem spec_SenderNew.ok {a0 : Int} {r : Int × Int × (List S131) × Int × Int} (H : spec_SenderNew.f a0 = some r) : ACalls Try.prog 19 [] [.lit (.int .i64 a0)] [] (.agg [.lit (.int .i64 r.1), .lit (.int .i64 r.2.1), .sl .n 4 (r.2.2.1.map e131), .lit (.int .i64 r.2.2.2.1), .lit (.int .i64 r.2.2.2.2)]) := by
 refine acalls (fn := Try.f19) (nt := 5) Try.func19 rfl rfl (Nat.le_of_ble_eq_true rfl) fun E hE => ?_
 rw [spec_SenderNew.f] at H
 refine aw_grp1 ?_
 refine wk_start ?_
 refine kb g0 (alc 0 [.int .i64 0, .int .i64 0, .slice none 0 0, .int .i64 0, .int .i64 0] [.lit (.int .i64 0), .lit (.int .i64 0), .lit (.slice none 0 0), .lit (.int .i64 0), .lit (.int .i64 0)]) ?_
 refine wk_end ?_
 refine ac_next ?_
 refine aw_grp1 ?_
 refine wk_start ?_
 refine kv g0 (mv) ?_
 refine kv g0 (bld [(0, 1), (1, 1), (2, 1), (3, 1), (4, 1)] [.int .i64 0, .int .i64 0, .slice none 0 0, .int .i64 0, .int .i64 0] [.lit (.int .i64 a0), .lit (.int .i64 1), .lit (.slice none 0 0), .lit (.int .i64 0), .lit (.int .i64 1)]) ?_
 refine ks g0 (stB 5 [.lit (.int .i64 a0), .lit (.int .i64 1), .lit (.slice none 0 0), .lit (.int .i64 0), .lit (.int .i64 1)]) ?_
 refine wk_end ?_
 refine ac_next ?_
 refine aw_ret ?_
 refine ac_nzB 0 [.lit (.int .i64 a0), .lit (.int .i64 1), .sl .n 4 (([] : List S131).map e131), .lit (.int .i64 0), .lit (.int .i64 1)] ?_
 obtain rfl := Option.some.inj H
 exact acr hE [.cell 2 62] (rcA 5 .nil) (.one _) [] 9999
/-! spec_WorldNew -/
def spec_WorldNew.l0 : Nat → ((List Int) × Int × (List Int)) → (List (List (List S151))) → (List S59) → (List S62) → Int → Option ((List (List (List S151))) × (List S59) × (List S62) × (List Int) × Int × (List Int) × Int)
 | 0, _, _, _, _, _ => none
 | k15 + 1, t1, q11, q12, q13, p14 => if p14 < 3 then if q11.length + ([([] : List (List S151))] : List (List (List S151))).length < 5864062014805 then (spec_RingNew.f).bind fun t18 => (if q12.length + ([(⟨t18.1, t18.2.1, t18.2.2.1, t18.2.2.2⟩ : S59)] : List S59).length < 2932031007402 then (spec_SenderNew.f p14).bind fun t21 => (if q13.length + ([(⟨t21.1, t21.2.1, t21.2.2.1, t21.2.2.2.1, t21.2.2.2.2⟩ : S62)] : List S62).length < 2513169434916 then spec_WorldNew.l0 k15 t1 (q11 ++ ([([] : List (List S151))] : List (List (List S151)))) (q12 ++ ([(⟨t18.1, t18.2.1, t18.2.2.1, t18.2.2.2⟩ : S59)] : List S59)) (q13 ++ ([(⟨t21.1, t21.2.1, t21.2.2.1, t21.2.2.2.1, t21.2.2.2.2⟩ : S62)] : List S62)) (wrap64 (p14 + 1)) else none) else none) else none else some (q11, q12, q13, t1.1, t1.2.1, t1.2.2, 0)
def spec_WorldNew.f (k : Nat)  : Option ((List (List (List S151))) × (List S59) × (List S62) × (List Int) × Int × (List Int) × Int) := (spec_KeeperNew.f k).bind fun t1 => spec_WorldNew.l0 k t1 ([]) ([]) ([]) 0
theorem spec_WorldNew.ok {k : Nat} {r : (List (List (List S151))) × (List S59) × (List S62) × (List Int) × Int × (List Int) × Int} (H : spec_WorldNew.f k = some r) : ACalls Try.prog 5 [] [] [(0, .row 56 1 (r.1.map (eL 1 (eL 4 (e151))))), (1, .row 59 4 (r.2.1.map e59)), (2, .row 62 5 (r.2.2.1.map e62)), (3, .row 3 1 (r.2.2.2.1.map (eI .i64))), (4, .row 3 1 (r.2.2.2.2.2.1.map (eI .i64)))] (.agg [.row 0, .row 1, .row 2, .lit (.slice none 0 0), .row 3, .lit (.slice none 0 0), .lit (.int .i64 r.2.2.2.2.1), .row 4, .lit (.slice none 0 0), .lit (.int .i64 r.2.2.2.2.2.2), .lit (.slice none 0 0), .lit (.slice none 0 0)]) := by
 refine acalls (fn := Try.f5) (nt := 29) Try.func5 rfl rfl (Nat.le_of_ble_eq_true rfl) fun E hE => ?_
 rw [spec_WorldNew.f] at H
 refine aw_grp1 ?_
 refine wk_start ?_
 refine kb g0 (alc 0 [.slice none 0 0, .slice none 0 0, .slice none 0 0, .slice none 0 0, .slice none 0 0, .slice none 0 0, .int .i64 0, .slice none 0 0, .slice none 0 0, .int .i64 0, .slice none 0 0, .slice none 0 0] [.lit (.slice none 0 0), .lit (.slice none 0 0), .lit (.slice none 0 0), .lit (.slice none 0 0), .lit (.slice none 0 0), .lit (.slice none 0 0), .lit (.int .i64 0), .lit (.slice none 0 0), .lit (.slice none 0 0), .lit (.int .i64 0), .lit (.slice none 0 0), .lit (.slice none 0 0)]) ?_
 refine wk_end ?_
 refine ac_next ?_
 refine aw_grp1 ?_
 refine wk_start ?_
 obtain ⟨t1, A2, H⟩ := of_bind H
 refine kcS2 3 (.agg [.lit (.slice none 0 0), .row 1, .lit (.slice none 0 0), .lit (.int .i64 t1.2.1), .row 2]) [(1, .row 3 1 (t1.1.map (eI .i64))), (2, .row 3 1 (t1.2.2.map (eI .i64)))] g0 (cal (spec_KeeperNew.ok A2) [1, 2] 9999 .n (hf := Try.func17)) rfl rfl ?_
 refine kv g0 (bld [(0, 1), (1, 1), (2, 1), (3, 5), (8, 1), (9, 1), (10, 1), (11, 1)] [.slice none 0 0, .slice none 0 0, .slice none 0 0, .slice none 0 0, .slice none 0 0, .slice none 0 0, .int .i64 0, .slice none 0 0, .slice none 0 0, .int .i64 0, .slice none 0 0, .slice none 0 0] [.lit (.slice none 0 0), .lit (.slice none 0 0), .lit (.slice none 0 0), .lit (.slice none 0 0), .row 1, .lit (.slice none 0 0), .lit (.int .i64 t1.2.1), .row 2, .lit (.slice none 0 0), .lit (.int .i64 0), .lit (.slice none 0 0), .lit (.slice none 0 0)]) ?_
 refine kb g0 (alc 3 [.slice none 0 0, .slice none 0 0, .slice none 0 0, .slice none 0 0, .slice none 0 0, .slice none 0 0, .int .i64 0, .slice none 0 0, .slice none 0 0, .int .i64 0, .slice none 0 0, .slice none 0 0] [.lit (.slice none 0 0), .lit (.slice none 0 0), .lit (.slice none 0 0), .lit (.slice none 0 0), .lit (.slice none 0 0), .lit (.slice none 0 0), .lit (.int .i64 0), .lit (.slice none 0 0), .lit (.slice none 0 0), .lit (.int .i64 0), .lit (.slice none 0 0), .lit (.slice none 0 0)]) ?_
 refine ks g0 (stB 12 [.lit (.slice none 0 0), .lit (.slice none 0 0), .lit (.slice none 0 0), .lit (.slice none 0 0), .row 1, .lit (.slice none 0 0), .lit (.int .i64 t1.2.1), .row 2, .lit (.slice none 0 0), .lit (.int .i64 0), .lit (.slice none 0 0), .lit (.slice none 0 0)]) ?_
 refine wk_end ?_
 refine ac_next ?_
 refine aw_grp1 ?_
 refine aw_grp1 ?_
 refine wk_start ?_
 refine kv g0 (asg) ?_
 refine wk_end ?_
 refine ac_next ?_
 refine aw_block ?_
 refine ac_nilB 3 0 11 56 1 [.row 11, .lit (.slice none 0 0), .lit (.slice none 0 0), .lit (.slice none 0 0), .row 1, .lit (.slice none 0 0), .lit (.int .i64 t1.2.1), .row 2, .lit (.slice none 0 0), .lit (.int .i64 0), .lit (.slice none 0 0), .lit (.slice none 0 0)] ?_
 refine ac_nilB 3 1 12 59 4 [.row 11, .row 12, .lit (.slice none 0 0), .lit (.slice none 0 0), .row 1, .lit (.slice none 0 0), .lit (.int .i64 t1.2.1), .row 2, .lit (.slice none 0 0), .lit (.int .i64 0), .lit (.slice none 0 0), .lit (.slice none 0 0)] ?_
 refine ac_nilB 3 2 13 62 5 [.row 11, .row 12, .row 13, .lit (.slice none 0 0), .row 1, .lit (.slice none 0 0), .lit (.int .i64 t1.2.1), .row 2, .lit (.slice none 0 0), .lit (.int .i64 0), .lit (.slice none 0 0), .lit (.slice none 0 0)] ?_
 refine aw_loop4 (fun (k_ : Nat) (q11 : List (List (List S151))) (q12 : List S59) (q13 : List S62) (p14 : Int) => k_ ≤ k ∧ spec_WorldNew.l0 k_ t1 q11 q12 q13 p14 = some r) (fun (q11 : List (List (List S151))) (q12 : List S59) (q13 : List S62) (p14 : Int) => ⟨[(0, .box 0 0), (1, .box 3 0), (2, .lit (.int .i64 p14))], [(0, .box 33 [.lit (.slice none 0 0), .lit (.slice none 0 0), .lit (.slice none 0 0), .lit (.slice none 0 0), .lit (.slice none 0 0), .lit (.slice none 0 0), .lit (.int .i64 0), .lit (.slice none 0 0), .lit (.slice none 0 0), .lit (.int .i64 0), .lit (.slice none 0 0), .lit (.slice none 0 0)]), (1, .row 3 1 (t1.1.map (eI .i64))), (2, .row 3 1 (t1.2.2.map (eI .i64))), (3, .box 33 [.row 11, .row 12, .row 13, .lit (.slice none 0 0), .row 1, .lit (.slice none 0 0), .lit (.int .i64 t1.2.1), .row 2, .lit (.slice none 0 0), .lit (.int .i64 0), .lit (.slice none 0 0), .lit (.slice none 0 0)]), (11, .row 56 1 (q11.map (eL 1 (eL 4 (e151))))), (12, .row 59 4 (q12.map e59)), (13, .row 62 5 (q13.map e62))]⟩) k ([]) ([]) ([]) 0 ⟨Nat.le_refl _, H⟩ (fun K_ h_ => acw hE [(0, 0), (1, 1), (2, 2), (3, 3), (11, 11), (12, 12), (13, 13)] 9999 h_) (fun _ _ _ _ => by intro h_; have h_ := h_.2; rw [spec_WorldNew.l0.eq_1] at h_; cases h_) ?_
 intro k15 q11 q12 q13 p14 hq_ K24 hK25
 have hk15 := hq_.1
 have H := hq_.2
 clear hq_
 rw [spec_WorldNew.l0.eq_2] at H
 refine aw_grp1 ?_
 refine aw_grp1 ?_
 refine wk_start ?_
 refine kv g0 (mv) ?_
 refine kv g0 (lss) ?_
 refine wk_end ?_
 refine ac_next ?_
 by_cases c16 : p14 < 3
 ·rw [if_pos c16] at H
  refine aw_ifT ?_ (decide_eq_true c16)
  refine aw_skip ?_
  refine ac_next ?_
  refine aw_grp1 ?_
  refine aw_block ?_
  refine aw_grp1 ?_
  refine wk_start ?_
  refine kv g0 (faB 0 0) ?_
  refine kv g0 (ldB) ?_
  refine kb g0 (okv_frz1 (bsl 14 127 1 [.slice none 0 0] (([] : List (List S151)).map (eL 4 (e151))))) ?_
  refine kb g0 (bsl 15 56 1 [.slice none 0 0] (([([] : List (List S151))] : List (List (List S151))).map (eL 1 (eL 4 (e151))))) ?_
  obtain ⟨c17, H⟩ := of_if H
  refine kc g0 (apR 16 56 1 24 [.slice none 0 0] ((q11 ++ ([([] : List (List S151))] : List (List (List S151)))).map (eL 1 (eL 4 (e151)))) (.row rfl) (apb c17 rfl) appE) ?_
  refine kv g0 (faB 0 0) ?_
  refine ks g0 (stB 1 [.row 16, .row 12, .row 13, .lit (.slice none 0 0), .row 1, .lit (.slice none 0 0), .lit (.int .i64 t1.2.1), .row 2, .lit (.slice none 0 0), .lit (.int .i64 0), .lit (.slice none 0 0), .lit (.slice none 0 0)]) ?_
  refine wk_end ?_
  refine ac_next ?_
  refine aw_grp1 ?_
  refine wk_start ?_
  refine kv g0 (faB 1 1) ?_
  refine kv g0 (ldB) ?_
  obtain ⟨t18, A19, H⟩ := of_bind H
  refine kcS0 17 (.agg [.sl .n 4 (t18.1.map e131), .lit (.int .i64 t18.2.1), .lit (.int .i64 t18.2.2.1), .lit (.int .i64 t18.2.2.2)]) [] g0 (cal (spec_RingNew.ok A19) [] 9999 .n (hf := Try.func18)) rfl rfl ?_
  refine kb g0 (bsl 17 59 4 [.slice none 0 0, .int .i64 0, .int .i64 0, .int .i64 0] (([(⟨t18.1, t18.2.1, t18.2.2.1, t18.2.2.2⟩ : S59)] : List S59).map e59)) ?_
  obtain ⟨c20, H⟩ := of_if H
  refine kc g0 (apR 18 59 4 48 [.slice none 0 0, .int .i64 0, .int .i64 0, .int .i64 0] ((q12 ++ ([(⟨t18.1, t18.2.1, t18.2.2.1, t18.2.2.2⟩ : S59)] : List S59)).map e59) (.row rfl) (apb c20 rfl) appE) ?_
  refine kv g0 (faB 1 1) ?_
  refine ks g0 (stB 1 [.row 16, .row 18, .row 13, .lit (.slice none 0 0), .row 1, .lit (.slice none 0 0), .lit (.int .i64 t1.2.1), .row 2, .lit (.slice none 0 0), .lit (.int .i64 0), .lit (.slice none 0 0), .lit (.slice none 0 0)]) ?_
  refine wk_end_draw hM (by kernel_rfl) ?_
  refine ac_next ?_
  refine wk_start ?_
  refine kv g0 (faB 2 2) ?_
  refine kv g0 (ldB) ?_
  refine kv g0 (mv) ?_
  obtain ⟨t21, A22, H⟩ := of_bind H
  refine kcS0 24 (.agg [.lit (.int .i64 t21.1), .lit (.int .i64 t21.2.1), .sl .n 4 (t21.2.2.1.map e131), .lit (.int .i64 t21.2.2.2.1), .lit (.int .i64 t21.2.2.2.2)]) [] g0 (cal (spec_SenderNew.ok A22) [] 9999 .n (hf := Try.func19)) rfl rfl ?_
  refine kb g0 (bsl 19 62 5 [.int .i64 0, .int .i64 0, .slice none 0 0, .int .i64 0, .int .i64 0] (([(⟨t21.1, t21.2.1, t21.2.2.1, t21.2.2.2.1, t21.2.2.2.2⟩ : S62)] : List S62).map e62)) ?_
  obtain ⟨c23, H⟩ := of_if H
  refine kc g0 (apR 20 62 5 56 [.int .i64 0, .int .i64 0, .slice none 0 0, .int .i64 0, .int .i64 0] ((q13 ++ ([(⟨t21.1, t21.2.1, t21.2.2.1, t21.2.2.2.1, t21.2.2.2.2⟩ : S62)] : List S62)).map e62) (.row rfl) (apb c23 rfl) appE) ?_
  refine kv g0 (faB 2 2) ?_
  refine ks g0 (stB 1 [.row 16, .row 18, .row 20, .lit (.slice none 0 0), .row 1, .lit (.slice none 0 0), .lit (.int .i64 t1.2.1), .row 2, .lit (.slice none 0 0), .lit (.int .i64 0), .lit (.slice none 0 0), .lit (.slice none 0 0)]) ?_
  refine wk_end_draw hM (by kernel_rfl) ?_
  refine ac_blkN ?_
  refine ac_next ?_
  refine wk_start ?_
  refine kv g0 (mv) ?_
  refine kv g0 (add6) ?_
  refine kv g0 (asg) ?_
  refine wk_end ?_
  refine ac_k ?_
  exact acw hE [(0, 0), (1, 1), (2, 2), (3, 3), (11, 16), (12, 18), (13, 20)] 9999 (hK25 k15 (q11 ++ ([([] : List (List S151))] : List (List (List S151)))) (q12 ++ ([(⟨t18.1, t18.2.1, t18.2.2.1, t18.2.2.2⟩ : S59)] : List S59)) (q13 ++ ([(⟨t21.1, t21.2.1, t21.2.2.1, t21.2.2.2.1, t21.2.2.2.2⟩ : S62)] : List S62)) (wrap64 (p14 + 1)) (Nat.le_refl _) ⟨by omega, H⟩)
 rw [if_neg c16] at H
 refine aw_ifF ?_ (decide_eq_false c16)
 refine aw_exit ?_
 refine ac_then ?_
 refine ac_then ?_
 refine ac_hit rfl ?_
 refine ac_next ?_
 refine aw_grp1 ?_
 refine wk_start ?_
 refine kv g0 (ldBA 12 [.row 11, .row 12, .row 13, .lit (.slice none 0 0), .row 1, .lit (.slice none 0 0), .lit (.int .i64 t1.2.1), .row 2, .lit (.slice none 0 0), .lit (.int .i64 0), .lit (.slice none 0 0), .lit (.slice none 0 0)]) ?_
 refine ks g0 (stB 12 [.row 11, .row 12, .row 13, .lit (.slice none 0 0), .row 1, .lit (.slice none 0 0), .lit (.int .i64 t1.2.1), .row 2, .lit (.slice none 0 0), .lit (.int .i64 0), .lit (.slice none 0 0), .lit (.slice none 0 0)]) ?_
 refine wk_end ?_
 refine ac_next ?_
 refine aw_ret ?_
 obtain rfl := Option.some.inj H
 exact acr hE [.cell 0 33] (rcA 12 .nil) (.one _) [(0, 11), (1, 12), (2, 13), (3, 1), (4, 2)] 9999
/-! impl_KeeperNew -/
def impl_KeeperNew.f  : Option ((List Int) × Int × (List Int)) := some (([1, 1, 1] : List Int), 0, ([1, 1, 1] : List Int))
theorem impl_KeeperNew.ok {r : (List Int) × Int × (List Int)} (H : impl_KeeperNew.f = some r) : ACalls Try.prog 20 [] [] [(0, .row 3 1 (r.1.map (eI .i64))), (1, .row 3 1 (r.2.2.map (eI .i64)))] (.agg [.lit (.slice none 0 0), .row 0, .lit (.slice none 0 0), .lit (.int .i64 r.2.1), .row 1]) := by
 refine acalls (fn := Try.f20) (nt := 4) Try.func20 rfl rfl (Nat.le_of_ble_eq_true rfl) fun E hE => ?_
 rw [impl_KeeperNew.f] at H
 refine aw_grp1 ?_
 refine wk_start ?_
 refine kb g0 (alc 0 [.slice none 0 0, .slice none 0 0, .slice none 0 0, .int .i64 0, .slice none 0 0] [.lit (.slice none 0 0), .lit (.slice none 0 0), .lit (.slice none 0 0), .lit (.int .i64 0), .lit (.slice none 0 0)]) ?_
 refine wk_end ?_
 refine ac_next ?_
 refine aw_grp1 ?_
 refine wk_start ?_
 refine kb g0 (bsl 1 3 1 [.int .i64 0] (([1, 1, 1] : List Int).map (eI .i64))) ?_
 refine kb g0 (bsl 2 3 1 [.int .i64 0] (([1, 1, 1] : List Int).map (eI .i64))) ?_
 refine kv g0 (bld [(0, 1), (1, 1), (2, 1), (3, 1), (4, 1)] [.slice none 0 0, .slice none 0 0, .slice none 0 0, .int .i64 0, .slice none 0 0] [.lit (.slice none 0 0), .row 1, .lit (.slice none 0 0), .lit (.int .i64 0), .row 2]) ?_
 refine ks g0 (stB 5 [.lit (.slice none 0 0), .row 1, .lit (.slice none 0 0), .lit (.int .i64 0), .row 2]) ?_
 refine wk_end ?_
 refine ac_next ?_
 refine aw_ret ?_
 obtain rfl := Option.some.inj H
 exact acr hE [.cell 0 29] (rcA 5 .nil) (.one _) [(0, 1), (1, 2)] 9999
/-! impl_RingNew -/
def impl_RingNew.f  : Option (Int × Int × Int) := some (5, 0, 0)
theorem impl_RingNew.ok {r : Int × Int × Int} (H : impl_RingNew.f = some r) : ACalls Try.prog 21 [] [] [] (.agg [.lit (.slice none 0 0), .lit (.int .i64 r.1), .lit (.int .i64 r.2.1), .lit (.int .i64 r.2.2)]) := by
 refine acalls (fn := Try.f21) (nt := 2) Try.func21 rfl rfl (Nat.le_of_ble_eq_true rfl) fun E hE => ?_
 rw [impl_RingNew.f] at H
 refine aw_grp1 ?_
 refine wk_start ?_
 refine kb g0 (alc 0 [.slice none 0 0, .int .i64 0, .int .i64 0, .int .i64 0] [.lit (.slice none 0 0), .lit (.int .i64 0), .lit (.int .i64 0), .lit (.int .i64 0)]) ?_
 refine wk_end ?_
 refine ac_next ?_
 refine aw_grp1 ?_
 refine wk_start ?_
 refine kv g0 (bld [(0, 1), (1, 1), (2, 1), (3, 1)] [.slice none 0 0, .int .i64 0, .int .i64 0, .int .i64 0] [.lit (.slice none 0 0), .lit (.int .i64 5), .lit (.int .i64 0), .lit (.int .i64 0)]) ?_
 refine ks g0 (stB 4 [.lit (.slice none 0 0), .lit (.int .i64 5), .lit (.int .i64 0), .lit (.int .i64 0)]) ?_
 refine wk_end ?_
 refine ac_next ?_
 refine aw_ret ?_
 obtain rfl := Option.some.inj H
 exact acr hE [.cell 0 59] (rcA 4 .nil) (.one _) [] 9999
/-! impl_SenderNew -/
def impl_SenderNew.f (a0 : Int) : Option (Int × Int × Int × Int) := some (a0, 1, 0, 1)
theorem impl_SenderNew.ok {a0 : Int} {r : Int × Int × Int × Int} (H : impl_SenderNew.f a0 = some r) : ACalls Try.prog 22 [] [.lit (.int .i64 a0)] [] (.agg [.lit (.int .i64 r.1), .lit (.int .i64 r.2.1), .lit (.slice none 0 0), .lit (.int .i64 r.2.2.1), .lit (.int .i64 r.2.2.2)]) := by
 refine acalls (fn := Try.f22) (nt := 5) Try.func22 rfl rfl (Nat.le_of_ble_eq_true rfl) fun E hE => ?_
 rw [impl_SenderNew.f] at H
 refine aw_grp1 ?_
 refine wk_start ?_
 refine kb g0 (alc 0 [.int .i64 0, .int .i64 0, .slice none 0 0, .int .i64 0, .int .i64 0] [.lit (.int .i64 0), .lit (.int .i64 0), .lit (.slice none 0 0), .lit (.int .i64 0), .lit (.int .i64 0)]) ?_
 refine wk_end ?_
 refine ac_next ?_
 refine aw_grp1 ?_
 refine wk_start ?_
 refine kv g0 (mv) ?_
 refine kv g0 (bld [(0, 1), (1, 1), (2, 1), (3, 1), (4, 1)] [.int .i64 0, .int .i64 0, .slice none 0 0, .int .i64 0, .int .i64 0] [.lit (.int .i64 a0), .lit (.int .i64 1), .lit (.slice none 0 0), .lit (.int .i64 0), .lit (.int .i64 1)]) ?_
 refine ks g0 (stB 5 [.lit (.int .i64 a0), .lit (.int .i64 1), .lit (.slice none 0 0), .lit (.int .i64 0), .lit (.int .i64 1)]) ?_
 refine wk_end ?_
 refine ac_next ?_
 refine aw_ret ?_
 obtain rfl := Option.some.inj H
 exact acr hE [.cell 2 62] (rcA 5 .nil) (.one _) [] 9999
/-! impl_WorldNew -/
def impl_WorldNew.l0 : Nat → ((List Int) × Int × (List Int)) → (List (List (List S151))) → (List S59) → (List S62) → Int → Option ((List (List (List S151))) × (List S59) × (List S62) × (List S133) × (List Int) × (List S135) × Int × (List Int) × (List S99) × Int × (List Int) × (List S83))
 | 0, _, _, _, _, _ => none
 | k15 + 1, t1, q11, q12, q13, p14 => if p14 < 3 then if q11.length + 1 < 5864062014805 then (impl_RingNew.f).bind fun t18 => (if q12.length + 1 < 2932031007402 then (impl_SenderNew.f p14).bind fun t21 => (if q13.length + 1 < 2513169434916 then impl_WorldNew.l0 k15 t1 (q11 ++ [([] : List (List S151))]) (q12 ++ [(⟨([] : List S131), t18.1, t18.2.1, t18.2.2⟩ : S59)]) (q13 ++ [(⟨t21.1, t21.2.1, ([] : List S131), t21.2.2.1, t21.2.2.2⟩ : S62)]) (wrap64 (p14 + 1)) else none) else none) else none else some (q11, q12, q13, [], t1.1, [], t1.2.1, t1.2.2, [], 0, [], [])
def impl_WorldNew.f (k : Nat)  : Option ((List (List (List S151))) × (List S59) × (List S62) × (List S133) × (List Int) × (List S135) × Int × (List Int) × (List S99) × Int × (List Int) × (List S83)) := (impl_KeeperNew.f).bind fun t1 => impl_WorldNew.l0 k t1 ([]) ([]) ([]) 0
theorem impl_WorldNew.ok {k : Nat} {r : (List (List (List S151))) × (List S59) × (List S62) × (List S133) × (List Int) × (List S135) × Int × (List Int) × (List S99) × Int × (List Int) × (List S83)} (H : impl_WorldNew.f k = some r) : ACalls Try.prog 6 [] [] [(0, .drow false [.own 127 [.own 151 []]] 56 1 (r.1.map (eL 1 (eL 4 (e151))))), (1, .drow false ds59 59 4 (r.2.1.map e59)), (2, .drow false ds62 62 5 (r.2.2.1.map e62)), (3, .row 133 6 (r.2.2.2.1.map e133)), (4, .row 3 1 (r.2.2.2.2.1.map (eI .i64))), (5, .row 135 6 (r.2.2.2.2.2.1.map e135)), (6, .row 3 1 (r.2.2.2.2.2.2.2.1.map (eI .i64))), (7, .row 99 3 (r.2.2.2.2.2.2.2.2.1.map e99)), (8, .row 3 1 (r.2.2.2.2.2.2.2.2.2.2.1.map (eI .i64))), (9, .row 83 4 (r.2.2.2.2.2.2.2.2.2.2.2.map e83))] (.agg [.row 0, .row 1, .row 2, .row 3, .row 4, .row 5, .lit (.int .i64 r.2.2.2.2.2.2.1), .row 6, .row 7, .lit (.int .i64 r.2.2.2.2.2.2.2.2.2.1), .row 8, .row 9]) := by
 refine acalls (fn := Try.f6) (nt := 29) Try.func6 rfl rfl (Nat.le_of_ble_eq_true rfl) fun E hE => ?_
 rw [impl_WorldNew.f] at H
 refine aw_grp1 ?_
 refine wk_start ?_
 refine kb g0 (alc 0 [.slice none 0 0, .slice none 0 0, .slice none 0 0, .slice none 0 0, .slice none 0 0, .slice none 0 0, .int .i64 0, .slice none 0 0, .slice none 0 0, .int .i64 0, .slice none 0 0, .slice none 0 0] [.lit (.slice none 0 0), .lit (.slice none 0 0), .lit (.slice none 0 0), .lit (.slice none 0 0), .lit (.slice none 0 0), .lit (.slice none 0 0), .lit (.int .i64 0), .lit (.slice none 0 0), .lit (.slice none 0 0), .lit (.int .i64 0), .lit (.slice none 0 0), .lit (.slice none 0 0)]) ?_
 refine wk_end ?_
 refine ac_next ?_
 refine aw_grp1 ?_
 refine wk_start ?_
 obtain ⟨t1, A2, H⟩ := of_bind H
 refine kcS2 3 (.agg [.lit (.slice none 0 0), .row 1, .lit (.slice none 0 0), .lit (.int .i64 t1.2.1), .row 2]) [(1, .row 3 1 (t1.1.map (eI .i64))), (2, .row 3 1 (t1.2.2.map (eI .i64)))] g0 (cal (impl_KeeperNew.ok A2) [1, 2] 9999 .n (hf := Try.func20)) rfl rfl ?_
 refine kv g0 (bld [(0, 1), (1, 1), (2, 1), (3, 5), (8, 1), (9, 1), (10, 1), (11, 1)] [.slice none 0 0, .slice none 0 0, .slice none 0 0, .slice none 0 0, .slice none 0 0, .slice none 0 0, .int .i64 0, .slice none 0 0, .slice none 0 0, .int .i64 0, .slice none 0 0, .slice none 0 0] [.lit (.slice none 0 0), .lit (.slice none 0 0), .lit (.slice none 0 0), .lit (.slice none 0 0), .row 1, .lit (.slice none 0 0), .lit (.int .i64 t1.2.1), .row 2, .lit (.slice none 0 0), .lit (.int .i64 0), .lit (.slice none 0 0), .lit (.slice none 0 0)]) ?_
 refine kb g0 (alc 3 [.slice none 0 0, .slice none 0 0, .slice none 0 0, .slice none 0 0, .slice none 0 0, .slice none 0 0, .int .i64 0, .slice none 0 0, .slice none 0 0, .int .i64 0, .slice none 0 0, .slice none 0 0] [.lit (.slice none 0 0), .lit (.slice none 0 0), .lit (.slice none 0 0), .lit (.slice none 0 0), .lit (.slice none 0 0), .lit (.slice none 0 0), .lit (.int .i64 0), .lit (.slice none 0 0), .lit (.slice none 0 0), .lit (.int .i64 0), .lit (.slice none 0 0), .lit (.slice none 0 0)]) ?_
 refine ks g0 (stB 12 [.lit (.slice none 0 0), .lit (.slice none 0 0), .lit (.slice none 0 0), .lit (.slice none 0 0), .row 1, .lit (.slice none 0 0), .lit (.int .i64 t1.2.1), .row 2, .lit (.slice none 0 0), .lit (.int .i64 0), .lit (.slice none 0 0), .lit (.slice none 0 0)]) ?_
 refine wk_end ?_
 refine ac_next ?_
 refine aw_grp1 ?_
 refine aw_grp1 ?_
 refine wk_start ?_
 refine kv g0 (mv) ?_
 refine wk_end ?_
 refine ac_next ?_
 refine aw_block ?_
 refine ac_nilB 3 0 11 56 1 [.row 11, .lit (.slice none 0 0), .lit (.slice none 0 0), .lit (.slice none 0 0), .row 1, .lit (.slice none 0 0), .lit (.int .i64 t1.2.1), .row 2, .lit (.slice none 0 0), .lit (.int .i64 0), .lit (.slice none 0 0), .lit (.slice none 0 0)] ?_
 refine ac_nilB 3 1 12 59 4 [.row 11, .row 12, .lit (.slice none 0 0), .lit (.slice none 0 0), .row 1, .lit (.slice none 0 0), .lit (.int .i64 t1.2.1), .row 2, .lit (.slice none 0 0), .lit (.int .i64 0), .lit (.slice none 0 0), .lit (.slice none 0 0)] ?_
 refine ac_nilB 3 2 13 62 5 [.row 11, .row 12, .row 13, .lit (.slice none 0 0), .row 1, .lit (.slice none 0 0), .lit (.int .i64 t1.2.1), .row 2, .lit (.slice none 0 0), .lit (.int .i64 0), .lit (.slice none 0 0), .lit (.slice none 0 0)] ?_
 refine ac_g1 (liftD 11 [.own 127 [.own 151 []]]) ?_
 refine ac_g1 (liftD 12 ds59) ?_
 refine ac_g1 (liftD 13 ds62) ?_
 refine aw_loop4 (fun (k_ : Nat) (q11 : List (List (List S151))) (q12 : List S59) (q13 : List S62) (p14 : Int) => k_ ≤ k ∧ impl_WorldNew.l0 k_ t1 q11 q12 q13 p14 = some r) (fun (q11 : List (List (List S151))) (q12 : List S59) (q13 : List S62) (p14 : Int) => ⟨[(0, .box 0 0), (1, .box 3 0), (5, .lit (.int .i64 p14))], [(0, .box 33 [.lit (.slice none 0 0), .lit (.slice none 0 0), .lit (.slice none 0 0), .lit (.slice none 0 0), .lit (.slice none 0 0), .lit (.slice none 0 0), .lit (.int .i64 0), .lit (.slice none 0 0), .lit (.slice none 0 0), .lit (.int .i64 0), .lit (.slice none 0 0), .lit (.slice none 0 0)]), (1, .row 3 1 (t1.1.map (eI .i64))), (2, .row 3 1 (t1.2.2.map (eI .i64))), (3, .box 33 [.row 11, .row 12, .row 13, .lit (.slice none 0 0), .row 1, .lit (.slice none 0 0), .lit (.int .i64 t1.2.1), .row 2, .lit (.slice none 0 0), .lit (.int .i64 0), .lit (.slice none 0 0), .lit (.slice none 0 0)]), (11, .drow false [.own 127 [.own 151 []]] 56 1 (q11.map (eL 1 (eL 4 (e151))))), (12, .drow false ds59 59 4 (q12.map e59)), (13, .drow false ds62 62 5 (q13.map e62))]⟩) k ([]) ([]) ([]) 0 ⟨Nat.le_refl _, H⟩ (fun K_ h_ => acw hE [(0, 0), (1, 1), (2, 2), (3, 3), (11, 11), (12, 12), (13, 13)] 9999 h_) (fun _ _ _ _ => by intro h_; have h_ := h_.2; rw [impl_WorldNew.l0.eq_1] at h_; cases h_) ?_
 intro k15 q11 q12 q13 p14 hq_ K24 hK25
 have hk15 := hq_.1
 have H := hq_.2
 clear hq_
 rw [impl_WorldNew.l0.eq_2] at H
 refine aw_grp1 ?_
 refine wk_start ?_
 refine kv g0 (lss) ?_
 refine wk_end ?_
 refine ac_next ?_
 refine aw_grp1 ?_
 by_cases c16 : p14 < 3
 ·rw [if_pos c16] at H
  refine aw_ifT ?_ (decide_eq_true c16)
  refine aw_skip ?_
  refine ac_next ?_
  refine aw_grp1 ?_
  refine aw_block ?_
  refine aw_grp1 ?_
  refine wk_start ?_
  refine kv g0 (mv) ?_
  refine kv g0 (asg) ?_
  refine wk_end ?_
  refine ac_next ?_
  refine aw_grp1 ?_
  refine wk_start ?_
  refine kv g0 (faB 0 0) ?_
  refine kv g0 (ldB) ?_
  refine kb g0 (bsl 14 127 1 [.slice none 0 0] (([] : List (List S151)).map (eL 4 (e151)))) ?_
  refine kcS2 11 (.row 15) [(15, .drow true [.own 127 [.own 151 []]] 56 1 ([.row 14])), (14, .drow false [.own 151 []] 127 1 (([] : List (List S151)).map (eL 4 (e151))))] g0 (okv_gh (liftD 14 [.own 151 []]) (bslD 15 56 1 [.own 127 [.own 151 []]] [.slice none 0 0] [.row 14])).owp rfl rfl ?_
  obtain ⟨c17, H⟩ := of_if H
  refine kcS3 12 (.row 16) [(11, .gone), (15, .gone), (16, .drow true [.own 127 [.own 151 []]] 56 1 (q11.map (eL 1 (eL 4 (e151))) ++ [.row 14]))] g0 (apD 16 56 1 24 [.slice none 0 0] (q11.map (eL 1 (eL 4 (e151))) ++ [.row 14]) (apbD (m := q11.length) (n := 1) (List.length_map ..) rfl c17 rfl) rfl).owp rfl rfl ?_
  refine kv g0 (faB 0 0) ?_
  refine ks g0 (stB 1 [.row 16, .row 12, .row 13, .lit (.slice none 0 0), .row 1, .lit (.slice none 0 0), .lit (.int .i64 t1.2.1), .row 2, .lit (.slice none 0 0), .lit (.int .i64 0), .lit (.slice none 0 0), .lit (.slice none 0 0)]) ?_
  refine wk_end ?_
  refine ac_next ?_
  refine aw_grp1 ?_
  refine wk_start ?_
  refine kv g0 (faB 1 1) ?_
  refine kv g0 (ldB) ?_
  obtain ⟨t18, A19, H⟩ := of_bind H
  refine kcS0 16 (.agg [.lit (.slice none 0 0), .lit (.int .i64 t18.1), .lit (.int .i64 t18.2.1), .lit (.int .i64 t18.2.2)]) [] g0 (cal (impl_RingNew.ok A19) [] 9999 .n (hf := Try.func21)) rfl rfl ?_
  refine kb g0 (bslD 17 59 4 ds59 [.slice none 0 0, .int .i64 0, .int .i64 0, .int .i64 0] [.agg [.sl .n 4 (([] : List S131).map e131), .lit (.int .i64 t18.1), .lit (.int .i64 t18.2.1), .lit (.int .i64 t18.2.2)]]) ?_
  obtain ⟨c20, H⟩ := of_if H
  refine kcS3 18 (.row 18) [(12, .gone), (17, .gone), (18, .drow true ds59 59 4 (q12.map e59 ++ [.agg [.sl .n 4 (([] : List S131).map e131), .lit (.int .i64 t18.1), .lit (.int .i64 t18.2.1), .lit (.int .i64 t18.2.2)]]))] g0 (apD 18 59 4 48 [.slice none 0 0, .int .i64 0, .int .i64 0, .int .i64 0] (q12.map e59 ++ [.agg [.sl .n 4 (([] : List S131).map e131), .lit (.int .i64 t18.1), .lit (.int .i64 t18.2.1), .lit (.int .i64 t18.2.2)]]) (apbD (m := q12.length) (n := 1) (List.length_map ..) rfl c20 rfl) rfl).owp rfl rfl ?_
  refine kv g0 (faB 1 1) ?_
  refine ks g0 (stB 1 [.row 16, .row 18, .row 13, .lit (.slice none 0 0), .row 1, .lit (.slice none 0 0), .lit (.int .i64 t1.2.1), .row 2, .lit (.slice none 0 0), .lit (.int .i64 0), .lit (.slice none 0 0), .lit (.slice none 0 0)]) ?_
  refine wk_end_draw hM (by kernel_rfl) ?_
  refine ac_next ?_
  refine wk_start ?_
  refine kv g0 (faB 2 2) ?_
  refine kv g0 (ldB) ?_
  refine kv g0 (mv) ?_
  obtain ⟨t21, A22, H⟩ := of_bind H
  refine kcS0 23 (.agg [.lit (.int .i64 t21.1), .lit (.int .i64 t21.2.1), .lit (.slice none 0 0), .lit (.int .i64 t21.2.2.1), .lit (.int .i64 t21.2.2.2)]) [] g0 (cal (impl_SenderNew.ok A22) [] 9999 .n (hf := Try.func22)) rfl rfl ?_
  refine kb g0 (bslD 19 62 5 ds62 [.int .i64 0, .int .i64 0, .slice none 0 0, .int .i64 0, .int .i64 0] [.agg [.lit (.int .i64 t21.1), .lit (.int .i64 t21.2.1), .sl .n 4 (([] : List S131).map e131), .lit (.int .i64 t21.2.2.1), .lit (.int .i64 t21.2.2.2)]]) ?_
  obtain ⟨c23, H⟩ := of_if H
  refine kcS3 25 (.row 20) [(13, .gone), (19, .gone), (20, .drow true ds62 62 5 (q13.map e62 ++ [.agg [.lit (.int .i64 t21.1), .lit (.int .i64 t21.2.1), .sl .n 4 (([] : List S131).map e131), .lit (.int .i64 t21.2.2.1), .lit (.int .i64 t21.2.2.2)]]))] g0 (apD 20 62 5 56 [.int .i64 0, .int .i64 0, .slice none 0 0, .int .i64 0, .int .i64 0] (q13.map e62 ++ [.agg [.lit (.int .i64 t21.1), .lit (.int .i64 t21.2.1), .sl .n 4 (([] : List S131).map e131), .lit (.int .i64 t21.2.2.1), .lit (.int .i64 t21.2.2.2)]]) (apbD (m := q13.length) (n := 1) (List.length_map ..) rfl c23 rfl) rfl).owp rfl rfl ?_
  refine kv g0 (faB 2 2) ?_
  refine ks g0 (stB 1 [.row 16, .row 18, .row 20, .lit (.slice none 0 0), .row 1, .lit (.slice none 0 0), .lit (.int .i64 t1.2.1), .row 2, .lit (.slice none 0 0), .lit (.int .i64 0), .lit (.slice none 0 0), .lit (.slice none 0 0)]) ?_
  refine wk_end_draw hM (by kernel_rfl) ?_
  refine ac_blkN ?_
  refine ac_next ?_
  refine wk_start ?_
  refine kv g0 (add6) ?_
  refine kv g0 (mv) ?_
  refine wk_end ?_
  refine ac_g2 (pk 16 14 0 (.sl .n 1 (([] : List (List S151)).map (eL 4 (e151)))) (appX (f := eL 1 (eL 4 (e151))) (X := .row 14)) (appXX (f := eL 1 (eL 4 (e151)))) rfl) ?_
  refine ac_g1 (sealD 16 (appSeal (f := eL 1 (eL 4 (e151))) ([] : List (List S151))) clL) ?_
  refine ac_g1 (sealD 18 (appSeal (f := e59) (⟨([] : List S131), t18.1, t18.2.1, t18.2.2⟩ : S59)) cl59) ?_
  refine ac_g1 (sealD 20 (appSeal (f := e62) (⟨t21.1, t21.2.1, ([] : List S131), t21.2.2.1, t21.2.2.2⟩ : S62)) cl62) ?_
  refine ac_k ?_
  exact acw hE [(0, 0), (1, 1), (2, 2), (3, 3), (11, 16), (12, 18), (13, 20)] 9999 (hK25 k15 (q11 ++ [([] : List (List S151))]) (q12 ++ [(⟨([] : List S131), t18.1, t18.2.1, t18.2.2⟩ : S59)]) (q13 ++ [(⟨t21.1, t21.2.1, ([] : List S131), t21.2.2.1, t21.2.2.2⟩ : S62)]) (wrap64 (p14 + 1)) (Nat.le_refl _) ⟨by omega, H⟩)
 rw [if_neg c16] at H
 refine aw_ifF ?_ (decide_eq_false c16)
 refine aw_exit ?_
 refine ac_then ?_
 refine ac_then ?_
 refine ac_hit rfl ?_
 refine ac_next ?_
 refine aw_grp1 ?_
 refine wk_start ?_
 refine kv g0 (ldBA 12 [.row 11, .row 12, .row 13, .lit (.slice none 0 0), .row 1, .lit (.slice none 0 0), .lit (.int .i64 t1.2.1), .row 2, .lit (.slice none 0 0), .lit (.int .i64 0), .lit (.slice none 0 0), .lit (.slice none 0 0)]) ?_
 refine ks g0 (stB 12 [.row 11, .row 12, .row 13, .lit (.slice none 0 0), .row 1, .lit (.slice none 0 0), .lit (.int .i64 t1.2.1), .row 2, .lit (.slice none 0 0), .lit (.int .i64 0), .lit (.slice none 0 0), .lit (.slice none 0 0)]) ?_
 refine wk_end ?_
 refine ac_next ?_
 refine aw_ret ?_
 refine ac_nilB 0 3 21 133 6 [.row 11, .row 12, .row 13, .row 21, .row 1, .lit (.slice none 0 0), .lit (.int .i64 t1.2.1), .row 2, .lit (.slice none 0 0), .lit (.int .i64 0), .lit (.slice none 0 0), .lit (.slice none 0 0)] ?_
 refine ac_nilB 0 5 22 135 6 [.row 11, .row 12, .row 13, .row 21, .row 1, .row 22, .lit (.int .i64 t1.2.1), .row 2, .lit (.slice none 0 0), .lit (.int .i64 0), .lit (.slice none 0 0), .lit (.slice none 0 0)] ?_
 refine ac_nilB 0 8 23 99 3 [.row 11, .row 12, .row 13, .row 21, .row 1, .row 22, .lit (.int .i64 t1.2.1), .row 2, .row 23, .lit (.int .i64 0), .lit (.slice none 0 0), .lit (.slice none 0 0)] ?_
 refine ac_nilB 0 10 24 3 1 [.row 11, .row 12, .row 13, .row 21, .row 1, .row 22, .lit (.int .i64 t1.2.1), .row 2, .row 23, .lit (.int .i64 0), .row 24, .lit (.slice none 0 0)] ?_
 refine ac_nilB 0 11 25 83 4 [.row 11, .row 12, .row 13, .row 21, .row 1, .row 22, .lit (.int .i64 t1.2.1), .row 2, .row 23, .lit (.int .i64 0), .row 24, .row 25] ?_
 obtain rfl := Option.some.inj H
 exact acr hE [.cell 0 33] (rcA 12 .nil) (.one _) [(0, 11), (1, 12), (2, 13), (3, 21), (4, 1), (5, 22), (6, 2), (7, 23), (8, 24), (9, 25)] 9999
/-! laws_eqIns -/
def laws_eqIns.f (a0_0 : Int) (a0_1 : Int) (a0_2 : Int) (a0_3 : Int) (a1_0 : Int) (a1_1 : Int) (a1_2 : Int) (a1_3 : Int) : Option (Bool) := if a0_0 = a1_0 then if a0_1 = a1_1 then if a0_2 = a1_2 then if a0_3 = a1_3 then some true else some false else some false else some false else some false
theorem laws_eqIns.ok {a0_0 : Int} {a0_1 : Int} {a0_2 : Int} {a0_3 : Int} {a1_0 : Int} {a1_1 : Int} {a1_2 : Int} {a1_3 : Int} {r : Bool} (H : laws_eqIns.f a0_0 a0_1 a0_2 a0_3 a1_0 a1_1 a1_2 a1_3 = some r) : ACalls Try.prog 96 [] [.agg [.lit (.int .i64 a0_0), .lit (.int .i64 a0_1), .lit (.int .i64 a0_2), .lit (.int .i64 a0_3)], .agg [.lit (.int .i64 a1_0), .lit (.int .i64 a1_1), .lit (.int .i64 a1_2), .lit (.int .i64 a1_3)]] [] (.lit (.bool r)) := by
 refine acalls (fn := Try.f96) (nt := 25) Try.func96 rfl rfl (Nat.le_of_ble_eq_true rfl) fun E hE => ?_
 rw [laws_eqIns.f] at H
 refine aw_grp1 ?_
 refine wk_start ?_
 refine kb g0 (bxA 0) ?_
 refine kb g0 (bxA 1) ?_
 refine kv g0 (asg) ?_
 refine wk_end ?_
 refine ac_next ?_
 refine aw_grp1 ?_
 refine aw_grp1 ?_
 refine wk_start ?_
 refine kv g0 (faB 0 0) ?_
 refine kv g0 (ldB) ?_
 refine kv g0 (faB 0 0) ?_
 refine kv g0 (ldB) ?_
 refine kv g0 (neq) ?_
 refine wk_end ?_
 refine ac_next ?_
 by_cases c1 : a0_0 = a1_0
 ·rw [if_pos c1] at H
  refine aw_ifF ?_ (eM c1)
  refine aw_skip ?_
  refine ac_next ?_
  refine aw_grp1 ?_
  refine aw_grp1 ?_
  refine wk_start ?_
  refine kv g0 (faB 1 1) ?_
  refine kv g0 (ldB) ?_
  refine kv g0 (faB 1 1) ?_
  refine kv g0 (ldB) ?_
  refine kv g0 (neq) ?_
  refine wk_end ?_
  refine ac_next ?_
  by_cases c2 : a0_1 = a1_1
  ·rw [if_pos c2] at H
   refine aw_ifF ?_ (eM c2)
   refine aw_skip ?_
   refine ac_next ?_
   refine aw_grp1 ?_
   refine aw_grp1 ?_
   refine wk_start ?_
   refine kv g0 (faB 2 2) ?_
   refine kv g0 (ldB) ?_
   refine kv g0 (faB 2 2) ?_
   refine kv g0 (ldB) ?_
   refine kv g0 (neq) ?_
   refine wk_end ?_
   refine ac_next ?_
   by_cases c3 : a0_2 = a1_2
   ·rw [if_pos c3] at H
    refine aw_ifF ?_ (eM c3)
    refine aw_skip ?_
    refine ac_next ?_
    refine aw_grp1 ?_
    refine aw_grp1 ?_
    refine wk_start ?_
    refine kv g0 (faB 3 3) ?_
    refine kv g0 (ldB) ?_
    refine kv g0 (faB 3 3) ?_
    refine kv g0 (ldB) ?_
    refine kv g0 (neq) ?_
    refine wk_end ?_
    refine ac_next ?_
    by_cases c4 : a0_3 = a1_3
    ·rw [if_pos c4] at H
     refine aw_ifF ?_ (eM c4)
     refine aw_skip ?_
     refine ac_next ?_
     refine aw_grp1 ?_
     refine wk_start ?_
     refine kv g0 (asg) ?_
     refine wk_end ?_
     refine ac_next ?_
     refine aw_ret ?_
     obtain rfl := Option.some.inj H
     exact acr hE [.tmp 4] (.tmp .nil) (.one _) [] 9999
    rw [if_neg c4] at H
    refine aw_ifT ?_ (eN c4)
    refine aw_grp1 ?_
    refine wk_start ?_
    refine kv g0 (asg) ?_
    refine wk_end ?_
    refine ac_next ?_
    refine aw_ret ?_
    refine ac_thenR ?_
    obtain rfl := Option.some.inj H
    exact acr hE [.tmp 4] (.tmp .nil) (.one _) [] 9999
   rw [if_neg c3] at H
   refine aw_ifT ?_ (eN c3)
   refine aw_grp1 ?_
   refine wk_start ?_
   refine kv g0 (asg) ?_
   refine wk_end ?_
   refine ac_next ?_
   refine aw_ret ?_
   refine ac_thenR ?_
   obtain rfl := Option.some.inj H
   exact acr hE [.tmp 4] (.tmp .nil) (.one _) [] 9999
  rw [if_neg c2] at H
  refine aw_ifT ?_ (eN c2)
  refine aw_grp1 ?_
  refine wk_start ?_
  refine kv g0 (asg) ?_
  refine wk_end ?_
  refine ac_next ?_
  refine aw_ret ?_
  refine ac_thenR ?_
  obtain rfl := Option.some.inj H
  exact acr hE [.tmp 4] (.tmp .nil) (.one _) [] 9999
 rw [if_neg c1] at H
 refine aw_ifT ?_ (eN c1)
 refine aw_grp1 ?_
 refine wk_start ?_
 refine kv g0 (asg) ?_
 refine wk_end ?_
 refine ac_next ?_
 refine aw_ret ?_
 refine ac_thenR ?_
 obtain rfl := Option.some.inj H
 exact acr hE [.tmp 4] (.tmp .nil) (.one _) [] 9999
/-! laws_eqInsS -/
def laws_eqInsS.l0 : Nat → (List S151) → (List S151) → Int → Option (Bool)
 | 0, _, _, _ => none
 | k9 + 1, l0, l1, p8 => if p8 < (l0.length : Int) then if 0 ≤ p8 then (if p8 < (l1.length : Int) then ((laws_eqIns.f ((rd_T151 l0 p8).f0) ((rd_T151 l0 p8).f1) ((rd_T151 l0 p8).f2) ((rd_T151 l0 p8).f3) ((rd_T151 l1 p8).f0) ((rd_T151 l1 p8).f1) ((rd_T151 l1 p8).f2) ((rd_T151 l1 p8).f3)).bind fun t13 => if t13 = true then laws_eqInsS.l0 k9 l0 l1 (wrap64 (p8 + 1)) else some false) else none) else none else some true
def laws_eqInsS.f (k : Nat) (l0 : List S151) (l1 : List S151) : Option (Bool) := if (l0.length : Int) = (l1.length : Int) then laws_eqInsS.l0 k l0 l1 0 else some false
theorem laws_eqInsS.ok {k : Nat} {l0 : List S151} {l1 : List S151} {r : Bool} (H : laws_eqInsS.f k l0 l1 = some r) : ACalls Try.prog 84 [] [.sl .o 4 (l0.map e151), .sl .o 4 (l1.map e151)] [] (.lit (.bool r)) := by
 refine acalls (fn := Try.f84) (nt := 27) Try.func84 rfl rfl (Nat.le_of_ble_eq_true rfl) fun E hE => ?_
 rw [laws_eqInsS.f] at H
 refine aw_grp1 ?_
 refine wk_start ?_
 refine kv g0 (asg) ?_
 refine wk_end ?_
 refine ac_next ?_
 refine aw_grp1 ?_
 refine aw_grp1 ?_
 refine wk_start ?_
 refine kv g0 (mv) ?_
 refine kv g0 (lnS lenE) ?_
 refine kv g0 (mv) ?_
 refine kv g0 (lnS lenE) ?_
 refine kv g0 (neq) ?_
 refine wk_end ?_
 refine ac_next ?_
 by_cases c1 : (l0.length : Int) = (l1.length : Int)
 ·rw [if_pos c1] at H
  refine aw_ifF ?_ (eM c1)
  refine aw_skip ?_
  refine ac_next ?_
  refine aw_grp1 ?_
  refine aw_grp1 ?_
  refine wk_start ?_
  refine kv g0 (asg) ?_
  refine wk_end ?_
  refine ac_next ?_
  refine aw_block ?_
  refine aw_loop1 (fun (k_ : Nat) (p8 : Int) => k_ ≤ k ∧ laws_eqInsS.l0 k_ l0 l1 p8 = some r) (fun (p8 : Int) => ⟨[(0, .sl .o 4 (l0.map e151)), (1, .sl .o 4 (l1.map e151)), (5, .lit (.int .i64 p8))], []⟩) k 0 ⟨Nat.le_refl _, H⟩ (fun K_ h_ => acw hE [] 9999 h_) (fun _ => by intro h_; have h_ := h_.2; rw [laws_eqInsS.l0.eq_1] at h_; cases h_) ?_
  intro k9 p8 hq_ K16 hK17
  have hk9 := hq_.1
  have H := hq_.2
  clear hq_
  rw [laws_eqInsS.l0.eq_2] at H
  refine aw_grp1 ?_
  refine aw_grp1 ?_
  refine wk_start ?_
  refine kv g0 (mv) ?_
  refine kv g0 (mv) ?_
  refine kv g0 (lnS lenE) ?_
  refine kv g0 (lss) ?_
  refine wk_end ?_
  refine ac_next ?_
  by_cases c10 : p8 < (l0.length : Int)
  ·rw [if_pos c10] at H
   refine aw_ifT ?_ (decide_eq_true c10)
   refine aw_skip ?_
   refine ac_next ?_
   refine aw_grp1 ?_
   refine aw_block ?_
   refine aw_grp1 ?_
   refine wk_start ?_
   refine kv g0 (mv) ?_
   refine kv g0 (mv) ?_
   obtain ⟨c11, H⟩ := of_if H
   refine kv g0 (ixS 151 (e151 (rd_T151 l0 p8)) c11 (getE (z := z151) c11 c10)) ?_
   refine kv g0 (ldRA 4 [.lit (.int .i64 ((rd_T151 l0 p8).f0)), .lit (.int .i64 ((rd_T151 l0 p8).f1)), .lit (.int .i64 ((rd_T151 l0 p8).f2)), .lit (.int .i64 ((rd_T151 l0 p8).f3))]) ?_
   refine kv g0 (mv) ?_
   refine kv g0 (mv) ?_
   obtain ⟨c12, H⟩ := of_if H
   refine kv g0 (ixS 151 (e151 (rd_T151 l1 p8)) c11 (getE (z := z151) c11 c12)) ?_
   refine kv g0 (ldRA 4 [.lit (.int .i64 ((rd_T151 l1 p8).f0)), .lit (.int .i64 ((rd_T151 l1 p8).f1)), .lit (.int .i64 ((rd_T151 l1 p8).f2)), .lit (.int .i64 ((rd_T151 l1 p8).f3))]) ?_
   obtain ⟨t13, A14, H⟩ := of_bind H
   refine kcS0 25 (.lit (.bool t13)) [] g0 (cal (laws_eqIns.ok A14) [] 9999 .n (hf := Try.func96)) rfl rfl ?_
   refine kv g0 (not_) ?_
   refine wk_end_draw hM (by kernel_rfl) ?_
   refine ac_next ?_
   by_cases c15 : t13 = true
   ·rw [if_pos c15] at H
    refine aw_ifF ?_ (nF c15)
    refine aw_skip ?_
    refine ac_blkN ?_
    refine ac_next ?_
    refine wk_start ?_
    refine kv g0 (mv) ?_
    refine kv g0 (add6) ?_
    refine kv g0 (asg) ?_
    refine wk_end ?_
    refine ac_k ?_
    exact acw hE [] 9999 (hK17 k9 (wrap64 (p8 + 1)) (Nat.le_refl _) ⟨by omega, H⟩)
   rw [if_neg c15] at H
   refine aw_ifT ?_ (nT (bF c15))
   refine aw_grp1 ?_
   refine wk_start ?_
   refine kv g0 (asg) ?_
   refine wk_end ?_
   refine ac_next ?_
   refine aw_ret ?_
   refine ac_blkR ?_
   refine ac_thenR ?_
   refine ac_thenR ?_
   refine ac_blkR ?_
   refine ac_thenR ?_
   obtain rfl := Option.some.inj H
   exact acr hE [.tmp 4] (.tmp .nil) (.one _) [] 9999
  rw [if_neg c10] at H
  refine aw_ifF ?_ (decide_eq_false c10)
  refine aw_exit ?_
  refine ac_then ?_
  refine ac_then ?_
  refine ac_hit rfl ?_
  refine ac_next ?_
  refine aw_grp1 ?_
  refine wk_start ?_
  refine kv g0 (asg) ?_
  refine wk_end ?_
  refine ac_next ?_
  refine aw_ret ?_
  obtain rfl := Option.some.inj H
  exact acr hE [.tmp 4] (.tmp .nil) (.one _) [] 9999
 rw [if_neg c1] at H
 refine aw_ifT ?_ (eN c1)
 refine aw_grp1 ?_
 refine wk_start ?_
 refine kv g0 (asg) ?_
 refine wk_end ?_
 refine ac_next ?_
 refine aw_ret ?_
 refine ac_thenR ?_
 obtain rfl := Option.some.inj H
 exact acr hE [.tmp 4] (.tmp .nil) (.one _) [] 9999
/-! laws_eqInsSS -/
def laws_eqInsSS.l0 : Nat → (List (List S151)) → (List (List S151)) → Int → Option (Bool)
 | 0, _, _, _ => none
 | k9 + 1, l0, l1, p8 => if p8 < (l0.length : Int) then if 0 ≤ p8 then (if p8 < (l1.length : Int) then ((laws_eqInsS.f k9 (rdOf ([] : List S151) l0 p8) (rdOf ([] : List S151) l1 p8)).bind fun t13 => if t13 = true then laws_eqInsSS.l0 k9 l0 l1 (wrap64 (p8 + 1)) else some false) else none) else none else some true
def laws_eqInsSS.f (k : Nat) (l0 : List (List S151)) (l1 : List (List S151)) : Option (Bool) := if (l0.length : Int) = (l1.length : Int) then laws_eqInsSS.l0 k l0 l1 0 else some false
theorem laws_eqInsSS.ok {k : Nat} {l0 : List (List S151)} {l1 : List (List S151)} {r : Bool} (H : laws_eqInsSS.f k l0 l1 = some r) : ACalls Try.prog 56 [] [.sl .o 1 (l0.map (eL 4 (e151))), .sl .o 1 (l1.map (eL 4 (e151)))] [] (.lit (.bool r)) := by
 refine acalls (fn := Try.f56) (nt := 27) Try.func56 rfl rfl (Nat.le_of_ble_eq_true rfl) fun E hE => ?_
 rw [laws_eqInsSS.f] at H
 refine aw_grp1 ?_
 refine wk_start ?_
 refine kv g0 (asg) ?_
 refine wk_end ?_
 refine ac_next ?_
 refine aw_grp1 ?_
 refine aw_grp1 ?_
 refine wk_start ?_
 refine kv g0 (mv) ?_
 refine kv g0 (lnS lenE) ?_
 refine kv g0 (mv) ?_
 refine kv g0 (lnS lenE) ?_
 refine kv g0 (neq) ?_
 refine wk_end ?_
 refine ac_next ?_
 by_cases c1 : (l0.length : Int) = (l1.length : Int)
 ·rw [if_pos c1] at H
  refine aw_ifF ?_ (eM c1)
  refine aw_skip ?_
  refine ac_next ?_
  refine aw_grp1 ?_
  refine aw_grp1 ?_
  refine wk_start ?_
  refine kv g0 (asg) ?_
  refine wk_end ?_
  refine ac_next ?_
  refine aw_block ?_
  refine aw_loop1 (fun (k_ : Nat) (p8 : Int) => k_ ≤ k ∧ laws_eqInsSS.l0 k_ l0 l1 p8 = some r) (fun (p8 : Int) => ⟨[(0, .sl .o 1 (l0.map (eL 4 (e151)))), (1, .sl .o 1 (l1.map (eL 4 (e151)))), (5, .lit (.int .i64 p8))], []⟩) k 0 ⟨Nat.le_refl _, H⟩ (fun K_ h_ => acw hE [] 9999 h_) (fun _ => by intro h_; have h_ := h_.2; rw [laws_eqInsSS.l0.eq_1] at h_; cases h_) ?_
  intro k9 p8 hq_ K16 hK17
  have hk9 := hq_.1
  have H := hq_.2
  clear hq_
  rw [laws_eqInsSS.l0.eq_2] at H
  refine aw_grp1 ?_
  refine aw_grp1 ?_
  refine wk_start ?_
  refine kv g0 (mv) ?_
  refine kv g0 (mv) ?_
  refine kv g0 (lnS lenE) ?_
  refine kv g0 (lss) ?_
  refine wk_end ?_
  refine ac_next ?_
  by_cases c10 : p8 < (l0.length : Int)
  ·rw [if_pos c10] at H
   refine aw_ifT ?_ (decide_eq_true c10)
   refine aw_skip ?_
   refine ac_next ?_
   refine aw_grp1 ?_
   refine aw_block ?_
   refine aw_grp1 ?_
   refine wk_start ?_
   refine kv g0 (mv) ?_
   refine kv g0 (mv) ?_
   obtain ⟨c11, H⟩ := of_if H
   refine kv g0 (ixS 127 (eL 4 (e151) (rdOf ([] : List S151) l0 p8)) c11 (getE (z := ([] : List S151)) c11 c10)) ?_
   refine kv g0 (ldR (.sl .o 4 ((rdOf ([] : List S151) l0 p8).map e151))) ?_
   refine kv g0 (mv) ?_
   refine kv g0 (mv) ?_
   obtain ⟨c12, H⟩ := of_if H
   refine kv g0 (ixS 127 (eL 4 (e151) (rdOf ([] : List S151) l1 p8)) c11 (getE (z := ([] : List S151)) c11 c12)) ?_
   refine kv g0 (ldR (.sl .o 4 ((rdOf ([] : List S151) l1 p8).map e151))) ?_
   obtain ⟨t13, A14, H⟩ := of_bind H
   refine kcS0 25 (.lit (.bool t13)) [] g0 (cal (laws_eqInsS.ok A14) [] 9999 .n (hf := Try.func84)) rfl rfl ?_
   refine kv g0 (not_) ?_
   refine wk_end_draw hM (by kernel_rfl) ?_
   refine ac_next ?_
   by_cases c15 : t13 = true
   ·rw [if_pos c15] at H
    refine aw_ifF ?_ (nF c15)
    refine aw_skip ?_
    refine ac_blkN ?_
    refine ac_next ?_
    refine wk_start ?_
    refine kv g0 (mv) ?_
    refine kv g0 (add6) ?_
    refine kv g0 (asg) ?_
    refine wk_end ?_
    refine ac_k ?_
    exact acw hE [] 9999 (hK17 k9 (wrap64 (p8 + 1)) (Nat.le_refl _) ⟨by omega, H⟩)
   rw [if_neg c15] at H
   refine aw_ifT ?_ (nT (bF c15))
   refine aw_grp1 ?_
   refine wk_start ?_
   refine kv g0 (asg) ?_
   refine wk_end ?_
   refine ac_next ?_
   refine aw_ret ?_
   refine ac_blkR ?_
   refine ac_thenR ?_
   refine ac_thenR ?_
   refine ac_blkR ?_
   refine ac_thenR ?_
   obtain rfl := Option.some.inj H
   exact acr hE [.tmp 4] (.tmp .nil) (.one _) [] 9999
  rw [if_neg c10] at H
  refine aw_ifF ?_ (decide_eq_false c10)
  refine aw_exit ?_
  refine ac_then ?_
  refine ac_then ?_
  refine ac_hit rfl ?_
  refine ac_next ?_
  refine aw_grp1 ?_
  refine wk_start ?_
  refine kv g0 (asg) ?_
  refine wk_end ?_
  refine ac_next ?_
  refine aw_ret ?_
  obtain rfl := Option.some.inj H
  exact acr hE [.tmp 4] (.tmp .nil) (.one _) [] 9999
 rw [if_neg c1] at H
 refine aw_ifT ?_ (eN c1)
 refine aw_grp1 ?_
 refine wk_start ?_
 refine kv g0 (asg) ?_
 refine wk_end ?_
 refine ac_next ?_
 refine aw_ret ?_
 refine ac_thenR ?_
 obtain rfl := Option.some.inj H
 exact acr hE [.tmp 4] (.tmp .nil) (.one _) [] 9999
/-! laws_eqInsSSS -/
def laws_eqInsSSS.l0 : Nat → (List (List (List S151))) → (List (List (List S151))) → Int → Option (Bool)
 | 0, _, _, _ => none
 | k9 + 1, l0, l1, p8 => if p8 < (l0.length : Int) then if 0 ≤ p8 then (if p8 < (l1.length : Int) then ((laws_eqInsSS.f k9 (rdOf ([] : List (List S151)) l0 p8) (rdOf ([] : List (List S151)) l1 p8)).bind fun t13 => if t13 = true then laws_eqInsSSS.l0 k9 l0 l1 (wrap64 (p8 + 1)) else some false) else none) else none else some true
def laws_eqInsSSS.f (k : Nat) (l0 : List (List (List S151))) (l1 : List (List (List S151))) : Option (Bool) := if (l0.length : Int) = (l1.length : Int) then laws_eqInsSSS.l0 k l0 l1 0 else some false
theorem laws_eqInsSSS.ok {k : Nat} {l0 : List (List (List S151))} {l1 : List (List (List S151))} {r : Bool} (H : laws_eqInsSSS.f k l0 l1 = some r) : ACalls Try.prog 23 [] [.sl .o 1 (l0.map (eL 1 (eL 4 (e151)))), .sl .o 1 (l1.map (eL 1 (eL 4 (e151))))] [] (.lit (.bool r)) := by
 refine acalls (fn := Try.f23) (nt := 27) Try.func23 rfl rfl (Nat.le_of_ble_eq_true rfl) fun E hE => ?_
 rw [laws_eqInsSSS.f] at H
 refine aw_grp1 ?_
 refine wk_start ?_
 refine kv g0 (asg) ?_
 refine wk_end ?_
 refine ac_next ?_
 refine aw_grp1 ?_
 refine aw_grp1 ?_
 refine wk_start ?_
 refine kv g0 (mv) ?_
 refine kv g0 (lnS lenE) ?_
 refine kv g0 (mv) ?_
 refine kv g0 (lnS lenE) ?_
 refine kv g0 (neq) ?_
 refine wk_end ?_
 refine ac_next ?_
 by_cases c1 : (l0.length : Int) = (l1.length : Int)
 ·rw [if_pos c1] at H
  refine aw_ifF ?_ (eM c1)
  refine aw_skip ?_
  refine ac_next ?_
  refine aw_grp1 ?_
  refine aw_grp1 ?_
  refine wk_start ?_
  refine kv g0 (asg) ?_
  refine wk_end ?_
  refine ac_next ?_
  refine aw_block ?_
  refine aw_loop1 (fun (k_ : Nat) (p8 : Int) => k_ ≤ k ∧ laws_eqInsSSS.l0 k_ l0 l1 p8 = some r) (fun (p8 : Int) => ⟨[(0, .sl .o 1 (l0.map (eL 1 (eL 4 (e151))))), (1, .sl .o 1 (l1.map (eL 1 (eL 4 (e151))))), (5, .lit (.int .i64 p8))], []⟩) k 0 ⟨Nat.le_refl _, H⟩ (fun K_ h_ => acw hE [] 9999 h_) (fun _ => by intro h_; have h_ := h_.2; rw [laws_eqInsSSS.l0.eq_1] at h_; cases h_) ?_
  intro k9 p8 hq_ K16 hK17
  have hk9 := hq_.1
  have H := hq_.2
  clear hq_
  rw [laws_eqInsSSS.l0.eq_2] at H
  refine aw_grp1 ?_
  refine aw_grp1 ?_
  refine wk_start ?_
  refine kv g0 (mv) ?_
  refine kv g0 (mv) ?_
  refine kv g0 (lnS lenE) ?_
  refine kv g0 (lss) ?_
  refine wk_end ?_
  refine ac_next ?_
  by_cases c10 : p8 < (l0.length : Int)
  ·rw [if_pos c10] at H
   refine aw_ifT ?_ (decide_eq_true c10)
   refine aw_skip ?_
   refine ac_next ?_
   refine aw_grp1 ?_
   refine aw_block ?_
   refine aw_grp1 ?_
   refine wk_start ?_
   refine kv g0 (mv) ?_
   refine kv g0 (mv) ?_
   obtain ⟨c11, H⟩ := of_if H
   refine kv g0 (ixS 56 (eL 1 (eL 4 (e151)) (rdOf ([] : List (List S151)) l0 p8)) c11 (getE (z := ([] : List (List S151))) c11 c10)) ?_
   refine kv g0 (ldR (.sl .o 1 ((rdOf ([] : List (List S151)) l0 p8).map (eL 4 (e151))))) ?_
   refine kv g0 (mv) ?_
   refine kv g0 (mv) ?_
   obtain ⟨c12, H⟩ := of_if H
   refine kv g0 (ixS 56 (eL 1 (eL 4 (e151)) (rdOf ([] : List (List S151)) l1 p8)) c11 (getE (z := ([] : List (List S151))) c11 c12)) ?_
   refine kv g0 (ldR (.sl .o 1 ((rdOf ([] : List (List S151)) l1 p8).map (eL 4 (e151))))) ?_
   obtain ⟨t13, A14, H⟩ := of_bind H
   refine kcS0 25 (.lit (.bool t13)) [] g0 (cal (laws_eqInsSS.ok A14) [] 9999 .n (hf := Try.func56)) rfl rfl ?_
   refine kv g0 (not_) ?_
   refine wk_end_draw hM (by kernel_rfl) ?_
   refine ac_next ?_
   by_cases c15 : t13 = true
   ·rw [if_pos c15] at H
    refine aw_ifF ?_ (nF c15)
    refine aw_skip ?_
    refine ac_blkN ?_
    refine ac_next ?_
    refine wk_start ?_
    refine kv g0 (mv) ?_
    refine kv g0 (add6) ?_
    refine kv g0 (asg) ?_
    refine wk_end ?_
    refine ac_k ?_
    exact acw hE [] 9999 (hK17 k9 (wrap64 (p8 + 1)) (Nat.le_refl _) ⟨by omega, H⟩)
   rw [if_neg c15] at H
   refine aw_ifT ?_ (nT (bF c15))
   refine aw_grp1 ?_
   refine wk_start ?_
   refine kv g0 (asg) ?_
   refine wk_end ?_
   refine ac_next ?_
   refine aw_ret ?_
   refine ac_blkR ?_
   refine ac_thenR ?_
   refine ac_thenR ?_
   refine ac_blkR ?_
   refine ac_thenR ?_
   obtain rfl := Option.some.inj H
   exact acr hE [.tmp 4] (.tmp .nil) (.one _) [] 9999
  rw [if_neg c10] at H
  refine aw_ifF ?_ (decide_eq_false c10)
  refine aw_exit ?_
  refine ac_then ?_
  refine ac_then ?_
  refine ac_hit rfl ?_
  refine ac_next ?_
  refine aw_grp1 ?_
  refine wk_start ?_
  refine kv g0 (asg) ?_
  refine wk_end ?_
  refine ac_next ?_
  refine aw_ret ?_
  obtain rfl := Option.some.inj H
  exact acr hE [.tmp 4] (.tmp .nil) (.one _) [] 9999
 rw [if_neg c1] at H
 refine aw_ifT ?_ (eN c1)
 refine aw_grp1 ?_
 refine wk_start ?_
 refine kv g0 (asg) ?_
 refine wk_end ?_
 refine ac_next ?_
 refine aw_ret ?_
 refine ac_thenR ?_
 obtain rfl := Option.some.inj H
 exact acr hE [.tmp 4] (.tmp .nil) (.one _) [] 9999
/-! laws_eqItem -/
def laws_eqItem.f (a0_0 : Int) (a0_1 : Int) (a0_2 : Int) (a0_3 : Int) (a1_0 : Int) (a1_1 : Int) (a1_2 : Int) (a1_3 : Int) : Option (Bool) := if a0_0 = a1_0 then if a0_1 = a1_1 then if a0_2 = a1_2 then if a0_3 = a1_3 then some true else some false else some false else some false else some false
theorem laws_eqItem.ok {a0_0 : Int} {a0_1 : Int} {a0_2 : Int} {a0_3 : Int} {a1_0 : Int} {a1_1 : Int} {a1_2 : Int} {a1_3 : Int} {r : Bool} (H : laws_eqItem.f a0_0 a0_1 a0_2 a0_3 a1_0 a1_1 a1_2 a1_3 = some r) : ACalls Try.prog 97 [] [.agg [.lit (.int .i64 a0_0), .lit (.int .i64 a0_1), .lit (.int .i64 a0_2), .lit (.int .i64 a0_3)], .agg [.lit (.int .i64 a1_0), .lit (.int .i64 a1_1), .lit (.int .i64 a1_2), .lit (.int .i64 a1_3)]] [] (.lit (.bool r)) := by
 refine acalls (fn := Try.f97) (nt := 25) Try.func97 rfl rfl (Nat.le_of_ble_eq_true rfl) fun E hE => ?_
 rw [laws_eqItem.f] at H
 refine aw_grp1 ?_
 refine wk_start ?_
 refine kb g0 (bxA 0) ?_
 refine kb g0 (bxA 1) ?_
 refine kv g0 (asg) ?_
 refine wk_end ?_
 refine ac_next ?_
 refine aw_grp1 ?_
 refine aw_grp1 ?_
 refine wk_start ?_
 refine kv g0 (faB 0 0) ?_
 refine kv g0 (ldB) ?_
 refine kv g0 (faB 0 0) ?_
 refine kv g0 (ldB) ?_
 refine kv g0 (neq) ?_
 refine wk_end ?_
 refine ac_next ?_
 by_cases c1 : a0_0 = a1_0
 ·rw [if_pos c1] at H
  refine aw_ifF ?_ (eM c1)
  refine aw_skip ?_
  refine ac_next ?_
  refine aw_grp1 ?_
  refine aw_grp1 ?_
  refine wk_start ?_
  refine kv g0 (faB 1 1) ?_
  refine kv g0 (ldB) ?_
  refine kv g0 (faB 1 1) ?_
  refine kv g0 (ldB) ?_
  refine kv g0 (neq) ?_
  refine wk_end ?_
  refine ac_next ?_
  by_cases c2 : a0_1 = a1_1
  ·rw [if_pos c2] at H
   refine aw_ifF ?_ (eM c2)
   refine aw_skip ?_
   refine ac_next ?_
   refine aw_grp1 ?_
   refine aw_grp1 ?_
   refine wk_start ?_
   refine kv g0 (faB 2 2) ?_
   refine kv g0 (ldB) ?_
   refine kv g0 (faB 2 2) ?_
   refine kv g0 (ldB) ?_
   refine kv g0 (neq) ?_
   refine wk_end ?_
   refine ac_next ?_
   by_cases c3 : a0_2 = a1_2
   ·rw [if_pos c3] at H
    refine aw_ifF ?_ (eM c3)
    refine aw_skip ?_
    refine ac_next ?_
    refine aw_grp1 ?_
    refine aw_grp1 ?_
    refine wk_start ?_
    refine kv g0 (faB 3 3) ?_
    refine kv g0 (ldB) ?_
    refine kv g0 (faB 3 3) ?_
    refine kv g0 (ldB) ?_
    refine kv g0 (neq) ?_
    refine wk_end ?_
    refine ac_next ?_
    by_cases c4 : a0_3 = a1_3
    ·rw [if_pos c4] at H
     refine aw_ifF ?_ (eM c4)
     refine aw_skip ?_
     refine ac_next ?_
     refine aw_grp1 ?_
     refine wk_start ?_
     refine kv g0 (asg) ?_
     refine wk_end ?_
     refine ac_next ?_
     refine aw_ret ?_
     obtain rfl := Option.some.inj H
     exact acr hE [.tmp 4] (.tmp .nil) (.one _) [] 9999
    rw [if_neg c4] at H
    refine aw_ifT ?_ (eN c4)
    refine aw_grp1 ?_
    refine wk_start ?_
    refine kv g0 (asg) ?_
    refine wk_end ?_
    refine ac_next ?_
    refine aw_ret ?_
    refine ac_thenR ?_
    obtain rfl := Option.some.inj H
    exact acr hE [.tmp 4] (.tmp .nil) (.one _) [] 9999
   rw [if_neg c3] at H
   refine aw_ifT ?_ (eN c3)
   refine aw_grp1 ?_
   refine wk_start ?_
   refine kv g0 (asg) ?_
   refine wk_end ?_
   refine ac_next ?_
   refine aw_ret ?_
   refine ac_thenR ?_
   obtain rfl := Option.some.inj H
   exact acr hE [.tmp 4] (.tmp .nil) (.one _) [] 9999
  rw [if_neg c2] at H
  refine aw_ifT ?_ (eN c2)
  refine aw_grp1 ?_
  refine wk_start ?_
  refine kv g0 (asg) ?_
  refine wk_end ?_
  refine ac_next ?_
  refine aw_ret ?_
  refine ac_thenR ?_
  obtain rfl := Option.some.inj H
  exact acr hE [.tmp 4] (.tmp .nil) (.one _) [] 9999
 rw [if_neg c1] at H
 refine aw_ifT ?_ (eN c1)
 refine aw_grp1 ?_
 refine wk_start ?_
 refine kv g0 (asg) ?_
 refine wk_end ?_
 refine ac_next ?_
 refine aw_ret ?_
 refine ac_thenR ?_
 obtain rfl := Option.some.inj H
 exact acr hE [.tmp 4] (.tmp .nil) (.one _) [] 9999
/-! laws_eqItemS -/
def laws_eqItemS.l0 : Nat → (List S131) → (List S131) → Int → Option (Bool)
 | 0, _, _, _ => none
 | k9 + 1, l0, l1, p8 => if p8 < (l0.length : Int) then if 0 ≤ p8 then (if p8 < (l1.length : Int) then ((laws_eqItem.f ((rd_T131 l0 p8).f0) ((rd_T131 l0 p8).f1) ((rd_T131 l0 p8).f2) ((rd_T131 l0 p8).f3) ((rd_T131 l1 p8).f0) ((rd_T131 l1 p8).f1) ((rd_T131 l1 p8).f2) ((rd_T131 l1 p8).f3)).bind fun t13 => if t13 = true then laws_eqItemS.l0 k9 l0 l1 (wrap64 (p8 + 1)) else some false) else none) else none else some true
def laws_eqItemS.f (k : Nat) (l0 : List S131) (l1 : List S131) : Option (Bool) := if (l0.length : Int) = (l1.length : Int) then laws_eqItemS.l0 k l0 l1 0 else some false
theorem laws_eqItemS.ok {k : Nat} {l0 : List S131} {l1 : List S131} {r : Bool} (H : laws_eqItemS.f k l0 l1 = some r) : ACalls Try.prog 85 [] [.sl .o 4 (l0.map e131), .sl .o 4 (l1.map e131)] [] (.lit (.bool r)) := by
 refine acalls (fn := Try.f85) (nt := 27) Try.func85 rfl rfl (Nat.le_of_ble_eq_true rfl) fun E hE => ?_
 rw [laws_eqItemS.f] at H
 refine aw_grp1 ?_
 refine wk_start ?_
 refine kv g0 (asg) ?_
 refine wk_end ?_
 refine ac_next ?_
 refine aw_grp1 ?_
 refine aw_grp1 ?_
 refine wk_start ?_
 refine kv g0 (mv) ?_
 refine kv g0 (lnS lenE) ?_
 refine kv g0 (mv) ?_
 refine kv g0 (lnS lenE) ?_
 refine kv g0 (neq) ?_
 refine wk_end ?_
 refine ac_next ?_
 by_cases c1 : (l0.length : Int) = (l1.length : Int)
 ·rw [if_pos c1] at H
  refine aw_ifF ?_ (eM c1)
  refine aw_skip ?_
  refine ac_next ?_
  refine aw_grp1 ?_
  refine aw_grp1 ?_
  refine wk_start ?_
  refine kv g0 (asg) ?_
  refine wk_end ?_
  refine ac_next ?_
  refine aw_block ?_
  refine aw_loop1 (fun (k_ : Nat) (p8 : Int) => k_ ≤ k ∧ laws_eqItemS.l0 k_ l0 l1 p8 = some r) (fun (p8 : Int) => ⟨[(0, .sl .o 4 (l0.map e131)), (1, .sl .o 4 (l1.map e131)), (5, .lit (.int .i64 p8))], []⟩) k 0 ⟨Nat.le_refl _, H⟩ (fun K_ h_ => acw hE [] 9999 h_) (fun _ => by intro h_; have h_ := h_.2; rw [laws_eqItemS.l0.eq_1] at h_; cases h_) ?_
  intro k9 p8 hq_ K16 hK17
  have hk9 := hq_.1
  have H := hq_.2
  clear hq_
  rw [laws_eqItemS.l0.eq_2] at H
  refine aw_grp1 ?_
  refine aw_grp1 ?_
  refine wk_start ?_
  refine kv g0 (mv) ?_
  refine kv g0 (mv) ?_
  refine kv g0 (lnS lenE) ?_
  refine kv g0 (lss) ?_
  refine wk_end ?_
  refine ac_next ?_
  by_cases c10 : p8 < (l0.length : Int)
  ·rw [if_pos c10] at H
   refine aw_ifT ?_ (decide_eq_true c10)
   refine aw_skip ?_
   refine ac_next ?_
   refine aw_grp1 ?_
   refine aw_block ?_
   refine aw_grp1 ?_
   refine wk_start ?_
   refine kv g0 (mv) ?_
   refine kv g0 (mv) ?_
   obtain ⟨c11, H⟩ := of_if H
   refine kv g0 (ixS 131 (e131 (rd_T131 l0 p8)) c11 (getE (z := z131) c11 c10)) ?_
   refine kv g0 (ldRA 4 [.lit (.int .i64 ((rd_T131 l0 p8).f0)), .lit (.int .i64 ((rd_T131 l0 p8).f1)), .lit (.int .i64 ((rd_T131 l0 p8).f2)), .lit (.int .i64 ((rd_T131 l0 p8).f3))]) ?_
   refine kv g0 (mv) ?_
   refine kv g0 (mv) ?_
   obtain ⟨c12, H⟩ := of_if H
   refine kv g0 (ixS 131 (e131 (rd_T131 l1 p8)) c11 (getE (z := z131) c11 c12)) ?_
   refine kv g0 (ldRA 4 [.lit (.int .i64 ((rd_T131 l1 p8).f0)), .lit (.int .i64 ((rd_T131 l1 p8).f1)), .lit (.int .i64 ((rd_T131 l1 p8).f2)), .lit (.int .i64 ((rd_T131 l1 p8).f3))]) ?_
   obtain ⟨t13, A14, H⟩ := of_bind H
   refine kcS0 25 (.lit (.bool t13)) [] g0 (cal (laws_eqItem.ok A14) [] 9999 .n (hf := Try.func97)) rfl rfl ?_
   refine kv g0 (not_) ?_
   refine wk_end_draw hM (by kernel_rfl) ?_
   refine ac_next ?_
   by_cases c15 : t13 = true
   ·rw [if_pos c15] at H
    refine aw_ifF ?_ (nF c15)
    refine aw_skip ?_
    refine ac_blkN ?_
    refine ac_next ?_
    refine wk_start ?_
    refine kv g0 (mv) ?_
    refine kv g0 (add6) ?_
    refine kv g0 (asg) ?_
    refine wk_end ?_
    refine ac_k ?_
    exact acw hE [] 9999 (hK17 k9 (wrap64 (p8 + 1)) (Nat.le_refl _) ⟨by omega, H⟩)
   rw [if_neg c15] at H
   refine aw_ifT ?_ (nT (bF c15))
   refine aw_grp1 ?_
   refine wk_start ?_
   refine kv g0 (asg) ?_
   refine wk_end ?_
   refine ac_next ?_
   refine aw_ret ?_
   refine ac_blkR ?_
   refine ac_thenR ?_
   refine ac_thenR ?_
   refine ac_blkR ?_
   refine ac_thenR ?_
   obtain rfl := Option.some.inj H
   exact acr hE [.tmp 4] (.tmp .nil) (.one _) [] 9999
  rw [if_neg c10] at H
  refine aw_ifF ?_ (decide_eq_false c10)
  refine aw_exit ?_
  refine ac_then ?_
  refine ac_then ?_
  refine ac_hit rfl ?_
  refine ac_next ?_
  refine aw_grp1 ?_
  refine wk_start ?_
  refine kv g0 (asg) ?_
  refine wk_end ?_
  refine ac_next ?_
  refine aw_ret ?_
  obtain rfl := Option.some.inj H
  exact acr hE [.tmp 4] (.tmp .nil) (.one _) [] 9999
 rw [if_neg c1] at H
 refine aw_ifT ?_ (eN c1)
 refine aw_grp1 ?_
 refine wk_start ?_
 refine kv g0 (asg) ?_
 refine wk_end ?_
 refine ac_next ?_
 refine aw_ret ?_
 refine ac_thenR ?_
 obtain rfl := Option.some.inj H
 exact acr hE [.tmp 4] (.tmp .nil) (.one _) [] 9999
/-! laws_eqRing -/
def laws_eqRing.f (k : Nat) (l0_0 : List S131) (a0_1 : Int) (a0_2 : Int) (a0_3 : Int) (l1_0 : List S131) (a1_1 : Int) (a1_2 : Int) (a1_3 : Int) : Option (Bool) := (laws_eqItemS.f k l0_0 l1_0).bind fun t1 => if t1 = true then if a0_1 = a1_1 then if a0_2 = a1_2 then if a0_3 = a1_3 then some true else some false else some false else some false else some false
theorem laws_eqRing.ok {k : Nat} {l0_0 : List S131} {a0_1 : Int} {a0_2 : Int} {a0_3 : Int} {l1_0 : List S131} {a1_1 : Int} {a1_2 : Int} {a1_3 : Int} {r : Bool} (H : laws_eqRing.f k l0_0 a0_1 a0_2 a0_3 l1_0 a1_1 a1_2 a1_3 = some r) : ACalls Try.prog 57 [] [.agg [.sl .o 4 (l0_0.map e131), .lit (.int .i64 a0_1), .lit (.int .i64 a0_2), .lit (.int .i64 a0_3)], .agg [.sl .o 4 (l1_0.map e131), .lit (.int .i64 a1_1), .lit (.int .i64 a1_2), .lit (.int .i64 a1_3)]] [] (.lit (.bool r)) := by
 refine acalls (fn := Try.f57) (nt := 26) Try.func57 rfl rfl (Nat.le_of_ble_eq_true rfl) fun E hE => ?_
 rw [laws_eqRing.f] at H
 refine aw_grp1 ?_
 refine wk_start ?_
 refine kb g0 (bxA 0) ?_
 refine kb g0 (bxA 1) ?_
 refine kv g0 (asg) ?_
 refine wk_end ?_
 refine ac_next ?_
 refine aw_grp1 ?_
 refine aw_grp1 ?_
 refine wk_start ?_
 refine kv g0 (faB 0 0) ?_
 refine kv g0 (ldB) ?_
 refine kv g0 (faB 0 0) ?_
 refine kv g0 (ldB) ?_
 obtain ⟨t1, A2, H⟩ := of_bind H
 refine kcS0 9 (.lit (.bool t1)) [] g0 (cal (laws_eqItemS.ok A2) [] 9999 .n (hf := Try.func85)) rfl rfl ?_
 refine kv g0 (not_) ?_
 refine wk_end ?_
 refine ac_next ?_
 by_cases c3 : t1 = true
 ·rw [if_pos c3] at H
  refine aw_ifF ?_ (nF c3)
  refine aw_skip ?_
  refine ac_next ?_
  refine aw_grp1 ?_
  refine aw_grp1 ?_
  refine wk_start ?_
  refine kv g0 (faB 1 1) ?_
  refine kv g0 (ldB) ?_
  refine kv g0 (faB 1 1) ?_
  refine kv g0 (ldB) ?_
  refine kv g0 (neq) ?_
  refine wk_end ?_
  refine ac_next ?_
  by_cases c4 : a0_1 = a1_1
  ·rw [if_pos c4] at H
   refine aw_ifF ?_ (eM c4)
   refine aw_skip ?_
   refine ac_next ?_
   refine aw_grp1 ?_
   refine aw_grp1 ?_
   refine wk_start ?_
   refine kv g0 (faB 2 2) ?_
   refine kv g0 (ldB) ?_
   refine kv g0 (faB 2 2) ?_
   refine kv g0 (ldB) ?_
   refine kv g0 (neq) ?_
   refine wk_end ?_
   refine ac_next ?_
   by_cases c5 : a0_2 = a1_2
   ·rw [if_pos c5] at H
    refine aw_ifF ?_ (eM c5)
    refine aw_skip ?_
    refine ac_next ?_
    refine aw_grp1 ?_
    refine aw_grp1 ?_
    refine wk_start ?_
    refine kv g0 (faB 3 3) ?_
    refine kv g0 (ldB) ?_
    refine kv g0 (faB 3 3) ?_
    refine kv g0 (ldB) ?_
    refine kv g0 (neq) ?_
    refine wk_end ?_
    refine ac_next ?_
    by_cases c6 : a0_3 = a1_3
    ·rw [if_pos c6] at H
     refine aw_ifF ?_ (eM c6)
     refine aw_skip ?_
     refine ac_next ?_
     refine aw_grp1 ?_
     refine wk_start ?_
     refine kv g0 (asg) ?_
     refine wk_end ?_
     refine ac_next ?_
     refine aw_ret ?_
     obtain rfl := Option.some.inj H
     exact acr hE [.tmp 4] (.tmp .nil) (.one _) [] 9999
    rw [if_neg c6] at H
    refine aw_ifT ?_ (eN c6)
    refine aw_grp1 ?_
    refine wk_start ?_
    refine kv g0 (asg) ?_
    refine wk_end ?_
    refine ac_next ?_
    refine aw_ret ?_
    refine ac_thenR ?_
    obtain rfl := Option.some.inj H
    exact acr hE [.tmp 4] (.tmp .nil) (.one _) [] 9999
   rw [if_neg c5] at H
   refine aw_ifT ?_ (eN c5)
   refine aw_grp1 ?_
   refine wk_start ?_
   refine kv g0 (asg) ?_
   refine wk_end ?_
   refine ac_next ?_
   refine aw_ret ?_
   refine ac_thenR ?_
   obtain rfl := Option.some.inj H
   exact acr hE [.tmp 4] (.tmp .nil) (.one _) [] 9999
  rw [if_neg c4] at H
  refine aw_ifT ?_ (eN c4)
  refine aw_grp1 ?_
  refine wk_start ?_
  refine kv g0 (asg) ?_
  refine wk_end ?_
  refine ac_next ?_
  refine aw_ret ?_
  refine ac_thenR ?_
  obtain rfl := Option.some.inj H
  exact acr hE [.tmp 4] (.tmp .nil) (.one _) [] 9999
 rw [if_neg c3] at H
 refine aw_ifT ?_ (nT (bF c3))
 refine aw_grp1 ?_
 refine wk_start ?_
 refine kv g0 (asg) ?_
 refine wk_end ?_
 refine ac_next ?_
 refine aw_ret ?_
 refine ac_thenR ?_
 obtain rfl := Option.some.inj H
 exact acr hE [.tmp 4] (.tmp .nil) (.one _) [] 9999
/-! laws_eqRingS -/
def laws_eqRingS.l0 : Nat → (List S59) → (List S59) → Int → Option (Bool)
 | 0, _, _, _ => none
 | k9 + 1, l0, l1, p8 => if p8 < (l0.length : Int) then if 0 ≤ p8 then (if p8 < (l1.length : Int) then ((laws_eqRing.f k9 ((rd_T59 l0 p8).f0) ((rd_T59 l0 p8).f1) ((rd_T59 l0 p8).f2) ((rd_T59 l0 p8).f3) ((rd_T59 l1 p8).f0) ((rd_T59 l1 p8).f1) ((rd_T59 l1 p8).f2) ((rd_T59 l1 p8).f3)).bind fun t13 => if t13 = true then laws_eqRingS.l0 k9 l0 l1 (wrap64 (p8 + 1)) else some false) else none) else none else some true
def laws_eqRingS.f (k : Nat) (l0 : List S59) (l1 : List S59) : Option (Bool) := if (l0.length : Int) = (l1.length : Int) then laws_eqRingS.l0 k l0 l1 0 else some false
theorem laws_eqRingS.ok {k : Nat} {l0 : List S59} {l1 : List S59} {r : Bool} (H : laws_eqRingS.f k l0 l1 = some r) : ACalls Try.prog 24 [] [.sl .o 4 (l0.map e59), .sl .o 4 (l1.map e59)] [] (.lit (.bool r)) := by
 refine acalls (fn := Try.f24) (nt := 27) Try.func24 rfl rfl (Nat.le_of_ble_eq_true rfl) fun E hE => ?_
 rw [laws_eqRingS.f] at H
 refine aw_grp1 ?_
 refine wk_start ?_
 refine kv g0 (asg) ?_
 refine wk_end ?_
 refine ac_next ?_
 refine aw_grp1 ?_
 refine aw_grp1 ?_
 refine wk_start ?_
 refine kv g0 (mv) ?_
 refine kv g0 (lnS lenE) ?_
 refine kv g0 (mv) ?_
 refine kv g0 (lnS lenE) ?_
 refine kv g0 (neq) ?_
 refine wk_end ?_
 refine ac_next ?_
 by_cases c1 : (l0.length : Int) = (l1.length : Int)
 ·rw [if_pos c1] at H
  refine aw_ifF ?_ (eM c1)
  refine aw_skip ?_
  refine ac_next ?_
  refine aw_grp1 ?_
  refine aw_grp1 ?_
  refine wk_start ?_
  refine kv g0 (asg) ?_
  refine wk_end ?_
  refine ac_next ?_
  refine aw_block ?_
  refine aw_loop1 (fun (k_ : Nat) (p8 : Int) => k_ ≤ k ∧ laws_eqRingS.l0 k_ l0 l1 p8 = some r) (fun (p8 : Int) => ⟨[(0, .sl .o 4 (l0.map e59)), (1, .sl .o 4 (l1.map e59)), (5, .lit (.int .i64 p8))], []⟩) k 0 ⟨Nat.le_refl _, H⟩ (fun K_ h_ => acw hE [] 9999 h_) (fun _ => by intro h_; have h_ := h_.2; rw [laws_eqRingS.l0.eq_1] at h_; cases h_) ?_
  intro k9 p8 hq_ K16 hK17
  have hk9 := hq_.1
  have H := hq_.2
  clear hq_
  rw [laws_eqRingS.l0.eq_2] at H
  refine aw_grp1 ?_
  refine aw_grp1 ?_
  refine wk_start ?_
  refine kv g0 (mv) ?_
  refine kv g0 (mv) ?_
  refine kv g0 (lnS lenE) ?_
  refine kv g0 (lss) ?_
  refine wk_end ?_
  refine ac_next ?_
  by_cases c10 : p8 < (l0.length : Int)
  ·rw [if_pos c10] at H
   refine aw_ifT ?_ (decide_eq_true c10)
   refine aw_skip ?_
   refine ac_next ?_
   refine aw_grp1 ?_
   refine aw_block ?_
   refine aw_grp1 ?_
   refine wk_start ?_
   refine kv g0 (mv) ?_
   refine kv g0 (mv) ?_
   obtain ⟨c11, H⟩ := of_if H
   refine kv g0 (ixS 59 (e59 (rd_T59 l0 p8)) c11 (getE (z := z59) c11 c10)) ?_
   refine kv g0 (ldRA 4 [.sl .o 4 (((rd_T59 l0 p8).f0).map e131), .lit (.int .i64 ((rd_T59 l0 p8).f1)), .lit (.int .i64 ((rd_T59 l0 p8).f2)), .lit (.int .i64 ((rd_T59 l0 p8).f3))]) ?_
   refine kv g0 (mv) ?_
   refine kv g0 (mv) ?_
   obtain ⟨c12, H⟩ := of_if H
   refine kv g0 (ixS 59 (e59 (rd_T59 l1 p8)) c11 (getE (z := z59) c11 c12)) ?_
   refine kv g0 (ldRA 4 [.sl .o 4 (((rd_T59 l1 p8).f0).map e131), .lit (.int .i64 ((rd_T59 l1 p8).f1)), .lit (.int .i64 ((rd_T59 l1 p8).f2)), .lit (.int .i64 ((rd_T59 l1 p8).f3))]) ?_
   obtain ⟨t13, A14, H⟩ := of_bind H
   refine kcS0 25 (.lit (.bool t13)) [] g0 (cal (laws_eqRing.ok A14) [] 9999 .n (hf := Try.func57)) rfl rfl ?_
   refine kv g0 (not_) ?_
   refine wk_end_draw hM (by kernel_rfl) ?_
   refine ac_next ?_
   by_cases c15 : t13 = true
   ·rw [if_pos c15] at H
    refine aw_ifF ?_ (nF c15)
    refine aw_skip ?_
    refine ac_blkN ?_
    refine ac_next ?_
    refine wk_start ?_
    refine kv g0 (mv) ?_
    refine kv g0 (add6) ?_
    refine kv g0 (asg) ?_
    refine wk_end ?_
    refine ac_k ?_
    exact acw hE [] 9999 (hK17 k9 (wrap64 (p8 + 1)) (Nat.le_refl _) ⟨by omega, H⟩)
   rw [if_neg c15] at H
   refine aw_ifT ?_ (nT (bF c15))
   refine aw_grp1 ?_
   refine wk_start ?_
   refine kv g0 (asg) ?_
   refine wk_end ?_
   refine ac_next ?_
   refine aw_ret ?_
   refine ac_blkR ?_
   refine ac_thenR ?_
   refine ac_thenR ?_
   refine ac_blkR ?_
   refine ac_thenR ?_
   obtain rfl := Option.some.inj H
   exact acr hE [.tmp 4] (.tmp .nil) (.one _) [] 9999
  rw [if_neg c10] at H
  refine aw_ifF ?_ (decide_eq_false c10)
  refine aw_exit ?_
  refine ac_then ?_
  refine ac_then ?_
  refine ac_hit rfl ?_
  refine ac_next ?_
  refine aw_grp1 ?_
  refine wk_start ?_
  refine kv g0 (asg) ?_
  refine wk_end ?_
  refine ac_next ?_
  refine aw_ret ?_
  obtain rfl := Option.some.inj H
  exact acr hE [.tmp 4] (.tmp .nil) (.one _) [] 9999
 rw [if_neg c1] at H
 refine aw_ifT ?_ (eN c1)
 refine aw_grp1 ?_
 refine wk_start ?_
 refine kv g0 (asg) ?_
 refine wk_end ?_
 refine ac_next ?_
 refine aw_ret ?_
 refine ac_thenR ?_
 obtain rfl := Option.some.inj H
 exact acr hE [.tmp 4] (.tmp .nil) (.one _) [] 9999
/-! laws_eqSender -/
def laws_eqSender.f (k : Nat) (a0_0 : Int) (a0_1 : Int) (l0_2 : List S131) (a0_3 : Int) (a0_4 : Int) (a1_0 : Int) (a1_1 : Int) (l1_2 : List S131) (a1_3 : Int) (a1_4 : Int) : Option (Bool) := if a0_0 = a1_0 then if a0_1 = a1_1 then (laws_eqItemS.f k l0_2 l1_2).bind fun t3 => if t3 = true then if a0_3 = a1_3 then if a0_4 = a1_4 then some true else some false else some false else some false else some false else some false
theorem laws_eqSender.ok {k : Nat} {a0_0 : Int} {a0_1 : Int} {l0_2 : List S131} {a0_3 : Int} {a0_4 : Int} {a1_0 : Int} {a1_1 : Int} {l1_2 : List S131} {a1_3 : Int} {a1_4 : Int} {r : Bool} (H : laws_eqSender.f k a0_0 a0_1 l0_2 a0_3 a0_4 a1_0 a1_1 l1_2 a1_3 a1_4 = some r) : ACalls Try.prog 58 [] [.agg [.lit (.int .i64 a0_0), .lit (.int .i64 a0_1), .sl .o 4 (l0_2.map e131), .lit (.int .i64 a0_3), .lit (.int .i64 a0_4)], .agg [.lit (.int .i64 a1_0), .lit (.int .i64 a1_1), .sl .o 4 (l1_2.map e131), .lit (.int .i64 a1_3), .lit (.int .i64 a1_4)]] [] (.lit (.bool r)) := by
 refine acalls (fn := Try.f58) (nt := 31) Try.func58 rfl rfl (Nat.le_of_ble_eq_true rfl) fun E hE => ?_
 rw [laws_eqSender.f] at H
 refine aw_grp1 ?_
 refine wk_start ?_
 refine kb g0 (bxA 0) ?_
 refine kb g0 (bxA 1) ?_
 refine kv g0 (asg) ?_
 refine wk_end ?_
 refine ac_next ?_
 refine aw_grp1 ?_
 refine aw_grp1 ?_
 refine wk_start ?_
 refine kv g0 (faB 0 0) ?_
 refine kv g0 (ldB) ?_
 refine kv g0 (faB 0 0) ?_
 refine kv g0 (ldB) ?_
 refine kv g0 (neq) ?_
 refine wk_end ?_
 refine ac_next ?_
 by_cases c1 : a0_0 = a1_0
 ·rw [if_pos c1] at H
  refine aw_ifF ?_ (eM c1)
  refine aw_skip ?_
  refine ac_next ?_
  refine aw_grp1 ?_
  refine aw_grp1 ?_
  refine wk_start ?_
  refine kv g0 (faB 1 1) ?_
  refine kv g0 (ldB) ?_
  refine kv g0 (faB 1 1) ?_
  refine kv g0 (ldB) ?_
  refine kv g0 (neq) ?_
  refine wk_end ?_
  refine ac_next ?_
  by_cases c2 : a0_1 = a1_1
  ·rw [if_pos c2] at H
   refine aw_ifF ?_ (eM c2)
   refine aw_skip ?_
   refine ac_next ?_
   refine aw_grp1 ?_
   refine aw_grp1 ?_
   refine wk_start ?_
   refine kv g0 (faB 2 2) ?_
   refine kv g0 (ldB) ?_
   refine kv g0 (faB 2 2) ?_
   refine kv g0 (ldB) ?_
   obtain ⟨t3, A4, H⟩ := of_bind H
   refine kcS0 19 (.lit (.bool t3)) [] g0 (cal (laws_eqItemS.ok A4) [] 9999 .n (hf := Try.func85)) rfl rfl ?_
   refine kv g0 (not_) ?_
   refine wk_end ?_
   refine ac_next ?_
   by_cases c5 : t3 = true
   ·rw [if_pos c5] at H
    refine aw_ifF ?_ (nF c5)
    refine aw_skip ?_
    refine ac_next ?_
    refine aw_grp1 ?_
    refine aw_grp1 ?_
    refine wk_start ?_
    refine kv g0 (faB 3 3) ?_
    refine kv g0 (ldB) ?_
    refine kv g0 (faB 3 3) ?_
    refine kv g0 (ldB) ?_
    refine kv g0 (neq) ?_
    refine wk_end ?_
    refine ac_next ?_
    by_cases c6 : a0_3 = a1_3
    ·rw [if_pos c6] at H
     refine aw_ifF ?_ (eM c6)
     refine aw_skip ?_
     refine ac_next ?_
     refine aw_grp1 ?_
     refine aw_grp1 ?_
     refine wk_start ?_
     refine kv g0 (faB 4 4) ?_
     refine kv g0 (ldB) ?_
     refine kv g0 (faB 4 4) ?_
     refine kv g0 (ldB) ?_
     refine kv g0 (neq) ?_
     refine wk_end ?_
     refine ac_next ?_
     by_cases c7 : a0_4 = a1_4
     ·rw [if_pos c7] at H
      refine aw_ifF ?_ (eM c7)
      refine aw_skip ?_
      refine ac_next ?_
      refine aw_grp1 ?_
      refine wk_start ?_
      refine kv g0 (asg) ?_
      refine wk_end ?_
      refine ac_next ?_
      refine aw_ret ?_
      obtain rfl := Option.some.inj H
      exact acr hE [.tmp 4] (.tmp .nil) (.one _) [] 9999
     rw [if_neg c7] at H
     refine aw_ifT ?_ (eN c7)
     refine aw_grp1 ?_
     refine wk_start ?_
     refine kv g0 (asg) ?_
     refine wk_end ?_
     refine ac_next ?_
     refine aw_ret ?_
     refine ac_thenR ?_
     obtain rfl := Option.some.inj H
     exact acr hE [.tmp 4] (.tmp .nil) (.one _) [] 9999
    rw [if_neg c6] at H
    refine aw_ifT ?_ (eN c6)
    refine aw_grp1 ?_
    refine wk_start ?_
    refine kv g0 (asg) ?_
    refine wk_end ?_
    refine ac_next ?_
    refine aw_ret ?_
    refine ac_thenR ?_
    obtain rfl := Option.some.inj H
    exact acr hE [.tmp 4] (.tmp .nil) (.one _) [] 9999
   rw [if_neg c5] at H
   refine aw_ifT ?_ (nT (bF c5))
   refine aw_grp1 ?_
   refine wk_start ?_
   refine kv g0 (asg) ?_
   refine wk_end ?_
   refine ac_next ?_
   refine aw_ret ?_
   refine ac_thenR ?_
   obtain rfl := Option.some.inj H
   exact acr hE [.tmp 4] (.tmp .nil) (.one _) [] 9999
  rw [if_neg c2] at H
  refine aw_ifT ?_ (eN c2)
  refine aw_grp1 ?_
  refine wk_start ?_
  refine kv g0 (asg) ?_
  refine wk_end ?_
  refine ac_next ?_
  refine aw_ret ?_
  refine ac_thenR ?_
  obtain rfl := Option.some.inj H
  exact acr hE [.tmp 4] (.tmp .nil) (.one _) [] 9999
 rw [if_neg c1] at H
 refine aw_ifT ?_ (eN c1)
 refine aw_grp1 ?_
 refine wk_start ?_
 refine kv g0 (asg) ?_
 refine wk_end ?_
 refine ac_next ?_
 refine aw_ret ?_
 refine ac_thenR ?_
 obtain rfl := Option.some.inj H
 exact acr hE [.tmp 4] (.tmp .nil) (.one _) [] 9999
/-! laws_eqSenderS -/
def laws_eqSenderS.l0 : Nat → (List S62) → (List S62) → Int → Option (Bool)
 | 0, _, _, _ => none
 | k9 + 1, l0, l1, p8 => if p8 < (l0.length : Int) then if 0 ≤ p8 then (if p8 < (l1.length : Int) then ((laws_eqSender.f k9 ((rd_T62 l0 p8).f0) ((rd_T62 l0 p8).f1) ((rd_T62 l0 p8).f2) ((rd_T62 l0 p8).f3) ((rd_T62 l0 p8).f4) ((rd_T62 l1 p8).f0) ((rd_T62 l1 p8).f1) ((rd_T62 l1 p8).f2) ((rd_T62 l1 p8).f3) ((rd_T62 l1 p8).f4)).bind fun t13 => if t13 = true then laws_eqSenderS.l0 k9 l0 l1 (wrap64 (p8 + 1)) else some false) else none) else none else some true
def laws_eqSenderS.f (k : Nat) (l0 : List S62) (l1 : List S62) : Option (Bool) := if (l0.length : Int) = (l1.length : Int) then laws_eqSenderS.l0 k l0 l1 0 else some false
theorem laws_eqSenderS.ok {k : Nat} {l0 : List S62} {l1 : List S62} {r : Bool} (H : laws_eqSenderS.f k l0 l1 = some r) : ACalls Try.prog 25 [] [.sl .o 5 (l0.map e62), .sl .o 5 (l1.map e62)] [] (.lit (.bool r)) := by
 refine acalls (fn := Try.f25) (nt := 27) Try.func25 rfl rfl (Nat.le_of_ble_eq_true rfl) fun E hE => ?_
 rw [laws_eqSenderS.f] at H
 refine aw_grp1 ?_
 refine wk_start ?_
 refine kv g0 (asg) ?_
 refine wk_end ?_
 refine ac_next ?_
 refine aw_grp1 ?_
 refine aw_grp1 ?_
 refine wk_start ?_
 refine kv g0 (mv) ?_
 refine kv g0 (lnS lenE) ?_
 refine kv g0 (mv) ?_
 refine kv g0 (lnS lenE) ?_
 refine kv g0 (neq) ?_
 refine wk_end ?_
 refine ac_next ?_
 by_cases c1 : (l0.length : Int) = (l1.length : Int)
 ·rw [if_pos c1] at H
  refine aw_ifF ?_ (eM c1)
  refine aw_skip ?_
  refine ac_next ?_
  refine aw_grp1 ?_
  refine aw_grp1 ?_
  refine wk_start ?_
  refine kv g0 (asg) ?_
  refine wk_end ?_
  refine ac_next ?_
  refine aw_block ?_
  refine aw_loop1 (fun (k_ : Nat) (p8 : Int) => k_ ≤ k ∧ laws_eqSenderS.l0 k_ l0 l1 p8 = some r) (fun (p8 : Int) => ⟨[(0, .sl .o 5 (l0.map e62)), (1, .sl .o 5 (l1.map e62)), (5, .lit (.int .i64 p8))], []⟩) k 0 ⟨Nat.le_refl _, H⟩ (fun K_ h_ => acw hE [] 9999 h_) (fun _ => by intro h_; have h_ := h_.2; rw [laws_eqSenderS.l0.eq_1] at h_; cases h_) ?_
  intro k9 p8 hq_ K16 hK17
  have hk9 := hq_.1
  have H := hq_.2
  clear hq_
  rw [laws_eqSenderS.l0.eq_2] at H
  refine aw_grp1 ?_
  refine aw_grp1 ?_
  refine wk_start ?_
  refine kv g0 (mv) ?_
  refine kv g0 (mv) ?_
  refine kv g0 (lnS lenE) ?_
  refine kv g0 (lss) ?_
  refine wk_end ?_
  refine ac_next ?_
  by_cases c10 : p8 < (l0.length : Int)
  ·rw [if_pos c10] at H
   refine aw_ifT ?_ (decide_eq_true c10)
   refine aw_skip ?_
   refine ac_next ?_
   refine aw_grp1 ?_
   refine aw_block ?_
   refine aw_grp1 ?_
   refine wk_start ?_
   refine kv g0 (mv) ?_
   refine kv g0 (mv) ?_
   obtain ⟨c11, H⟩ := of_if H
   refine kv g0 (ixS 62 (e62 (rd_T62 l0 p8)) c11 (getE (z := z62) c11 c10)) ?_
   refine kv g0 (ldRA 5 [.lit (.int .i64 ((rd_T62 l0 p8).f0)), .lit (.int .i64 ((rd_T62 l0 p8).f1)), .sl .o 4 (((rd_T62 l0 p8).f2).map e131), .lit (.int .i64 ((rd_T62 l0 p8).f3)), .lit (.int .i64 ((rd_T62 l0 p8).f4))]) ?_
   refine kv g0 (mv) ?_
   refine kv g0 (mv) ?_
   obtain ⟨c12, H⟩ := of_if H
   refine kv g0 (ixS 62 (e62 (rd_T62 l1 p8)) c11 (getE (z := z62) c11 c12)) ?_
   refine kv g0 (ldRA 5 [.lit (.int .i64 ((rd_T62 l1 p8).f0)), .lit (.int .i64 ((rd_T62 l1 p8).f1)), .sl .o 4 (((rd_T62 l1 p8).f2).map e131), .lit (.int .i64 ((rd_T62 l1 p8).f3)), .lit (.int .i64 ((rd_T62 l1 p8).f4))]) ?_
   obtain ⟨t13, A14, H⟩ := of_bind H
   refine kcS0 25 (.lit (.bool t13)) [] g0 (cal (laws_eqSender.ok A14) [] 9999 .n (hf := Try.func58)) rfl rfl ?_
   refine kv g0 (not_) ?_
   refine wk_end_draw hM (by kernel_rfl) ?_
   refine ac_next ?_
   by_cases c15 : t13 = true
   ·rw [if_pos c15] at H
    refine aw_ifF ?_ (nF c15)
    refine aw_skip ?_
    refine ac_blkN ?_
    refine ac_next ?_
    refine wk_start ?_
    refine kv g0 (mv) ?_
    refine kv g0 (add6) ?_
    refine kv g0 (asg) ?_
    refine wk_end ?_
    refine ac_k ?_
    exact acw hE [] 9999 (hK17 k9 (wrap64 (p8 + 1)) (Nat.le_refl _) ⟨by omega, H⟩)
   rw [if_neg c15] at H
   refine aw_ifT ?_ (nT (bF c15))
   refine aw_grp1 ?_
   refine wk_start ?_
   refine kv g0 (asg) ?_
   refine wk_end ?_
   refine ac_next ?_
   refine aw_ret ?_
   refine ac_blkR ?_
   refine ac_thenR ?_
   refine ac_thenR ?_
   refine ac_blkR ?_
   refine ac_thenR ?_
   obtain rfl := Option.some.inj H
   exact acr hE [.tmp 4] (.tmp .nil) (.one _) [] 9999
  rw [if_neg c10] at H
  refine aw_ifF ?_ (decide_eq_false c10)
  refine aw_exit ?_
  refine ac_then ?_
  refine ac_then ?_
  refine ac_hit rfl ?_
  refine ac_next ?_
  refine aw_grp1 ?_
  refine wk_start ?_
  refine kv g0 (asg) ?_
  refine wk_end ?_
  refine ac_next ?_
  refine aw_ret ?_
  obtain rfl := Option.some.inj H
  exact acr hE [.tmp 4] (.tmp .nil) (.one _) [] 9999
 rw [if_neg c1] at H
 refine aw_ifT ?_ (eN c1)
 refine aw_grp1 ?_
 refine wk_start ?_
 refine kv g0 (asg) ?_
 refine wk_end ?_
 refine ac_next ?_
 refine aw_ret ?_
 refine ac_thenR ?_
 obtain rfl := Option.some.inj H
 exact acr hE [.tmp 4] (.tmp .nil) (.one _) [] 9999
/-! laws_eqEntry -/
def laws_eqEntry.f (a0_0 : Int) (a0_1 : Int) (a0_2 : Int) (a0_3 : Int) (a0_4 : Int) (a0_5 : Int) (a1_0 : Int) (a1_1 : Int) (a1_2 : Int) (a1_3 : Int) (a1_4 : Int) (a1_5 : Int) : Option (Bool) := if a0_0 = a1_0 then if a0_1 = a1_1 then (laws_eqItem.f a0_2 a0_3 a0_4 a0_5 a1_2 a1_3 a1_4 a1_5).bind fun t3 => if t3 = true then some true else some false else some false else some false
theorem laws_eqEntry.ok {a0_0 : Int} {a0_1 : Int} {a0_2 : Int} {a0_3 : Int} {a0_4 : Int} {a0_5 : Int} {a1_0 : Int} {a1_1 : Int} {a1_2 : Int} {a1_3 : Int} {a1_4 : Int} {a1_5 : Int} {r : Bool} (H : laws_eqEntry.f a0_0 a0_1 a0_2 a0_3 a0_4 a0_5 a1_0 a1_1 a1_2 a1_3 a1_4 a1_5 = some r) : ACalls Try.prog 86 [] [.agg [.lit (.int .i64 a0_0), .lit (.int .i64 a0_1), .lit (.int .i64 a0_2), .lit (.int .i64 a0_3), .lit (.int .i64 a0_4), .lit (.int .i64 a0_5)], .agg [.lit (.int .i64 a1_0), .lit (.int .i64 a1_1), .lit (.int .i64 a1_2), .lit (.int .i64 a1_3), .lit (.int .i64 a1_4), .lit (.int .i64 a1_5)]] [] (.lit (.bool r)) := by
 refine acalls (fn := Try.f86) (nt := 21) Try.func86 rfl rfl (Nat.le_of_ble_eq_true rfl) fun E hE => ?_
 rw [laws_eqEntry.f] at H
 refine aw_grp1 ?_
 refine wk_start ?_
 refine kb g0 (bxA 0) ?_
 refine kb g0 (bxA 1) ?_
 refine kv g0 (asg) ?_
 refine wk_end ?_
 refine ac_next ?_
 refine aw_grp1 ?_
 refine aw_grp1 ?_
 refine wk_start ?_
 refine kv g0 (faB 0 0) ?_
 refine kv g0 (ldB) ?_
 refine kv g0 (faB 0 0) ?_
 refine kv g0 (ldB) ?_
 refine kv g0 (neq) ?_
 refine wk_end ?_
 refine ac_next ?_
 by_cases c1 : a0_0 = a1_0
 ·rw [if_pos c1] at H
  refine aw_ifF ?_ (eM c1)
  refine aw_skip ?_
  refine ac_next ?_
  refine aw_grp1 ?_
  refine aw_grp1 ?_
  refine wk_start ?_
  refine kv g0 (faB 1 1) ?_
  refine kv g0 (ldB) ?_
  refine kv g0 (faB 1 1) ?_
  refine kv g0 (ldB) ?_
  refine kv g0 (neq) ?_
  refine wk_end ?_
  refine ac_next ?_
  by_cases c2 : a0_1 = a1_1
  ·rw [if_pos c2] at H
   refine aw_ifF ?_ (eM c2)
   refine aw_skip ?_
   refine ac_next ?_
   refine aw_grp1 ?_
   refine aw_grp1 ?_
   refine wk_start ?_
   refine kv g0 (faB 2 2) ?_
   refine kv g0 (ldBA 4 [.lit (.int .i64 a0_2), .lit (.int .i64 a0_3), .lit (.int .i64 a0_4), .lit (.int .i64 a0_5)]) ?_
   refine kv g0 (faB 2 2) ?_
   refine kv g0 (ldBA 4 [.lit (.int .i64 a1_2), .lit (.int .i64 a1_3), .lit (.int .i64 a1_4), .lit (.int .i64 a1_5)]) ?_
   obtain ⟨t3, A4, H⟩ := of_bind H
   refine kcS0 19 (.lit (.bool t3)) [] g0 (cal (laws_eqItem.ok A4) [] 9999 .n (hf := Try.func97)) rfl rfl ?_
   refine kv g0 (not_) ?_
   refine wk_end ?_
   refine ac_next ?_
   by_cases c5 : t3 = true
   ·rw [if_pos c5] at H
    refine aw_ifF ?_ (nF c5)
    refine aw_skip ?_
    refine ac_next ?_
    refine aw_grp1 ?_
    refine wk_start ?_
    refine kv g0 (asg) ?_
    refine wk_end ?_
    refine ac_next ?_
    refine aw_ret ?_
    obtain rfl := Option.some.inj H
    exact acr hE [.tmp 4] (.tmp .nil) (.one _) [] 9999
   rw [if_neg c5] at H
   refine aw_ifT ?_ (nT (bF c5))
   refine aw_grp1 ?_
   refine wk_start ?_
   refine kv g0 (asg) ?_
   refine wk_end ?_
   refine ac_next ?_
   refine aw_ret ?_
   refine ac_thenR ?_
   obtain rfl := Option.some.inj H
   exact acr hE [.tmp 4] (.tmp .nil) (.one _) [] 9999
  rw [if_neg c2] at H
  refine aw_ifT ?_ (eN c2)
  refine aw_grp1 ?_
  refine wk_start ?_
  refine kv g0 (asg) ?_
  refine wk_end ?_
  refine ac_next ?_
  refine aw_ret ?_
  refine ac_thenR ?_
  obtain rfl := Option.some.inj H
  exact acr hE [.tmp 4] (.tmp .nil) (.one _) [] 9999
 rw [if_neg c1] at H
 refine aw_ifT ?_ (eN c1)
 refine aw_grp1 ?_
 refine wk_start ?_
 refine kv g0 (asg) ?_
 refine wk_end ?_
 refine ac_next ?_
 refine aw_ret ?_
 refine ac_thenR ?_
 obtain rfl := Option.some.inj H
 exact acr hE [.tmp 4] (.tmp .nil) (.one _) [] 9999
/-! laws_eqEntryS -/
def laws_eqEntryS.l0 : Nat → (List S133) → (List S133) → Int → Option (Bool)
 | 0, _, _, _ => none
 | k9 + 1, l0, l1, p8 => if p8 < (l0.length : Int) then if 0 ≤ p8 then (if p8 < (l1.length : Int) then ((laws_eqEntry.f ((rd_T133 l0 p8).f0) ((rd_T133 l0 p8).f1) ((rd_T133 l0 p8).f2.f0) ((rd_T133 l0 p8).f2.f1) ((rd_T133 l0 p8).f2.f2) ((rd_T133 l0 p8).f2.f3) ((rd_T133 l1 p8).f0) ((rd_T133 l1 p8).f1) ((rd_T133 l1 p8).f2.f0) ((rd_T133 l1 p8).f2.f1) ((rd_T133 l1 p8).f2.f2) ((rd_T133 l1 p8).f2.f3)).bind fun t13 => if t13 = true then laws_eqEntryS.l0 k9 l0 l1 (wrap64 (p8 + 1)) else some false) else none) else none else some true
def laws_eqEntryS.f (k : Nat) (l0 : List S133) (l1 : List S133) : Option (Bool) := if (l0.length : Int) = (l1.length : Int) then laws_eqEntryS.l0 k l0 l1 0 else some false
theorem laws_eqEntryS.ok {k : Nat} {l0 : List S133} {l1 : List S133} {r : Bool} (H : laws_eqEntryS.f k l0 l1 = some r) : ACalls Try.prog 59 [] [.sl .o 6 (l0.map e133), .sl .o 6 (l1.map e133)] [] (.lit (.bool r)) := by
 refine acalls (fn := Try.f59) (nt := 27) Try.func59 rfl rfl (Nat.le_of_ble_eq_true rfl) fun E hE => ?_
 rw [laws_eqEntryS.f] at H
 refine aw_grp1 ?_
 refine wk_start ?_
 refine kv g0 (asg) ?_
 refine wk_end ?_
 refine ac_next ?_
 refine aw_grp1 ?_
 refine aw_grp1 ?_
 refine wk_start ?_
 refine kv g0 (mv) ?_
 refine kv g0 (lnS lenE) ?_
 refine kv g0 (mv) ?_
 refine kv g0 (lnS lenE) ?_
 refine kv g0 (neq) ?_
 refine wk_end ?_
 refine ac_next ?_
 by_cases c1 : (l0.length : Int) = (l1.length : Int)
 ·rw [if_pos c1] at H
  refine aw_ifF ?_ (eM c1)
  refine aw_skip ?_
  refine ac_next ?_
  refine aw_grp1 ?_
  refine aw_grp1 ?_
  refine wk_start ?_
  refine kv g0 (asg) ?_
  refine wk_end ?_
  refine ac_next ?_
  refine aw_block ?_
  refine aw_loop1 (fun (k_ : Nat) (p8 : Int) => k_ ≤ k ∧ laws_eqEntryS.l0 k_ l0 l1 p8 = some r) (fun (p8 : Int) => ⟨[(0, .sl .o 6 (l0.map e133)), (1, .sl .o 6 (l1.map e133)), (5, .lit (.int .i64 p8))], []⟩) k 0 ⟨Nat.le_refl _, H⟩ (fun K_ h_ => acw hE [] 9999 h_) (fun _ => by intro h_; have h_ := h_.2; rw [laws_eqEntryS.l0.eq_1] at h_; cases h_) ?_
  intro k9 p8 hq_ K16 hK17
  have hk9 := hq_.1
  have H := hq_.2
  clear hq_
  rw [laws_eqEntryS.l0.eq_2] at H
  refine aw_grp1 ?_
  refine aw_grp1 ?_
  refine wk_start ?_
  refine kv g0 (mv) ?_
  refine kv g0 (mv) ?_
  refine kv g0 (lnS lenE) ?_
  refine kv g0 (lss) ?_
  refine wk_end ?_
  refine ac_next ?_
  by_cases c10 : p8 < (l0.length : Int)
  ·rw [if_pos c10] at H
   refine aw_ifT ?_ (decide_eq_true c10)
   refine aw_skip ?_
   refine ac_next ?_
   refine aw_grp1 ?_
   refine aw_block ?_
   refine aw_grp1 ?_
   refine wk_start ?_
   refine kv g0 (mv) ?_
   refine kv g0 (mv) ?_
   obtain ⟨c11, H⟩ := of_if H
   refine kv g0 (ixS 133 (e133 (rd_T133 l0 p8)) c11 (getE (z := z133) c11 c10)) ?_
   refine kv g0 (ldRA 6 [.lit (.int .i64 ((rd_T133 l0 p8).f0)), .lit (.int .i64 ((rd_T133 l0 p8).f1)), .lit (.int .i64 ((rd_T133 l0 p8).f2.f0)), .lit (.int .i64 ((rd_T133 l0 p8).f2.f1)), .lit (.int .i64 ((rd_T133 l0 p8).f2.f2)), .lit (.int .i64 ((rd_T133 l0 p8).f2.f3))]) ?_
   refine kv g0 (mv) ?_
   refine kv g0 (mv) ?_
   obtain ⟨c12, H⟩ := of_if H
   refine kv g0 (ixS 133 (e133 (rd_T133 l1 p8)) c11 (getE (z := z133) c11 c12)) ?_
   refine kv g0 (ldRA 6 [.lit (.int .i64 ((rd_T133 l1 p8).f0)), .lit (.int .i64 ((rd_T133 l1 p8).f1)), .lit (.int .i64 ((rd_T133 l1 p8).f2.f0)), .lit (.int .i64 ((rd_T133 l1 p8).f2.f1)), .lit (.int .i64 ((rd_T133 l1 p8).f2.f2)), .lit (.int .i64 ((rd_T133 l1 p8).f2.f3))]) ?_
   obtain ⟨t13, A14, H⟩ := of_bind H
   refine kcS0 25 (.lit (.bool t13)) [] g0 (cal (laws_eqEntry.ok A14) [] 9999 .n (hf := Try.func86)) rfl rfl ?_
   refine kv g0 (not_) ?_
   refine wk_end_draw hM (by kernel_rfl) ?_
   refine ac_next ?_
   by_cases c15 : t13 = true
   ·rw [if_pos c15] at H
    refine aw_ifF ?_ (nF c15)
    refine aw_skip ?_
    refine ac_blkN ?_
    refine ac_next ?_
    refine wk_start ?_
    refine kv g0 (mv) ?_
    refine kv g0 (add6) ?_
    refine kv g0 (asg) ?_
    refine wk_end ?_
    refine ac_k ?_
    exact acw hE [] 9999 (hK17 k9 (wrap64 (p8 + 1)) (Nat.le_refl _) ⟨by omega, H⟩)
   rw [if_neg c15] at H
   refine aw_ifT ?_ (nT (bF c15))
   refine aw_grp1 ?_
   refine wk_start ?_
   refine kv g0 (asg) ?_
   refine wk_end ?_
   refine ac_next ?_
   refine aw_ret ?_
   refine ac_blkR ?_
   refine ac_thenR ?_
   refine ac_thenR ?_
   refine ac_blkR ?_
   refine ac_thenR ?_
   obtain rfl := Option.some.inj H
   exact acr hE [.tmp 4] (.tmp .nil) (.one _) [] 9999
  rw [if_neg c10] at H
  refine aw_ifF ?_ (decide_eq_false c10)
  refine aw_exit ?_
  refine ac_then ?_
  refine ac_then ?_
  refine ac_hit rfl ?_
  refine ac_next ?_
  refine aw_grp1 ?_
  refine wk_start ?_
  refine kv g0 (asg) ?_
  refine wk_end ?_
  refine ac_next ?_
  refine aw_ret ?_
  obtain rfl := Option.some.inj H
  exact acr hE [.tmp 4] (.tmp .nil) (.one _) [] 9999
 rw [if_neg c1] at H
 refine aw_ifT ?_ (eN c1)
 refine aw_grp1 ?_
 refine wk_start ?_
 refine kv g0 (asg) ?_
 refine wk_end ?_
 refine ac_next ?_
 refine aw_ret ?_
 refine ac_thenR ?_
 obtain rfl := Option.some.inj H
 exact acr hE [.tmp 4] (.tmp .nil) (.one _) [] 9999
/-! laws_eqIntS -/
def laws_eqIntS.l0 : Nat → (List Int) → (List Int) → Int → Option (Bool)
 | 0, _, _, _ => none
 | k7 + 1, l0, l1, p6 => if p6 < (l0.length : Int) then if 0 ≤ p6 then (if p6 < (l1.length : Int) then if (rd l0 p6) = (rd l1 p6) then laws_eqIntS.l0 k7 l0 l1 (wrap64 (p6 + 1)) else some false else none) else none else some true
def laws_eqIntS.f (k : Nat) (l0 : List Int) (l1 : List Int) : Option (Bool) := if (l0.length : Int) = (l1.length : Int) then laws_eqIntS.l0 k l0 l1 0 else some false
theorem laws_eqIntS.ok {k : Nat} {l0 : List Int} {l1 : List Int} {r : Bool} (H : laws_eqIntS.f k l0 l1 = some r) : ACalls Try.prog 28 [] [.sl .o 1 (l0.map (eI .i64)), .sl .o 1 (l1.map (eI .i64))] [] (.lit (.bool r)) := by
 refine acalls (fn := Try.f28) (nt := 26) Try.func28 rfl rfl (Nat.le_of_ble_eq_true rfl) fun E hE => ?_
 rw [laws_eqIntS.f] at H
 refine aw_grp1 ?_
 refine wk_start ?_
 refine kv g0 (asg) ?_
 refine wk_end ?_
 refine ac_next ?_
 refine aw_grp1 ?_
 refine aw_grp1 ?_
 refine wk_start ?_
 refine kv g0 (mv) ?_
 refine kv g0 (lnS lenE) ?_
 refine kv g0 (mv) ?_
 refine kv g0 (lnS lenE) ?_
 refine kv g0 (neq) ?_
 refine wk_end ?_
 refine ac_next ?_
 by_cases c1 : (l0.length : Int) = (l1.length : Int)
 ·rw [if_pos c1] at H
  refine aw_ifF ?_ (eM c1)
  refine aw_skip ?_
  refine ac_next ?_
  refine aw_grp1 ?_
  refine aw_grp1 ?_
  refine wk_start ?_
  refine kv g0 (asg) ?_
  refine wk_end ?_
  refine ac_next ?_
  refine aw_block ?_
  refine aw_loop1 (fun (k_ : Nat) (p6 : Int) => k_ ≤ k ∧ laws_eqIntS.l0 k_ l0 l1 p6 = some r) (fun (p6 : Int) => ⟨[(0, .sl .o 1 (l0.map (eI .i64))), (1, .sl .o 1 (l1.map (eI .i64))), (5, .lit (.int .i64 p6))], []⟩) k 0 ⟨Nat.le_refl _, H⟩ (fun K_ h_ => acw hE [] 9999 h_) (fun _ => by intro h_; have h_ := h_.2; rw [laws_eqIntS.l0.eq_1] at h_; cases h_) ?_
  intro k7 p6 hq_ K12 hK13
  have hk7 := hq_.1
  have H := hq_.2
  clear hq_
  rw [laws_eqIntS.l0.eq_2] at H
  refine aw_grp1 ?_
  refine aw_grp1 ?_
  refine wk_start ?_
  refine kv g0 (mv) ?_
  refine kv g0 (mv) ?_
  refine kv g0 (lnS lenE) ?_
  refine kv g0 (lss) ?_
  refine wk_end ?_
  refine ac_next ?_
  by_cases c8 : p6 < (l0.length : Int)
  ·rw [if_pos c8] at H
   refine aw_ifT ?_ (decide_eq_true c8)
   refine aw_skip ?_
   refine ac_next ?_
   refine aw_grp1 ?_
   refine aw_block ?_
   refine aw_grp1 ?_
   refine wk_start ?_
   refine kv g0 (mv) ?_
   refine kv g0 (mv) ?_
   obtain ⟨c9, H⟩ := of_if H
   refine kv g0 (ixS 3 (eI .i64 (rd l0 p6)) c9 (getE (z := (0 : Int)) c9 c8)) ?_
   refine kv g0 (ldR (.lit (.int .i64 (rd l0 p6)))) ?_
   refine kv g0 (mv) ?_
   refine kv g0 (mv) ?_
   obtain ⟨c10, H⟩ := of_if H
   refine kv g0 (ixS 3 (eI .i64 (rd l1 p6)) c9 (getE (z := (0 : Int)) c9 c10)) ?_
   refine kv g0 (ldR (.lit (.int .i64 (rd l1 p6)))) ?_
   refine kv g0 (neq) ?_
   refine wk_end_draw hM (by kernel_rfl) ?_
   refine ac_next ?_
   by_cases c11 : (rd l0 p6) = (rd l1 p6)
   ·rw [if_pos c11] at H
    refine aw_ifF ?_ (eM c11)
    refine aw_skip ?_
    refine ac_blkN ?_
    refine ac_next ?_
    refine wk_start ?_
    refine kv g0 (mv) ?_
    refine kv g0 (add6) ?_
    refine kv g0 (asg) ?_
    refine wk_end ?_
    refine ac_k ?_
    exact acw hE [] 9999 (hK13 k7 (wrap64 (p6 + 1)) (Nat.le_refl _) ⟨by omega, H⟩)
   rw [if_neg c11] at H
   refine aw_ifT ?_ (eN c11)
   refine aw_grp1 ?_
   refine wk_start ?_
   refine kv g0 (asg) ?_
   refine wk_end ?_
   refine ac_next ?_
   refine aw_ret ?_
   refine ac_blkR ?_
   refine ac_thenR ?_
   refine ac_thenR ?_
   refine ac_blkR ?_
   refine ac_thenR ?_
   obtain rfl := Option.some.inj H
   exact acr hE [.tmp 4] (.tmp .nil) (.one _) [] 9999
  rw [if_neg c8] at H
  refine aw_ifF ?_ (decide_eq_false c8)
  refine aw_exit ?_
  refine ac_then ?_
  refine ac_then ?_
  refine ac_hit rfl ?_
  refine ac_next ?_
  refine aw_grp1 ?_
  refine wk_start ?_
  refine kv g0 (asg) ?_
  refine wk_end ?_
  refine ac_next ?_
  refine aw_ret ?_
  obtain rfl := Option.some.inj H
  exact acr hE [.tmp 4] (.tmp .nil) (.one _) [] 9999
 rw [if_neg c1] at H
 refine aw_ifT ?_ (eN c1)
 refine aw_grp1 ?_
 refine wk_start ?_
 refine kv g0 (asg) ?_
 refine wk_end ?_
 refine ac_next ?_
 refine aw_ret ?_
 refine ac_thenR ?_
 obtain rfl := Option.some.inj H
 exact acr hE [.tmp 4] (.tmp .nil) (.one _) [] 9999
/-! laws_eqEarly -/
def laws_eqEarly.f (a0_0 : Int) (a0_1 : Int) (a0_2 : Int) (a0_3 : Int) (a0_4 : Int) (a0_5 : Int) (a1_0 : Int) (a1_1 : Int) (a1_2 : Int) (a1_3 : Int) (a1_4 : Int) (a1_5 : Int) : Option (Bool) := if a0_0 = a1_0 then if a0_1 = a1_1 then (laws_eqItem.f a0_2 a0_3 a0_4 a0_5 a1_2 a1_3 a1_4 a1_5).bind fun t3 => if t3 = true then some true else some false else some false else some false
theorem laws_eqEarly.ok {a0_0 : Int} {a0_1 : Int} {a0_2 : Int} {a0_3 : Int} {a0_4 : Int} {a0_5 : Int} {a1_0 : Int} {a1_1 : Int} {a1_2 : Int} {a1_3 : Int} {a1_4 : Int} {a1_5 : Int} {r : Bool} (H : laws_eqEarly.f a0_0 a0_1 a0_2 a0_3 a0_4 a0_5 a1_0 a1_1 a1_2 a1_3 a1_4 a1_5 = some r) : ACalls Try.prog 87 [] [.agg [.lit (.int .i64 a0_0), .lit (.int .i64 a0_1), .lit (.int .i64 a0_2), .lit (.int .i64 a0_3), .lit (.int .i64 a0_4), .lit (.int .i64 a0_5)], .agg [.lit (.int .i64 a1_0), .lit (.int .i64 a1_1), .lit (.int .i64 a1_2), .lit (.int .i64 a1_3), .lit (.int .i64 a1_4), .lit (.int .i64 a1_5)]] [] (.lit (.bool r)) := by
 refine acalls (fn := Try.f87) (nt := 21) Try.func87 rfl rfl (Nat.le_of_ble_eq_true rfl) fun E hE => ?_
 rw [laws_eqEarly.f] at H
 refine aw_grp1 ?_
 refine wk_start ?_
 refine kb g0 (bxA 0) ?_
 refine kb g0 (bxA 1) ?_
 refine kv g0 (asg) ?_
 refine wk_end ?_
 refine ac_next ?_
 refine aw_grp1 ?_
 refine aw_grp1 ?_
 refine wk_start ?_
 refine kv g0 (faB 0 0) ?_
 refine kv g0 (ldB) ?_
 refine kv g0 (faB 0 0) ?_
 refine kv g0 (ldB) ?_
 refine kv g0 (neq) ?_
 refine wk_end ?_
 refine ac_next ?_
 by_cases c1 : a0_0 = a1_0
 ·rw [if_pos c1] at H
  refine aw_ifF ?_ (eM c1)
  refine aw_skip ?_
  refine ac_next ?_
  refine aw_grp1 ?_
  refine aw_grp1 ?_
  refine wk_start ?_
  refine kv g0 (faB 1 1) ?_
  refine kv g0 (ldB) ?_
  refine kv g0 (faB 1 1) ?_
  refine kv g0 (ldB) ?_
  refine kv g0 (neq) ?_
  refine wk_end ?_
  refine ac_next ?_
  by_cases c2 : a0_1 = a1_1
  ·rw [if_pos c2] at H
   refine aw_ifF ?_ (eM c2)
   refine aw_skip ?_
   refine ac_next ?_
   refine aw_grp1 ?_
   refine aw_grp1 ?_
   refine wk_start ?_
   refine kv g0 (faB 2 2) ?_
   refine kv g0 (ldBA 4 [.lit (.int .i64 a0_2), .lit (.int .i64 a0_3), .lit (.int .i64 a0_4), .lit (.int .i64 a0_5)]) ?_
   refine kv g0 (faB 2 2) ?_
   refine kv g0 (ldBA 4 [.lit (.int .i64 a1_2), .lit (.int .i64 a1_3), .lit (.int .i64 a1_4), .lit (.int .i64 a1_5)]) ?_
   obtain ⟨t3, A4, H⟩ := of_bind H
   refine kcS0 19 (.lit (.bool t3)) [] g0 (cal (laws_eqItem.ok A4) [] 9999 .n (hf := Try.func97)) rfl rfl ?_
   refine kv g0 (not_) ?_
   refine wk_end ?_
   refine ac_next ?_
   by_cases c5 : t3 = true
   ·rw [if_pos c5] at H
    refine aw_ifF ?_ (nF c5)
    refine aw_skip ?_
    refine ac_next ?_
    refine aw_grp1 ?_
    refine wk_start ?_
    refine kv g0 (asg) ?_
    refine wk_end ?_
    refine ac_next ?_
    refine aw_ret ?_
    obtain rfl := Option.some.inj H
    exact acr hE [.tmp 4] (.tmp .nil) (.one _) [] 9999
   rw [if_neg c5] at H
   refine aw_ifT ?_ (nT (bF c5))
   refine aw_grp1 ?_
   refine wk_start ?_
   refine kv g0 (asg) ?_
   refine wk_end ?_
   refine ac_next ?_
   refine aw_ret ?_
   refine ac_thenR ?_
   obtain rfl := Option.some.inj H
   exact acr hE [.tmp 4] (.tmp .nil) (.one _) [] 9999
  rw [if_neg c2] at H
  refine aw_ifT ?_ (eN c2)
  refine aw_grp1 ?_
  refine wk_start ?_
  refine kv g0 (asg) ?_
  refine wk_end ?_
  refine ac_next ?_
  refine aw_ret ?_
  refine ac_thenR ?_
  obtain rfl := Option.some.inj H
  exact acr hE [.tmp 4] (.tmp .nil) (.one _) [] 9999
 rw [if_neg c1] at H
 refine aw_ifT ?_ (eN c1)
 refine aw_grp1 ?_
 refine wk_start ?_
 refine kv g0 (asg) ?_
 refine wk_end ?_
 refine ac_next ?_
 refine aw_ret ?_
 refine ac_thenR ?_
 obtain rfl := Option.some.inj H
 exact acr hE [.tmp 4] (.tmp .nil) (.one _) [] 9999
/-! laws_eqEarlyS -/
def laws_eqEarlyS.l0 : Nat → (List S135) → (List S135) → Int → Option (Bool)
 | 0, _, _, _ => none
 | k9 + 1, l0, l1, p8 => if p8 < (l0.length : Int) then if 0 ≤ p8 then (if p8 < (l1.length : Int) then ((laws_eqEarly.f ((rd_T135 l0 p8).f0) ((rd_T135 l0 p8).f1) ((rd_T135 l0 p8).f2.f0) ((rd_T135 l0 p8).f2.f1) ((rd_T135 l0 p8).f2.f2) ((rd_T135 l0 p8).f2.f3) ((rd_T135 l1 p8).f0) ((rd_T135 l1 p8).f1) ((rd_T135 l1 p8).f2.f0) ((rd_T135 l1 p8).f2.f1) ((rd_T135 l1 p8).f2.f2) ((rd_T135 l1 p8).f2.f3)).bind fun t13 => if t13 = true then laws_eqEarlyS.l0 k9 l0 l1 (wrap64 (p8 + 1)) else some false) else none) else none else some true
def laws_eqEarlyS.f (k : Nat) (l0 : List S135) (l1 : List S135) : Option (Bool) := if (l0.length : Int) = (l1.length : Int) then laws_eqEarlyS.l0 k l0 l1 0 else some false
theorem laws_eqEarlyS.ok {k : Nat} {l0 : List S135} {l1 : List S135} {r : Bool} (H : laws_eqEarlyS.f k l0 l1 = some r) : ACalls Try.prog 60 [] [.sl .o 6 (l0.map e135), .sl .o 6 (l1.map e135)] [] (.lit (.bool r)) := by
 refine acalls (fn := Try.f60) (nt := 27) Try.func60 rfl rfl (Nat.le_of_ble_eq_true rfl) fun E hE => ?_
 rw [laws_eqEarlyS.f] at H
 refine aw_grp1 ?_
 refine wk_start ?_
 refine kv g0 (asg) ?_
 refine wk_end ?_
 refine ac_next ?_
 refine aw_grp1 ?_
 refine aw_grp1 ?_
 refine wk_start ?_
 refine kv g0 (mv) ?_
 refine kv g0 (lnS lenE) ?_
 refine kv g0 (mv) ?_
 refine kv g0 (lnS lenE) ?_
 refine kv g0 (neq) ?_
 refine wk_end ?_
 refine ac_next ?_
 by_cases c1 : (l0.length : Int) = (l1.length : Int)
 ·rw [if_pos c1] at H
  refine aw_ifF ?_ (eM c1)
  refine aw_skip ?_
  refine ac_next ?_
  refine aw_grp1 ?_
  refine aw_grp1 ?_
  refine wk_start ?_
  refine kv g0 (asg) ?_
  refine wk_end ?_
  refine ac_next ?_
  refine aw_block ?_
  refine aw_loop1 (fun (k_ : Nat) (p8 : Int) => k_ ≤ k ∧ laws_eqEarlyS.l0 k_ l0 l1 p8 = some r) (fun (p8 : Int) => ⟨[(0, .sl .o 6 (l0.map e135)), (1, .sl .o 6 (l1.map e135)), (5, .lit (.int .i64 p8))], []⟩) k 0 ⟨Nat.le_refl _, H⟩ (fun K_ h_ => acw hE [] 9999 h_) (fun _ => by intro h_; have h_ := h_.2; rw [laws_eqEarlyS.l0.eq_1] at h_; cases h_) ?_
  intro k9 p8 hq_ K16 hK17
  have hk9 := hq_.1
  have H := hq_.2
  clear hq_
  rw [laws_eqEarlyS.l0.eq_2] at H
  refine aw_grp1 ?_
  refine aw_grp1 ?_
  refine wk_start ?_
  refine kv g0 (mv) ?_
  refine kv g0 (mv) ?_
  refine kv g0 (lnS lenE) ?_
  refine kv g0 (lss) ?_
  refine wk_end ?_
  refine ac_next ?_
  by_cases c10 : p8 < (l0.length : Int)
  ·rw [if_pos c10] at H
   refine aw_ifT ?_ (decide_eq_true c10)
   refine aw_skip ?_
   refine ac_next ?_
   refine aw_grp1 ?_
   refine aw_block ?_
   refine aw_grp1 ?_
   refine wk_start ?_
   refine kv g0 (mv) ?_
   refine kv g0 (mv) ?_
   obtain ⟨c11, H⟩ := of_if H
   refine kv g0 (ixS 135 (e135 (rd_T135 l0 p8)) c11 (getE (z := z135) c11 c10)) ?_
   refine kv g0 (ldRA 6 [.lit (.int .i64 ((rd_T135 l0 p8).f0)), .lit (.int .i64 ((rd_T135 l0 p8).f1)), .lit (.int .i64 ((rd_T135 l0 p8).f2.f0)), .lit (.int .i64 ((rd_T135 l0 p8).f2.f1)), .lit (.int .i64 ((rd_T135 l0 p8).f2.f2)), .lit (.int .i64 ((rd_T135 l0 p8).f2.f3))]) ?_
   refine kv g0 (mv) ?_
   refine kv g0 (mv) ?_
   obtain ⟨c12, H⟩ := of_if H
   refine kv g0 (ixS 135 (e135 (rd_T135 l1 p8)) c11 (getE (z := z135) c11 c12)) ?_
   refine kv g0 (ldRA 6 [.lit (.int .i64 ((rd_T135 l1 p8).f0)), .lit (.int .i64 ((rd_T135 l1 p8).f1)), .lit (.int .i64 ((rd_T135 l1 p8).f2.f0)), .lit (.int .i64 ((rd_T135 l1 p8).f2.f1)), .lit (.int .i64 ((rd_T135 l1 p8).f2.f2)), .lit (.int .i64 ((rd_T135 l1 p8).f2.f3))]) ?_
   obtain ⟨t13, A14, H⟩ := of_bind H
   refine kcS0 25 (.lit (.bool t13)) [] g0 (cal (laws_eqEarly.ok A14) [] 9999 .n (hf := Try.func87)) rfl rfl ?_
   refine kv g0 (not_) ?_
   refine wk_end_draw hM (by kernel_rfl) ?_
   refine ac_next ?_
   by_cases c15 : t13 = true
   ·rw [if_pos c15] at H
    refine aw_ifF ?_ (nF c15)
    refine aw_skip ?_
    refine ac_blkN ?_
    refine ac_next ?_
    refine wk_start ?_
    refine kv g0 (mv) ?_
    refine kv g0 (add6) ?_
    refine kv g0 (asg) ?_
    refine wk_end ?_
    refine ac_k ?_
    exact acw hE [] 9999 (hK17 k9 (wrap64 (p8 + 1)) (Nat.le_refl _) ⟨by omega, H⟩)
   rw [if_neg c15] at H
   refine aw_ifT ?_ (nT (bF c15))
   refine aw_grp1 ?_
   refine wk_start ?_
   refine kv g0 (asg) ?_
   refine wk_end ?_
   refine ac_next ?_
   refine aw_ret ?_
   refine ac_blkR ?_
   refine ac_thenR ?_
   refine ac_thenR ?_
   refine ac_blkR ?_
   refine ac_thenR ?_
   obtain rfl := Option.some.inj H
   exact acr hE [.tmp 4] (.tmp .nil) (.one _) [] 9999
  rw [if_neg c10] at H
  refine aw_ifF ?_ (decide_eq_false c10)
  refine aw_exit ?_
  refine ac_then ?_
  refine ac_then ?_
  refine ac_hit rfl ?_
  refine ac_next ?_
  refine aw_grp1 ?_
  refine wk_start ?_
  refine kv g0 (asg) ?_
  refine wk_end ?_
  refine ac_next ?_
  refine aw_ret ?_
  obtain rfl := Option.some.inj H
  exact acr hE [.tmp 4] (.tmp .nil) (.one _) [] 9999
 rw [if_neg c1] at H
 refine aw_ifT ?_ (eN c1)
 refine aw_grp1 ?_
 refine wk_start ?_
 refine kv g0 (asg) ?_
 refine wk_end ?_
 refine ac_next ?_
 refine aw_ret ?_
 refine ac_thenR ?_
 obtain rfl := Option.some.inj H
 exact acr hE [.tmp 4] (.tmp .nil) (.one _) [] 9999
/-! laws_eqKeeper -/
def laws_eqKeeper.f (k : Nat) (l0_0 : List S133) (l0_1 : List Int) (l0_2 : List S135) (a0_3 : Int) (l0_4 : List Int) (l1_0 : List S133) (l1_1 : List Int) (l1_2 : List S135) (a1_3 : Int) (l1_4 : List Int) : Option (Bool) := (laws_eqEntryS.f k l0_0 l1_0).bind fun t1 => if t1 = true then (laws_eqIntS.f k l0_1 l1_1).bind fun t4 => if t4 = true then (laws_eqEarlyS.f k l0_2 l1_2).bind fun t7 => if t7 = true then if a0_3 = a1_3 then (laws_eqIntS.f k l0_4 l1_4).bind fun t11 => if t11 = true then some true else some false else some false else some false else some false else some false
theorem laws_eqKeeper.ok {k : Nat} {l0_0 : List S133} {l0_1 : List Int} {l0_2 : List S135} {a0_3 : Int} {l0_4 : List Int} {l1_0 : List S133} {l1_1 : List Int} {l1_2 : List S135} {a1_3 : Int} {l1_4 : List Int} {r : Bool} (H : laws_eqKeeper.f k l0_0 l0_1 l0_2 a0_3 l0_4 l1_0 l1_1 l1_2 a1_3 l1_4 = some r) : ACalls Try.prog 26 [] [.agg [.sl .o 6 (l0_0.map e133), .sl .o 1 (l0_1.map (eI .i64)), .sl .o 6 (l0_2.map e135), .lit (.int .i64 a0_3), .sl .o 1 (l0_4.map (eI .i64))], .agg [.sl .o 6 (l1_0.map e133), .sl .o 1 (l1_1.map (eI .i64)), .sl .o 6 (l1_2.map e135), .lit (.int .i64 a1_3), .sl .o 1 (l1_4.map (eI .i64))]] [] (.lit (.bool r)) := by
 refine acalls (fn := Try.f26) (nt := 34) Try.func26 rfl rfl (Nat.le_of_ble_eq_true rfl) fun E hE => ?_
 rw [laws_eqKeeper.f] at H
 refine aw_grp1 ?_
 refine wk_start ?_
 refine kb g0 (bxA 0) ?_
 refine kb g0 (bxA 1) ?_
 refine kv g0 (asg) ?_
 refine wk_end ?_
 refine ac_next ?_
 refine aw_grp1 ?_
 refine aw_grp1 ?_
 refine wk_start ?_
 refine kv g0 (faB 0 0) ?_
 refine kv g0 (ldB) ?_
 refine kv g0 (faB 0 0) ?_
 refine kv g0 (ldB) ?_
 obtain ⟨t1, A2, H⟩ := of_bind H
 refine kcS0 9 (.lit (.bool t1)) [] g0 (cal (laws_eqEntryS.ok A2) [] 9999 .n (hf := Try.func59)) rfl rfl ?_
 refine kv g0 (not_) ?_
 refine wk_end ?_
 refine ac_next ?_
 by_cases c3 : t1 = true
 ·rw [if_pos c3] at H
  refine aw_ifF ?_ (nF c3)
  refine aw_skip ?_
  refine ac_next ?_
  refine aw_grp1 ?_
  refine aw_grp1 ?_
  refine wk_start ?_
  refine kv g0 (faB 1 1) ?_
  refine kv g0 (ldB) ?_
  refine kv g0 (faB 1 1) ?_
  refine kv g0 (ldB) ?_
  obtain ⟨t4, A5, H⟩ := of_bind H
  refine kcS0 15 (.lit (.bool t4)) [] g0 (cal (laws_eqIntS.ok A5) [] 9999 .n (hf := Try.func28)) rfl rfl ?_
  refine kv g0 (not_) ?_
  refine wk_end ?_
  refine ac_next ?_
  by_cases c6 : t4 = true
  ·rw [if_pos c6] at H
   refine aw_ifF ?_ (nF c6)
   refine aw_skip ?_
   refine ac_next ?_
   refine aw_grp1 ?_
   refine aw_grp1 ?_
   refine wk_start ?_
   refine kv g0 (faB 2 2) ?_
   refine kv g0 (ldB) ?_
   refine kv g0 (faB 2 2) ?_
   refine kv g0 (ldB) ?_
   obtain ⟨t7, A8, H⟩ := of_bind H
   refine kcS0 21 (.lit (.bool t7)) [] g0 (cal (laws_eqEarlyS.ok A8) [] 9999 .n (hf := Try.func60)) rfl rfl ?_
   refine kv g0 (not_) ?_
   refine wk_end ?_
   refine ac_next ?_
   by_cases c9 : t7 = true
   ·rw [if_pos c9] at H
    refine aw_ifF ?_ (nF c9)
    refine aw_skip ?_
    refine ac_next ?_
    refine aw_grp1 ?_
    refine aw_grp1 ?_
    refine wk_start ?_
    refine kv g0 (faB 3 3) ?_
    refine kv g0 (ldB) ?_
    refine kv g0 (faB 3 3) ?_
    refine kv g0 (ldB) ?_
    refine kv g0 (neq) ?_
    refine wk_end ?_
    refine ac_next ?_
    by_cases c10 : a0_3 = a1_3
    ·rw [if_pos c10] at H
     refine aw_ifF ?_ (eM c10)
     refine aw_skip ?_
     refine ac_next ?_
     refine aw_grp1 ?_
     refine aw_grp1 ?_
     refine wk_start ?_
     refine kv g0 (faB 4 4) ?_
     refine kv g0 (ldB) ?_
     refine kv g0 (faB 4 4) ?_
     refine kv g0 (ldB) ?_
     obtain ⟨t11, A12, H⟩ := of_bind H
     refine kcS0 32 (.lit (.bool t11)) [] g0 (cal (laws_eqIntS.ok A12) [] 9999 .n (hf := Try.func28)) rfl rfl ?_
     refine kv g0 (not_) ?_
     refine wk_end ?_
     refine ac_next ?_
     by_cases c13 : t11 = true
     ·rw [if_pos c13] at H
      refine aw_ifF ?_ (nF c13)
      refine aw_skip ?_
      refine ac_next ?_
      refine aw_grp1 ?_
      refine wk_start ?_
      refine kv g0 (asg) ?_
      refine wk_end ?_
      refine ac_next ?_
      refine aw_ret ?_
      obtain rfl := Option.some.inj H
      exact acr hE [.tmp 4] (.tmp .nil) (.one _) [] 9999
     rw [if_neg c13] at H
     refine aw_ifT ?_ (nT (bF c13))
     refine aw_grp1 ?_
     refine wk_start ?_
     refine kv g0 (asg) ?_
     refine wk_end ?_
     refine ac_next ?_
     refine aw_ret ?_
     refine ac_thenR ?_
     obtain rfl := Option.some.inj H
     exact acr hE [.tmp 4] (.tmp .nil) (.one _) [] 9999
    rw [if_neg c10] at H
    refine aw_ifT ?_ (eN c10)
    refine aw_grp1 ?_
    refine wk_start ?_
    refine kv g0 (asg) ?_
    refine wk_end ?_
    refine ac_next ?_
    refine aw_ret ?_
    refine ac_thenR ?_
    obtain rfl := Option.some.inj H
    exact acr hE [.tmp 4] (.tmp .nil) (.one _) [] 9999
   rw [if_neg c9] at H
   refine aw_ifT ?_ (nT (bF c9))
   refine aw_grp1 ?_
   refine wk_start ?_
   refine kv g0 (asg) ?_
   refine wk_end ?_
   refine ac_next ?_
   refine aw_ret ?_
   refine ac_thenR ?_
   obtain rfl := Option.some.inj H
   exact acr hE [.tmp 4] (.tmp .nil) (.one _) [] 9999
  rw [if_neg c6] at H
  refine aw_ifT ?_ (nT (bF c6))
  refine aw_grp1 ?_
  refine wk_start ?_
  refine kv g0 (asg) ?_
  refine wk_end ?_
  refine ac_next ?_
  refine aw_ret ?_
  refine ac_thenR ?_
  obtain rfl := Option.some.inj H
  exact acr hE [.tmp 4] (.tmp .nil) (.one _) [] 9999
 rw [if_neg c3] at H
 refine aw_ifT ?_ (nT (bF c3))
 refine aw_grp1 ?_
 refine wk_start ?_
 refine kv g0 (asg) ?_
 refine wk_end ?_
 refine ac_next ?_
 refine aw_ret ?_
 refine ac_thenR ?_
 obtain rfl := Option.some.inj H
 exact acr hE [.tmp 4] (.tmp .nil) (.one _) [] 9999
/-! laws_eqLetter -/
def laws_eqLetter.f (a0_0 : Bool) (a0_1 : ByteArray) (a0_2 : Bool) (a1_0 : Bool) (a1_1 : ByteArray) (a1_2 : Bool) : Option (Bool) := if a0_0 = a1_0 then if (a0_1.toList == a1_1.toList) = true then if a0_2 = a1_2 then some true else some false else some false else some false
theorem laws_eqLetter.ok {a0_0 : Bool} {a0_1 : ByteArray} {a0_2 : Bool} {a1_0 : Bool} {a1_1 : ByteArray} {a1_2 : Bool} {r : Bool} (H : laws_eqLetter.f a0_0 a0_1 a0_2 a1_0 a1_1 a1_2 = some r) : ACalls Try.prog 61 [] [.agg [.lit (.bool a0_0), .lit (.string a0_1), .lit (.bool a0_2)], .agg [.lit (.bool a1_0), .lit (.string a1_1), .lit (.bool a1_2)]] [] (.lit (.bool r)) := by
 refine acalls (fn := Try.f61) (nt := 20) Try.func61 rfl rfl (Nat.le_of_ble_eq_true rfl) fun E hE => ?_
 rw [laws_eqLetter.f] at H
 refine aw_grp1 ?_
 refine wk_start ?_
 refine kb g0 (bxA 0) ?_
 refine kb g0 (bxA 1) ?_
 refine kv g0 (asg) ?_
 refine wk_end ?_
 refine ac_next ?_
 refine aw_grp1 ?_
 refine aw_grp1 ?_
 refine wk_start ?_
 refine kv g0 (faB 0 0) ?_
 refine kv g0 (ldB) ?_
 refine kv g0 (faB 0 0) ?_
 refine kv g0 (ldB) ?_
 refine kv g0 (bne) ?_
 refine wk_end ?_
 refine ac_next ?_
 by_cases c1 : a0_0 = a1_0
 ·rw [if_pos c1] at H
  refine aw_ifF ?_ (nF (eTb c1))
  refine aw_skip ?_
  refine ac_next ?_
  refine aw_grp1 ?_
  refine aw_grp1 ?_
  refine wk_start ?_
  refine kv g0 (faB 1 1) ?_
  refine kv g0 (ldB) ?_
  refine kv g0 (faB 1 1) ?_
  refine kv g0 (ldB) ?_
  refine kv g0 (sne) ?_
  refine wk_end ?_
  refine ac_next ?_
  by_cases c2 : (a0_1.toList == a1_1.toList) = true
  ·rw [if_pos c2] at H
   refine aw_ifF ?_ (nF c2)
   refine aw_skip ?_
   refine ac_next ?_
   refine aw_grp1 ?_
   refine aw_grp1 ?_
   refine wk_start ?_
   refine kv g0 (faB 2 2) ?_
   refine kv g0 (ldB) ?_
   refine kv g0 (faB 2 2) ?_
   refine kv g0 (ldB) ?_
   refine kv g0 (bne) ?_
   refine wk_end ?_
   refine ac_next ?_
   by_cases c3 : a0_2 = a1_2
   ·rw [if_pos c3] at H
    refine aw_ifF ?_ (nF (eTb c3))
    refine aw_skip ?_
    refine ac_next ?_
    refine aw_grp1 ?_
    refine wk_start ?_
    refine kv g0 (asg) ?_
    refine wk_end ?_
    refine ac_next ?_
    refine aw_ret ?_
    obtain rfl := Option.some.inj H
    exact acr hE [.tmp 4] (.tmp .nil) (.one _) [] 9999
   rw [if_neg c3] at H
   refine aw_ifT ?_ (nT (eFb c3))
   refine aw_grp1 ?_
   refine wk_start ?_
   refine kv g0 (asg) ?_
   refine wk_end ?_
   refine ac_next ?_
   refine aw_ret ?_
   refine ac_thenR ?_
   obtain rfl := Option.some.inj H
   exact acr hE [.tmp 4] (.tmp .nil) (.one _) [] 9999
  rw [if_neg c2] at H
  refine aw_ifT ?_ (nT (bF c2))
  refine aw_grp1 ?_
  refine wk_start ?_
  refine kv g0 (asg) ?_
  refine wk_end ?_
  refine ac_next ?_
  refine aw_ret ?_
  refine ac_thenR ?_
  obtain rfl := Option.some.inj H
  exact acr hE [.tmp 4] (.tmp .nil) (.one _) [] 9999
 rw [if_neg c1] at H
 refine aw_ifT ?_ (nT (eFb c1))
 refine aw_grp1 ?_
 refine wk_start ?_
 refine kv g0 (asg) ?_
 refine wk_end ?_
 refine ac_next ?_
 refine aw_ret ?_
 refine ac_thenR ?_
 obtain rfl := Option.some.inj H
 exact acr hE [.tmp 4] (.tmp .nil) (.one _) [] 9999
/-! laws_eqLetterS -/
def laws_eqLetterS.l0 : Nat → (List S99) → (List S99) → Int → Option (Bool)
 | 0, _, _, _ => none
 | k9 + 1, l0, l1, p8 => if p8 < (l0.length : Int) then if 0 ≤ p8 then (if p8 < (l1.length : Int) then ((laws_eqLetter.f ((rd_T99 l0 p8).f0) ((rd_T99 l0 p8).f1) ((rd_T99 l0 p8).f2) ((rd_T99 l1 p8).f0) ((rd_T99 l1 p8).f1) ((rd_T99 l1 p8).f2)).bind fun t13 => if t13 = true then laws_eqLetterS.l0 k9 l0 l1 (wrap64 (p8 + 1)) else some false) else none) else none else some true
def laws_eqLetterS.f (k : Nat) (l0 : List S99) (l1 : List S99) : Option (Bool) := if (l0.length : Int) = (l1.length : Int) then laws_eqLetterS.l0 k l0 l1 0 else some false
theorem laws_eqLetterS.ok {k : Nat} {l0 : List S99} {l1 : List S99} {r : Bool} (H : laws_eqLetterS.f k l0 l1 = some r) : ACalls Try.prog 27 [] [.sl .o 3 (l0.map e99), .sl .o 3 (l1.map e99)] [] (.lit (.bool r)) := by
 refine acalls (fn := Try.f27) (nt := 27) Try.func27 rfl rfl (Nat.le_of_ble_eq_true rfl) fun E hE => ?_
 rw [laws_eqLetterS.f] at H
 refine aw_grp1 ?_
 refine wk_start ?_
 refine kv g0 (asg) ?_
 refine wk_end ?_
 refine ac_next ?_
 refine aw_grp1 ?_
 refine aw_grp1 ?_
 refine wk_start ?_
 refine kv g0 (mv) ?_
 refine kv g0 (lnS lenE) ?_
 refine kv g0 (mv) ?_
 refine kv g0 (lnS lenE) ?_
 refine kv g0 (neq) ?_
 refine wk_end ?_
 refine ac_next ?_
 by_cases c1 : (l0.length : Int) = (l1.length : Int)
 ·rw [if_pos c1] at H
  refine aw_ifF ?_ (eM c1)
  refine aw_skip ?_
  refine ac_next ?_
  refine aw_grp1 ?_
  refine aw_grp1 ?_
  refine wk_start ?_
  refine kv g0 (asg) ?_
  refine wk_end ?_
  refine ac_next ?_
  refine aw_block ?_
  refine aw_loop1 (fun (k_ : Nat) (p8 : Int) => k_ ≤ k ∧ laws_eqLetterS.l0 k_ l0 l1 p8 = some r) (fun (p8 : Int) => ⟨[(0, .sl .o 3 (l0.map e99)), (1, .sl .o 3 (l1.map e99)), (5, .lit (.int .i64 p8))], []⟩) k 0 ⟨Nat.le_refl _, H⟩ (fun K_ h_ => acw hE [] 9999 h_) (fun _ => by intro h_; have h_ := h_.2; rw [laws_eqLetterS.l0.eq_1] at h_; cases h_) ?_
  intro k9 p8 hq_ K16 hK17
  have hk9 := hq_.1
  have H := hq_.2
  clear hq_
  rw [laws_eqLetterS.l0.eq_2] at H
  refine aw_grp1 ?_
  refine aw_grp1 ?_
  refine wk_start ?_
  refine kv g0 (mv) ?_
  refine kv g0 (mv) ?_
  refine kv g0 (lnS lenE) ?_
  refine kv g0 (lss) ?_
  refine wk_end ?_
  refine ac_next ?_
  by_cases c10 : p8 < (l0.length : Int)
  ·rw [if_pos c10] at H
   refine aw_ifT ?_ (decide_eq_true c10)
   refine aw_skip ?_
   refine ac_next ?_
   refine aw_grp1 ?_
   refine aw_block ?_
   refine aw_grp1 ?_
   refine wk_start ?_
   refine kv g0 (mv) ?_
   refine kv g0 (mv) ?_
   obtain ⟨c11, H⟩ := of_if H
   refine kv g0 (ixS 99 (e99 (rd_T99 l0 p8)) c11 (getE (z := z99) c11 c10)) ?_
   refine kv g0 (ldRA 3 [.lit (.bool ((rd_T99 l0 p8).f0)), .lit (.string ((rd_T99 l0 p8).f1)), .lit (.bool ((rd_T99 l0 p8).f2))]) ?_
   refine kv g0 (mv) ?_
   refine kv g0 (mv) ?_
   obtain ⟨c12, H⟩ := of_if H
   refine kv g0 (ixS 99 (e99 (rd_T99 l1 p8)) c11 (getE (z := z99) c11 c12)) ?_
   refine kv g0 (ldRA 3 [.lit (.bool ((rd_T99 l1 p8).f0)), .lit (.string ((rd_T99 l1 p8).f1)), .lit (.bool ((rd_T99 l1 p8).f2))]) ?_
   obtain ⟨t13, A14, H⟩ := of_bind H
   refine kcS0 25 (.lit (.bool t13)) [] g0 (cal (laws_eqLetter.ok A14) [] 9999 .n (hf := Try.func61)) rfl rfl ?_
   refine kv g0 (not_) ?_
   refine wk_end_draw hM (by kernel_rfl) ?_
   refine ac_next ?_
   by_cases c15 : t13 = true
   ·rw [if_pos c15] at H
    refine aw_ifF ?_ (nF c15)
    refine aw_skip ?_
    refine ac_blkN ?_
    refine ac_next ?_
    refine wk_start ?_
    refine kv g0 (mv) ?_
    refine kv g0 (add6) ?_
    refine kv g0 (asg) ?_
    refine wk_end ?_
    refine ac_k ?_
    exact acw hE [] 9999 (hK17 k9 (wrap64 (p8 + 1)) (Nat.le_refl _) ⟨by omega, H⟩)
   rw [if_neg c15] at H
   refine aw_ifT ?_ (nT (bF c15))
   refine aw_grp1 ?_
   refine wk_start ?_
   refine kv g0 (asg) ?_
   refine wk_end ?_
   refine ac_next ?_
   refine aw_ret ?_
   refine ac_blkR ?_
   refine ac_thenR ?_
   refine ac_thenR ?_
   refine ac_blkR ?_
   refine ac_thenR ?_
   obtain rfl := Option.some.inj H
   exact acr hE [.tmp 4] (.tmp .nil) (.one _) [] 9999
  rw [if_neg c10] at H
  refine aw_ifF ?_ (decide_eq_false c10)
  refine aw_exit ?_
  refine ac_then ?_
  refine ac_then ?_
  refine ac_hit rfl ?_
  refine ac_next ?_
  refine aw_grp1 ?_
  refine wk_start ?_
  refine kv g0 (asg) ?_
  refine wk_end ?_
  refine ac_next ?_
  refine aw_ret ?_
  obtain rfl := Option.some.inj H
  exact acr hE [.tmp 4] (.tmp .nil) (.one _) [] 9999
 rw [if_neg c1] at H
 refine aw_ifT ?_ (eN c1)
 refine aw_grp1 ?_
 refine wk_start ?_
 refine kv g0 (asg) ?_
 refine wk_end ?_
 refine ac_next ?_
 refine aw_ret ?_
 refine ac_thenR ?_
 obtain rfl := Option.some.inj H
 exact acr hE [.tmp 4] (.tmp .nil) (.one _) [] 9999
/-! laws_eqSeen -/
def laws_eqSeen.f (a0_0 : Int) (a0_1 : Int) (a0_2 : Int) (a0_3 : Bool) (a1_0 : Int) (a1_1 : Int) (a1_2 : Int) (a1_3 : Bool) : Option (Bool) := if a0_0 = a1_0 then if a0_1 = a1_1 then if a0_2 = a1_2 then if a0_3 = a1_3 then some true else some false else some false else some false else some false
theorem laws_eqSeen.ok {a0_0 : Int} {a0_1 : Int} {a0_2 : Int} {a0_3 : Bool} {a1_0 : Int} {a1_1 : Int} {a1_2 : Int} {a1_3 : Bool} {r : Bool} (H : laws_eqSeen.f a0_0 a0_1 a0_2 a0_3 a1_0 a1_1 a1_2 a1_3 = some r) : ACalls Try.prog 55 [] [.agg [.lit (.int .i64 a0_0), .lit (.int .i64 a0_1), .lit (.int .i64 a0_2), .lit (.bool a0_3)], .agg [.lit (.int .i64 a1_0), .lit (.int .i64 a1_1), .lit (.int .i64 a1_2), .lit (.bool a1_3)]] [] (.lit (.bool r)) := by
 refine acalls (fn := Try.f55) (nt := 25) Try.func55 rfl rfl (Nat.le_of_ble_eq_true rfl) fun E hE => ?_
 rw [laws_eqSeen.f] at H
 refine aw_grp1 ?_
 refine wk_start ?_
 refine kb g0 (bxA 0) ?_
 refine kb g0 (bxA 1) ?_
 refine kv g0 (asg) ?_
 refine wk_end ?_
 refine ac_next ?_
 refine aw_grp1 ?_
 refine aw_grp1 ?_
 refine wk_start ?_
 refine kv g0 (faB 0 0) ?_
 refine kv g0 (ldB) ?_
 refine kv g0 (faB 0 0) ?_
 refine kv g0 (ldB) ?_
 refine kv g0 (neq) ?_
 refine wk_end ?_
 refine ac_next ?_
 by_cases c1 : a0_0 = a1_0
 ·rw [if_pos c1] at H
  refine aw_ifF ?_ (eM c1)
  refine aw_skip ?_
  refine ac_next ?_
  refine aw_grp1 ?_
  refine aw_grp1 ?_
  refine wk_start ?_
  refine kv g0 (faB 1 1) ?_
  refine kv g0 (ldB) ?_
  refine kv g0 (faB 1 1) ?_
  refine kv g0 (ldB) ?_
  refine kv g0 (neq) ?_
  refine wk_end ?_
  refine ac_next ?_
  by_cases c2 : a0_1 = a1_1
  ·rw [if_pos c2] at H
   refine aw_ifF ?_ (eM c2)
   refine aw_skip ?_
   refine ac_next ?_
   refine aw_grp1 ?_
   refine aw_grp1 ?_
   refine wk_start ?_
   refine kv g0 (faB 2 2) ?_
   refine kv g0 (ldB) ?_
   refine kv g0 (faB 2 2) ?_
   refine kv g0 (ldB) ?_
   refine kv g0 (neq) ?_
   refine wk_end ?_
   refine ac_next ?_
   by_cases c3 : a0_2 = a1_2
   ·rw [if_pos c3] at H
    refine aw_ifF ?_ (eM c3)
    refine aw_skip ?_
    refine ac_next ?_
    refine aw_grp1 ?_
    refine aw_grp1 ?_
    refine wk_start ?_
    refine kv g0 (faB 3 3) ?_
    refine kv g0 (ldB) ?_
    refine kv g0 (faB 3 3) ?_
    refine kv g0 (ldB) ?_
    refine kv g0 (bne) ?_
    refine wk_end ?_
    refine ac_next ?_
    by_cases c4 : a0_3 = a1_3
    ·rw [if_pos c4] at H
     refine aw_ifF ?_ (nF (eTb c4))
     refine aw_skip ?_
     refine ac_next ?_
     refine aw_grp1 ?_
     refine wk_start ?_
     refine kv g0 (asg) ?_
     refine wk_end ?_
     refine ac_next ?_
     refine aw_ret ?_
     obtain rfl := Option.some.inj H
     exact acr hE [.tmp 4] (.tmp .nil) (.one _) [] 9999
    rw [if_neg c4] at H
    refine aw_ifT ?_ (nT (eFb c4))
    refine aw_grp1 ?_
    refine wk_start ?_
    refine kv g0 (asg) ?_
    refine wk_end ?_
    refine ac_next ?_
    refine aw_ret ?_
    refine ac_thenR ?_
    obtain rfl := Option.some.inj H
    exact acr hE [.tmp 4] (.tmp .nil) (.one _) [] 9999
   rw [if_neg c3] at H
   refine aw_ifT ?_ (eN c3)
   refine aw_grp1 ?_
   refine wk_start ?_
   refine kv g0 (asg) ?_
   refine wk_end ?_
   refine ac_next ?_
   refine aw_ret ?_
   refine ac_thenR ?_
   obtain rfl := Option.some.inj H
   exact acr hE [.tmp 4] (.tmp .nil) (.one _) [] 9999
  rw [if_neg c2] at H
  refine aw_ifT ?_ (eN c2)
  refine aw_grp1 ?_
  refine wk_start ?_
  refine kv g0 (asg) ?_
  refine wk_end ?_
  refine ac_next ?_
  refine aw_ret ?_
  refine ac_thenR ?_
  obtain rfl := Option.some.inj H
  exact acr hE [.tmp 4] (.tmp .nil) (.one _) [] 9999
 rw [if_neg c1] at H
 refine aw_ifT ?_ (eN c1)
 refine aw_grp1 ?_
 refine wk_start ?_
 refine kv g0 (asg) ?_
 refine wk_end ?_
 refine ac_next ?_
 refine aw_ret ?_
 refine ac_thenR ?_
 obtain rfl := Option.some.inj H
 exact acr hE [.tmp 4] (.tmp .nil) (.one _) [] 9999
/-! laws_eqSeenS -/
def laws_eqSeenS.l0 : Nat → (List S83) → (List S83) → Int → Option (Bool)
 | 0, _, _, _ => none
 | k9 + 1, l0, l1, p8 => if p8 < (l0.length : Int) then if 0 ≤ p8 then (if p8 < (l1.length : Int) then ((laws_eqSeen.f ((rd_T83 l0 p8).f0) ((rd_T83 l0 p8).f1) ((rd_T83 l0 p8).f2) ((rd_T83 l0 p8).f3) ((rd_T83 l1 p8).f0) ((rd_T83 l1 p8).f1) ((rd_T83 l1 p8).f2) ((rd_T83 l1 p8).f3)).bind fun t13 => if t13 = true then laws_eqSeenS.l0 k9 l0 l1 (wrap64 (p8 + 1)) else some false) else none) else none else some true
def laws_eqSeenS.f (k : Nat) (l0 : List S83) (l1 : List S83) : Option (Bool) := if (l0.length : Int) = (l1.length : Int) then laws_eqSeenS.l0 k l0 l1 0 else some false
theorem laws_eqSeenS.ok {k : Nat} {l0 : List S83} {l1 : List S83} {r : Bool} (H : laws_eqSeenS.f k l0 l1 = some r) : ACalls Try.prog 14 [] [.sl .o 4 (l0.map e83), .sl .o 4 (l1.map e83)] [] (.lit (.bool r)) := by
 refine acalls (fn := Try.f14) (nt := 27) Try.func14 rfl rfl (Nat.le_of_ble_eq_true rfl) fun E hE => ?_
 rw [laws_eqSeenS.f] at H
 refine aw_grp1 ?_
 refine wk_start ?_
 refine kv g0 (asg) ?_
 refine wk_end ?_
 refine ac_next ?_
 refine aw_grp1 ?_
 refine aw_grp1 ?_
 refine wk_start ?_
 refine kv g0 (mv) ?_
 refine kv g0 (lnS lenE) ?_
 refine kv g0 (mv) ?_
 refine kv g0 (lnS lenE) ?_
 refine kv g0 (neq) ?_
 refine wk_end ?_
 refine ac_next ?_
 by_cases c1 : (l0.length : Int) = (l1.length : Int)
 ·rw [if_pos c1] at H
  refine aw_ifF ?_ (eM c1)
  refine aw_skip ?_
  refine ac_next ?_
  refine aw_grp1 ?_
  refine aw_grp1 ?_
  refine wk_start ?_
  refine kv g0 (asg) ?_
  refine wk_end ?_
  refine ac_next ?_
  refine aw_block ?_
  refine aw_loop1 (fun (k_ : Nat) (p8 : Int) => k_ ≤ k ∧ laws_eqSeenS.l0 k_ l0 l1 p8 = some r) (fun (p8 : Int) => ⟨[(0, .sl .o 4 (l0.map e83)), (1, .sl .o 4 (l1.map e83)), (5, .lit (.int .i64 p8))], []⟩) k 0 ⟨Nat.le_refl _, H⟩ (fun K_ h_ => acw hE [] 9999 h_) (fun _ => by intro h_; have h_ := h_.2; rw [laws_eqSeenS.l0.eq_1] at h_; cases h_) ?_
  intro k9 p8 hq_ K16 hK17
  have hk9 := hq_.1
  have H := hq_.2
  clear hq_
  rw [laws_eqSeenS.l0.eq_2] at H
  refine aw_grp1 ?_
  refine aw_grp1 ?_
  refine wk_start ?_
  refine kv g0 (mv) ?_
  refine kv g0 (mv) ?_
  refine kv g0 (lnS lenE) ?_
  refine kv g0 (lss) ?_
  refine wk_end ?_
  refine ac_next ?_
  by_cases c10 : p8 < (l0.length : Int)
  ·rw [if_pos c10] at H
   refine aw_ifT ?_ (decide_eq_true c10)
   refine aw_skip ?_
   refine ac_next ?_
   refine aw_grp1 ?_
   refine aw_block ?_
   refine aw_grp1 ?_
   refine wk_start ?_
   refine kv g0 (mv) ?_
   refine kv g0 (mv) ?_
   obtain ⟨c11, H⟩ := of_if H
   refine kv g0 (ixS 83 (e83 (rd_T83 l0 p8)) c11 (getE (z := z83) c11 c10)) ?_
   refine kv g0 (ldRA 4 [.lit (.int .i64 ((rd_T83 l0 p8).f0)), .lit (.int .i64 ((rd_T83 l0 p8).f1)), .lit (.int .i64 ((rd_T83 l0 p8).f2)), .lit (.bool ((rd_T83 l0 p8).f3))]) ?_
   refine kv g0 (mv) ?_
   refine kv g0 (mv) ?_
   obtain ⟨c12, H⟩ := of_if H
   refine kv g0 (ixS 83 (e83 (rd_T83 l1 p8)) c11 (getE (z := z83) c11 c12)) ?_
   refine kv g0 (ldRA 4 [.lit (.int .i64 ((rd_T83 l1 p8).f0)), .lit (.int .i64 ((rd_T83 l1 p8).f1)), .lit (.int .i64 ((rd_T83 l1 p8).f2)), .lit (.bool ((rd_T83 l1 p8).f3))]) ?_
   obtain ⟨t13, A14, H⟩ := of_bind H
   refine kcS0 25 (.lit (.bool t13)) [] g0 (cal (laws_eqSeen.ok A14) [] 9999 .n (hf := Try.func55)) rfl rfl ?_
   refine kv g0 (not_) ?_
   refine wk_end_draw hM (by kernel_rfl) ?_
   refine ac_next ?_
   by_cases c15 : t13 = true
   ·rw [if_pos c15] at H
    refine aw_ifF ?_ (nF c15)
    refine aw_skip ?_
    refine ac_blkN ?_
    refine ac_next ?_
    refine wk_start ?_
    refine kv g0 (mv) ?_
    refine kv g0 (add6) ?_
    refine kv g0 (asg) ?_
    refine wk_end ?_
    refine ac_k ?_
    exact acw hE [] 9999 (hK17 k9 (wrap64 (p8 + 1)) (Nat.le_refl _) ⟨by omega, H⟩)
   rw [if_neg c15] at H
   refine aw_ifT ?_ (nT (bF c15))
   refine aw_grp1 ?_
   refine wk_start ?_
   refine kv g0 (asg) ?_
   refine wk_end ?_
   refine ac_next ?_
   refine aw_ret ?_
   refine ac_blkR ?_
   refine ac_thenR ?_
   refine ac_thenR ?_
   refine ac_blkR ?_
   refine ac_thenR ?_
   obtain rfl := Option.some.inj H
   exact acr hE [.tmp 4] (.tmp .nil) (.one _) [] 9999
  rw [if_neg c10] at H
  refine aw_ifF ?_ (decide_eq_false c10)
  refine aw_exit ?_
  refine ac_then ?_
  refine ac_then ?_
  refine ac_hit rfl ?_
  refine ac_next ?_
  refine aw_grp1 ?_
  refine wk_start ?_
  refine kv g0 (asg) ?_
  refine wk_end ?_
  refine ac_next ?_
  refine aw_ret ?_
  obtain rfl := Option.some.inj H
  exact acr hE [.tmp 4] (.tmp .nil) (.one _) [] 9999
 rw [if_neg c1] at H
 refine aw_ifT ?_ (eN c1)
 refine aw_grp1 ?_
 refine wk_start ?_
 refine kv g0 (asg) ?_
 refine wk_end ?_
 refine ac_next ?_
 refine aw_ret ?_
 refine ac_thenR ?_
 obtain rfl := Option.some.inj H
 exact acr hE [.tmp 4] (.tmp .nil) (.one _) [] 9999
/-! laws_eqWorld -/
def laws_eqWorld.f (k : Nat) (l0_0 : List (List (List S151))) (l0_1 : List S59) (l0_2 : List S62) (l0_3 : List S133) (l0_4 : List Int) (l0_5 : List S135) (a0_6 : Int) (l0_7 : List Int) (l0_8 : List S99) (a0_9 : Int) (l0_10 : List Int) (l0_11 : List S83) (l1_0 : List (List (List S151))) (l1_1 : List S59) (l1_2 : List S62) (l1_3 : List S133) (l1_4 : List Int) (l1_5 : List S135) (a1_6 : Int) (l1_7 : List Int) (l1_8 : List S99) (a1_9 : Int) (l1_10 : List Int) (l1_11 : List S83) : Option (Bool) := (laws_eqInsSSS.f k l0_0 l1_0).bind fun t1 => if t1 = true then (laws_eqRingS.f k l0_1 l1_1).bind fun t4 => if t4 = true then (laws_eqSenderS.f k l0_2 l1_2).bind fun t7 => if t7 = true then (laws_eqKeeper.f k l0_3 l0_4 l0_5 a0_6 l0_7 l1_3 l1_4 l1_5 a1_6 l1_7).bind fun t10 => if t10 = true then (laws_eqLetterS.f k l0_8 l1_8).bind fun t13 => if t13 = true then if a0_9 = a1_9 then (laws_eqIntS.f k l0_10 l1_10).bind fun t17 => if t17 = true then (laws_eqSeenS.f k l0_11 l1_11).bind fun t20 => if t20 = true then some true else some false else some false else some false else some false else some false else some false else some false else some false
theorem laws_eqWorld.ok {k : Nat} {l0_0 : List (List (List S151))} {l0_1 : List S59} {l0_2 : List S62} {l0_3 : List S133} {l0_4 : List Int} {l0_5 : List S135} {a0_6 : Int} {l0_7 : List Int} {l0_8 : List S99} {a0_9 : Int} {l0_10 : List Int} {l0_11 : List S83} {l1_0 : List (List (List S151))} {l1_1 : List S59} {l1_2 : List S62} {l1_3 : List S133} {l1_4 : List Int} {l1_5 : List S135} {a1_6 : Int} {l1_7 : List Int} {l1_8 : List S99} {a1_9 : Int} {l1_10 : List Int} {l1_11 : List S83} {r : Bool} (H : laws_eqWorld.f k l0_0 l0_1 l0_2 l0_3 l0_4 l0_5 a0_6 l0_7 l0_8 a0_9 l0_10 l0_11 l1_0 l1_1 l1_2 l1_3 l1_4 l1_5 a1_6 l1_7 l1_8 a1_9 l1_10 l1_11 = some r) : ACalls Try.prog 7 [] [.agg [.sl .o 1 (l0_0.map (eL 1 (eL 4 (e151)))), .sl .o 4 (l0_1.map e59), .sl .o 5 (l0_2.map e62), .sl .o 6 (l0_3.map e133), .sl .o 1 (l0_4.map (eI .i64)), .sl .o 6 (l0_5.map e135), .lit (.int .i64 a0_6), .sl .o 1 (l0_7.map (eI .i64)), .sl .o 3 (l0_8.map e99), .lit (.int .i64 a0_9), .sl .o 1 (l0_10.map (eI .i64)), .sl .o 4 (l0_11.map e83)], .agg [.sl .o 1 (l1_0.map (eL 1 (eL 4 (e151)))), .sl .o 4 (l1_1.map e59), .sl .o 5 (l1_2.map e62), .sl .o 6 (l1_3.map e133), .sl .o 1 (l1_4.map (eI .i64)), .sl .o 6 (l1_5.map e135), .lit (.int .i64 a1_6), .sl .o 1 (l1_7.map (eI .i64)), .sl .o 3 (l1_8.map e99), .lit (.int .i64 a1_9), .sl .o 1 (l1_10.map (eI .i64)), .sl .o 4 (l1_11.map e83)]] [] (.lit (.bool r)) := by
 refine acalls (fn := Try.f7) (nt := 52) Try.func7 rfl rfl (Nat.le_of_ble_eq_true rfl) fun E hE => ?_
 rw [laws_eqWorld.f] at H
 refine aw_grp1 ?_
 refine wk_start ?_
 refine kb g0 (bxA 0) ?_
 refine kb g0 (bxA 1) ?_
 refine kv g0 (asg) ?_
 refine wk_end ?_
 refine ac_next ?_
 refine aw_grp1 ?_
 refine aw_grp1 ?_
 refine wk_start ?_
 refine kv g0 (faB 0 0) ?_
 refine kv g0 (ldB) ?_
 refine kv g0 (faB 0 0) ?_
 refine kv g0 (ldB) ?_
 obtain ⟨t1, A2, H⟩ := of_bind H
 refine kcS0 9 (.lit (.bool t1)) [] g0 (cal (laws_eqInsSSS.ok A2) [] 9999 .n (hf := Try.func23)) rfl rfl ?_
 refine kv g0 (not_) ?_
 refine wk_end ?_
 refine ac_next ?_
 by_cases c3 : t1 = true
 ·rw [if_pos c3] at H
  refine aw_ifF ?_ (nF c3)
  refine aw_skip ?_
  refine ac_next ?_
  refine aw_grp1 ?_
  refine aw_grp1 ?_
  refine wk_start ?_
  refine kv g0 (faB 1 1) ?_
  refine kv g0 (ldB) ?_
  refine kv g0 (faB 1 1) ?_
  refine kv g0 (ldB) ?_
  obtain ⟨t4, A5, H⟩ := of_bind H
  refine kcS0 15 (.lit (.bool t4)) [] g0 (cal (laws_eqRingS.ok A5) [] 9999 .n (hf := Try.func24)) rfl rfl ?_
  refine kv g0 (not_) ?_
  refine wk_end ?_
  refine ac_next ?_
  by_cases c6 : t4 = true
  ·rw [if_pos c6] at H
   refine aw_ifF ?_ (nF c6)
   refine aw_skip ?_
   refine ac_next ?_
   refine aw_grp1 ?_
   refine aw_grp1 ?_
   refine wk_start ?_
   refine kv g0 (faB 2 2) ?_
   refine kv g0 (ldB) ?_
   refine kv g0 (faB 2 2) ?_
   refine kv g0 (ldB) ?_
   obtain ⟨t7, A8, H⟩ := of_bind H
   refine kcS0 21 (.lit (.bool t7)) [] g0 (cal (laws_eqSenderS.ok A8) [] 9999 .n (hf := Try.func25)) rfl rfl ?_
   refine kv g0 (not_) ?_
   refine wk_end ?_
   refine ac_next ?_
   by_cases c9 : t7 = true
   ·rw [if_pos c9] at H
    refine aw_ifF ?_ (nF c9)
    refine aw_skip ?_
    refine ac_next ?_
    refine aw_grp1 ?_
    refine aw_grp1 ?_
    refine wk_start ?_
    refine kv g0 (faB 3 3) ?_
    refine kv g0 (ldBA 5 [.sl .o 6 (l0_3.map e133), .sl .o 1 (l0_4.map (eI .i64)), .sl .o 6 (l0_5.map e135), .lit (.int .i64 a0_6), .sl .o 1 (l0_7.map (eI .i64))]) ?_
    refine kv g0 (faB 3 3) ?_
    refine kv g0 (ldBA 5 [.sl .o 6 (l1_3.map e133), .sl .o 1 (l1_4.map (eI .i64)), .sl .o 6 (l1_5.map e135), .lit (.int .i64 a1_6), .sl .o 1 (l1_7.map (eI .i64))]) ?_
    obtain ⟨t10, A11, H⟩ := of_bind H
    refine kcS0 27 (.lit (.bool t10)) [] g0 (cal (laws_eqKeeper.ok A11) [] 9999 .n (hf := Try.func26)) rfl rfl ?_
    refine kv g0 (not_) ?_
    refine wk_end ?_
    refine ac_next ?_
    by_cases c12 : t10 = true
    ·rw [if_pos c12] at H
     refine aw_ifF ?_ (nF c12)
     refine aw_skip ?_
     refine ac_next ?_
     refine aw_grp1 ?_
     refine aw_grp1 ?_
     refine wk_start ?_
     refine kv g0 (faB 8 8) ?_
     refine kv g0 (ldB) ?_
     refine kv g0 (faB 8 8) ?_
     refine kv g0 (ldB) ?_
     obtain ⟨t13, A14, H⟩ := of_bind H
     refine kcS0 33 (.lit (.bool t13)) [] g0 (cal (laws_eqLetterS.ok A14) [] 9999 .n (hf := Try.func27)) rfl rfl ?_
     refine kv g0 (not_) ?_
     refine wk_end ?_
     refine ac_next ?_
     by_cases c15 : t13 = true
     ·rw [if_pos c15] at H
      refine aw_ifF ?_ (nF c15)
      refine aw_skip ?_
      refine ac_next ?_
      refine aw_grp1 ?_
      refine aw_grp1 ?_
      refine wk_start ?_
      refine kv g0 (faB 9 9) ?_
      refine kv g0 (ldB) ?_
      refine kv g0 (faB 9 9) ?_
      refine kv g0 (ldB) ?_
      refine kv g0 (neq) ?_
      refine wk_end ?_
      refine ac_next ?_
      by_cases c16 : a0_9 = a1_9
      ·rw [if_pos c16] at H
       refine aw_ifF ?_ (eM c16)
       refine aw_skip ?_
       refine ac_next ?_
       refine aw_grp1 ?_
       refine aw_grp1 ?_
       refine wk_start ?_
       refine kv g0 (faB 10 10) ?_
       refine kv g0 (ldB) ?_
       refine kv g0 (faB 10 10) ?_
       refine kv g0 (ldB) ?_
       obtain ⟨t17, A18, H⟩ := of_bind H
       refine kcS0 44 (.lit (.bool t17)) [] g0 (cal (laws_eqIntS.ok A18) [] 9999 .n (hf := Try.func28)) rfl rfl ?_
       refine kv g0 (not_) ?_
       refine wk_end ?_
       refine ac_next ?_
       by_cases c19 : t17 = true
       ·rw [if_pos c19] at H
        refine aw_ifF ?_ (nF c19)
        refine aw_skip ?_
        refine ac_next ?_
        refine aw_grp1 ?_
        refine aw_grp1 ?_
        refine wk_start ?_
        refine kv g0 (faB 11 11) ?_
        refine kv g0 (ldB) ?_
        refine kv g0 (faB 11 11) ?_
        refine kv g0 (ldB) ?_
        obtain ⟨t20, A21, H⟩ := of_bind H
        refine kcS0 50 (.lit (.bool t20)) [] g0 (cal (laws_eqSeenS.ok A21) [] 9999 .n (hf := Try.func14)) rfl rfl ?_
        refine kv g0 (not_) ?_
        refine wk_end ?_
        refine ac_next ?_
        by_cases c22 : t20 = true
        ·rw [if_pos c22] at H
         refine aw_ifF ?_ (nF c22)
         refine aw_skip ?_
         refine ac_next ?_
         refine aw_grp1 ?_
         refine wk_start ?_
         refine kv g0 (asg) ?_
         refine wk_end ?_
         refine ac_next ?_
         refine aw_ret ?_
         obtain rfl := Option.some.inj H
         exact acr hE [.tmp 4] (.tmp .nil) (.one _) [] 9999
        rw [if_neg c22] at H
        refine aw_ifT ?_ (nT (bF c22))
        refine aw_grp1 ?_
        refine wk_start ?_
        refine kv g0 (asg) ?_
        refine wk_end ?_
        refine ac_next ?_
        refine aw_ret ?_
        refine ac_thenR ?_
        obtain rfl := Option.some.inj H
        exact acr hE [.tmp 4] (.tmp .nil) (.one _) [] 9999
       rw [if_neg c19] at H
       refine aw_ifT ?_ (nT (bF c19))
       refine aw_grp1 ?_
       refine wk_start ?_
       refine kv g0 (asg) ?_
       refine wk_end ?_
       refine ac_next ?_
       refine aw_ret ?_
       refine ac_thenR ?_
       obtain rfl := Option.some.inj H
       exact acr hE [.tmp 4] (.tmp .nil) (.one _) [] 9999
      rw [if_neg c16] at H
      refine aw_ifT ?_ (eN c16)
      refine aw_grp1 ?_
      refine wk_start ?_
      refine kv g0 (asg) ?_
      refine wk_end ?_
      refine ac_next ?_
      refine aw_ret ?_
      refine ac_thenR ?_
      obtain rfl := Option.some.inj H
      exact acr hE [.tmp 4] (.tmp .nil) (.one _) [] 9999
     rw [if_neg c15] at H
     refine aw_ifT ?_ (nT (bF c15))
     refine aw_grp1 ?_
     refine wk_start ?_
     refine kv g0 (asg) ?_
     refine wk_end ?_
     refine ac_next ?_
     refine aw_ret ?_
     refine ac_thenR ?_
     obtain rfl := Option.some.inj H
     exact acr hE [.tmp 4] (.tmp .nil) (.one _) [] 9999
    rw [if_neg c12] at H
    refine aw_ifT ?_ (nT (bF c12))
    refine aw_grp1 ?_
    refine wk_start ?_
    refine kv g0 (asg) ?_
    refine wk_end ?_
    refine ac_next ?_
    refine aw_ret ?_
    refine ac_thenR ?_
    obtain rfl := Option.some.inj H
    exact acr hE [.tmp 4] (.tmp .nil) (.one _) [] 9999
   rw [if_neg c9] at H
   refine aw_ifT ?_ (nT (bF c9))
   refine aw_grp1 ?_
   refine wk_start ?_
   refine kv g0 (asg) ?_
   refine wk_end ?_
   refine ac_next ?_
   refine aw_ret ?_
   refine ac_thenR ?_
   obtain rfl := Option.some.inj H
   exact acr hE [.tmp 4] (.tmp .nil) (.one _) [] 9999
  rw [if_neg c6] at H
  refine aw_ifT ?_ (nT (bF c6))
  refine aw_grp1 ?_
  refine wk_start ?_
  refine kv g0 (asg) ?_
  refine wk_end ?_
  refine ac_next ?_
  refine aw_ret ?_
  refine ac_thenR ?_
  obtain rfl := Option.some.inj H
  exact acr hE [.tmp 4] (.tmp .nil) (.one _) [] 9999
 rw [if_neg c3] at H
 refine aw_ifT ?_ (nT (bF c3))
 refine aw_grp1 ?_
 refine wk_start ?_
 refine kv g0 (asg) ?_
 refine wk_end ?_
 refine ac_next ?_
 refine aw_ret ?_
 refine ac_thenR ?_
 obtain rfl := Option.some.inj H
 exact acr hE [.tmp 4] (.tmp .nil) (.one _) [] 9999
end Go.Proofs.Ytkkglhhkpihmgaa.PFnExactWorldNew
