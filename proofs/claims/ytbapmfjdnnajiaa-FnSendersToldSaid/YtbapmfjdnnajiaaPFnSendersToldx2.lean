import Derived.Test.YtbapmfjdnnajiaaPFnSendersToldx1
set_option linter.unusedVariables false
set_option linter.unusedSimpArgs false
set_option maxRecDepth 100000
namespace Go.Proofs.Ytbapmfjdnnajiaa.PFnSendersTold
open Go Go.RowKit Go.Proofs.YtbapmfjdnnajiaaA
/-! spec_l18Sender -/
def spec_l18Sender.l0 : Nat → (List Int) → Int → Int → Int → Int → (List S43) → Int → Int → (List S43) → Int → Int → Int → Int → Option (Int × Int × (List S43) × Int × Int × (List Int) × Int × Int)
 | 0, _, _, _, _, _, _, _, _, _, _, _, _, _ => none
 | k36 + 1, q23, p24, p25, p26, p27, q28, p29, p30, q31, p32, p33, p34, p35 => (spec_l01Below.f q23 p24 p25 8).bind fun t37 => if p35 < t37.1 then (spec_l01Below.f t37.2.1 t37.2.2.1 t37.2.2.2 4).bind fun t40 => if t40.1 = 0 then ((spec_Again.f k36 p26 p27 q28 p29 p30 p35).bind fun t43 => spec_l18Sender.l0 k36 t40.2.1 t40.2.2.1 t40.2.2.2 t43.1 t43.2.1 t43.2.2.1 t43.2.2.2.1 t43.2.2.2.2.1 q31 p32 p33 p34 (wrap64 (p35 + 1))) else if t40.1 = 1 then ((spec_l01Below.f t40.2.1 t40.2.2.1 t40.2.2.2 3).bind fun t46 => ((spec_Acked.f k36 p26 p27 q28 p29 p30 (wrap64 (p27 + t46.1))).bind fun t48 => spec_l18Sender.l0 k36 t46.2.1 t46.2.2.1 t46.2.2.2 t48.1 t48.2.1 t48.2.2.1 t48.2.2.2.1 t48.2.2.2.2 q31 p32 p33 p34 (wrap64 (p35 + 1)))) else ((spec_Taken.f k36 p26 p27 q28 p29 p30 q31 p32 p33 p34 p35).bind fun t50 => spec_l18Sender.l0 k36 t40.2.1 t40.2.2.1 t40.2.2.2 t50.1 t50.2.1 t50.2.2.1 t50.2.2.2.1 t50.2.2.2.2.1 t50.2.2.2.2.2.1 t50.2.2.2.2.2.2.1 t50.2.2.2.2.2.2.2.1 t50.2.2.2.2.2.2.2.2.1 (wrap64 (p35 + 1))) else some (p26, p27, q28, p29, p30, t37.2.1, t37.2.2.1, t37.2.2.2)
def spec_l18Sender.f (k : Nat) (l0_0 : List Int) (a0_1 : Int) (a0_2 : Int) : Option (Int × Int × (List S43) × Int × Int × (List Int) × Int × Int) := (spec_l01Below.f l0_0 a0_1 a0_2 3).bind fun t1 => ((spec_SenderNew.f t1.1).bind fun t3 => (spec_l16Ring.f k t1.2.1 t1.2.2.1 t1.2.2.2).bind fun t5 => spec_l18Sender.l0 k t5.2.2.2.2.1 t5.2.2.2.2.2.1 t5.2.2.2.2.2.2 t3.1 t3.2.1 ([]) t3.2.2.1 t3.2.2.2 t5.1 t5.2.1 t5.2.2.1 t5.2.2.2.1 0)
theorem spec_l18Sender.ok {k : Nat} {l0_0 : List Int} {a0_1 : Int} {a0_2 : Int} {r : Int × Int × (List S43) × Int × Int × (List Int) × Int × Int} (H : spec_l18Sender.f k l0_0 a0_1 a0_2 = some r) : ACalls Try.prog 126 [(0, .box 186 [.sl .u 1 (l0_0.map (eI .u8)), .lit (.int .i64 a0_1), .lit (.int .i64 a0_2)])] [.box 0 0] [(0, .box 186 [.sl .u 1 (r.2.2.2.2.2.1.map (eI .u8)), .lit (.int .i64 r.2.2.2.2.2.2.1), .lit (.int .i64 r.2.2.2.2.2.2.2)]), (1, .row 43 4 (r.2.2.1.map e43))] (.agg [.lit (.int .i64 r.1), .lit (.int .i64 r.2.1), .row 1, .lit (.int .i64 r.2.2.2.1), .lit (.int .i64 r.2.2.2.2.1)]) := by
 refine acalls (fn := Try.f126) (nt := 45) Try.func126 rfl rfl (Nat.le_of_ble_eq_true rfl) fun E hE => ?_
 rw [spec_l18Sender.f] at H
 refine aw_grp1 ?_
 refine wk_start ?_
 refine kb g0 (alc 1 [.int .i64 0, .int .i64 0, .slice none 0 0, .int .i64 0, .int .i64 0] [.lit (.int .i64 0), .lit (.int .i64 0), .lit (.slice none 0 0), .lit (.int .i64 0), .lit (.int .i64 0)]) ?_
 refine wk_end ?_
 refine ac_next ?_
 refine aw_grp1 ?_
 refine wk_start ?_
 refine kv g0 (mv) ?_
 obtain ⟨t1, A2, H⟩ := of_bind H
 refine kcS1 7 (.lit (.int .i64 t1.1)) [(0, .box 186 [.sl .u 1 (t1.2.1.map (eI .u8)), .lit (.int .i64 t1.2.2.1), .lit (.int .i64 t1.2.2.2)])] g0 (cal (spec_l01Below.ok A2) [0] 9999 .u (hf := Try.func97)) rfl rfl ?_
 obtain ⟨t3, A4, H⟩ := of_bind H
 refine kcS0 8 (.agg [.lit (.int .i64 t3.1), .lit (.int .i64 t3.2.1), .lit (.slice none 0 0), .lit (.int .i64 t3.2.2.1), .lit (.int .i64 t3.2.2.2)]) [] g0 (cal (spec_SenderNew.ok A4) [] 9999 .n (hf := Try.func176)) rfl rfl ?_
 refine kb g0 (alc 2 [.int .i64 0, .int .i64 0, .slice none 0 0, .int .i64 0, .int .i64 0] [.lit (.int .i64 0), .lit (.int .i64 0), .lit (.slice none 0 0), .lit (.int .i64 0), .lit (.int .i64 0)]) ?_
 refine ks g0 (stB 5 [.lit (.int .i64 t3.1), .lit (.int .i64 t3.2.1), .lit (.slice none 0 0), .lit (.int .i64 t3.2.2.1), .lit (.int .i64 t3.2.2.2)]) ?_
 refine wk_end ?_
 refine ac_next ?_
 refine aw_grp1 ?_
 refine wk_start ?_
 refine kv g0 (mv) ?_
 obtain ⟨t5, A6, H⟩ := of_bind H
 refine kcS2 10 (.agg [.row 3, .lit (.int .i64 t5.2.1), .lit (.int .i64 t5.2.2.1), .lit (.int .i64 t5.2.2.2.1)]) [(0, .box 186 [.sl .u 1 (t5.2.2.2.2.1.map (eI .u8)), .lit (.int .i64 t5.2.2.2.2.2.1), .lit (.int .i64 t5.2.2.2.2.2.2)]), (3, .row 43 4 (t5.1.map e43))] g0 (cal (spec_l16Ring.ok A6) [0, 3] 9999 .u (hf := Try.func177)) rfl rfl ?_
 refine kb g0 (alc 4 [.slice none 0 0, .int .i64 0, .int .i64 0, .int .i64 0] [.lit (.slice none 0 0), .lit (.int .i64 0), .lit (.int .i64 0), .lit (.int .i64 0)]) ?_
 refine ks g0 (stB 4 [.row 3, .lit (.int .i64 t5.2.1), .lit (.int .i64 t5.2.2.1), .lit (.int .i64 t5.2.2.2.1)]) ?_
 refine wk_end ?_
 refine ac_next ?_
 refine aw_grp1 ?_
 refine aw_grp1 ?_
 refine wk_start ?_
 refine kv g0 (asg) ?_
 refine wk_end ?_
 refine ac_next ?_
 refine aw_block ?_
 refine ac_nilB 2 2 9 43 4 [.lit (.int .i64 t3.1), .lit (.int .i64 t3.2.1), .row 9, .lit (.int .i64 t3.2.2.1), .lit (.int .i64 t3.2.2.2)] ?_
 refine aw_loop13 (fun (k_ : Nat) (q23 : List Int) (p24 : Int) (p25 : Int) (p26 : Int) (p27 : Int) (q28 : List S43) (p29 : Int) (p30 : Int) (q31 : List S43) (p32 : Int) (p33 : Int) (p34 : Int) (p35 : Int) => k_ ≤ k ∧ spec_l18Sender.l0 k_ q23 p24 p25 p26 p27 q28 p29 p30 q31 p32 p33 p34 p35 = some r) (fun (q23 : List Int) (p24 : Int) (p25 : Int) (p26 : Int) (p27 : Int) (q28 : List S43) (p29 : Int) (p30 : Int) (q31 : List S43) (p32 : Int) (p33 : Int) (p34 : Int) (p35 : Int) => ⟨[(0, .box 0 0), (2, .box 1 0), (3, .box 2 0), (4, .box 4 0), (5, .lit (.int .i64 p35))], [(0, .box 186 [.sl .u 1 (q23.map (eI .u8)), .lit (.int .i64 p24), .lit (.int .i64 p25)]), (1, .box 78 [.lit (.int .i64 0), .lit (.int .i64 0), .lit (.slice none 0 0), .lit (.int .i64 0), .lit (.int .i64 0)]), (2, .box 78 [.lit (.int .i64 p26), .lit (.int .i64 p27), .row 9, .lit (.int .i64 p29), .lit (.int .i64 p30)]), (3, .row 43 4 (q31.map e43)), (4, .box 88 [.row 3, .lit (.int .i64 p32), .lit (.int .i64 p33), .lit (.int .i64 p34)]), (9, .row 43 4 (q28.map e43))]⟩) k t5.2.2.2.2.1 t5.2.2.2.2.2.1 t5.2.2.2.2.2.2 t3.1 t3.2.1 ([]) t3.2.2.1 t3.2.2.2 t5.1 t5.2.1 t5.2.2.1 t5.2.2.2.1 0 ⟨Nat.le_refl _, H⟩ (fun K_ h_ => acw hE [(0, 0), (1, 1), (2, 2), (3, 3), (4, 4), (9, 9)] 9999 h_) (fun _ _ _ _ _ _ _ _ _ _ _ _ _ => by intro h_; have h_ := h_.2; rw [spec_l18Sender.l0.eq_1] at h_; cases h_) ?_
 intro k36 q23 p24 p25 p26 p27 q28 p29 p30 q31 p32 p33 p34 p35 hq_ K52 hK53
 have hk36 := hq_.1
 have H := hq_.2
 clear hq_
 rw [spec_l18Sender.l0.eq_2] at H
 refine aw_grp1 ?_
 refine aw_grp1 ?_
 refine wk_start ?_
 refine kv g0 (mv) ?_
 refine kv g0 (mv) ?_
 obtain ⟨t37, A38, H⟩ := of_bind H
 refine kcS1 13 (.lit (.int .i64 t37.1)) [(0, .box 186 [.sl .u 1 (t37.2.1.map (eI .u8)), .lit (.int .i64 t37.2.2.1), .lit (.int .i64 t37.2.2.2)])] g0 (cal (spec_l01Below.ok A38) [0] 9999 .u (hf := Try.func97)) rfl rfl ?_
 refine kv g0 (lss) ?_
 refine wk_end ?_
 refine ac_next ?_
 by_cases c39 : p35 < t37.1
 ·rw [if_pos c39] at H
  refine aw_ifT ?_ (decide_eq_true c39)
  refine aw_skip ?_
  refine ac_next ?_
  refine aw_grp1 ?_
  refine aw_block ?_
  refine aw_grp1 ?_
  refine wk_start ?_
  refine kv g0 (mv) ?_
  obtain ⟨t40, A41, H⟩ := of_bind H
  refine kcS1 18 (.lit (.int .i64 t40.1)) [(0, .box 186 [.sl .u 1 (t40.2.1.map (eI .u8)), .lit (.int .i64 t40.2.2.1), .lit (.int .i64 t40.2.2.2)])] g0 (cal (spec_l01Below.ok A41) [0] 9999 .u (hf := Try.func97)) rfl rfl ?_
  refine wk_end ?_
  refine ac_next ?_
  refine aw_block ?_
  refine aw_grp1 ?_
  refine wk_start ?_
  refine kv g0 (eql) ?_
  refine kv g0 (asg) ?_
  refine wk_end ?_
  refine ac_next ?_
  by_cases c42 : t40.1 = 0
  ·rw [if_pos c42] at H
   refine aw_ifT ?_ (eT c42)
   refine wk_start ?_
   refine kv g0 (ldBA 5 [.lit (.int .i64 p26), .lit (.int .i64 p27), .row 9, .lit (.int .i64 p29), .lit (.int .i64 p30)]) ?_
   refine kv g0 (mv) ?_
   obtain ⟨t43, A44, H⟩ := of_bind H
   refine kcS1 32 (.tup [.agg [.lit (.int .i64 t43.1), .lit (.int .i64 t43.2.1), .row 10, .lit (.int .i64 t43.2.2.2.1), .lit (.int .i64 t43.2.2.2.2.1)], .lit (.bool t43.2.2.2.2.2)]) [(10, .row 43 4 (t43.2.2.1.map e43))] g0 (cal (spec_Again.ok A44) [10] 9999 .n (hf := Try.func51)) rfl rfl ?_
   refine kv g0 (mv) ?_
   refine kv g0 (ext) ?_
   refine kv g0 (ext) ?_
   refine ks g0 (stB 5 [.lit (.int .i64 t43.1), .lit (.int .i64 t43.2.1), .row 10, .lit (.int .i64 t43.2.2.2.1), .lit (.int .i64 t43.2.2.2.2.1)]) ?_
   refine wk_end ?_
   refine ac_blkN ?_
   refine ac_blkN ?_
   refine ac_next ?_
   refine wk_start ?_
   refine kv g0 (mv) ?_
   refine kv g0 (add6) ?_
   refine kv g0 (asg) ?_
   refine wk_end ?_
   refine ac_k ?_
   exact acw hE [(0, 0), (1, 1), (2, 2), (3, 3), (4, 4), (9, 10)] 9999 (hK53 k36 t40.2.1 t40.2.2.1 t40.2.2.2 t43.1 t43.2.1 t43.2.2.1 t43.2.2.2.1 t43.2.2.2.2.1 q31 p32 p33 p34 (wrap64 (p35 + 1)) (Nat.le_refl _) ⟨by omega, H⟩)
  rw [if_neg c42] at H
  refine aw_ifF ?_ (eF c42)
  refine aw_grp1 ?_
  refine wk_start ?_
  refine kv g0 (eql) ?_
  refine kv g0 (asg) ?_
  refine wk_end ?_
  refine ac_next ?_
  by_cases c45 : t40.1 = 1
  ·rw [if_pos c45] at H
   refine aw_ifT ?_ (eT c45)
   refine wk_start ?_
   refine kv g0 (ldBA 5 [.lit (.int .i64 p26), .lit (.int .i64 p27), .row 9, .lit (.int .i64 p29), .lit (.int .i64 p30)]) ?_
   refine kv g0 (faB 1 1) ?_
   refine kv g0 (ldB) ?_
   refine kv g0 (mv) ?_
   obtain ⟨t46, A47, H⟩ := of_bind H
   refine kcS1 41 (.lit (.int .i64 t46.1)) [(0, .box 186 [.sl .u 1 (t46.2.1.map (eI .u8)), .lit (.int .i64 t46.2.2.1), .lit (.int .i64 t46.2.2.2)])] g0 (cal (spec_l01Below.ok A47) [0] 9999 .u (hf := Try.func97)) rfl rfl ?_
   refine kv g0 (add6) ?_
   obtain ⟨t48, A49, H⟩ := of_bind H
   refine kcS1 43 (.agg [.lit (.int .i64 t48.1), .lit (.int .i64 t48.2.1), .row 11, .lit (.int .i64 t48.2.2.2.1), .lit (.int .i64 t48.2.2.2.2)]) [(11, .row 43 4 (t48.2.2.1.map e43))] g0 (cal (spec_Acked.ok A49) [11] 9999 .n (hf := Try.func56)) rfl rfl ?_
   refine ks g0 (stB 5 [.lit (.int .i64 t48.1), .lit (.int .i64 t48.2.1), .row 11, .lit (.int .i64 t48.2.2.2.1), .lit (.int .i64 t48.2.2.2.2)]) ?_
   refine wk_end_draw hM (by kernel_rfl) ?_
   refine ac_blkN ?_
   refine ac_blkN ?_
   refine ac_next ?_
   refine wk_start ?_
   refine kv g0 (mv) ?_
   refine kv g0 (add6) ?_
   refine kv g0 (asg) ?_
   refine wk_end ?_
   refine ac_k ?_
   exact acw hE [(0, 0), (1, 1), (2, 2), (3, 3), (4, 4), (9, 11)] 9999 (hK53 k36 t46.2.1 t46.2.2.1 t46.2.2.2 t48.1 t48.2.1 t48.2.2.1 t48.2.2.2.1 t48.2.2.2.2 q31 p32 p33 p34 (wrap64 (p35 + 1)) (Nat.le_refl _) ⟨by omega, H⟩)
  rw [if_neg c45] at H
  refine aw_ifF ?_ (eF c45)
  refine wk_start ?_
  refine kv g0 (ldBA 5 [.lit (.int .i64 p26), .lit (.int .i64 p27), .row 9, .lit (.int .i64 p29), .lit (.int .i64 p30)]) ?_
  refine kv g0 (ldBA 4 [.row 3, .lit (.int .i64 p32), .lit (.int .i64 p33), .lit (.int .i64 p34)]) ?_
  refine kv g0 (mv) ?_
  obtain ⟨t50, A51, H⟩ := of_bind H
  refine kcS2 23 (.tup [.agg [.lit (.int .i64 t50.1), .lit (.int .i64 t50.2.1), .row 12, .lit (.int .i64 t50.2.2.2.1), .lit (.int .i64 t50.2.2.2.2.1)], .agg [.row 13, .lit (.int .i64 t50.2.2.2.2.2.2.1), .lit (.int .i64 t50.2.2.2.2.2.2.2.1), .lit (.int .i64 t50.2.2.2.2.2.2.2.2.1)], .lit (.bool t50.2.2.2.2.2.2.2.2.2)]) [(12, .row 43 4 (t50.2.2.1.map e43)), (13, .row 43 4 (t50.2.2.2.2.2.1.map e43))] g0 (cal (spec_Taken.ok A51) [12, 13] 9999 .n (hf := Try.func49)) rfl rfl ?_
  refine kv g0 (mv) ?_
  refine kv g0 (ext) ?_
  refine kv g0 (ext) ?_
  refine kv g0 (ext) ?_
  refine ks g0 (stB 5 [.lit (.int .i64 t50.1), .lit (.int .i64 t50.2.1), .row 12, .lit (.int .i64 t50.2.2.2.1), .lit (.int .i64 t50.2.2.2.2.1)]) ?_
  refine ks g0 (stB 4 [.row 13, .lit (.int .i64 t50.2.2.2.2.2.2.1), .lit (.int .i64 t50.2.2.2.2.2.2.2.1), .lit (.int .i64 t50.2.2.2.2.2.2.2.2.1)]) ?_
  refine wk_end ?_
  refine ac_blkN ?_
  refine ac_blkN ?_
  refine ac_next ?_
  refine wk_start ?_
  refine kv g0 (mv) ?_
  refine kv g0 (add6) ?_
  refine kv g0 (asg) ?_
  refine wk_end ?_
  refine ac_k ?_
  exact acw hE [(0, 0), (1, 1), (2, 2), (3, 13), (4, 4), (9, 12)] 9999 (hK53 k36 t40.2.1 t40.2.2.1 t40.2.2.2 t50.1 t50.2.1 t50.2.2.1 t50.2.2.2.1 t50.2.2.2.2.1 t50.2.2.2.2.2.1 t50.2.2.2.2.2.2.1 t50.2.2.2.2.2.2.2.1 t50.2.2.2.2.2.2.2.2.1 (wrap64 (p35 + 1)) (Nat.le_refl _) ⟨by omega, H⟩)
 rw [if_neg c39] at H
 refine aw_ifF ?_ (decide_eq_false c39)
 refine aw_exit ?_
 refine ac_then ?_
 refine ac_then ?_
 refine ac_hit rfl ?_
 refine ac_next ?_
 refine aw_grp1 ?_
 refine wk_start ?_
 refine kv g0 (ldBA 5 [.lit (.int .i64 p26), .lit (.int .i64 p27), .row 9, .lit (.int .i64 p29), .lit (.int .i64 p30)]) ?_
 refine ks g0 (stB 5 [.lit (.int .i64 p26), .lit (.int .i64 p27), .row 9, .lit (.int .i64 p29), .lit (.int .i64 p30)]) ?_
 refine wk_end ?_
 refine ac_next ?_
 refine aw_ret ?_
 obtain rfl := Option.some.inj H
 exact acr hE [.cell 2 78] (rcA 5 .nil) (.one _) [(0, 0), (1, 9)] 9999
/-! spec_l18Any -/
def spec_l18Any.j0 : Nat → (Int × Int × (List S43) × Int × Int × (List Int) × Int × Int) → (Int × Int × (List S43) × Int × Int) → Int → (List S43) → Int → Int → Option (Int × Int × (List S43) × Int × Int × (List Int) × Int × Int)
 | 0, _, _, _, _, _, _ => none
 | k22 + 1, t5, t7, p18, q19, p20, p21 => some (t7.1, p18, q19, p20, p21, t5.2.2.2.2.2.1, t5.2.2.2.2.2.2.1, t5.2.2.2.2.2.2.2)
def spec_l18Any.f (k : Nat) (l0_0 : List Int) (a0_1 : Int) (a0_2 : Int) : Option (Int × Int × (List S43) × Int × Int × (List Int) × Int × Int) := (spec_l01Below.f l0_0 a0_1 a0_2 12).bind fun t1 => (spec_l01Below.f t1.2.1 t1.2.2.1 t1.2.2.2 60).bind fun t3 => (spec_l18Sender.f k t3.2.1 t3.2.2.1 t3.2.2.2).bind fun t5 => ((spec_l18Copy.f t5.1 t5.2.1 t5.2.2.1 t5.2.2.2.1 t5.2.2.2.2.1).bind fun t7 => if t1.1 = 0 then spec_l18Any.j0 k t5 t7 t7.2.1 t7.2.2.1 t7.2.2.2.1 (t3.1.tmod 6) else if t1.1 = 1 then (if t7.2.2.1.length + ([(⟨t3.1.tmod 4, 0, 0, 0⟩ : S43)] : List S43).length < 4398046511104 then spec_l18Any.j0 k t5 t7 t7.2.1 (t7.2.2.1 ++ ([(⟨t3.1.tmod 4, 0, 0, 0⟩ : S43)] : List S43)) t7.2.2.2.1 t7.2.2.2.2 else none) else if t1.1 = 2 then (if 0 ≤ (t3.1.tmod 3) then (if (t3.1.tmod 3) < (([0, 1000000000, (-1)] : List Int).length : Int) then spec_l18Any.j0 k t5 t7 (rd ([0, 1000000000, (-1)] : List Int) (t3.1.tmod 3)) t7.2.2.1 t7.2.2.2.1 t7.2.2.2.2 else none) else none) else if t1.1 = 3 then (if 0 ≤ (t3.1.tmod 3) then (if (t3.1.tmod 3) < (([(-1), 7, 1000000001] : List Int).length : Int) then spec_l18Any.j0 k t5 t7 t7.2.1 t7.2.2.1 (rd ([(-1), 7, 1000000001] : List Int) (t3.1.tmod 3)) t7.2.2.2.2 else none) else none) else spec_l18Any.j0 k t5 t7 t7.2.1 t7.2.2.1 t7.2.2.2.1 t7.2.2.2.2)
theorem spec_l18Any.ok {k : Nat} {l0_0 : List Int} {a0_1 : Int} {a0_2 : Int} {r : Int × Int × (List S43) × Int × Int × (List Int) × Int × Int} (H : spec_l18Any.f k l0_0 a0_1 a0_2 = some r) : ACalls Try.prog 130 [(0, .box 186 [.sl .u 1 (l0_0.map (eI .u8)), .lit (.int .i64 a0_1), .lit (.int .i64 a0_2)])] [.box 0 0] [(0, .box 186 [.sl .u 1 (r.2.2.2.2.2.1.map (eI .u8)), .lit (.int .i64 r.2.2.2.2.2.2.1), .lit (.int .i64 r.2.2.2.2.2.2.2)]), (1, .row 43 4 (r.2.2.1.map e43))] (.agg [.lit (.int .i64 r.1), .lit (.int .i64 r.2.1), .row 1, .lit (.int .i64 r.2.2.2.1), .lit (.int .i64 r.2.2.2.2.1)]) := by
 refine acalls (fn := Try.f130) (nt := 46) Try.func130 rfl rfl (Nat.le_of_ble_eq_true rfl) fun E hE => ?_
 rw [spec_l18Any.f] at H
 refine aw_grp1 ?_
 refine wk_start ?_
 refine kb g0 (alc 1 [.int .i64 0, .int .i64 0, .slice none 0 0, .int .i64 0, .int .i64 0] [.lit (.int .i64 0), .lit (.int .i64 0), .lit (.slice none 0 0), .lit (.int .i64 0), .lit (.int .i64 0)]) ?_
 refine wk_end ?_
 refine ac_next ?_
 refine aw_grp1 ?_
 refine wk_start ?_
 refine kv g0 (mv) ?_
 obtain ⟨t1, A2, H⟩ := of_bind H
 refine kcS1 7 (.lit (.int .i64 t1.1)) [(0, .box 186 [.sl .u 1 (t1.2.1.map (eI .u8)), .lit (.int .i64 t1.2.2.1), .lit (.int .i64 t1.2.2.2)])] g0 (cal (spec_l01Below.ok A2) [0] 9999 .u (hf := Try.func97)) rfl rfl ?_
 refine kv g0 (asg) ?_
 refine wk_end ?_
 refine ac_next ?_
 refine aw_grp1 ?_
 refine wk_start ?_
 refine kv g0 (mv) ?_
 obtain ⟨t3, A4, H⟩ := of_bind H
 refine kcS1 9 (.lit (.int .i64 t3.1)) [(0, .box 186 [.sl .u 1 (t3.2.1.map (eI .u8)), .lit (.int .i64 t3.2.2.1), .lit (.int .i64 t3.2.2.2)])] g0 (cal (spec_l01Below.ok A4) [0] 9999 .u (hf := Try.func97)) rfl rfl ?_
 refine kv g0 (asg) ?_
 refine wk_end ?_
 refine ac_next ?_
 refine aw_grp1 ?_
 refine wk_start ?_
 refine kv g0 (mv) ?_
 obtain ⟨t5, A6, H⟩ := of_bind H
 refine kcS2 11 (.agg [.lit (.int .i64 t5.1), .lit (.int .i64 t5.2.1), .row 2, .lit (.int .i64 t5.2.2.2.1), .lit (.int .i64 t5.2.2.2.2.1)]) [(0, .box 186 [.sl .u 1 (t5.2.2.2.2.2.1.map (eI .u8)), .lit (.int .i64 t5.2.2.2.2.2.2.1), .lit (.int .i64 t5.2.2.2.2.2.2.2)]), (2, .row 43 4 (t5.2.2.1.map e43))] g0 (cal (spec_l18Sender.ok A6) [0, 2] 9999 .u (hf := Try.func126)) rfl rfl ?_
 obtain ⟨t7, A8, H⟩ := of_bind H
 refine kcS1 12 (.agg [.lit (.int .i64 t7.1), .lit (.int .i64 t7.2.1), .row 3, .lit (.int .i64 t7.2.2.2.1), .lit (.int .i64 t7.2.2.2.2)]) [(3, .row 43 4 (t7.2.2.1.map e43))] g0 (cal (spec_l18Copy.ok A8) [3] 9999 .n (hf := Try.func135)) rfl rfl ?_
 refine kb g0 (alc 4 [.int .i64 0, .int .i64 0, .slice none 0 0, .int .i64 0, .int .i64 0] [.lit (.int .i64 0), .lit (.int .i64 0), .lit (.slice none 0 0), .lit (.int .i64 0), .lit (.int .i64 0)]) ?_
 refine ks g0 (stB 5 [.lit (.int .i64 t7.1), .lit (.int .i64 t7.2.1), .row 3, .lit (.int .i64 t7.2.2.2.1), .lit (.int .i64 t7.2.2.2.2)]) ?_
 refine wk_end ?_
 refine ac_next ?_
 refine aw_cut1 (J := fun K_ => ∀ (k_ : Nat) (p18 : Int) (q19 : List S43) (p20 : Int) (p21 : Int), k_ ≤ k → spec_l18Any.j0 k_ t5 t7 p18 q19 p20 p21 = some r → ACont E 46 ⟨[(2, .box 1 0), (5, .box 4 0)], [(0, .box 186 [.sl .u 1 (t5.2.2.2.2.2.1.map (eI .u8)), .lit (.int .i64 t5.2.2.2.2.2.2.1), .lit (.int .i64 t5.2.2.2.2.2.2.2)]), (1, .box 78 [.lit (.int .i64 0), .lit (.int .i64 0), .lit (.slice none 0 0), .lit (.int .i64 0), .lit (.int .i64 0)]), (3, .row 43 4 (q19.map e43)), (4, .box 78 [.lit (.int .i64 t7.1), .lit (.int .i64 p18), .row 3, .lit (.int .i64 p20), .lit (.int .i64 p21)])]⟩ K_) ?_ ?_
 ·intro K_ hJ23
  refine aw_grp1 ?_
  refine wk_start ?_
  refine kv g0 (mv) ?_
  refine wk_end ?_
  refine ac_next ?_
  refine aw_block ?_
  refine aw_grp1 ?_
  refine wk_start ?_
  refine kv g0 (eql) ?_
  refine kv g0 (asg) ?_
  refine wk_end ?_
  refine ac_next ?_
  by_cases c9 : t1.1 = 0
  ·rw [if_pos c9] at H
   refine aw_ifT ?_ (eT c9)
   refine wk_start ?_
   refine kv g0 (mv) ?_
   refine kv g0 (rem (by decide : (6 : Int) ≠ 0)) ?_
   refine kv g0 (faB 4 4) ?_
   refine ks g0 (stB 1 [.lit (.int .i64 t7.1), .lit (.int .i64 t7.2.1), .row 3, .lit (.int .i64 t7.2.2.2.1), .lit (.int .i64 (t3.1.tmod 6))]) ?_
   refine wk_end ?_
   refine ac_blkN ?_
   refine ac_k ?_
   exact acw hE [(0, 0), (1, 1), (3, 3), (4, 4)] 9999 (hJ23 k t7.2.1 t7.2.2.1 t7.2.2.2.1 (t3.1.tmod 6) (Nat.le_refl _) H)
  rw [if_neg c9] at H
  refine aw_ifF ?_ (eF c9)
  refine aw_grp1 ?_
  refine wk_start ?_
  refine kv g0 (eql) ?_
  refine kv g0 (asg) ?_
  refine wk_end ?_
  refine ac_next ?_
  by_cases c10 : t1.1 = 1
  ·rw [if_pos c10] at H
   refine aw_ifT ?_ (eT c10)
   refine wk_start ?_
   refine kv g0 (faB 2 2) ?_
   refine kv g0 (ldB) ?_
   refine kv g0 (mv) ?_
   refine kv g0 (rem (by decide : (4 : Int) ≠ 0)) ?_
   refine kv g0 (bld [(0, 1), (1, 1), (2, 1), (3, 1)] [.int .i64 0, .int .i64 0, .int .i64 0, .int .i64 0] [.lit (.int .i64 (t3.1.tmod 4)), .lit (.int .i64 0), .lit (.int .i64 0), .lit (.int .i64 0)]) ?_
   refine kb g0 (bsl 5 43 4 [.int .i64 0, .int .i64 0, .int .i64 0, .int .i64 0] (([(⟨t3.1.tmod 4, 0, 0, 0⟩ : S43)] : List S43).map e43)) ?_
   obtain ⟨c11, H⟩ := of_if H
   refine kc g0 (apR 6 43 4 32 [.int .i64 0, .int .i64 0, .int .i64 0, .int .i64 0] ((t7.2.2.1 ++ ([(⟨t3.1.tmod 4, 0, 0, 0⟩ : S43)] : List S43)).map e43) (.row rfl) (apb c11 rfl) appE) ?_
   refine kv g0 (faB 2 2) ?_
   refine ks g0 (stB 1 [.lit (.int .i64 t7.1), .lit (.int .i64 t7.2.1), .row 6, .lit (.int .i64 t7.2.2.2.1), .lit (.int .i64 t7.2.2.2.2)]) ?_
   refine wk_end ?_
   refine ac_blkN ?_
   refine ac_k ?_
   exact acw hE [(0, 0), (1, 1), (3, 6), (4, 4)] 9999 (hJ23 k t7.2.1 (t7.2.2.1 ++ ([(⟨t3.1.tmod 4, 0, 0, 0⟩ : S43)] : List S43)) t7.2.2.2.1 t7.2.2.2.2 (Nat.le_refl _) H)
  rw [if_neg c10] at H
  refine aw_ifF ?_ (eF c10)
  refine aw_grp1 ?_
  refine wk_start ?_
  refine kv g0 (eql) ?_
  refine kv g0 (asg) ?_
  refine wk_end ?_
  refine ac_next ?_
  by_cases c12 : t1.1 = 2
  ·rw [if_pos c12] at H
   refine aw_ifT ?_ (eT c12)
   refine wk_start ?_
   refine kb g0 (bsl 7 3 1 [.int .i64 0] (([0, 1000000000, (-1)] : List Int).map (eI .i64))) ?_
   refine kv g0 (mv) ?_
   refine kv g0 (rem (by decide : (3 : Int) ≠ 0)) ?_
   obtain ⟨c13, H⟩ := of_if H
   obtain ⟨c14, H⟩ := of_if H
   refine kv g0 (ixR 3 c13 (ltE c14)) ?_
   refine kv g0 (ldE (eI .i64 (rd ([0, 1000000000, (-1)] : List Int) (t3.1.tmod 3))) (.lit (.int .i64 (rd ([0, 1000000000, (-1)] : List Int) (t3.1.tmod 3)))) (getE (z := (0 : Int)) c13 c14)) ?_
   refine kv g0 (faB 1 1) ?_
   refine ks g0 (stB 1 [.lit (.int .i64 t7.1), .lit (.int .i64 (rd ([0, 1000000000, (-1)] : List Int) (t3.1.tmod 3))), .row 3, .lit (.int .i64 t7.2.2.2.1), .lit (.int .i64 t7.2.2.2.2)]) ?_
   refine wk_end ?_
   refine ac_blkN ?_
   refine ac_k ?_
   exact acw hE [(0, 0), (1, 1), (3, 3), (4, 4)] 9999 (hJ23 k (rd ([0, 1000000000, (-1)] : List Int) (t3.1.tmod 3)) t7.2.2.1 t7.2.2.2.1 t7.2.2.2.2 (Nat.le_refl _) H)
  rw [if_neg c12] at H
  refine aw_ifF ?_ (eF c12)
  refine aw_grp1 ?_
  refine wk_start ?_
  refine kv g0 (eql) ?_
  refine kv g0 (asg) ?_
  refine wk_end ?_
  refine ac_next ?_
  by_cases c15 : t1.1 = 3
  ·rw [if_pos c15] at H
   refine aw_ifT ?_ (eT c15)
   refine wk_start ?_
   refine kb g0 (bsl 8 3 1 [.int .i64 0] (([(-1), 7, 1000000001] : List Int).map (eI .i64))) ?_
   refine kv g0 (mv) ?_
   refine kv g0 (rem (by decide : (3 : Int) ≠ 0)) ?_
   obtain ⟨c16, H⟩ := of_if H
   obtain ⟨c17, H⟩ := of_if H
   refine kv g0 (ixR 3 c16 (ltE c17)) ?_
   refine kv g0 (ldE (eI .i64 (rd ([(-1), 7, 1000000001] : List Int) (t3.1.tmod 3))) (.lit (.int .i64 (rd ([(-1), 7, 1000000001] : List Int) (t3.1.tmod 3)))) (getE (z := (0 : Int)) c16 c17)) ?_
   refine kv g0 (faB 3 3) ?_
   refine ks g0 (stB 1 [.lit (.int .i64 t7.1), .lit (.int .i64 t7.2.1), .row 3, .lit (.int .i64 (rd ([(-1), 7, 1000000001] : List Int) (t3.1.tmod 3))), .lit (.int .i64 t7.2.2.2.2)]) ?_
   refine wk_end ?_
   refine ac_blkN ?_
   refine ac_k ?_
   exact acw hE [(0, 0), (1, 1), (3, 3), (4, 4)] 9999 (hJ23 k t7.2.1 t7.2.2.1 (rd ([(-1), 7, 1000000001] : List Int) (t3.1.tmod 3)) t7.2.2.2.2 (Nat.le_refl _) H)
  rw [if_neg c15] at H
  refine aw_ifF ?_ (eF c15)
  refine aw_skip ?_
  refine ac_blkN ?_
  refine ac_k ?_
  exact acw hE [(0, 0), (1, 1), (3, 3), (4, 4)] 9999 (hJ23 k t7.2.1 t7.2.2.1 t7.2.2.2.1 t7.2.2.2.2 (Nat.le_refl _) H)
 intro k_ p18 q19 p20 p21 hk_ H
 rcases k_ with _ | k22
 ·rw [spec_l18Any.j0.eq_1] at H; cases H
 have hk22 : k22 ≤ k := by omega
 clear hk_
 rw [spec_l18Any.j0.eq_2] at H
 refine aw_grp1 ?_
 refine wk_start ?_
 refine kv g0 (ldBA 5 [.lit (.int .i64 t7.1), .lit (.int .i64 p18), .row 3, .lit (.int .i64 p20), .lit (.int .i64 p21)]) ?_
 refine ks g0 (stB 5 [.lit (.int .i64 t7.1), .lit (.int .i64 p18), .row 3, .lit (.int .i64 p20), .lit (.int .i64 p21)]) ?_
 refine wk_end ?_
 refine ac_next ?_
 refine aw_ret ?_
 obtain rfl := Option.some.inj H
 exact acr hE [.cell 2 78] (rcA 5 .nil) (.one _) [(0, 0), (1, 3)] 9999
/-! spec_l16Any -/
def spec_l16Any.j0 : Nat → ((List S43) × Int × Int × Int × (List Int) × Int × Int) → (List S43) → Int → Int → Int → Option ((List S43) × Int × Int × Int × (List Int) × Int × Int)
 | 0, _, _, _, _, _ => none
 | k24 + 1, t5, q20, p21, p22, p23 => some (q20, p21, p22, p23, t5.2.2.2.2.1, t5.2.2.2.2.2.1, t5.2.2.2.2.2.2)
def spec_l16Any.f (k : Nat) (l0_0 : List Int) (a0_1 : Int) (a0_2 : Int) : Option ((List S43) × Int × Int × Int × (List Int) × Int × Int) := (spec_l01Below.f l0_0 a0_1 a0_2 12).bind fun t1 => (spec_l01Below.f t1.2.1 t1.2.2.1 t1.2.2.2 60).bind fun t3 => (spec_l16Ring.f k t3.2.1 t3.2.2.1 t3.2.2.2).bind fun t5 => ((spec_l16Copy.f t5.1 t5.2.1 t5.2.2.1 t5.2.2.2.1).bind fun t7 => if t1.1 = 0 then (if 0 ≤ (t3.1.tmod 3) then (if (t3.1.tmod 3) < (([(-1), 5, 6] : List Int).length : Int) then spec_l16Any.j0 k t5 t7.1 (rd ([(-1), 5, 6] : List Int) (t3.1.tmod 3)) t7.2.2.1 t7.2.2.2 else none) else none) else if t1.1 = 1 then (if 0 ≤ (t3.1.tmod 3) then (if (t3.1.tmod 3) < (([(-1), 3, 1000000001] : List Int).length : Int) then spec_l16Any.j0 k t5 t7.1 t7.2.1 (rd ([(-1), 3, 1000000001] : List Int) (t3.1.tmod 3)) t7.2.2.2 else none) else none) else if t1.1 = 2 then (if 0 ≤ (t3.1.tmod 3) then (if (t3.1.tmod 3) < (([0, 1000000000, (-1)] : List Int).length : Int) then spec_l16Any.j0 k t5 t7.1 t7.2.1 t7.2.2.1 (rd ([0, 1000000000, (-1)] : List Int) (t3.1.tmod 3)) else none) else none) else if t1.1 = 3 then (if t7.1.length + ([(⟨t3.1.tmod 4, 0, 0, t3.1.tmod 3⟩ : S43)] : List S43).length < 4398046511104 then spec_l16Any.j0 k t5 (t7.1 ++ ([(⟨t3.1.tmod 4, 0, 0, t3.1.tmod 3⟩ : S43)] : List S43)) t7.2.1 t7.2.2.1 t7.2.2.2 else none) else spec_l16Any.j0 k t5 t7.1 t7.2.1 t7.2.2.1 t7.2.2.2)
theorem spec_l16Any.ok {k : Nat} {l0_0 : List Int} {a0_1 : Int} {a0_2 : Int} {r : (List S43) × Int × Int × Int × (List Int) × Int × Int} (H : spec_l16Any.f k l0_0 a0_1 a0_2 = some r) : ACalls Try.prog 131 [(0, .box 186 [.sl .u 1 (l0_0.map (eI .u8)), .lit (.int .i64 a0_1), .lit (.int .i64 a0_2)])] [.box 0 0] [(0, .box 186 [.sl .u 1 (r.2.2.2.2.1.map (eI .u8)), .lit (.int .i64 r.2.2.2.2.2.1), .lit (.int .i64 r.2.2.2.2.2.2)]), (1, .row 43 4 (r.1.map e43))] (.agg [.row 1, .lit (.int .i64 r.2.1), .lit (.int .i64 r.2.2.1), .lit (.int .i64 r.2.2.2.1)]) := by
 refine acalls (fn := Try.f131) (nt := 51) Try.func131 rfl rfl (Nat.le_of_ble_eq_true rfl) fun E hE => ?_
 rw [spec_l16Any.f] at H
 refine aw_grp1 ?_
 refine wk_start ?_
 refine kb g0 (alc 1 [.slice none 0 0, .int .i64 0, .int .i64 0, .int .i64 0] [.lit (.slice none 0 0), .lit (.int .i64 0), .lit (.int .i64 0), .lit (.int .i64 0)]) ?_
 refine wk_end ?_
 refine ac_next ?_
 refine aw_grp1 ?_
 refine wk_start ?_
 refine kv g0 (mv) ?_
 obtain ⟨t1, A2, H⟩ := of_bind H
 refine kcS1 7 (.lit (.int .i64 t1.1)) [(0, .box 186 [.sl .u 1 (t1.2.1.map (eI .u8)), .lit (.int .i64 t1.2.2.1), .lit (.int .i64 t1.2.2.2)])] g0 (cal (spec_l01Below.ok A2) [0] 9999 .u (hf := Try.func97)) rfl rfl ?_
 refine kv g0 (asg) ?_
 refine wk_end ?_
 refine ac_next ?_
 refine aw_grp1 ?_
 refine wk_start ?_
 refine kv g0 (mv) ?_
 obtain ⟨t3, A4, H⟩ := of_bind H
 refine kcS1 9 (.lit (.int .i64 t3.1)) [(0, .box 186 [.sl .u 1 (t3.2.1.map (eI .u8)), .lit (.int .i64 t3.2.2.1), .lit (.int .i64 t3.2.2.2)])] g0 (cal (spec_l01Below.ok A4) [0] 9999 .u (hf := Try.func97)) rfl rfl ?_
 refine kv g0 (asg) ?_
 refine wk_end ?_
 refine ac_next ?_
 refine aw_grp1 ?_
 refine wk_start ?_
 refine kv g0 (mv) ?_
 obtain ⟨t5, A6, H⟩ := of_bind H
 refine kcS2 11 (.agg [.row 2, .lit (.int .i64 t5.2.1), .lit (.int .i64 t5.2.2.1), .lit (.int .i64 t5.2.2.2.1)]) [(0, .box 186 [.sl .u 1 (t5.2.2.2.2.1.map (eI .u8)), .lit (.int .i64 t5.2.2.2.2.2.1), .lit (.int .i64 t5.2.2.2.2.2.2)]), (2, .row 43 4 (t5.1.map e43))] g0 (cal (spec_l16Ring.ok A6) [0, 2] 9999 .u (hf := Try.func177)) rfl rfl ?_
 obtain ⟨t7, A8, H⟩ := of_bind H
 refine kcS1 12 (.agg [.row 3, .lit (.int .i64 t7.2.1), .lit (.int .i64 t7.2.2.1), .lit (.int .i64 t7.2.2.2)]) [(3, .row 43 4 (t7.1.map e43))] g0 (cal (spec_l16Copy.ok A8) [3] 9999 .n (hf := Try.func138)) rfl rfl ?_
 refine kb g0 (alc 4 [.slice none 0 0, .int .i64 0, .int .i64 0, .int .i64 0] [.lit (.slice none 0 0), .lit (.int .i64 0), .lit (.int .i64 0), .lit (.int .i64 0)]) ?_
 refine ks g0 (stB 4 [.row 3, .lit (.int .i64 t7.2.1), .lit (.int .i64 t7.2.2.1), .lit (.int .i64 t7.2.2.2)]) ?_
 refine wk_end ?_
 refine ac_next ?_
 refine aw_cut1 (J := fun K_ => ∀ (k_ : Nat) (q20 : List S43) (p21 : Int) (p22 : Int) (p23 : Int), k_ ≤ k → spec_l16Any.j0 k_ t5 q20 p21 p22 p23 = some r → ACont E 51 ⟨[(2, .box 1 0), (5, .box 4 0)], [(0, .box 186 [.sl .u 1 (t5.2.2.2.2.1.map (eI .u8)), .lit (.int .i64 t5.2.2.2.2.2.1), .lit (.int .i64 t5.2.2.2.2.2.2)]), (1, .box 88 [.lit (.slice none 0 0), .lit (.int .i64 0), .lit (.int .i64 0), .lit (.int .i64 0)]), (3, .row 43 4 (q20.map e43)), (4, .box 88 [.row 3, .lit (.int .i64 p21), .lit (.int .i64 p22), .lit (.int .i64 p23)])]⟩ K_) ?_ ?_
 ·intro K_ hJ25
  refine aw_grp1 ?_
  refine wk_start ?_
  refine kv g0 (mv) ?_
  refine wk_end ?_
  refine ac_next ?_
  refine aw_block ?_
  refine aw_grp1 ?_
  refine wk_start ?_
  refine kv g0 (eql) ?_
  refine kv g0 (asg) ?_
  refine wk_end ?_
  refine ac_next ?_
  by_cases c9 : t1.1 = 0
  ·rw [if_pos c9] at H
   refine aw_ifT ?_ (eT c9)
   refine wk_start ?_
   refine kb g0 (bsl 5 3 1 [.int .i64 0] (([(-1), 5, 6] : List Int).map (eI .i64))) ?_
   refine kv g0 (mv) ?_
   refine kv g0 (rem (by decide : (3 : Int) ≠ 0)) ?_
   obtain ⟨c10, H⟩ := of_if H
   obtain ⟨c11, H⟩ := of_if H
   refine kv g0 (ixR 3 c10 (ltE c11)) ?_
   refine kv g0 (ldE (eI .i64 (rd ([(-1), 5, 6] : List Int) (t3.1.tmod 3))) (.lit (.int .i64 (rd ([(-1), 5, 6] : List Int) (t3.1.tmod 3)))) (getE (z := (0 : Int)) c10 c11)) ?_
   refine kv g0 (faB 1 1) ?_
   refine ks g0 (stB 1 [.row 3, .lit (.int .i64 (rd ([(-1), 5, 6] : List Int) (t3.1.tmod 3))), .lit (.int .i64 t7.2.2.1), .lit (.int .i64 t7.2.2.2)]) ?_
   refine wk_end ?_
   refine ac_blkN ?_
   refine ac_k ?_
   exact acw hE [(0, 0), (1, 1), (3, 3), (4, 4)] 9999 (hJ25 k t7.1 (rd ([(-1), 5, 6] : List Int) (t3.1.tmod 3)) t7.2.2.1 t7.2.2.2 (Nat.le_refl _) H)
  rw [if_neg c9] at H
  refine aw_ifF ?_ (eF c9)
  refine aw_grp1 ?_
  refine wk_start ?_
  refine kv g0 (eql) ?_
  refine kv g0 (asg) ?_
  refine wk_end ?_
  refine ac_next ?_
  by_cases c12 : t1.1 = 1
  ·rw [if_pos c12] at H
   refine aw_ifT ?_ (eT c12)
   refine wk_start ?_
   refine kb g0 (bsl 6 3 1 [.int .i64 0] (([(-1), 3, 1000000001] : List Int).map (eI .i64))) ?_
   refine kv g0 (mv) ?_
   refine kv g0 (rem (by decide : (3 : Int) ≠ 0)) ?_
   obtain ⟨c13, H⟩ := of_if H
   obtain ⟨c14, H⟩ := of_if H
   refine kv g0 (ixR 3 c13 (ltE c14)) ?_
   refine kv g0 (ldE (eI .i64 (rd ([(-1), 3, 1000000001] : List Int) (t3.1.tmod 3))) (.lit (.int .i64 (rd ([(-1), 3, 1000000001] : List Int) (t3.1.tmod 3)))) (getE (z := (0 : Int)) c13 c14)) ?_
   refine kv g0 (faB 2 2) ?_
   refine ks g0 (stB 1 [.row 3, .lit (.int .i64 t7.2.1), .lit (.int .i64 (rd ([(-1), 3, 1000000001] : List Int) (t3.1.tmod 3))), .lit (.int .i64 t7.2.2.2)]) ?_
   refine wk_end ?_
   refine ac_blkN ?_
   refine ac_k ?_
   exact acw hE [(0, 0), (1, 1), (3, 3), (4, 4)] 9999 (hJ25 k t7.1 t7.2.1 (rd ([(-1), 3, 1000000001] : List Int) (t3.1.tmod 3)) t7.2.2.2 (Nat.le_refl _) H)
  rw [if_neg c12] at H
  refine aw_ifF ?_ (eF c12)
  refine aw_grp1 ?_
  refine wk_start ?_
  refine kv g0 (eql) ?_
  refine kv g0 (asg) ?_
  refine wk_end ?_
  refine ac_next ?_
  by_cases c15 : t1.1 = 2
  ·rw [if_pos c15] at H
   refine aw_ifT ?_ (eT c15)
   refine wk_start ?_
   refine kb g0 (bsl 7 3 1 [.int .i64 0] (([0, 1000000000, (-1)] : List Int).map (eI .i64))) ?_
   refine kv g0 (mv) ?_
   refine kv g0 (rem (by decide : (3 : Int) ≠ 0)) ?_
   obtain ⟨c16, H⟩ := of_if H
   obtain ⟨c17, H⟩ := of_if H
   refine kv g0 (ixR 3 c16 (ltE c17)) ?_
   refine kv g0 (ldE (eI .i64 (rd ([0, 1000000000, (-1)] : List Int) (t3.1.tmod 3))) (.lit (.int .i64 (rd ([0, 1000000000, (-1)] : List Int) (t3.1.tmod 3)))) (getE (z := (0 : Int)) c16 c17)) ?_
   refine kv g0 (faB 3 3) ?_
   refine ks g0 (stB 1 [.row 3, .lit (.int .i64 t7.2.1), .lit (.int .i64 t7.2.2.1), .lit (.int .i64 (rd ([0, 1000000000, (-1)] : List Int) (t3.1.tmod 3)))]) ?_
   refine wk_end ?_
   refine ac_blkN ?_
   refine ac_k ?_
   exact acw hE [(0, 0), (1, 1), (3, 3), (4, 4)] 9999 (hJ25 k t7.1 t7.2.1 t7.2.2.1 (rd ([0, 1000000000, (-1)] : List Int) (t3.1.tmod 3)) (Nat.le_refl _) H)
  rw [if_neg c15] at H
  refine aw_ifF ?_ (eF c15)
  refine aw_grp1 ?_
  refine wk_start ?_
  refine kv g0 (eql) ?_
  refine kv g0 (asg) ?_
  refine wk_end ?_
  refine ac_next ?_
  by_cases c18 : t1.1 = 3
  ·rw [if_pos c18] at H
   refine aw_ifT ?_ (eT c18)
   refine wk_start ?_
   refine kv g0 (faB 0 0) ?_
   refine kv g0 (ldB) ?_
   refine kv g0 (mv) ?_
   refine kv g0 (rem (by decide : (4 : Int) ≠ 0)) ?_
   refine kv g0 (mv) ?_
   refine kv g0 (rem (by decide : (3 : Int) ≠ 0)) ?_
   refine kv g0 (bld [(0, 1), (1, 1), (2, 1), (3, 1)] [.int .i64 0, .int .i64 0, .int .i64 0, .int .i64 0] [.lit (.int .i64 (t3.1.tmod 4)), .lit (.int .i64 0), .lit (.int .i64 0), .lit (.int .i64 (t3.1.tmod 3))]) ?_
   refine kb g0 (bsl 8 43 4 [.int .i64 0, .int .i64 0, .int .i64 0, .int .i64 0] (([(⟨t3.1.tmod 4, 0, 0, t3.1.tmod 3⟩ : S43)] : List S43).map e43)) ?_
   obtain ⟨c19, H⟩ := of_if H
   refine kc g0 (apR 9 43 4 32 [.int .i64 0, .int .i64 0, .int .i64 0, .int .i64 0] ((t7.1 ++ ([(⟨t3.1.tmod 4, 0, 0, t3.1.tmod 3⟩ : S43)] : List S43)).map e43) (.row rfl) (apb c19 rfl) appE) ?_
   refine kv g0 (faB 0 0) ?_
   refine ks g0 (stB 1 [.row 9, .lit (.int .i64 t7.2.1), .lit (.int .i64 t7.2.2.1), .lit (.int .i64 t7.2.2.2)]) ?_
   refine wk_end ?_
   refine ac_blkN ?_
   refine ac_k ?_
   exact acw hE [(0, 0), (1, 1), (3, 9), (4, 4)] 9999 (hJ25 k (t7.1 ++ ([(⟨t3.1.tmod 4, 0, 0, t3.1.tmod 3⟩ : S43)] : List S43)) t7.2.1 t7.2.2.1 t7.2.2.2 (Nat.le_refl _) H)
  rw [if_neg c18] at H
  refine aw_ifF ?_ (eF c18)
  refine aw_skip ?_
  refine ac_blkN ?_
  refine ac_k ?_
  exact acw hE [(0, 0), (1, 1), (3, 3), (4, 4)] 9999 (hJ25 k t7.1 t7.2.1 t7.2.2.1 t7.2.2.2 (Nat.le_refl _) H)
 intro k_ q20 p21 p22 p23 hk_ H
 rcases k_ with _ | k24
 ·rw [spec_l16Any.j0.eq_1] at H; cases H
 have hk24 : k24 ≤ k := by omega
 clear hk_
 rw [spec_l16Any.j0.eq_2] at H
 refine aw_grp1 ?_
 refine wk_start ?_
 refine kv g0 (ldBA 4 [.row 3, .lit (.int .i64 p21), .lit (.int .i64 p22), .lit (.int .i64 p23)]) ?_
 refine ks g0 (stB 4 [.row 3, .lit (.int .i64 p21), .lit (.int .i64 p22), .lit (.int .i64 p23)]) ?_
 refine wk_end ?_
 refine ac_next ?_
 refine aw_ret ?_
 obtain rfl := Option.some.inj H
 exact acr hE [.cell 2 88] (rcA 4 .nil) (.one _) [(0, 0), (1, 3)] 9999
/-! spec_DrawTaken -/
def spec_DrawTaken.f (k : Nat) (l0 : List Int) : Option (Int × Int × (List S43) × Int × Int × (List S43) × Int × Int × Int × Int) := (spec_l01New.f k l0).bind fun t1 => (spec_l01PickInt.f t1.1 t1.2.1 t1.2.2 ([0, 3, 9, (-1), 1000000001] : List Int)).bind fun t3 => (spec_l18Any.f k t3.2.1 t3.2.2.1 t3.2.2.2).bind fun t5 => (spec_l16Any.f k t5.2.2.2.2.2.1 t5.2.2.2.2.2.2.1 t5.2.2.2.2.2.2.2).bind fun t7 => some (t5.1, t5.2.1, t5.2.2.1, t5.2.2.2.1, t5.2.2.2.2.1, t7.1, t7.2.1, t7.2.2.1, t7.2.2.2.1, t3.1)
theorem spec_DrawTaken.ok {k : Nat} {l0 : List Int} {r : Int × Int × (List S43) × Int × Int × (List S43) × Int × Int × Int × Int} (H : spec_DrawTaken.f k l0 = some r) : ACalls Try.prog 47 [] [.sl .o 1 (l0.map (eI .u8))] [(0, .row 43 4 (r.2.2.1.map e43)), (1, .row 43 4 (r.2.2.2.2.2.1.map e43))] (.tup [.agg [.lit (.int .i64 r.1), .lit (.int .i64 r.2.1), .row 0, .lit (.int .i64 r.2.2.2.1), .lit (.int .i64 r.2.2.2.2.1)], .agg [.row 1, .lit (.int .i64 r.2.2.2.2.2.2.1), .lit (.int .i64 r.2.2.2.2.2.2.2.1), .lit (.int .i64 r.2.2.2.2.2.2.2.2.1)], .lit (.int .i64 r.2.2.2.2.2.2.2.2.2)]) := by
 refine acalls (fn := Try.f47) (nt := 19) Try.func47 rfl rfl (Nat.le_of_ble_eq_true rfl) fun E hE => ?_
 rw [spec_DrawTaken.f] at H
 refine aw_grp1 ?_
 refine wk_start ?_
 refine kb g0 (alc 0 [.int .i64 0, .int .i64 0, .slice none 0 0, .int .i64 0, .int .i64 0] [.lit (.int .i64 0), .lit (.int .i64 0), .lit (.slice none 0 0), .lit (.int .i64 0), .lit (.int .i64 0)]) ?_
 refine kb g0 (alc 1 [.slice none 0 0, .int .i64 0, .int .i64 0, .int .i64 0] [.lit (.slice none 0 0), .lit (.int .i64 0), .lit (.int .i64 0), .lit (.int .i64 0)]) ?_
 refine kv g0 (asg) ?_
 refine wk_end ?_
 refine ac_next ?_
 refine aw_grp1 ?_
 refine wk_start ?_
 refine kv g0 (mv) ?_
 obtain ⟨t1, A2, H⟩ := of_bind H
 refine kcS1 9 (.box 2 0) [(2, .box 186 [.sl .o 1 (t1.1.map (eI .u8)), .lit (.int .i64 t1.2.1), .lit (.int .i64 t1.2.2)])] g0 (cal (spec_l01New.ok A2) [2] 9999 .o (hf := Try.func95)) rfl rfl ?_
 refine kv g0 (asg) ?_
 refine wk_end ?_
 refine ac_next ?_
 refine aw_grp1 ?_
 refine wk_start ?_
 refine kv g0 (mv) ?_
 refine kb g0 (bsl 3 3 1 [.int .i64 0] (([0, 3, 9, (-1), 1000000001] : List Int).map (eI .i64))) ?_
 obtain ⟨t3, A4, H⟩ := of_bind H
 refine kcS1 12 (.lit (.int .i64 t3.1)) [(2, .box 186 [.sl .o 1 (t3.2.1.map (eI .u8)), .lit (.int .i64 t3.2.2.1), .lit (.int .i64 t3.2.2.2)])] g0 (cal (spec_l01PickInt.ok A4) [2] 9999 .o (hf := Try.func101)) rfl rfl ?_
 refine kv g0 (asg) ?_
 refine wk_end ?_
 refine ac_next ?_
 refine aw_grp1 ?_
 refine wk_start ?_
 refine kv g0 (mv) ?_
 obtain ⟨t5, A6, H⟩ := of_bind H
 refine kcS2 14 (.agg [.lit (.int .i64 t5.1), .lit (.int .i64 t5.2.1), .row 4, .lit (.int .i64 t5.2.2.2.1), .lit (.int .i64 t5.2.2.2.2.1)]) [(2, .box 186 [.sl .o 1 (t5.2.2.2.2.2.1.map (eI .u8)), .lit (.int .i64 t5.2.2.2.2.2.2.1), .lit (.int .i64 t5.2.2.2.2.2.2.2)]), (4, .row 43 4 (t5.2.2.1.map e43))] g0 (cal (spec_l18Any.ok A6) [2, 4] 9999 .o (hf := Try.func130)) rfl rfl ?_
 refine kb g0 (alc 5 [.int .i64 0, .int .i64 0, .slice none 0 0, .int .i64 0, .int .i64 0] [.lit (.int .i64 0), .lit (.int .i64 0), .lit (.slice none 0 0), .lit (.int .i64 0), .lit (.int .i64 0)]) ?_
 refine ks g0 (stB 5 [.lit (.int .i64 t5.1), .lit (.int .i64 t5.2.1), .row 4, .lit (.int .i64 t5.2.2.2.1), .lit (.int .i64 t5.2.2.2.2.1)]) ?_
 refine wk_end ?_
 refine ac_next ?_
 refine aw_grp1 ?_
 refine wk_start ?_
 refine kv g0 (ldBA 5 [.lit (.int .i64 t5.1), .lit (.int .i64 t5.2.1), .row 4, .lit (.int .i64 t5.2.2.2.1), .lit (.int .i64 t5.2.2.2.2.1)]) ?_
 refine kv g0 (mv) ?_
 obtain ⟨t7, A8, H⟩ := of_bind H
 refine kcS2 17 (.agg [.row 6, .lit (.int .i64 t7.2.1), .lit (.int .i64 t7.2.2.1), .lit (.int .i64 t7.2.2.2.1)]) [(2, .box 186 [.sl .o 1 (t7.2.2.2.2.1.map (eI .u8)), .lit (.int .i64 t7.2.2.2.2.2.1), .lit (.int .i64 t7.2.2.2.2.2.2)]), (6, .row 43 4 (t7.1.map e43))] g0 (cal (spec_l16Any.ok A8) [2, 6] 9999 .o (hf := Try.func131)) rfl rfl ?_
 refine kv g0 (mv) ?_
 refine ks g0 (stB 5 [.lit (.int .i64 t5.1), .lit (.int .i64 t5.2.1), .row 4, .lit (.int .i64 t5.2.2.2.1), .lit (.int .i64 t5.2.2.2.2.1)]) ?_
 refine ks g0 (stB 4 [.row 6, .lit (.int .i64 t7.2.1), .lit (.int .i64 t7.2.2.1), .lit (.int .i64 t7.2.2.2.1)]) ?_
 refine kv g0 (asg) ?_
 refine wk_end_draw hM (by kernel_rfl) ?_
 refine ac_next ?_
 refine aw_ret ?_
 obtain rfl := Option.some.inj H
 exact acr hE [.cell 2 78, .cell 3 88, .tmp 4] (rcA 5 (rcA 4 (.tmp .nil))) (.many _ _ _) [(0, 4), (1, 6)] 9999
/-! impl_copyItems -/
def impl_copyItems.f (l0 : List S43) : Option ((List S43)) := if ([] : List S43).length + l0.length < 4398046511104 then some (([] : List S43) ++ l0) else none
theorem impl_copyItems.ok {l0 : List S43} {r : (List S43)} (H : impl_copyItems.f l0 = some r) : ACalls Try.prog 128 [] [.sl .o 4 (l0.map e43)] [(0, .row 43 4 (r.map e43))] (.row 0) := by
 refine acalls (fn := Try.f128) (nt := 6) Try.func128 rfl rfl (Nat.le_of_ble_eq_true rfl) fun E hE => ?_
 rw [impl_copyItems.f] at H
 refine aw_grp1 ?_
 refine wk_start ?_
 refine kv g0 (asg) ?_
 refine wk_end ?_
 refine ac_next ?_
 refine aw_grp1 ?_
 refine wk_start ?_
 refine kb g0 (bsl 0 43 4 [.int .i64 0, .int .i64 0, .int .i64 0, .int .i64 0] (([] : List S43).map e43)) ?_
 refine kv g0 (mv) ?_
 obtain ⟨c1, H⟩ := of_if H
 refine kc g0 (apR 1 43 4 32 [.int .i64 0, .int .i64 0, .int .i64 0, .int .i64 0] ((([] : List S43) ++ l0).map e43) (.slF (fl43)) (apb c1 rfl) appE) ?_
 refine kv g0 (asg) ?_
 refine wk_end ?_
 refine ac_next ?_
 refine aw_ret ?_
 obtain rfl := Option.some.inj H
 exact acr hE [.tmp 2] (.tmp .nil) (.one _) [(0, 1)] 9999
/-! impl_copyRing -/
def impl_copyRing.f (l0_0 : List S43) (a0_1 : Int) (a0_2 : Int) (a0_3 : Int) : Option ((List S43) × Int × Int × Int) := (impl_copyItems.f l0_0).bind fun t1 => some (t1, a0_1, a0_2, a0_3)
theorem impl_copyRing.ok {l0_0 : List S43} {a0_1 : Int} {a0_2 : Int} {a0_3 : Int} {r : (List S43) × Int × Int × Int} (H : impl_copyRing.f l0_0 a0_1 a0_2 a0_3 = some r) : ACalls Try.prog 134 [] [.agg [.sl .o 4 (l0_0.map e43), .lit (.int .i64 a0_1), .lit (.int .i64 a0_2), .lit (.int .i64 a0_3)]] [(0, .row 43 4 (r.1.map e43))] (.agg [.row 0, .lit (.int .i64 r.2.1), .lit (.int .i64 r.2.2.1), .lit (.int .i64 r.2.2.2)]) := by
 refine acalls (fn := Try.f134) (nt := 8) Try.func134 rfl rfl (Nat.le_of_ble_eq_true rfl) fun E hE => ?_
 rw [impl_copyRing.f] at H
 refine aw_grp1 ?_
 refine wk_start ?_
 refine kb g0 (bxA 0) ?_
 refine kb g0 (alc 1 [.slice none 0 0, .int .i64 0, .int .i64 0, .int .i64 0] [.lit (.slice none 0 0), .lit (.int .i64 0), .lit (.int .i64 0), .lit (.int .i64 0)]) ?_
 refine wk_end ?_
 refine ac_next ?_
 refine aw_grp1 ?_
 refine wk_start ?_
 refine kv g0 (faB 0 0) ?_
 refine kv g0 (ldB) ?_
 obtain ⟨t1, A2, H⟩ := of_bind H
 refine kcS1 5 (.row 2) [(2, .row 43 4 (t1.map e43))] g0 (cal (impl_copyItems.ok A2) [2] 9999 .n (hf := Try.func128)) rfl rfl ?_
 refine kv g0 (faB 0 0) ?_
 refine ks g0 (stB 1 [.row 2, .lit (.int .i64 a0_1), .lit (.int .i64 a0_2), .lit (.int .i64 a0_3)]) ?_
 refine wk_end ?_
 refine ac_next ?_
 refine aw_grp1 ?_
 refine wk_start ?_
 refine kv g0 (ldBA 4 [.row 2, .lit (.int .i64 a0_1), .lit (.int .i64 a0_2), .lit (.int .i64 a0_3)]) ?_
 refine ks g0 (stB 4 [.row 2, .lit (.int .i64 a0_1), .lit (.int .i64 a0_2), .lit (.int .i64 a0_3)]) ?_
 refine wk_end ?_
 refine ac_next ?_
 refine aw_ret ?_
 obtain rfl := Option.some.inj H
 exact acr hE [.cell 2 88] (rcA 4 .nil) (.one _) [(0, 2)] 9999
/-! impl_Drained -/
def impl_Drained.f (l0_0 : List S43) (a0_1 : Int) (a0_2 : Int) (a0_3 : Int) : Option ((List S43) × Int × Int × Int × Int × Int × Int × Int × Bool) := (impl_copyRing.f l0_0 a0_1 a0_2 a0_3).bind fun t1 => if (t1.1.length : Int) > 0 then (if 0 < (t1.1.length : Int) then if 1 ≤ (t1.1.length : Int) then ((impl_copyItems.f (t1.1.drop 1)).bind fun t6 => some (t6, t1.2.1, t1.2.2.1, t1.2.2.2, (rd_T43 t1.1 0).f0, (rd_T43 t1.1 0).f1, (rd_T43 t1.1 0).f2, (rd_T43 t1.1 0).f3, true)) else none else none) else if t1.2.2.1 = 0 then some (t1.1, t1.2.1, t1.2.2.1, t1.2.2.2, 0, 0, 0, 0, false) else some (t1.1, t1.2.1, 0, t1.2.2.2, 2, 0, 0, t1.2.2.1, true)
theorem impl_Drained.ok {l0_0 : List S43} {a0_1 : Int} {a0_2 : Int} {a0_3 : Int} {r : (List S43) × Int × Int × Int × Int × Int × Int × Int × Bool} (H : impl_Drained.f l0_0 a0_1 a0_2 a0_3 = some r) : ACalls Try.prog 132 [] [.agg [.sl .o 4 (l0_0.map e43), .lit (.int .i64 a0_1), .lit (.int .i64 a0_2), .lit (.int .i64 a0_3)]] [(0, .row 43 4 (r.1.map e43))] (.tup [.agg [.row 0, .lit (.int .i64 r.2.1), .lit (.int .i64 r.2.2.1), .lit (.int .i64 r.2.2.2.1)], .agg [.lit (.int .i64 r.2.2.2.2.1), .lit (.int .i64 r.2.2.2.2.2.1), .lit (.int .i64 r.2.2.2.2.2.2.1), .lit (.int .i64 r.2.2.2.2.2.2.2.1)], .lit (.bool r.2.2.2.2.2.2.2.2)]) := by
 refine acalls (fn := Try.f132) (nt := 38) Try.func132 rfl rfl (Nat.le_of_ble_eq_true rfl) fun E hE => ?_
 rw [impl_Drained.f] at H
 refine aw_grp1 ?_
 refine wk_start ?_
 refine kb g0 (bxA 0) ?_
 refine kb g0 (alc 1 [.slice none 0 0, .int .i64 0, .int .i64 0, .int .i64 0] [.lit (.slice none 0 0), .lit (.int .i64 0), .lit (.int .i64 0), .lit (.int .i64 0)]) ?_
 refine kb g0 (alc 2 [.int .i64 0, .int .i64 0, .int .i64 0, .int .i64 0] [.lit (.int .i64 0), .lit (.int .i64 0), .lit (.int .i64 0), .lit (.int .i64 0)]) ?_
 refine kv g0 (asg) ?_
 refine wk_end ?_
 refine ac_next ?_
 refine aw_grp1 ?_
 refine wk_start ?_
 refine kv g0 (ldBA 4 [.sl .o 4 (l0_0.map e43), .lit (.int .i64 a0_1), .lit (.int .i64 a0_2), .lit (.int .i64 a0_3)]) ?_
 obtain ⟨t1, A2, H⟩ := of_bind H
 refine kcS1 9 (.agg [.row 3, .lit (.int .i64 t1.2.1), .lit (.int .i64 t1.2.2.1), .lit (.int .i64 t1.2.2.2)]) [(3, .row 43 4 (t1.1.map e43))] g0 (cal (impl_copyRing.ok A2) [3] 9999 .n (hf := Try.func134)) rfl rfl ?_
 refine kb g0 (alc 4 [.slice none 0 0, .int .i64 0, .int .i64 0, .int .i64 0] [.lit (.slice none 0 0), .lit (.int .i64 0), .lit (.int .i64 0), .lit (.int .i64 0)]) ?_
 refine ks g0 (stB 4 [.row 3, .lit (.int .i64 t1.2.1), .lit (.int .i64 t1.2.2.1), .lit (.int .i64 t1.2.2.2)]) ?_
 refine wk_end ?_
 refine ac_next ?_
 refine aw_grp1 ?_
 refine aw_block ?_
 refine aw_grp1 ?_
 refine wk_start ?_
 refine kv g0 (faB 0 0) ?_
 refine kv g0 (ldB) ?_
 refine kv g0 (lnR lenE) ?_
 refine kv g0 (gtr) ?_
 refine kv g0 (asg) ?_
 refine wk_end ?_
 refine ac_next ?_
 by_cases c3 : (t1.1.length : Int) > 0
 ·rw [if_pos c3] at H
  refine aw_ifT ?_ (decide_eq_true c3)
  refine aw_grp1 ?_
  refine wk_start ?_
  refine kv g0 (faB 0 0) ?_
  refine kv g0 (ldB) ?_
  obtain ⟨c4, H⟩ := of_if H
  refine kv g0 (ixR 43 (by decide : (0 : Int) ≤ 0) (ltE c4)) ?_
  refine kv g0 (ldEA 4 (e43 (rd_T43 t1.1 0)) [.lit (.int .i64 ((rd_T43 t1.1 0).f0)), .lit (.int .i64 ((rd_T43 t1.1 0).f1)), .lit (.int .i64 ((rd_T43 t1.1 0).f2)), .lit (.int .i64 ((rd_T43 t1.1 0).f3))] (getE (z := z43) (by decide : (0 : Int) ≤ 0) c4)) ?_
  refine kb g0 (alc 5 [.int .i64 0, .int .i64 0, .int .i64 0, .int .i64 0] [.lit (.int .i64 0), .lit (.int .i64 0), .lit (.int .i64 0), .lit (.int .i64 0)]) ?_
  refine ks g0 (stB 4 [.lit (.int .i64 ((rd_T43 t1.1 0).f0)), .lit (.int .i64 ((rd_T43 t1.1 0).f1)), .lit (.int .i64 ((rd_T43 t1.1 0).f2)), .lit (.int .i64 ((rd_T43 t1.1 0).f3))]) ?_
  refine wk_end ?_
  refine ac_next ?_
  refine aw_grp1 ?_
  refine wk_start ?_
  refine kv g0 (faB 0 0) ?_
  refine kv g0 (ldB) ?_
  obtain ⟨c5, H⟩ := of_if H
  refine kv g0 (srL 43 (by decide : (0 : Int) ≤ 1) c5) ?_
  obtain ⟨t6, A7, H⟩ := of_bind H
  refine kcS1 22 (.row 6) [(6, .row 43 4 (t6.map e43))] g0 (cal (impl_copyItems.ok A7) [6] 9999 .n (hf := Try.func128) (hargs := by rw [← mapD]; rfl)) rfl rfl ?_
  refine kv g0 (faB 0 0) ?_
  refine ks g0 (stB 1 [.row 6, .lit (.int .i64 t1.2.1), .lit (.int .i64 t1.2.2.1), .lit (.int .i64 t1.2.2.2)]) ?_
  refine wk_end ?_
  refine ac_next ?_
  refine aw_grp1 ?_
  refine wk_start ?_
  refine kv g0 (ldBA 4 [.row 6, .lit (.int .i64 t1.2.1), .lit (.int .i64 t1.2.2.1), .lit (.int .i64 t1.2.2.2)]) ?_
  refine kv g0 (ldBA 4 [.lit (.int .i64 ((rd_T43 t1.1 0).f0)), .lit (.int .i64 ((rd_T43 t1.1 0).f1)), .lit (.int .i64 ((rd_T43 t1.1 0).f2)), .lit (.int .i64 ((rd_T43 t1.1 0).f3))]) ?_
  refine ks g0 (stB 4 [.row 6, .lit (.int .i64 t1.2.1), .lit (.int .i64 t1.2.2.1), .lit (.int .i64 t1.2.2.2)]) ?_
  refine ks g0 (stB 4 [.lit (.int .i64 ((rd_T43 t1.1 0).f0)), .lit (.int .i64 ((rd_T43 t1.1 0).f1)), .lit (.int .i64 ((rd_T43 t1.1 0).f2)), .lit (.int .i64 ((rd_T43 t1.1 0).f3))]) ?_
  refine kv g0 (asg) ?_
  refine wk_end_draw hM (by kernel_rfl) ?_
  refine ac_next ?_
  refine aw_ret ?_
  refine ac_blkR ?_
  refine ac_thenR ?_
  obtain rfl := Option.some.inj H
  exact acr hE [.cell 2 88, .cell 3 43, .tmp 4] (rcA 4 (rcA 4 (.tmp .nil))) (.many _ _ _) [(0, 6)] 9999
 rw [if_neg c3] at H
 refine aw_ifF ?_ (decide_eq_false c3)
 refine aw_grp1 ?_
 refine wk_start ?_
 refine kv g0 (faB 2 2) ?_
 refine kv g0 (ldB) ?_
 refine kv g0 (neq) ?_
 refine kv g0 (asg) ?_
 refine wk_end ?_
 refine ac_next ?_
 by_cases c8 : t1.2.2.1 = 0
 ·rw [if_pos c8] at H
  refine aw_ifF ?_ (eM c8)
  refine aw_skip ?_
  refine ac_blkN ?_
  refine ac_next ?_
  refine aw_grp1 ?_
  refine wk_start ?_
  refine kv g0 (ldBA 4 [.row 3, .lit (.int .i64 t1.2.1), .lit (.int .i64 t1.2.2.1), .lit (.int .i64 t1.2.2.2)]) ?_
  refine kv g0 (bld [(0, 1), (1, 1), (2, 1), (3, 1)] [.int .i64 0, .int .i64 0, .int .i64 0, .int .i64 0] [.lit (.int .i64 0), .lit (.int .i64 0), .lit (.int .i64 0), .lit (.int .i64 0)]) ?_
  refine ks g0 (stB 4 [.row 3, .lit (.int .i64 t1.2.1), .lit (.int .i64 t1.2.2.1), .lit (.int .i64 t1.2.2.2)]) ?_
  refine ks g0 (stB 4 [.lit (.int .i64 0), .lit (.int .i64 0), .lit (.int .i64 0), .lit (.int .i64 0)]) ?_
  refine kv g0 (asg) ?_
  refine wk_end ?_
  refine ac_next ?_
  refine aw_ret ?_
  obtain rfl := Option.some.inj H
  exact acr hE [.cell 2 88, .cell 3 43, .tmp 4] (rcA 4 (rcA 4 (.tmp .nil))) (.many _ _ _) [(0, 3)] 9999
 rw [if_neg c8] at H
 refine aw_ifT ?_ (eN c8)
 refine aw_grp1 ?_
 refine wk_start ?_
 refine kv g0 (faB 2 2) ?_
 refine kv g0 (ldB) ?_
 refine kv g0 (bld [(0, 1), (1, 1), (2, 1), (3, 1)] [.int .i64 0, .int .i64 0, .int .i64 0, .int .i64 0] [.lit (.int .i64 2), .lit (.int .i64 0), .lit (.int .i64 0), .lit (.int .i64 t1.2.2.1)]) ?_
 refine kb g0 (alc 7 [.int .i64 0, .int .i64 0, .int .i64 0, .int .i64 0] [.lit (.int .i64 0), .lit (.int .i64 0), .lit (.int .i64 0), .lit (.int .i64 0)]) ?_
 refine ks g0 (stB 4 [.lit (.int .i64 2), .lit (.int .i64 0), .lit (.int .i64 0), .lit (.int .i64 t1.2.2.1)]) ?_
 refine wk_end ?_
 refine ac_next ?_
 refine aw_grp1 ?_
 refine wk_start ?_
 refine kv g0 (faB 2 2) ?_
 refine ks g0 (stB 1 [.row 3, .lit (.int .i64 t1.2.1), .lit (.int .i64 0), .lit (.int .i64 t1.2.2.2)]) ?_
 refine wk_end ?_
 refine ac_next ?_
 refine aw_grp1 ?_
 refine wk_start ?_
 refine kv g0 (ldBA 4 [.row 3, .lit (.int .i64 t1.2.1), .lit (.int .i64 0), .lit (.int .i64 t1.2.2.2)]) ?_
 refine kv g0 (ldBA 4 [.lit (.int .i64 2), .lit (.int .i64 0), .lit (.int .i64 0), .lit (.int .i64 t1.2.2.1)]) ?_
 refine ks g0 (stB 4 [.row 3, .lit (.int .i64 t1.2.1), .lit (.int .i64 0), .lit (.int .i64 t1.2.2.2)]) ?_
 refine ks g0 (stB 4 [.lit (.int .i64 2), .lit (.int .i64 0), .lit (.int .i64 0), .lit (.int .i64 t1.2.2.1)]) ?_
 refine kv g0 (asg) ?_
 refine wk_end_draw hM (by kernel_rfl) ?_
 refine ac_next ?_
 refine aw_ret ?_
 refine ac_blkR ?_
 refine ac_thenR ?_
 obtain rfl := Option.some.inj H
 exact acr hE [.cell 2 88, .cell 3 43, .tmp 4] (rcA 4 (rcA 4 (.tmp .nil))) (.many _ _ _) [(0, 3)] 9999
/-! impl_within -/
def impl_within.f (a0 : Int) (a1 : Int) (a2 : Int) : Option (Bool) := if a0 ≥ a1 then some (decide (a0 ≤ a2)) else some false
theorem impl_within.ok {a0 : Int} {a1 : Int} {a2 : Int} {r : Bool} (H : impl_within.f a0 a1 a2 = some r) : ACalls Try.prog 88 [] [.lit (.int .i64 a0), .lit (.int .i64 a1), .lit (.int .i64 a2)] [] (.lit (.bool r)) := by
 refine acalls (fn := Try.f88) (nt := 15) Try.func88 rfl rfl (Nat.le_of_ble_eq_true rfl) fun E hE => ?_
 rw [impl_within.f] at H
 refine aw_grp1 ?_
 refine wk_start ?_
 refine kv g0 (asg) ?_
 refine wk_end ?_
 refine ac_next ?_
 refine aw_grp1 ?_
 refine wk_start ?_
 refine kv g0 (mv) ?_
 refine kv g0 (mv) ?_
 refine kv g0 (geq) ?_
 refine kv g0 (mv) ?_
 by_cases c1 : a0 ≥ a1
 ·rw [if_pos c1] at H
  refine kv (g1 (decide_eq_true c1)) (mv) ?_
  refine kv (g1 (decide_eq_true c1)) (mv) ?_
  refine kv (g1 (decide_eq_true c1)) (leq) ?_
  refine kv g0 (pkT (decide_eq_true c1)) ?_
  refine kv g0 (asg) ?_
  refine wk_end ?_
  refine ac_next ?_
  refine aw_ret ?_
  obtain rfl := Option.some.inj H
  exact acr hE [.tmp 6] (.tmp .nil) (.one _) [] 9999
 rw [if_neg c1] at H
 refine kx (hT (decide_eq_false c1)) ?_
 refine kx (hT (decide_eq_false c1)) ?_
 refine kx (hT (decide_eq_false c1)) ?_
 refine kv g0 (pkF (decide_eq_false c1)) ?_
 refine kv g0 (asg) ?_
 refine wk_end ?_
 refine ac_next ?_
 refine aw_ret ?_
 obtain rfl := Option.some.inj H
 exact acr hE [.tmp 6] (.tmp .nil) (.one _) [] 9999
/-! impl_isPid -/
def impl_isPid.f (a0 : Int) : Option (Bool) := (impl_within.f a0 0 2).bind fun t1 => some t1
theorem impl_isPid.ok {a0 : Int} {r : Bool} (H : impl_isPid.f a0 = some r) : ACalls Try.prog 89 [] [.lit (.int .i64 a0)] [] (.lit (.bool r)) := by
 refine acalls (fn := Try.f89) (nt := 5) Try.func89 rfl rfl (Nat.le_of_ble_eq_true rfl) fun E hE => ?_
 rw [impl_isPid.f] at H
 refine aw_grp1 ?_
 refine wk_start ?_
 refine kv g0 (asg) ?_
 refine wk_end ?_
 refine ac_next ?_
 refine aw_grp1 ?_
 refine wk_start ?_
 refine kv g0 (mv) ?_
 obtain ⟨t1, A2, H⟩ := of_bind H
 refine kcS0 4 (.lit (.bool t1)) [] g0 (cal (impl_within.ok A2) [] 9999 .n (hf := Try.func88)) rfl rfl ?_
 refine kv g0 (asg) ?_
 refine wk_end ?_
 refine ac_next ?_
 refine aw_ret ?_
 obtain rfl := Option.some.inj H
 exact acr hE [.tmp 2] (.tmp .nil) (.one _) [] 9999
/-! impl_HalfOk -/
def impl_HalfOk.f (a0 : Int) : Option (Bool) := (impl_within.f a0 0 4294967295).bind fun t1 => some t1
theorem impl_HalfOk.ok {a0 : Int} {r : Bool} (H : impl_HalfOk.f a0 = some r) : ACalls Try.prog 161 [] [.lit (.int .i64 a0)] [] (.lit (.bool r)) := by
 refine acalls (fn := Try.f161) (nt := 5) Try.func161 rfl rfl (Nat.le_of_ble_eq_true rfl) fun E hE => ?_
 rw [impl_HalfOk.f] at H
 refine aw_grp1 ?_
 refine wk_start ?_
 refine kv g0 (asg) ?_
 refine wk_end ?_
 refine ac_next ?_
 refine aw_grp1 ?_
 refine wk_start ?_
 refine kv g0 (mv) ?_
 obtain ⟨t1, A2, H⟩ := of_bind H
 refine kcS0 4 (.lit (.bool t1)) [] g0 (cal (impl_within.ok A2) [] 9999 .n (hf := Try.func88)) rfl rfl ?_
 refine kv g0 (asg) ?_
 refine wk_end ?_
 refine ac_next ?_
 refine aw_ret ?_
 obtain rfl := Option.some.inj H
 exact acr hE [.tmp 2] (.tmp .nil) (.one _) [] 9999
/-! impl_ItemOk -/
def impl_ItemOk.f (a0_0 : Int) (a0_1 : Int) (a0_2 : Int) (a0_3 : Int) : Option (Bool) := if a0_0 = 1 then ((impl_HalfOk.f a0_1).bind fun t2 => (if t2 = true then ((impl_HalfOk.f a0_2).bind fun t5 => (if t5 = true then some (a0_3 == 0) else some false)) else some false)) else if a0_0 = 2 then ((impl_within.f a0_3 1 1000000000).bind fun t9 => (if t9 = true then (if a0_1 = 0 then some (a0_2 == 0) else some false) else some false)) else some false
theorem impl_ItemOk.ok {a0_0 : Int} {a0_1 : Int} {a0_2 : Int} {a0_3 : Int} {r : Bool} (H : impl_ItemOk.f a0_0 a0_1 a0_2 a0_3 = some r) : ACalls Try.prog 90 [] [.agg [.lit (.int .i64 a0_0), .lit (.int .i64 a0_1), .lit (.int .i64 a0_2), .lit (.int .i64 a0_3)]] [] (.lit (.bool r)) := by
 refine acalls (fn := Try.f90) (nt := 35) Try.func90 rfl rfl (Nat.le_of_ble_eq_true rfl) fun E hE => ?_
 rw [impl_ItemOk.f] at H
 refine aw_grp1 ?_
 refine wk_start ?_
 refine kb g0 (bxA 0) ?_
 refine kv g0 (asg) ?_
 refine wk_end ?_
 refine ac_next ?_
 refine aw_grp1 ?_
 refine aw_grp1 ?_
 refine wk_start ?_
 refine kv g0 (faB 0 0) ?_
 refine kv g0 (ldB) ?_
 refine wk_end ?_
 refine ac_next ?_
 refine aw_block ?_
 refine aw_grp1 ?_
 refine wk_start ?_
 refine kv g0 (eql) ?_
 refine kv g0 (asg) ?_
 refine wk_end ?_
 refine ac_next ?_
 by_cases c1 : a0_0 = 1
 ·rw [if_pos c1] at H
  refine aw_ifT ?_ (eT c1)
  refine aw_grp1 ?_
  refine wk_start ?_
  refine kv g0 (faB 1 1) ?_
  refine kv g0 (ldB) ?_
  obtain ⟨t2, A3, H⟩ := of_bind H
  refine kcS0 9 (.lit (.bool t2)) [] g0 (cal (impl_HalfOk.ok A3) [] 9999 .n (hf := Try.func161)) rfl rfl ?_
  refine kv g0 (mv) ?_
  by_cases c4 : t2 = true
  ·rw [if_pos c4] at H
   refine kv (g1 c4) (faB 2 2) ?_
   refine kv (g1 c4) (ldB) ?_
   obtain ⟨t5, A6, H⟩ := of_bind H
   refine kcS0 13 (.lit (.bool t5)) [] (g1 c4) (cal (impl_HalfOk.ok A6) [] 9999 .n (hf := Try.func161)) rfl rfl ?_
   refine kv g0 (pkT c4) ?_
   refine kv g0 (mv) ?_
   by_cases c7 : t5 = true
   ·rw [if_pos c7] at H
    refine kv (g1 c7) (faB 3 3) ?_
    refine kv (g1 c7) (ldB) ?_
    refine kv (g1 c7) (eql) ?_
    refine kv g0 (pkT c7) ?_
    refine kv g0 (asg) ?_
    refine wk_end ?_
    refine ac_next ?_
    refine aw_ret ?_
    refine ac_blkR ?_
    refine ac_thenR ?_
    obtain rfl := Option.some.inj H
    exact acr hE [.tmp 2] (.tmp .nil) (.one _) [] 9999
   rw [if_neg c7] at H
   refine kx (hT (bF c7)) ?_
   refine kx (hT (bF c7)) ?_
   refine kx (hT (bF c7)) ?_
   refine kv g0 (pkF (bF c7)) ?_
   refine kv g0 (asg) ?_
   refine wk_end ?_
   refine ac_next ?_
   refine aw_ret ?_
   refine ac_blkR ?_
   refine ac_thenR ?_
   obtain rfl := Option.some.inj H
   exact acr hE [.tmp 2] (.tmp .nil) (.one _) [] 9999
  rw [if_neg c4] at H
  refine kx (hT (bF c4)) ?_
  refine kx (hT (bF c4)) ?_
  refine kx (hT (bF c4)) ?_
  refine kv g0 (pkF (bF c4)) ?_
  refine kv g0 (mv) ?_
  refine kx (hT rfl) ?_
  refine kx (hT rfl) ?_
  refine kx (hT rfl) ?_
  refine kv g0 (pkF rfl) ?_
  refine kv g0 (asg) ?_
  refine wk_end ?_
  refine ac_next ?_
  refine aw_ret ?_
  refine ac_blkR ?_
  refine ac_thenR ?_
  obtain rfl := Option.some.inj H
  exact acr hE [.tmp 2] (.tmp .nil) (.one _) [] 9999
 rw [if_neg c1] at H
 refine aw_ifF ?_ (eF c1)
 refine aw_grp1 ?_
 refine wk_start ?_
 refine kv g0 (eql) ?_
 refine kv g0 (asg) ?_
 refine wk_end ?_
 refine ac_next ?_
 by_cases c8 : a0_0 = 2
 ·rw [if_pos c8] at H
  refine aw_ifT ?_ (eT c8)
  refine aw_grp1 ?_
  refine wk_start ?_
  refine kv g0 (faB 3 3) ?_
  refine kv g0 (ldB) ?_
  obtain ⟨t9, A10, H⟩ := of_bind H
  refine kcS0 24 (.lit (.bool t9)) [] g0 (cal (impl_within.ok A10) [] 9999 .n (hf := Try.func88)) rfl rfl ?_
  refine kv g0 (mv) ?_
  by_cases c11 : t9 = true
  ·rw [if_pos c11] at H
   refine kv (g1 c11) (faB 1 1) ?_
   refine kv (g1 c11) (ldB) ?_
   refine kv (g1 c11) (eql) ?_
   refine kv g0 (pkT c11) ?_
   refine kv g0 (mv) ?_
   by_cases c12 : a0_1 = 0
   ·rw [if_pos c12] at H
    refine kv (g1 (eT c12)) (faB 2 2) ?_
    refine kv (g1 (eT c12)) (ldB) ?_
    refine kv (g1 (eT c12)) (eql) ?_
    refine kv g0 (pkT (eT c12)) ?_
    refine kv g0 (asg) ?_
    refine wk_end ?_
    refine ac_next ?_
    refine aw_ret ?_
    refine ac_blkR ?_
    refine ac_thenR ?_
    obtain rfl := Option.some.inj H
    exact acr hE [.tmp 2] (.tmp .nil) (.one _) [] 9999
   rw [if_neg c12] at H
   refine kx (hT (eF c12)) ?_
   refine kx (hT (eF c12)) ?_
   refine kx (hT (eF c12)) ?_
   refine kv g0 (pkF (eF c12)) ?_
   refine kv g0 (asg) ?_
   refine wk_end ?_
   refine ac_next ?_
   refine aw_ret ?_
   refine ac_blkR ?_
   refine ac_thenR ?_
   obtain rfl := Option.some.inj H
   exact acr hE [.tmp 2] (.tmp .nil) (.one _) [] 9999
  rw [if_neg c11] at H
  refine kx (hT (bF c11)) ?_
  refine kx (hT (bF c11)) ?_
  refine kx (hT (bF c11)) ?_
  refine kv g0 (pkF (bF c11)) ?_
  refine kv g0 (mv) ?_
  refine kx (hT rfl) ?_
  refine kx (hT rfl) ?_
  refine kx (hT rfl) ?_
  refine kv g0 (pkF rfl) ?_
  refine kv g0 (asg) ?_
  refine wk_end ?_
  refine ac_next ?_
  refine aw_ret ?_
  refine ac_blkR ?_
  refine ac_thenR ?_
  obtain rfl := Option.some.inj H
  exact acr hE [.tmp 2] (.tmp .nil) (.one _) [] 9999
 rw [if_neg c8] at H
 refine aw_ifF ?_ (eF c8)
 refine aw_skip ?_
 refine ac_blkN ?_
 refine ac_next ?_
 refine aw_grp1 ?_
 refine wk_start ?_
 refine kv g0 (asg) ?_
 refine wk_end ?_
 refine ac_next ?_
 refine aw_ret ?_
 obtain rfl := Option.some.inj H
 exact acr hE [.tmp 2] (.tmp .nil) (.one _) [] 9999
/-! impl_areItems -/
def impl_areItems.l0 : Nat → (List S43) → Int → Option (Bool)
 | 0, _, _ => none
 | k7 + 1, l0, p6 => if p6 < (l0.length : Int) then if 0 ≤ p6 then (impl_ItemOk.f ((rd_T43 l0 p6).f0) ((rd_T43 l0 p6).f1) ((rd_T43 l0 p6).f2) ((rd_T43 l0 p6).f3)).bind fun t10 => if t10 = true then impl_areItems.l0 k7 l0 (wrap64 (p6 + 1)) else some false else none else some true
def impl_areItems.f (k : Nat) (l0 : List S43) : Option (Bool) := impl_areItems.l0 k l0 0
theorem impl_areItems.ok {k : Nat} {l0 : List S43} {r : Bool} (H : impl_areItems.f k l0 = some r) : ACalls Try.prog 129 [] [.sl .o 4 (l0.map e43)] [] (.lit (.bool r)) := by
 refine acalls (fn := Try.f129) (nt := 15) Try.func129 rfl rfl (Nat.le_of_ble_eq_true rfl) fun E hE => ?_
 rw [impl_areItems.f] at H
 refine aw_grp1 ?_
 refine wk_start ?_
 refine kv g0 (asg) ?_
 refine wk_end ?_
 refine ac_next ?_
 refine aw_grp1 ?_
 refine aw_grp1 ?_
 refine wk_start ?_
 refine kv g0 (mv) ?_
 refine kv g0 (lnS lenE) ?_
 refine kv g0 (mv) ?_
 refine wk_end ?_
 refine ac_next ?_
 refine aw_block ?_
 refine aw_loop1 (fun (k_ : Nat) (p6 : Int) => k_ ≤ k ∧ impl_areItems.l0 k_ l0 p6 = some r) (fun (p6 : Int) => ⟨[(5, .sl .o 4 (l0.map e43)), (6, .lit (.int .i64 (l0.length : Int))), (7, .lit (.int .i64 p6))], []⟩) k 0 ⟨Nat.le_refl _, H⟩ (fun K_ h_ => acw hE [] 9999 h_) (fun _ => by intro h_; have h_ := h_.2; rw [impl_areItems.l0.eq_1] at h_; cases h_) ?_
 intro k7 p6 hq_ K13 hK14
 have hk7 := hq_.1
 have H := hq_.2
 clear hq_
 rw [impl_areItems.l0.eq_2] at H
 refine aw_grp1 ?_
 refine wk_start ?_
 refine kv g0 (lss) ?_
 refine wk_end ?_
 refine ac_next ?_
 refine aw_grp1 ?_
 by_cases c8 : p6 < (l0.length : Int)
 ·rw [if_pos c8] at H
  refine aw_ifT ?_ (decide_eq_true c8)
  refine aw_skip ?_
  refine ac_next ?_
  refine aw_grp1 ?_
  refine aw_block ?_
  refine aw_grp1 ?_
  refine wk_start ?_
  obtain ⟨c9, H⟩ := of_if H
  refine kv g0 (ixS 43 (e43 (rd_T43 l0 p6)) c9 (getE (z := z43) c9 c8)) ?_
  refine kv g0 (ldRA 4 [.lit (.int .i64 ((rd_T43 l0 p6).f0)), .lit (.int .i64 ((rd_T43 l0 p6).f1)), .lit (.int .i64 ((rd_T43 l0 p6).f2)), .lit (.int .i64 ((rd_T43 l0 p6).f3))]) ?_
  refine kb g0 (alc 0 [.int .i64 0, .int .i64 0, .int .i64 0, .int .i64 0] [.lit (.int .i64 0), .lit (.int .i64 0), .lit (.int .i64 0), .lit (.int .i64 0)]) ?_
  refine ks g0 (stB 4 [.lit (.int .i64 ((rd_T43 l0 p6).f0)), .lit (.int .i64 ((rd_T43 l0 p6).f1)), .lit (.int .i64 ((rd_T43 l0 p6).f2)), .lit (.int .i64 ((rd_T43 l0 p6).f3))]) ?_
  refine wk_end ?_
  refine ac_next ?_
  refine aw_grp1 ?_
  refine wk_start ?_
  refine kv g0 (ldBA 4 [.lit (.int .i64 ((rd_T43 l0 p6).f0)), .lit (.int .i64 ((rd_T43 l0 p6).f1)), .lit (.int .i64 ((rd_T43 l0 p6).f2)), .lit (.int .i64 ((rd_T43 l0 p6).f3))]) ?_
  obtain ⟨t10, A11, H⟩ := of_bind H
  refine kcS0 12 (.lit (.bool t10)) [] g0 (cal (impl_ItemOk.ok A11) [] 9999 .n (hf := Try.func90)) rfl rfl ?_
  refine kv g0 (not_) ?_
  refine wk_end ?_
  refine ac_next ?_
  by_cases c12 : t10 = true
  ·rw [if_pos c12] at H
   refine aw_ifF ?_ (nF c12)
   refine aw_skip ?_
   refine ac_blkN ?_
   refine ac_next ?_
   refine wk_start ?_
   refine kv g0 (add6) ?_
   refine kv g0 (mv) ?_
   refine wk_end ?_
   refine ac_k ?_
   exact acw hE [] 9999 (hK14 k7 (wrap64 (p6 + 1)) (Nat.le_refl _) ⟨by omega, H⟩)
  rw [if_neg c12] at H
  refine aw_ifT ?_ (nT (bF c12))
  refine aw_grp1 ?_
  refine wk_start ?_
  refine kv g0 (asg) ?_
  refine wk_end ?_
  refine ac_next ?_
  refine aw_ret ?_
  refine ac_blkR ?_
  refine ac_thenR ?_
  refine ac_thenR ?_
  refine ac_blkR ?_
  refine ac_thenR ?_
  obtain rfl := Option.some.inj H
  exact acr hE [.tmp 2] (.tmp .nil) (.one _) [] 9999
 rw [if_neg c8] at H
 refine aw_ifF ?_ (decide_eq_false c8)
 refine aw_exit ?_
 refine ac_then ?_
 refine ac_then ?_
 refine ac_hit rfl ?_
 refine ac_next ?_
 refine aw_grp1 ?_
 refine wk_start ?_
 refine kv g0 (asg) ?_
 refine wk_end ?_
 refine ac_next ?_
 refine aw_ret ?_
 obtain rfl := Option.some.inj H
 exact acr hE [.tmp 2] (.tmp .nil) (.one _) [] 9999
/-! impl_SenderOk -/
def impl_SenderOk.f (k : Nat) (a0_0 : Int) (a0_1 : Int) (l0_2 : List S43) (a0_3 : Int) (a0_4 : Int) : Option (Bool) := (impl_isPid.f a0_0).bind fun t1 => (if t1 = true then ((impl_within.f a0_1 1 1000000000).bind fun t4 => (if t4 = true then (if (l0_2.length : Int) ≤ 3 then ((impl_areItems.f k l0_2).bind fun t8 => (if t8 = true then ((impl_within.f a0_3 0 1000000000).bind fun t11 => (if t11 = true then (if a0_4 = 1 then some true else (if a0_4 = 2 then some true else some (a0_4 == 4))) else some false)) else some false)) else some false) else some false)) else some false)
theorem impl_SenderOk.ok {k : Nat} {a0_0 : Int} {a0_1 : Int} {l0_2 : List S43} {a0_3 : Int} {a0_4 : Int} {r : Bool} (H : impl_SenderOk.f k a0_0 a0_1 l0_2 a0_3 a0_4 = some r) : ACalls Try.prog 46 [] [.agg [.lit (.int .i64 a0_0), .lit (.int .i64 a0_1), .sl .o 4 (l0_2.map e43), .lit (.int .i64 a0_3), .lit (.int .i64 a0_4)]] [] (.lit (.bool r)) := by
 refine acalls (fn := Try.f46) (nt := 42) Try.func46 rfl rfl (Nat.le_of_ble_eq_true rfl) fun E hE => ?_
 rw [impl_SenderOk.f] at H
 refine aw_grp1 ?_
 refine wk_start ?_
 refine kb g0 (bxA 0) ?_
 refine kv g0 (asg) ?_
 refine wk_end ?_
 refine ac_next ?_
 refine aw_grp1 ?_
 refine wk_start ?_
 refine kv g0 (faB 0 0) ?_
 refine kv g0 (ldB) ?_
 obtain ⟨t1, A2, H⟩ := of_bind H
 refine kcS0 5 (.lit (.bool t1)) [] g0 (cal (impl_isPid.ok A2) [] 9999 .n (hf := Try.func89)) rfl rfl ?_
 refine kv g0 (mv) ?_
 by_cases c3 : t1 = true
 ·rw [if_pos c3] at H
  refine kv (g1 c3) (faB 1 1) ?_
  refine kv (g1 c3) (ldB) ?_
  obtain ⟨t4, A5, H⟩ := of_bind H
  refine kcS0 9 (.lit (.bool t4)) [] (g1 c3) (cal (impl_within.ok A5) [] 9999 .n (hf := Try.func88)) rfl rfl ?_
  refine kv g0 (pkT c3) ?_
  refine kv g0 (mv) ?_
  by_cases c6 : t4 = true
  ·rw [if_pos c6] at H
   refine kv (g1 c6) (faB 2 2) ?_
   refine kv (g1 c6) (ldB) ?_
   refine kv (g1 c6) (lnS lenE) ?_
   refine kv (g1 c6) (leq) ?_
   refine kv g0 (pkT c6) ?_
   refine kv g0 (mv) ?_
   by_cases c7 : (l0_2.length : Int) ≤ 3
   ·rw [if_pos c7] at H
    refine kv (g1 (decide_eq_true c7)) (faB 2 2) ?_
    refine kv (g1 (decide_eq_true c7)) (ldB) ?_
    obtain ⟨t8, A9, H⟩ := of_bind H
    refine kcS0 20 (.lit (.bool t8)) [] (g1 (decide_eq_true c7)) (cal (impl_areItems.ok A9) [] 9999 .n (hf := Try.func129)) rfl rfl ?_
    refine kv g0 (pkT (decide_eq_true c7)) ?_
    refine kv g0 (mv) ?_
    by_cases c10 : t8 = true
    ·rw [if_pos c10] at H
     refine kv (g1 c10) (faB 3 3) ?_
     refine kv (g1 c10) (ldB) ?_
     obtain ⟨t11, A12, H⟩ := of_bind H
     refine kcS0 25 (.lit (.bool t11)) [] (g1 c10) (cal (impl_within.ok A12) [] 9999 .n (hf := Try.func88)) rfl rfl ?_
     refine kv g0 (pkT c10) ?_
     refine kv g0 (mv) ?_
     by_cases c13 : t11 = true
     ·rw [if_pos c13] at H
      refine kv (g1 c13) (faB 4 4) ?_
      refine kv (g1 c13) (ldB) ?_
      refine kv (g1 c13) (eql) ?_
      refine kv (g1 c13) (mv) ?_
      by_cases c14 : a0_4 = 1
      ·rw [if_pos c14] at H
       refine kx (hF (eT c14)) ?_
       refine kx (hF (eT c14)) ?_
       refine kx (hF (eT c14)) ?_
       refine kv (g1 c13) (pkT (eT c14)) ?_
       refine kv (g1 c13) (mv) ?_
       refine kx (hF rfl) ?_
       refine kx (hF rfl) ?_
       refine kx (hF rfl) ?_
       refine kv (g1 c13) (pkT rfl) ?_
       refine kv g0 (pkT c13) ?_
       refine kv g0 (asg) ?_
       refine wk_end ?_
       refine ac_next ?_
       refine aw_ret ?_
       obtain rfl := Option.some.inj H
       exact acr hE [.tmp 2] (.tmp .nil) (.one _) [] 9999
      rw [if_neg c14] at H
      refine kv (g1 (eF c14)) (faB 4 4) ?_
      refine kv (g1 (eF c14)) (ldB) ?_
      refine kv (g1 (eF c14)) (eql) ?_
      refine kv (g1 c13) (pkF (eF c14)) ?_
      refine kv (g1 c13) (mv) ?_
      by_cases c15 : a0_4 = 2
      ·rw [if_pos c15] at H
       refine kx (hF (eT c15)) ?_
       refine kx (hF (eT c15)) ?_
       refine kx (hF (eT c15)) ?_
       refine kv (g1 c13) (pkT (eT c15)) ?_
       refine kv g0 (pkT c13) ?_
       refine kv g0 (asg) ?_
       refine wk_end ?_
       refine ac_next ?_
       refine aw_ret ?_
       obtain rfl := Option.some.inj H
       exact acr hE [.tmp 2] (.tmp .nil) (.one _) [] 9999
      rw [if_neg c15] at H
      refine kv (g1 (eF c15)) (faB 4 4) ?_
      refine kv (g1 (eF c15)) (ldB) ?_
      refine kv (g1 (eF c15)) (eql) ?_
      refine kv (g1 c13) (pkF (eF c15)) ?_
      refine kv g0 (pkT c13) ?_
      refine kv g0 (asg) ?_
      refine wk_end ?_
      refine ac_next ?_
      refine aw_ret ?_
      obtain rfl := Option.some.inj H
      exact acr hE [.tmp 2] (.tmp .nil) (.one _) [] 9999
     rw [if_neg c13] at H
     refine kx (hT (bF c13)) ?_
     refine kx (hT (bF c13)) ?_
     refine kx (hT (bF c13)) ?_
     refine ku (neT (hT (bF c13))) ?_
     refine ku neU ?_
     refine ku neU ?_
     refine ku neU ?_
     refine kx (hT (bF c13)) ?_
     refine ku (neT (hT (bF c13))) ?_
     refine ku neU ?_
     refine ku neU ?_
     refine ku neU ?_
     refine kx (hT (bF c13)) ?_
     refine kv g0 (pkF (bF c13)) ?_
     refine kv g0 (asg) ?_
     refine wk_end ?_
     refine ac_next ?_
     refine aw_ret ?_
     obtain rfl := Option.some.inj H
     exact acr hE [.tmp 2] (.tmp .nil) (.one _) [] 9999
    rw [if_neg c10] at H
    refine kx (hT (bF c10)) ?_
    refine kx (hT (bF c10)) ?_
    refine kx (hT (bF c10)) ?_
    refine kv g0 (pkF (bF c10)) ?_
    refine kv g0 (mv) ?_
    refine kx (hT rfl) ?_
    refine kx (hT rfl) ?_
    refine kx (hT rfl) ?_
    refine ku (neT (hT rfl)) ?_
    refine ku neU ?_
    refine ku neU ?_
    refine ku neU ?_
    refine kx (hT rfl) ?_
    refine ku (neT (hT rfl)) ?_
    refine ku neU ?_
    refine ku neU ?_
    refine ku neU ?_
    refine kx (hT rfl) ?_
    refine kv g0 (pkF rfl) ?_
    refine kv g0 (asg) ?_
    refine wk_end ?_
    refine ac_next ?_
    refine aw_ret ?_
    obtain rfl := Option.some.inj H
    exact acr hE [.tmp 2] (.tmp .nil) (.one _) [] 9999
   rw [if_neg c7] at H
   refine kx (hT (decide_eq_false c7)) ?_
   refine kx (hT (decide_eq_false c7)) ?_
   refine kx (hT (decide_eq_false c7)) ?_
   refine kv g0 (pkF (decide_eq_false c7)) ?_
   refine kv g0 (mv) ?_
   refine kx (hT rfl) ?_
   refine kx (hT rfl) ?_
   refine kx (hT rfl) ?_
   refine kv g0 (pkF rfl) ?_
   refine kv g0 (mv) ?_
   refine kx (hT rfl) ?_
   refine kx (hT rfl) ?_
   refine kx (hT rfl) ?_
   refine ku (neT (hT rfl)) ?_
   refine ku neU ?_
   refine ku neU ?_
   refine ku neU ?_
   refine kx (hT rfl) ?_
   refine ku (neT (hT rfl)) ?_
   refine ku neU ?_
   refine ku neU ?_
   refine ku neU ?_
   refine kx (hT rfl) ?_
   refine kv g0 (pkF rfl) ?_
   refine kv g0 (asg) ?_
   refine wk_end ?_
   refine ac_next ?_
   refine aw_ret ?_
   obtain rfl := Option.some.inj H
   exact acr hE [.tmp 2] (.tmp .nil) (.one _) [] 9999
  rw [if_neg c6] at H
  refine kx (hT (bF c6)) ?_
  refine kx (hT (bF c6)) ?_
  refine kx (hT (bF c6)) ?_
  refine kx (hT (bF c6)) ?_
  refine kv g0 (pkF (bF c6)) ?_
  refine kv g0 (mv) ?_
  refine kx (hT rfl) ?_
  refine kx (hT rfl) ?_
  refine kx (hT rfl) ?_
  refine kv g0 (pkF rfl) ?_
  refine kv g0 (mv) ?_
  refine kx (hT rfl) ?_
  refine kx (hT rfl) ?_
  refine kx (hT rfl) ?_
  refine kv g0 (pkF rfl) ?_
  refine kv g0 (mv) ?_
  refine kx (hT rfl) ?_
  refine kx (hT rfl) ?_
  refine kx (hT rfl) ?_
  refine ku (neT (hT rfl)) ?_
  refine ku neU ?_
  refine ku neU ?_
  refine ku neU ?_
  refine kx (hT rfl) ?_
  refine ku (neT (hT rfl)) ?_
  refine ku neU ?_
  refine ku neU ?_
  refine ku neU ?_
  refine kx (hT rfl) ?_
  refine kv g0 (pkF rfl) ?_
  refine kv g0 (asg) ?_
  refine wk_end ?_
  refine ac_next ?_
  refine aw_ret ?_
  obtain rfl := Option.some.inj H
  exact acr hE [.tmp 2] (.tmp .nil) (.one _) [] 9999
 rw [if_neg c3] at H
 refine kx (hT (bF c3)) ?_
 refine kx (hT (bF c3)) ?_
 refine kx (hT (bF c3)) ?_
 refine kv g0 (pkF (bF c3)) ?_
 refine kv g0 (mv) ?_
 refine kx (hT rfl) ?_
 refine kx (hT rfl) ?_
 refine kx (hT rfl) ?_
 refine kx (hT rfl) ?_
 refine kv g0 (pkF rfl) ?_
 refine kv g0 (mv) ?_
 refine kx (hT rfl) ?_
 refine kx (hT rfl) ?_
 refine kx (hT rfl) ?_
 refine kv g0 (pkF rfl) ?_
 refine kv g0 (mv) ?_
 refine kx (hT rfl) ?_
 refine kx (hT rfl) ?_
 refine kx (hT rfl) ?_
 refine kv g0 (pkF rfl) ?_
 refine kv g0 (mv) ?_
 refine kx (hT rfl) ?_
 refine kx (hT rfl) ?_
 refine kx (hT rfl) ?_
 refine ku (neT (hT rfl)) ?_
 refine ku neU ?_
 refine ku neU ?_
 refine ku neU ?_
 refine kx (hT rfl) ?_
 refine ku (neT (hT rfl)) ?_
 refine ku neU ?_
 refine ku neU ?_
 refine ku neU ?_
 refine kx (hT rfl) ?_
 refine kv g0 (pkF rfl) ?_
 refine kv g0 (asg) ?_
 refine wk_end ?_
 refine ac_next ?_
 refine aw_ret ?_
 obtain rfl := Option.some.inj H
 exact acr hE [.tmp 2] (.tmp .nil) (.one _) [] 9999
/-! impl_RingOk -/
def impl_RingOk.l0 : Nat → (List S43) → Int → Int → Int → Int → Int → Option (Bool)
 | 0, _, _, _, _, _, _ => none
 | k19 + 1, l0_0, a0_1, a0_2, a0_3, p17, p18 => if p18 < (l0_0.length : Int) then if 0 ≤ p18 then if ((rd_T43 l0_0 p18).f0) = 1 then impl_RingOk.l0 k19 l0_0 a0_1 a0_2 a0_3 (wrap64 (p17 + 1)) (wrap64 (p18 + 1)) else impl_RingOk.l0 k19 l0_0 a0_1 a0_2 a0_3 (wrap64 (p17 + ((rd_T43 l0_0 p18).f3))) (wrap64 (p18 + 1)) else none else some (decide (p17 ≤ a0_3))
def impl_RingOk.f (k : Nat) (l0_0 : List S43) (a0_1 : Int) (a0_2 : Int) (a0_3 : Int) : Option (Bool) := if (l0_0.length : Int) > 4 then some false else ((impl_areItems.f k l0_0).bind fun t2 => (if t2 = true then ((impl_within.f a0_1 0 5).bind fun t5 => (if t5 = true then ((impl_within.f a0_2 0 1000000000).bind fun t8 => (if t8 = true then ((impl_within.f a0_3 0 1000000000).bind fun t11 => if t11 = true then impl_RingOk.l0 k l0_0 a0_1 a0_2 a0_3 a0_2 0 else some false) else some false)) else some false)) else some false))
theorem impl_RingOk.ok {k : Nat} {l0_0 : List S43} {a0_1 : Int} {a0_2 : Int} {a0_3 : Int} {r : Bool} (H : impl_RingOk.f k l0_0 a0_1 a0_2 a0_3 = some r) : ACalls Try.prog 133 [] [.agg [.sl .o 4 (l0_0.map e43), .lit (.int .i64 a0_1), .lit (.int .i64 a0_2), .lit (.int .i64 a0_3)]] [] (.lit (.bool r)) := by
 refine acalls (fn := Try.f133) (nt := 57) Try.func133 rfl rfl (Nat.le_of_ble_eq_true rfl) fun E hE => ?_
 rw [impl_RingOk.f] at H
 refine aw_grp1 ?_
 refine wk_start ?_
 refine kb g0 (bxA 0) ?_
 refine kv g0 (asg) ?_
 refine wk_end ?_
 refine ac_next ?_
 refine aw_grp1 ?_
 refine aw_grp1 ?_
 refine wk_start ?_
 refine kv g0 (faB 0 0) ?_
 refine kv g0 (ldB) ?_
 refine kv g0 (lnS lenE) ?_
 refine kv g0 (gtr) ?_
 refine kv g0 (mv) ?_
 by_cases c1 : (l0_0.length : Int) > 4
 ·rw [if_pos c1] at H
  refine kx (hF (decide_eq_true c1)) ?_
  refine kx (hF (decide_eq_true c1)) ?_
  refine kx (hF (decide_eq_true c1)) ?_
  refine kx (hF (decide_eq_true c1)) ?_
  refine kv g0 (pkT (decide_eq_true c1)) ?_
  refine kv g0 (mv) ?_
  refine kx (hF rfl) ?_
  refine kx (hF rfl) ?_
  refine kx (hF rfl) ?_
  refine kx (hF rfl) ?_
  refine kv g0 (pkT rfl) ?_
  refine kv g0 (mv) ?_
  refine kx (hF rfl) ?_
  refine kx (hF rfl) ?_
  refine kx (hF rfl) ?_
  refine kx (hF rfl) ?_
  refine kv g0 (pkT rfl) ?_
  refine kv g0 (mv) ?_
  refine kx (hF rfl) ?_
  refine kx (hF rfl) ?_
  refine kx (hF rfl) ?_
  refine kx (hF rfl) ?_
  refine kv g0 (pkT rfl) ?_
  refine wk_end ?_
  refine ac_next ?_
  refine aw_ifT ?_ rfl
  refine aw_grp1 ?_
  refine wk_start ?_
  refine kv g0 (asg) ?_
  refine wk_end ?_
  refine ac_next ?_
  refine aw_ret ?_
  refine ac_thenR ?_
  obtain rfl := Option.some.inj H
  exact acr hE [.tmp 2] (.tmp .nil) (.one _) [] 9999
 rw [if_neg c1] at H
 refine kv (g1 (decide_eq_false c1)) (faB 0 0) ?_
 refine kv (g1 (decide_eq_false c1)) (ldB) ?_
 obtain ⟨t2, A3, H⟩ := of_bind H
 refine kcS0 13 (.lit (.bool t2)) [] (g1 (decide_eq_false c1)) (cal (impl_areItems.ok A3) [] 9999 .n (hf := Try.func129)) rfl rfl ?_
 refine kv (g1 (decide_eq_false c1)) (not_) ?_
 refine kv g0 (pkF (decide_eq_false c1)) ?_
 refine kv g0 (mv) ?_
 by_cases c4 : t2 = true
 ·rw [if_pos c4] at H
  refine kv (g1 (nF c4)) (faB 1 1) ?_
  refine kv (g1 (nF c4)) (ldB) ?_
  obtain ⟨t5, A6, H⟩ := of_bind H
  refine kcS0 19 (.lit (.bool t5)) [] (g1 (nF c4)) (cal (impl_within.ok A6) [] 9999 .n (hf := Try.func88)) rfl rfl ?_
  refine kv (g1 (nF c4)) (not_) ?_
  refine kv g0 (pkF (nF c4)) ?_
  refine kv g0 (mv) ?_
  by_cases c7 : t5 = true
  ·rw [if_pos c7] at H
   refine kv (g1 (nF c7)) (faB 2 2) ?_
   refine kv (g1 (nF c7)) (ldB) ?_
   obtain ⟨t8, A9, H⟩ := of_bind H
   refine kcS0 25 (.lit (.bool t8)) [] (g1 (nF c7)) (cal (impl_within.ok A9) [] 9999 .n (hf := Try.func88)) rfl rfl ?_
   refine kv (g1 (nF c7)) (not_) ?_
   refine kv g0 (pkF (nF c7)) ?_
   refine kv g0 (mv) ?_
   by_cases c10 : t8 = true
   ·rw [if_pos c10] at H
    refine kv (g1 (nF c10)) (faB 3 3) ?_
    refine kv (g1 (nF c10)) (ldB) ?_
    obtain ⟨t11, A12, H⟩ := of_bind H
    refine kcS0 31 (.lit (.bool t11)) [] (g1 (nF c10)) (cal (impl_within.ok A12) [] 9999 .n (hf := Try.func88)) rfl rfl ?_
    refine kv (g1 (nF c10)) (not_) ?_
    refine kv g0 (pkF (nF c10)) ?_
    refine wk_end ?_
    refine ac_next ?_
    by_cases c13 : t11 = true
    ·rw [if_pos c13] at H
     refine aw_ifF ?_ (nF c13)
     refine aw_skip ?_
     refine ac_next ?_
     refine aw_grp1 ?_
     refine wk_start ?_
     refine kv g0 (faB 2 2) ?_
     refine kv g0 (ldB) ?_
     refine kv g0 (asg) ?_
     refine wk_end ?_
     refine ac_next ?_
     refine aw_grp1 ?_
     refine aw_grp1 ?_
     refine wk_start ?_
     refine kv g0 (faB 0 0) ?_
     refine kv g0 (ldB) ?_
     refine kv g0 (lnS lenE) ?_
     refine kv g0 (mv) ?_
     refine wk_end ?_
     refine ac_next ?_
     refine aw_block ?_
     refine aw_loop2 (fun (k_ : Nat) (p17 : Int) (p18 : Int) => k_ ≤ k ∧ impl_RingOk.l0 k_ l0_0 a0_1 a0_2 a0_3 p17 p18 = some r) (fun (p17 : Int) (p18 : Int) => ⟨[(1, .box 0 0), (3, .lit (.int .i64 p17)), (37, .sl .o 4 (l0_0.map e43)), (38, .lit (.int .i64 (l0_0.length : Int))), (39, .lit (.int .i64 p18))], [(0, .box 88 [.sl .o 4 (l0_0.map e43), .lit (.int .i64 a0_1), .lit (.int .i64 a0_2), .lit (.int .i64 a0_3)])]⟩) k a0_2 0 ⟨Nat.le_refl _, H⟩ (fun K_ h_ => acw hE [(0, 0)] 9999 h_) (fun _ _ => by intro h_; have h_ := h_.2; rw [impl_RingOk.l0.eq_1] at h_; cases h_) ?_
     intro k19 p17 p18 hq_ K23 hK24
     have hk19 := hq_.1
     have H := hq_.2
     clear hq_
     rw [impl_RingOk.l0.eq_2] at H
     refine aw_grp1 ?_
     refine wk_start ?_
     refine kv g0 (lss) ?_
     refine wk_end ?_
     refine ac_next ?_
     refine aw_grp1 ?_
     by_cases c20 : p18 < (l0_0.length : Int)
     ·rw [if_pos c20] at H
      refine aw_ifT ?_ (decide_eq_true c20)
      refine aw_skip ?_
      refine ac_next ?_
      refine aw_grp1 ?_
      refine aw_block ?_
      refine aw_grp1 ?_
      refine wk_start ?_
      obtain ⟨c21, H⟩ := of_if H
      refine kv g0 (ixS 43 (e43 (rd_T43 l0_0 p18)) c21 (getE (z := z43) c21 c20)) ?_
      refine kv g0 (ldRA 4 [.lit (.int .i64 ((rd_T43 l0_0 p18).f0)), .lit (.int .i64 ((rd_T43 l0_0 p18).f1)), .lit (.int .i64 ((rd_T43 l0_0 p18).f2)), .lit (.int .i64 ((rd_T43 l0_0 p18).f3))]) ?_
      refine kb g0 (alc 1 [.int .i64 0, .int .i64 0, .int .i64 0, .int .i64 0] [.lit (.int .i64 0), .lit (.int .i64 0), .lit (.int .i64 0), .lit (.int .i64 0)]) ?_
      refine ks g0 (stB 4 [.lit (.int .i64 ((rd_T43 l0_0 p18).f0)), .lit (.int .i64 ((rd_T43 l0_0 p18).f1)), .lit (.int .i64 ((rd_T43 l0_0 p18).f2)), .lit (.int .i64 ((rd_T43 l0_0 p18).f3))]) ?_
      refine wk_end ?_
      refine ac_next ?_
      refine aw_grp1 ?_
      refine wk_start ?_
      refine kv g0 (faB 0 0) ?_
      refine kv g0 (ldB) ?_
      refine kv g0 (eql) ?_
      refine wk_end ?_
      refine ac_next ?_
      by_cases c22 : ((rd_T43 l0_0 p18).f0) = 1
      ·rw [if_pos c22] at H
       refine aw_ifT ?_ (eT c22)
       refine wk_start ?_
       refine kv g0 (mv) ?_
       refine kv g0 (add6) ?_
       refine kv g0 (asg) ?_
       refine wk_end ?_
       refine ac_blkN ?_
       refine ac_next ?_
       refine wk_start ?_
       refine kv g0 (add6) ?_
       refine kv g0 (mv) ?_
       refine wk_end ?_
       refine ac_k ?_
       exact acw hE [(0, 0)] 9999 (hK24 k19 (wrap64 (p17 + 1)) (wrap64 (p18 + 1)) (Nat.le_refl _) ⟨by omega, H⟩)
      rw [if_neg c22] at H
      refine aw_ifF ?_ (eF c22)
      refine wk_start ?_
      refine kv g0 (mv) ?_
      refine kv g0 (faB 3 3) ?_
      refine kv g0 (ldB) ?_
      refine kv g0 (add6) ?_
      refine kv g0 (asg) ?_
      refine wk_end ?_
      refine ac_blkN ?_
      refine ac_next ?_
      refine wk_start ?_
      refine kv g0 (add6) ?_
      refine kv g0 (mv) ?_
      refine wk_end ?_
      refine ac_k ?_
      exact acw hE [(0, 0)] 9999 (hK24 k19 (wrap64 (p17 + ((rd_T43 l0_0 p18).f3))) (wrap64 (p18 + 1)) (Nat.le_refl _) ⟨by omega, H⟩)
     rw [if_neg c20] at H
     refine aw_ifF ?_ (decide_eq_false c20)
     refine aw_exit ?_
     refine ac_then ?_
     refine ac_then ?_
     refine ac_hit rfl ?_
     refine ac_next ?_
     refine aw_grp1 ?_
     refine wk_start ?_
     refine kv g0 (mv) ?_
     refine kv g0 (faB 3 3) ?_
     refine kv g0 (ldB) ?_
     refine kv g0 (leq) ?_
     refine kv g0 (asg) ?_
     refine wk_end ?_
     refine ac_next ?_
     refine aw_ret ?_
     obtain rfl := Option.some.inj H
     exact acr hE [.tmp 2] (.tmp .nil) (.one _) [] 9999
    rw [if_neg c13] at H
    refine aw_ifT ?_ (nT (bF c13))
    refine aw_grp1 ?_
    refine wk_start ?_
    refine kv g0 (asg) ?_
    refine wk_end ?_
    refine ac_next ?_
    refine aw_ret ?_
    refine ac_thenR ?_
    obtain rfl := Option.some.inj H
    exact acr hE [.tmp 2] (.tmp .nil) (.one _) [] 9999
   rw [if_neg c10] at H
   refine kx (hF (nT (bF c10))) ?_
   refine kx (hF (nT (bF c10))) ?_
   refine kx (hF (nT (bF c10))) ?_
   refine kx (hF (nT (bF c10))) ?_
   refine kv g0 (pkT (nT (bF c10))) ?_
   refine wk_end ?_
   refine ac_next ?_
   refine aw_ifT ?_ rfl
   refine aw_grp1 ?_
   refine wk_start ?_
   refine kv g0 (asg) ?_
   refine wk_end ?_
   refine ac_next ?_
   refine aw_ret ?_
   refine ac_thenR ?_
   obtain rfl := Option.some.inj H
   exact acr hE [.tmp 2] (.tmp .nil) (.one _) [] 9999
  rw [if_neg c7] at H
  refine kx (hF (nT (bF c7))) ?_
  refine kx (hF (nT (bF c7))) ?_
  refine kx (hF (nT (bF c7))) ?_
  refine kx (hF (nT (bF c7))) ?_
  refine kv g0 (pkT (nT (bF c7))) ?_
  refine kv g0 (mv) ?_
  refine kx (hF rfl) ?_
  refine kx (hF rfl) ?_
  refine kx (hF rfl) ?_
  refine kx (hF rfl) ?_
  refine kv g0 (pkT rfl) ?_
  refine wk_end ?_
  refine ac_next ?_
  refine aw_ifT ?_ rfl
  refine aw_grp1 ?_
  refine wk_start ?_
  refine kv g0 (asg) ?_
  refine wk_end ?_
  refine ac_next ?_
  refine aw_ret ?_
  refine ac_thenR ?_
  obtain rfl := Option.some.inj H
  exact acr hE [.tmp 2] (.tmp .nil) (.one _) [] 9999
 rw [if_neg c4] at H
 refine kx (hF (nT (bF c4))) ?_
 refine kx (hF (nT (bF c4))) ?_
 refine kx (hF (nT (bF c4))) ?_
 refine kx (hF (nT (bF c4))) ?_
 refine kv g0 (pkT (nT (bF c4))) ?_
 refine kv g0 (mv) ?_
 refine kx (hF rfl) ?_
 refine kx (hF rfl) ?_
 refine kx (hF rfl) ?_
 refine kx (hF rfl) ?_
 refine kv g0 (pkT rfl) ?_
 refine kv g0 (mv) ?_
 refine kx (hF rfl) ?_
 refine kx (hF rfl) ?_
 refine kx (hF rfl) ?_
 refine kx (hF rfl) ?_
 refine kv g0 (pkT rfl) ?_
 refine wk_end ?_
 refine ac_next ?_
 refine aw_ifT ?_ rfl
 refine aw_grp1 ?_
 refine wk_start ?_
 refine kv g0 (asg) ?_
 refine wk_end ?_
 refine ac_next ?_
 refine aw_ret ?_
 refine ac_thenR ?_
 obtain rfl := Option.some.inj H
 exact acr hE [.tmp 2] (.tmp .nil) (.one _) [] 9999
/-! impl_copySender -/
def impl_copySender.f (a0_0 : Int) (a0_1 : Int) (l0_2 : List S43) (a0_3 : Int) (a0_4 : Int) : Option (Int × Int × (List S43) × Int × Int) := (impl_copyItems.f l0_2).bind fun t1 => some (a0_0, a0_1, t1, a0_3, a0_4)
theorem impl_copySender.ok {a0_0 : Int} {a0_1 : Int} {l0_2 : List S43} {a0_3 : Int} {a0_4 : Int} {r : Int × Int × (List S43) × Int × Int} (H : impl_copySender.f a0_0 a0_1 l0_2 a0_3 a0_4 = some r) : ACalls Try.prog 127 [] [.agg [.lit (.int .i64 a0_0), .lit (.int .i64 a0_1), .sl .o 4 (l0_2.map e43), .lit (.int .i64 a0_3), .lit (.int .i64 a0_4)]] [(0, .row 43 4 (r.2.2.1.map e43))] (.agg [.lit (.int .i64 r.1), .lit (.int .i64 r.2.1), .row 0, .lit (.int .i64 r.2.2.2.1), .lit (.int .i64 r.2.2.2.2)]) := by
 refine acalls (fn := Try.f127) (nt := 8) Try.func127 rfl rfl (Nat.le_of_ble_eq_true rfl) fun E hE => ?_
 rw [impl_copySender.f] at H
 refine aw_grp1 ?_
 refine wk_start ?_
 refine kb g0 (bxA 0) ?_
 refine kb g0 (alc 1 [.int .i64 0, .int .i64 0, .slice none 0 0, .int .i64 0, .int .i64 0] [.lit (.int .i64 0), .lit (.int .i64 0), .lit (.slice none 0 0), .lit (.int .i64 0), .lit (.int .i64 0)]) ?_
 refine wk_end ?_
 refine ac_next ?_
 refine aw_grp1 ?_
 refine wk_start ?_
 refine kv g0 (faB 2 2) ?_
 refine kv g0 (ldB) ?_
 obtain ⟨t1, A2, H⟩ := of_bind H
 refine kcS1 5 (.row 2) [(2, .row 43 4 (t1.map e43))] g0 (cal (impl_copyItems.ok A2) [2] 9999 .n (hf := Try.func128)) rfl rfl ?_
 refine kv g0 (faB 2 2) ?_
 refine ks g0 (stB 1 [.lit (.int .i64 a0_0), .lit (.int .i64 a0_1), .row 2, .lit (.int .i64 a0_3), .lit (.int .i64 a0_4)]) ?_
 refine wk_end ?_
 refine ac_next ?_
 refine aw_grp1 ?_
 refine wk_start ?_
 refine kv g0 (ldBA 5 [.lit (.int .i64 a0_0), .lit (.int .i64 a0_1), .row 2, .lit (.int .i64 a0_3), .lit (.int .i64 a0_4)]) ?_
 refine ks g0 (stB 5 [.lit (.int .i64 a0_0), .lit (.int .i64 a0_1), .row 2, .lit (.int .i64 a0_3), .lit (.int .i64 a0_4)]) ?_
 refine wk_end ?_
 refine ac_next ?_
 refine aw_ret ?_
 obtain rfl := Option.some.inj H
 exact acr hE [.cell 2 78] (rcA 5 .nil) (.one _) [(0, 2)] 9999
/-! impl_Taken -/
def impl_Taken.j0 : Nat → Int → Int → (List S43) → Int → Int → (List S43) → Int → Int → Int → Int → ((List S43) × Int × Int × Int × Int × Int × Int × Int × Bool) → Bool → Option (Int × Int × (List S43) × Int × Int × (List S43) × Int × Int × Int × Bool)
 | 0, _, _, _, _, _, _, _, _, _, _, _, _ => none
 | k14 + 1, a0_0, a0_1, l0_2, a0_3, a0_4, l1_0, a1_1, a1_2, a1_3, a2, t1, p13 => if p13 = true then ((impl_copySender.f a0_0 a0_1 l0_2 a0_3 a0_4).bind fun t16 => ((impl_copyRing.f l1_0 a1_1 a1_2 a1_3).bind fun t18 => some (t16.1, t16.2.1, t16.2.2.1, t16.2.2.2.1, t16.2.2.2.2, t18.1, t18.2.1, t18.2.2.1, t18.2.2.2, false))) else (impl_copySender.f a0_0 a0_1 l0_2 a0_3 a0_4).bind fun t21 => if t21.2.2.1.length + ([(⟨t1.2.2.2.2.1, t1.2.2.2.2.2.1, t1.2.2.2.2.2.2.1, t1.2.2.2.2.2.2.2.1⟩ : S43)] : List S43).length < 4398046511104 then some (t21.1, t21.2.1, t21.2.2.1 ++ ([(⟨t1.2.2.2.2.1, t1.2.2.2.2.2.1, t1.2.2.2.2.2.2.1, t1.2.2.2.2.2.2.2.1⟩ : S43)] : List S43), a2, 1, t1.1, t1.2.1, t1.2.2.1, t1.2.2.2.1, true) else none
def impl_Taken.f (k : Nat) (a0_0 : Int) (a0_1 : Int) (l0_2 : List S43) (a0_3 : Int) (a0_4 : Int) (l1_0 : List S43) (a1_1 : Int) (a1_2 : Int) (a1_3 : Int) (a2 : Int) : Option (Int × Int × (List S43) × Int × Int × (List S43) × Int × Int × Int × Bool) := (impl_Drained.f l1_0 a1_1 a1_2 a1_3).bind fun t1 => (impl_SenderOk.f k a0_0 a0_1 l0_2 a0_3 a0_4).bind fun t3 => (if t3 = true then ((impl_RingOk.f k l1_0 a1_1 a1_2 a1_3).bind fun t6 => (if t6 = true then (if (l0_2.length : Int) = 3 then impl_Taken.j0 k a0_0 a0_1 l0_2 a0_3 a0_4 l1_0 a1_1 a1_2 a1_3 a2 t1 true else (if t1.2.2.2.2.2.2.2.2 = true then ((impl_within.f a2 0 1000000000).bind fun t11 => impl_Taken.j0 k a0_0 a0_1 l0_2 a0_3 a0_4 l1_0 a1_1 a1_2 a1_3 a2 t1 (!t11)) else impl_Taken.j0 k a0_0 a0_1 l0_2 a0_3 a0_4 l1_0 a1_1 a1_2 a1_3 a2 t1 true)) else impl_Taken.j0 k a0_0 a0_1 l0_2 a0_3 a0_4 l1_0 a1_1 a1_2 a1_3 a2 t1 true)) else impl_Taken.j0 k a0_0 a0_1 l0_2 a0_3 a0_4 l1_0 a1_1 a1_2 a1_3 a2 t1 true)
theorem impl_Taken.ok {k : Nat} {a0_0 : Int} {a0_1 : Int} {l0_2 : List S43} {a0_3 : Int} {a0_4 : Int} {l1_0 : List S43} {a1_1 : Int} {a1_2 : Int} {a1_3 : Int} {a2 : Int} {r : Int × Int × (List S43) × Int × Int × (List S43) × Int × Int × Int × Bool} (H : impl_Taken.f k a0_0 a0_1 l0_2 a0_3 a0_4 l1_0 a1_1 a1_2 a1_3 a2 = some r) : ACalls Try.prog 48 [] [.agg [.lit (.int .i64 a0_0), .lit (.int .i64 a0_1), .sl .o 4 (l0_2.map e43), .lit (.int .i64 a0_3), .lit (.int .i64 a0_4)], .agg [.sl .o 4 (l1_0.map e43), .lit (.int .i64 a1_1), .lit (.int .i64 a1_2), .lit (.int .i64 a1_3)], .lit (.int .i64 a2)] [(0, .row 43 4 (r.2.2.1.map e43)), (1, .row 43 4 (r.2.2.2.2.2.1.map e43))] (.tup [.agg [.lit (.int .i64 r.1), .lit (.int .i64 r.2.1), .row 0, .lit (.int .i64 r.2.2.2.1), .lit (.int .i64 r.2.2.2.2.1)], .agg [.row 1, .lit (.int .i64 r.2.2.2.2.2.2.1), .lit (.int .i64 r.2.2.2.2.2.2.2.1), .lit (.int .i64 r.2.2.2.2.2.2.2.2.1)], .lit (.bool r.2.2.2.2.2.2.2.2.2)]) := by
 refine acalls (fn := Try.f48) (nt := 59) Try.func48 rfl rfl (Nat.le_of_ble_eq_true rfl) fun E hE => ?_
 rw [impl_Taken.f] at H
 refine aw_grp1 ?_
 refine wk_start ?_
 refine kb g0 (bxA 0) ?_
 refine kb g0 (bxA 1) ?_
 refine kb g0 (alc 2 [.int .i64 0, .int .i64 0, .slice none 0 0, .int .i64 0, .int .i64 0] [.lit (.int .i64 0), .lit (.int .i64 0), .lit (.slice none 0 0), .lit (.int .i64 0), .lit (.int .i64 0)]) ?_
 refine kb g0 (alc 3 [.slice none 0 0, .int .i64 0, .int .i64 0, .int .i64 0] [.lit (.slice none 0 0), .lit (.int .i64 0), .lit (.int .i64 0), .lit (.int .i64 0)]) ?_
 refine kv g0 (asg) ?_
 refine wk_end ?_
 refine ac_next ?_
 refine aw_grp1 ?_
 refine wk_start ?_
 refine kv g0 (ldBA 4 [.sl .o 4 (l1_0.map e43), .lit (.int .i64 a1_1), .lit (.int .i64 a1_2), .lit (.int .i64 a1_3)]) ?_
 obtain ⟨t1, A2, H⟩ := of_bind H
 refine kcS1 15 (.tup [.agg [.row 4, .lit (.int .i64 t1.2.1), .lit (.int .i64 t1.2.2.1), .lit (.int .i64 t1.2.2.2.1)], .agg [.lit (.int .i64 t1.2.2.2.2.1), .lit (.int .i64 t1.2.2.2.2.2.1), .lit (.int .i64 t1.2.2.2.2.2.2.1), .lit (.int .i64 t1.2.2.2.2.2.2.2.1)], .lit (.bool t1.2.2.2.2.2.2.2.2)]) [(4, .row 43 4 (t1.1.map e43))] g0 (cal (impl_Drained.ok A2) [4] 9999 .n (hf := Try.func132)) rfl rfl ?_
 refine kv g0 (mv) ?_
 refine kv g0 (ext) ?_
 refine kv g0 (ext) ?_
 refine kv g0 (ext) ?_
 refine kb g0 (alc 5 [.slice none 0 0, .int .i64 0, .int .i64 0, .int .i64 0] [.lit (.slice none 0 0), .lit (.int .i64 0), .lit (.int .i64 0), .lit (.int .i64 0)]) ?_
 refine kb g0 (alc 6 [.int .i64 0, .int .i64 0, .int .i64 0, .int .i64 0] [.lit (.int .i64 0), .lit (.int .i64 0), .lit (.int .i64 0), .lit (.int .i64 0)]) ?_
 refine ks g0 (stB 4 [.row 4, .lit (.int .i64 t1.2.1), .lit (.int .i64 t1.2.2.1), .lit (.int .i64 t1.2.2.2.1)]) ?_
 refine ks g0 (stB 4 [.lit (.int .i64 t1.2.2.2.2.1), .lit (.int .i64 t1.2.2.2.2.2.1), .lit (.int .i64 t1.2.2.2.2.2.2.1), .lit (.int .i64 t1.2.2.2.2.2.2.2.1)]) ?_
 refine kv g0 (asg) ?_
 refine wk_end ?_
 refine ac_next ?_
 refine aw_grp1 ?_
 refine aw_cut1 (J := fun K_ => ∀ (k_ : Nat) (p13 : Bool), k_ ≤ k → impl_Taken.j0 k_ a0_0 a0_1 l0_2 a0_3 a0_4 l1_0 a1_1 a1_2 a1_3 a2 t1 p13 = some r → ACont E 59 ⟨[(2, .lit (.int .i64 a2)), (3, .box 0 0), (4, .box 1 0), (6, .box 2 0), (7, .box 3 0), (9, .box 5 0), (10, .box 6 0), (41, .lit (.bool p13))], [(0, .box 78 [.lit (.int .i64 a0_0), .lit (.int .i64 a0_1), .sl .o 4 (l0_2.map e43), .lit (.int .i64 a0_3), .lit (.int .i64 a0_4)]), (1, .box 88 [.sl .o 4 (l1_0.map e43), .lit (.int .i64 a1_1), .lit (.int .i64 a1_2), .lit (.int .i64 a1_3)]), (2, .box 78 [.lit (.int .i64 0), .lit (.int .i64 0), .lit (.slice none 0 0), .lit (.int .i64 0), .lit (.int .i64 0)]), (3, .box 88 [.lit (.slice none 0 0), .lit (.int .i64 0), .lit (.int .i64 0), .lit (.int .i64 0)]), (4, .row 43 4 (t1.1.map e43)), (5, .box 88 [.row 4, .lit (.int .i64 t1.2.1), .lit (.int .i64 t1.2.2.1), .lit (.int .i64 t1.2.2.2.1)]), (6, .box 43 [.lit (.int .i64 t1.2.2.2.2.1), .lit (.int .i64 t1.2.2.2.2.2.1), .lit (.int .i64 t1.2.2.2.2.2.2.1), .lit (.int .i64 t1.2.2.2.2.2.2.2.1)])]⟩ K_) ?_ ?_
 ·intro K_ hJ20
  refine wk_start ?_
  refine kv g0 (ldBA 5 [.lit (.int .i64 a0_0), .lit (.int .i64 a0_1), .sl .o 4 (l0_2.map e43), .lit (.int .i64 a0_3), .lit (.int .i64 a0_4)]) ?_
  obtain ⟨t3, A4, H⟩ := of_bind H
  refine kcS0 20 (.lit (.bool t3)) [] g0 (cal (impl_SenderOk.ok A4) [] 9999 .n (hf := Try.func46)) rfl rfl ?_
  refine kv g0 (not_) ?_
  refine kv g0 (mv) ?_
  by_cases c5 : t3 = true
  ·rw [if_pos c5] at H
   refine kv (g1 (nF c5)) (ldBA 4 [.sl .o 4 (l1_0.map e43), .lit (.int .i64 a1_1), .lit (.int .i64 a1_2), .lit (.int .i64 a1_3)]) ?_
   obtain ⟨t6, A7, H⟩ := of_bind H
   refine kcS0 24 (.lit (.bool t6)) [] (g1 (nF c5)) (cal (impl_RingOk.ok A7) [] 9999 .n (hf := Try.func133)) rfl rfl ?_
   refine kv (g1 (nF c5)) (not_) ?_
   refine kv g0 (pkF (nF c5)) ?_
   refine kv g0 (mv) ?_
   by_cases c8 : t6 = true
   ·rw [if_pos c8] at H
    refine kv (g1 (nF c8)) (faB 2 2) ?_
    refine kv (g1 (nF c8)) (ldB) ?_
    refine kv (g1 (nF c8)) (lnS lenE) ?_
    refine kv (g1 (nF c8)) (eql) ?_
    refine kv g0 (pkF (nF c8)) ?_
    refine kv g0 (mv) ?_
    by_cases c9 : (l0_2.length : Int) = 3
    ·rw [if_pos c9] at H
     refine kx (hF (eT c9)) ?_
     refine kx (hF (eT c9)) ?_
     refine kv g0 (pkT (eT c9)) ?_
     refine kv g0 (mv) ?_
     refine kx (hF rfl) ?_
     refine kx (hF rfl) ?_
     refine kx (hF rfl) ?_
     refine kv g0 (pkT rfl) ?_
     refine wk_end ?_
     refine ac_k ?_
     exact acw hE [(0, 0), (1, 1), (2, 2), (3, 3), (4, 4), (5, 5), (6, 6)] 9999 (hJ20 k true (Nat.le_refl _) H)
    rw [if_neg c9] at H
    refine kv (g1 (eF c9)) (mv) ?_
    refine kv (g1 (eF c9)) (not_) ?_
    refine kv g0 (pkF (eF c9)) ?_
    refine kv g0 (mv) ?_
    by_cases c10 : t1.2.2.2.2.2.2.2.2 = true
    ·rw [if_pos c10] at H
     refine kv (g1 (nF c10)) (mv) ?_
     obtain ⟨t11, A12, H⟩ := of_bind H
     refine kcS0 39 (.lit (.bool t11)) [] (g1 (nF c10)) (cal (impl_within.ok A12) [] 9999 .n (hf := Try.func88)) rfl rfl ?_
     refine kv (g1 (nF c10)) (not_) ?_
     refine kv g0 (pkF (nF c10)) ?_
     refine wk_end ?_
     refine ac_k ?_
     exact acw hE [(0, 0), (1, 1), (2, 2), (3, 3), (4, 4), (5, 5), (6, 6)] 9999 (hJ20 k (!t11) (Nat.le_refl _) H)
    rw [if_neg c10] at H
    refine kx (hF (nT (bF c10))) ?_
    refine kx (hF (nT (bF c10))) ?_
    refine kx (hF (nT (bF c10))) ?_
    refine kv g0 (pkT (nT (bF c10))) ?_
    refine wk_end ?_
    refine ac_k ?_
    exact acw hE [(0, 0), (1, 1), (2, 2), (3, 3), (4, 4), (5, 5), (6, 6)] 9999 (hJ20 k true (Nat.le_refl _) H)
   rw [if_neg c8] at H
   refine kx (hF (nT (bF c8))) ?_
   refine kx (hF (nT (bF c8))) ?_
   refine kx (hF (nT (bF c8))) ?_
   refine kx (hF (nT (bF c8))) ?_
   refine kv g0 (pkT (nT (bF c8))) ?_
   refine kv g0 (mv) ?_
   refine kx (hF rfl) ?_
   refine kx (hF rfl) ?_
   refine kv g0 (pkT rfl) ?_
   refine kv g0 (mv) ?_
   refine kx (hF rfl) ?_
   refine kx (hF rfl) ?_
   refine kx (hF rfl) ?_
   refine kv g0 (pkT rfl) ?_
   refine wk_end ?_
   refine ac_k ?_
   exact acw hE [(0, 0), (1, 1), (2, 2), (3, 3), (4, 4), (5, 5), (6, 6)] 9999 (hJ20 k true (Nat.le_refl _) H)
  rw [if_neg c5] at H
  refine kx (hF (nT (bF c5))) ?_
  refine kx (hF (nT (bF c5))) ?_
  refine kx (hF (nT (bF c5))) ?_
  refine kv g0 (pkT (nT (bF c5))) ?_
  refine kv g0 (mv) ?_
  refine kx (hF rfl) ?_
  refine kx (hF rfl) ?_
  refine kx (hF rfl) ?_
  refine kx (hF rfl) ?_
  refine kv g0 (pkT rfl) ?_
  refine kv g0 (mv) ?_
  refine kx (hF rfl) ?_
  refine kx (hF rfl) ?_
  refine kv g0 (pkT rfl) ?_
  refine kv g0 (mv) ?_
  refine kx (hF rfl) ?_
  refine kx (hF rfl) ?_
  refine kx (hF rfl) ?_
  refine kv g0 (pkT rfl) ?_
  refine wk_end ?_
  refine ac_k ?_
  exact acw hE [(0, 0), (1, 1), (2, 2), (3, 3), (4, 4), (5, 5), (6, 6)] 9999 (hJ20 k true (Nat.le_refl _) H)
 intro k_ p13 hk_ H
 rcases k_ with _ | k14
 ·rw [impl_Taken.j0.eq_1] at H; cases H
 have hk14 : k14 ≤ k := by omega
 clear hk_
 rw [impl_Taken.j0.eq_2] at H
 by_cases c15 : p13 = true
 ·rw [if_pos c15] at H
  refine aw_ifT ?_ c15
  refine aw_grp1 ?_
  refine wk_start ?_
  refine kv g0 (ldBA 5 [.lit (.int .i64 a0_0), .lit (.int .i64 a0_1), .sl .o 4 (l0_2.map e43), .lit (.int .i64 a0_3), .lit (.int .i64 a0_4)]) ?_
  obtain ⟨t16, A17, H⟩ := of_bind H
  refine kcS1 43 (.agg [.lit (.int .i64 t16.1), .lit (.int .i64 t16.2.1), .row 7, .lit (.int .i64 t16.2.2.2.1), .lit (.int .i64 t16.2.2.2.2)]) [(7, .row 43 4 (t16.2.2.1.map e43))] g0 (cal (impl_copySender.ok A17) [7] 9999 .n (hf := Try.func127)) rfl rfl ?_
  refine kv g0 (ldBA 4 [.sl .o 4 (l1_0.map e43), .lit (.int .i64 a1_1), .lit (.int .i64 a1_2), .lit (.int .i64 a1_3)]) ?_
  obtain ⟨t18, A19, H⟩ := of_bind H
  refine kcS1 45 (.agg [.row 8, .lit (.int .i64 t18.2.1), .lit (.int .i64 t18.2.2.1), .lit (.int .i64 t18.2.2.2)]) [(8, .row 43 4 (t18.1.map e43))] g0 (cal (impl_copyRing.ok A19) [8] 9999 .n (hf := Try.func134)) rfl rfl ?_
  refine ks g0 (stB 5 [.lit (.int .i64 t16.1), .lit (.int .i64 t16.2.1), .row 7, .lit (.int .i64 t16.2.2.2.1), .lit (.int .i64 t16.2.2.2.2)]) ?_
  refine ks g0 (stB 4 [.row 8, .lit (.int .i64 t18.2.1), .lit (.int .i64 t18.2.2.1), .lit (.int .i64 t18.2.2.2)]) ?_
  refine kv g0 (asg) ?_
  refine wk_end_draw hM (by kernel_rfl) ?_
  refine ac_next ?_
  refine aw_ret ?_
  refine ac_thenR ?_
  obtain rfl := Option.some.inj H
  exact acr hE [.cell 6 78, .cell 7 88, .tmp 8] (rcA 5 (rcA 4 (.tmp .nil))) (.many _ _ _) [(0, 7), (1, 8)] 9999
 rw [if_neg c15] at H
 refine aw_ifF ?_ (bF c15)
 refine aw_skip ?_
 refine ac_next ?_
 refine aw_grp1 ?_
 refine wk_start ?_
 refine kv g0 (ldBA 5 [.lit (.int .i64 a0_0), .lit (.int .i64 a0_1), .sl .o 4 (l0_2.map e43), .lit (.int .i64 a0_3), .lit (.int .i64 a0_4)]) ?_
 obtain ⟨t21, A22, H⟩ := of_bind H
 refine kcS1 47 (.agg [.lit (.int .i64 t21.1), .lit (.int .i64 t21.2.1), .row 9, .lit (.int .i64 t21.2.2.2.1), .lit (.int .i64 t21.2.2.2.2)]) [(9, .row 43 4 (t21.2.2.1.map e43))] g0 (cal (impl_copySender.ok A22) [9] 9999 .n (hf := Try.func127)) rfl rfl ?_
 refine kb g0 (alc 10 [.int .i64 0, .int .i64 0, .slice none 0 0, .int .i64 0, .int .i64 0] [.lit (.int .i64 0), .lit (.int .i64 0), .lit (.slice none 0 0), .lit (.int .i64 0), .lit (.int .i64 0)]) ?_
 refine ks g0 (stB 5 [.lit (.int .i64 t21.1), .lit (.int .i64 t21.2.1), .row 9, .lit (.int .i64 t21.2.2.2.1), .lit (.int .i64 t21.2.2.2.2)]) ?_
 refine wk_end ?_
 refine ac_next ?_
 refine aw_grp1 ?_
 refine wk_start ?_
 refine kv g0 (faB 2 2) ?_
 refine kv g0 (ldB) ?_
 refine kv g0 (ldBA 4 [.lit (.int .i64 t1.2.2.2.2.1), .lit (.int .i64 t1.2.2.2.2.2.1), .lit (.int .i64 t1.2.2.2.2.2.2.1), .lit (.int .i64 t1.2.2.2.2.2.2.2.1)]) ?_
 refine kb g0 (bsl 11 43 4 [.int .i64 0, .int .i64 0, .int .i64 0, .int .i64 0] (([(⟨t1.2.2.2.2.1, t1.2.2.2.2.2.1, t1.2.2.2.2.2.2.1, t1.2.2.2.2.2.2.2.1⟩ : S43)] : List S43).map e43)) ?_
 obtain ⟨c23, H⟩ := of_if H
 refine kc g0 (apR 12 43 4 32 [.int .i64 0, .int .i64 0, .int .i64 0, .int .i64 0] ((t21.2.2.1 ++ ([(⟨t1.2.2.2.2.1, t1.2.2.2.2.2.1, t1.2.2.2.2.2.2.1, t1.2.2.2.2.2.2.2.1⟩ : S43)] : List S43)).map e43) (.row rfl) (apb c23 rfl) appE) ?_
 refine kv g0 (faB 2 2) ?_
 refine ks g0 (stB 1 [.lit (.int .i64 t21.1), .lit (.int .i64 t21.2.1), .row 12, .lit (.int .i64 t21.2.2.2.1), .lit (.int .i64 t21.2.2.2.2)]) ?_
 refine wk_end ?_
 refine ac_next ?_
 refine aw_grp1 ?_
 refine wk_start ?_
 refine kv g0 (mv) ?_
 refine kv g0 (faB 3 3) ?_
 refine ks g0 (stB 1 [.lit (.int .i64 t21.1), .lit (.int .i64 t21.2.1), .row 12, .lit (.int .i64 a2), .lit (.int .i64 t21.2.2.2.2)]) ?_
 refine wk_end ?_
 refine ac_next ?_
 refine aw_grp1 ?_
 refine wk_start ?_
 refine kv g0 (faB 4 4) ?_
 refine ks g0 (stB 1 [.lit (.int .i64 t21.1), .lit (.int .i64 t21.2.1), .row 12, .lit (.int .i64 a2), .lit (.int .i64 1)]) ?_
 refine wk_end ?_
 refine ac_next ?_
 refine aw_grp1 ?_
 refine wk_start ?_
 refine kv g0 (ldBA 5 [.lit (.int .i64 t21.1), .lit (.int .i64 t21.2.1), .row 12, .lit (.int .i64 a2), .lit (.int .i64 1)]) ?_
 refine kv g0 (ldBA 4 [.row 4, .lit (.int .i64 t1.2.1), .lit (.int .i64 t1.2.2.1), .lit (.int .i64 t1.2.2.2.1)]) ?_
 refine ks g0 (stB 5 [.lit (.int .i64 t21.1), .lit (.int .i64 t21.2.1), .row 12, .lit (.int .i64 a2), .lit (.int .i64 1)]) ?_
 refine ks g0 (stB 4 [.row 4, .lit (.int .i64 t1.2.1), .lit (.int .i64 t1.2.2.1), .lit (.int .i64 t1.2.2.2.1)]) ?_
 refine kv g0 (asg) ?_
 refine wk_end_draw hM (by kernel_rfl) ?_
 refine ac_next ?_
 refine aw_ret ?_
 obtain rfl := Option.some.inj H
 exact acr hE [.cell 6 78, .cell 7 88, .tmp 8] (rcA 5 (rcA 4 (.tmp .nil))) (.many _ _ _) [(0, 12), (1, 4)] 9999
/-! spec_DrawAgain -/
def spec_DrawAgain.f (k : Nat) (l0 : List Int) : Option (Int × Int × (List S43) × Int × Int × Int) := (spec_l01New.f k l0).bind fun t1 => (spec_l01Below.f t1.1 t1.2.1 t1.2.2 14).bind fun t3 => (spec_l18Any.f k t3.2.1 t3.2.2.1 t3.2.2.2).bind fun t5 => some (t5.1, t5.2.1, t5.2.2.1, t5.2.2.2.1, t5.2.2.2.2.1, wrap64 (t3.1 - 1))
theorem spec_DrawAgain.ok {k : Nat} {l0 : List Int} {r : Int × Int × (List S43) × Int × Int × Int} (H : spec_DrawAgain.f k l0 = some r) : ACalls Try.prog 50 [] [.sl .o 1 (l0.map (eI .u8))] [(0, .row 43 4 (r.2.2.1.map e43))] (.tup [.agg [.lit (.int .i64 r.1), .lit (.int .i64 r.2.1), .row 0, .lit (.int .i64 r.2.2.2.1), .lit (.int .i64 r.2.2.2.2.1)], .lit (.int .i64 r.2.2.2.2.2)]) := by
 refine acalls (fn := Try.f50) (nt := 14) Try.func50 rfl rfl (Nat.le_of_ble_eq_true rfl) fun E hE => ?_
 rw [spec_DrawAgain.f] at H
 refine aw_grp1 ?_
 refine wk_start ?_
 refine kb g0 (alc 0 [.int .i64 0, .int .i64 0, .slice none 0 0, .int .i64 0, .int .i64 0] [.lit (.int .i64 0), .lit (.int .i64 0), .lit (.slice none 0 0), .lit (.int .i64 0), .lit (.int .i64 0)]) ?_
 refine kv g0 (asg) ?_
 refine wk_end ?_
 refine ac_next ?_
 refine aw_grp1 ?_
 refine wk_start ?_
 refine kv g0 (mv) ?_
 obtain ⟨t1, A2, H⟩ := of_bind H
 refine kcS1 7 (.box 1 0) [(1, .box 186 [.sl .o 1 (t1.1.map (eI .u8)), .lit (.int .i64 t1.2.1), .lit (.int .i64 t1.2.2)])] g0 (cal (spec_l01New.ok A2) [1] 9999 .o (hf := Try.func95)) rfl rfl ?_
 refine kv g0 (asg) ?_
 refine wk_end ?_
 refine ac_next ?_
 refine aw_grp1 ?_
 refine wk_start ?_
 refine kv g0 (mv) ?_
 obtain ⟨t3, A4, H⟩ := of_bind H
 refine kcS1 9 (.lit (.int .i64 t3.1)) [(1, .box 186 [.sl .o 1 (t3.2.1.map (eI .u8)), .lit (.int .i64 t3.2.2.1), .lit (.int .i64 t3.2.2.2)])] g0 (cal (spec_l01Below.ok A4) [1] 9999 .o (hf := Try.func97)) rfl rfl ?_
 refine kv g0 (sub6) ?_
 refine kv g0 (asg) ?_
 refine wk_end ?_
 refine ac_next ?_
 refine aw_grp1 ?_
 refine wk_start ?_
 refine kv g0 (mv) ?_
 obtain ⟨t5, A6, H⟩ := of_bind H
 refine kcS2 12 (.agg [.lit (.int .i64 t5.1), .lit (.int .i64 t5.2.1), .row 2, .lit (.int .i64 t5.2.2.2.1), .lit (.int .i64 t5.2.2.2.2.1)]) [(1, .box 186 [.sl .o 1 (t5.2.2.2.2.2.1.map (eI .u8)), .lit (.int .i64 t5.2.2.2.2.2.2.1), .lit (.int .i64 t5.2.2.2.2.2.2.2)]), (2, .row 43 4 (t5.2.2.1.map e43))] g0 (cal (spec_l18Any.ok A6) [1, 2] 9999 .o (hf := Try.func130)) rfl rfl ?_
 refine kv g0 (mv) ?_
 refine ks g0 (stB 5 [.lit (.int .i64 t5.1), .lit (.int .i64 t5.2.1), .row 2, .lit (.int .i64 t5.2.2.2.1), .lit (.int .i64 t5.2.2.2.2.1)]) ?_
 refine kv g0 (asg) ?_
 refine wk_end ?_
 refine ac_next ?_
 refine aw_ret ?_
 obtain rfl := Option.some.inj H
 exact acr hE [.cell 2 78, .tmp 3] (rcA 5 (.tmp .nil)) (.many _ _ _) [(0, 2)] 9999
/-! impl_Again -/
def impl_Again.f (k : Nat) (a0_0 : Int) (a0_1 : Int) (l0_2 : List S43) (a0_3 : Int) (a0_4 : Int) (a1 : Int) : Option (Int × Int × (List S43) × Int × Int × Bool) := (impl_copySender.f a0_0 a0_1 l0_2 a0_3 a0_4).bind fun t1 => (impl_SenderOk.f k a0_0 a0_1 l0_2 a0_3 a0_4).bind fun t3 => (if t3 = true then (if (l0_2.length : Int) = 0 then some (t1.1, t1.2.1, t1.2.2.1, t1.2.2.2.1, t1.2.2.2.2, false) else if (wrap64 (a0_3 + a0_4)) > a1 then some (t1.1, t1.2.1, t1.2.2.1, t1.2.2.2.1, t1.2.2.2.2, false) else some (t1.1, t1.2.1, t1.2.2.1, a1, min 4 (wrap64 (2 * a0_4)), true)) else some (t1.1, t1.2.1, t1.2.2.1, t1.2.2.2.1, t1.2.2.2.2, false))
theorem impl_Again.ok {k : Nat} {a0_0 : Int} {a0_1 : Int} {l0_2 : List S43} {a0_3 : Int} {a0_4 : Int} {a1 : Int} {r : Int × Int × (List S43) × Int × Int × Bool} (H : impl_Again.f k a0_0 a0_1 l0_2 a0_3 a0_4 a1 = some r) : ACalls Try.prog 44 [] [.agg [.lit (.int .i64 a0_0), .lit (.int .i64 a0_1), .sl .o 4 (l0_2.map e43), .lit (.int .i64 a0_3), .lit (.int .i64 a0_4)], .lit (.int .i64 a1)] [(0, .row 43 4 (r.2.2.1.map e43))] (.tup [.agg [.lit (.int .i64 r.1), .lit (.int .i64 r.2.1), .row 0, .lit (.int .i64 r.2.2.2.1), .lit (.int .i64 r.2.2.2.2.1)], .lit (.bool r.2.2.2.2.2)]) := by
 refine acalls (fn := Try.f44) (nt := 36) Try.func44 rfl rfl (Nat.le_of_ble_eq_true rfl) fun E hE => ?_
 rw [impl_Again.f] at H
 refine aw_grp1 ?_
 refine wk_start ?_
 refine kb g0 (bxA 0) ?_
 refine kb g0 (alc 1 [.int .i64 0, .int .i64 0, .slice none 0 0, .int .i64 0, .int .i64 0] [.lit (.int .i64 0), .lit (.int .i64 0), .lit (.slice none 0 0), .lit (.int .i64 0), .lit (.int .i64 0)]) ?_
 refine kv g0 (asg) ?_
 refine wk_end ?_
 refine ac_next ?_
 refine aw_grp1 ?_
 refine wk_start ?_
 refine kv g0 (ldBA 5 [.lit (.int .i64 a0_0), .lit (.int .i64 a0_1), .sl .o 4 (l0_2.map e43), .lit (.int .i64 a0_3), .lit (.int .i64 a0_4)]) ?_
 obtain ⟨t1, A2, H⟩ := of_bind H
 refine kcS1 8 (.agg [.lit (.int .i64 t1.1), .lit (.int .i64 t1.2.1), .row 2, .lit (.int .i64 t1.2.2.2.1), .lit (.int .i64 t1.2.2.2.2)]) [(2, .row 43 4 (t1.2.2.1.map e43))] g0 (cal (impl_copySender.ok A2) [2] 9999 .n (hf := Try.func127)) rfl rfl ?_
 refine kb g0 (alc 3 [.int .i64 0, .int .i64 0, .slice none 0 0, .int .i64 0, .int .i64 0] [.lit (.int .i64 0), .lit (.int .i64 0), .lit (.slice none 0 0), .lit (.int .i64 0), .lit (.int .i64 0)]) ?_
 refine ks g0 (stB 5 [.lit (.int .i64 t1.1), .lit (.int .i64 t1.2.1), .row 2, .lit (.int .i64 t1.2.2.2.1), .lit (.int .i64 t1.2.2.2.2)]) ?_
 refine wk_end ?_
 refine ac_next ?_
 refine aw_grp1 ?_
 refine aw_grp1 ?_
 refine wk_start ?_
 refine kv g0 (ldBA 5 [.lit (.int .i64 a0_0), .lit (.int .i64 a0_1), .sl .o 4 (l0_2.map e43), .lit (.int .i64 a0_3), .lit (.int .i64 a0_4)]) ?_
 obtain ⟨t3, A4, H⟩ := of_bind H
 refine kcS0 10 (.lit (.bool t3)) [] g0 (cal (impl_SenderOk.ok A4) [] 9999 .n (hf := Try.func46)) rfl rfl ?_
 refine kv g0 (not_) ?_
 refine kv g0 (mv) ?_
 by_cases c5 : t3 = true
 ·rw [if_pos c5] at H
  refine kv (g1 (nF c5)) (faB 2 2) ?_
  refine kv (g1 (nF c5)) (ldB) ?_
  refine kv (g1 (nF c5)) (lnS lenE) ?_
  refine kv (g1 (nF c5)) (eql) ?_
  refine kv g0 (pkF (nF c5)) ?_
  refine kv g0 (mv) ?_
  by_cases c6 : (l0_2.length : Int) = 0
  ·rw [if_pos c6] at H
   refine kx (hF (eT c6)) ?_
   refine kx (hF (eT c6)) ?_
   refine kx (hF (eT c6)) ?_
   refine kx (hF (eT c6)) ?_
   refine kx (hF (eT c6)) ?_
   refine kx (hF (eT c6)) ?_
   refine kx (hF (eT c6)) ?_
   refine kv g0 (pkT (eT c6)) ?_
   refine wk_end ?_
   refine ac_next ?_
   refine aw_ifT ?_ rfl
   refine aw_grp1 ?_
   refine wk_start ?_
   refine kv g0 (ldBA 5 [.lit (.int .i64 t1.1), .lit (.int .i64 t1.2.1), .row 2, .lit (.int .i64 t1.2.2.2.1), .lit (.int .i64 t1.2.2.2.2)]) ?_
   refine ks g0 (stB 5 [.lit (.int .i64 t1.1), .lit (.int .i64 t1.2.1), .row 2, .lit (.int .i64 t1.2.2.2.1), .lit (.int .i64 t1.2.2.2.2)]) ?_
   refine kv g0 (asg) ?_
   refine wk_end ?_
   refine ac_next ?_
   refine aw_ret ?_
   refine ac_thenR ?_
   obtain rfl := Option.some.inj H
   exact acr hE [.cell 4 78, .tmp 5] (rcA 5 (.tmp .nil)) (.many _ _ _) [(0, 2)] 9999
  rw [if_neg c6] at H
  refine kv (g1 (eF c6)) (faB 3 3) ?_
  refine kv (g1 (eF c6)) (ldB) ?_
  refine kv (g1 (eF c6)) (faB 4 4) ?_
  refine kv (g1 (eF c6)) (ldB) ?_
  refine kv (g1 (eF c6)) (add6) ?_
  refine kv (g1 (eF c6)) (mv) ?_
  refine kv (g1 (eF c6)) (gtr) ?_
  refine kv g0 (pkF (eF c6)) ?_
  refine wk_end ?_
  refine ac_next ?_
  by_cases c7 : (wrap64 (a0_3 + a0_4)) > a1
  ·rw [if_pos c7] at H
   refine aw_ifT ?_ (decide_eq_true c7)
   refine aw_grp1 ?_
   refine wk_start ?_
   refine kv g0 (ldBA 5 [.lit (.int .i64 t1.1), .lit (.int .i64 t1.2.1), .row 2, .lit (.int .i64 t1.2.2.2.1), .lit (.int .i64 t1.2.2.2.2)]) ?_
   refine ks g0 (stB 5 [.lit (.int .i64 t1.1), .lit (.int .i64 t1.2.1), .row 2, .lit (.int .i64 t1.2.2.2.1), .lit (.int .i64 t1.2.2.2.2)]) ?_
   refine kv g0 (asg) ?_
   refine wk_end ?_
   refine ac_next ?_
   refine aw_ret ?_
   refine ac_thenR ?_
   obtain rfl := Option.some.inj H
   exact acr hE [.cell 4 78, .tmp 5] (rcA 5 (.tmp .nil)) (.many _ _ _) [(0, 2)] 9999
  rw [if_neg c7] at H
  refine aw_ifF ?_ (decide_eq_false c7)
  refine aw_skip ?_
  refine ac_next ?_
  refine aw_grp1 ?_
  refine wk_start ?_
  refine kv g0 (mv) ?_
  refine kv g0 (faB 3 3) ?_
  refine ks g0 (stB 1 [.lit (.int .i64 t1.1), .lit (.int .i64 t1.2.1), .row 2, .lit (.int .i64 a1), .lit (.int .i64 t1.2.2.2.2)]) ?_
  refine wk_end ?_
  refine ac_next ?_
  refine aw_grp1 ?_
  refine wk_start ?_
  refine kv g0 (faB 4 4) ?_
  refine kv g0 (ldB) ?_
  refine kv g0 (mul6) ?_
  refine kv g0 (min_) ?_
  refine kv g0 (faB 4 4) ?_
  refine ks g0 (stB 1 [.lit (.int .i64 t1.1), .lit (.int .i64 t1.2.1), .row 2, .lit (.int .i64 a1), .lit (.int .i64 (min 4 (wrap64 (2 * a0_4))))]) ?_
  refine wk_end ?_
  refine ac_next ?_
  refine aw_grp1 ?_
  refine wk_start ?_
  refine kv g0 (ldBA 5 [.lit (.int .i64 t1.1), .lit (.int .i64 t1.2.1), .row 2, .lit (.int .i64 a1), .lit (.int .i64 (min 4 (wrap64 (2 * a0_4))))]) ?_
  refine ks g0 (stB 5 [.lit (.int .i64 t1.1), .lit (.int .i64 t1.2.1), .row 2, .lit (.int .i64 a1), .lit (.int .i64 (min 4 (wrap64 (2 * a0_4))))]) ?_
  refine kv g0 (asg) ?_
  refine wk_end ?_
  refine ac_next ?_
  refine aw_ret ?_
  obtain rfl := Option.some.inj H
  exact acr hE [.cell 4 78, .tmp 5] (rcA 5 (.tmp .nil)) (.many _ _ _) [(0, 2)] 9999
 rw [if_neg c5] at H
 refine kx (hF (nT (bF c5))) ?_
 refine kx (hF (nT (bF c5))) ?_
 refine kx (hF (nT (bF c5))) ?_
 refine kx (hF (nT (bF c5))) ?_
 refine kv g0 (pkT (nT (bF c5))) ?_
 refine kv g0 (mv) ?_
 refine kx (hF rfl) ?_
 refine kx (hF rfl) ?_
 refine kx (hF rfl) ?_
 refine kx (hF rfl) ?_
 refine kx (hF rfl) ?_
 refine kx (hF rfl) ?_
 refine kx (hF rfl) ?_
 refine kv g0 (pkT rfl) ?_
 refine wk_end ?_
 refine ac_next ?_
 refine aw_ifT ?_ rfl
 refine aw_grp1 ?_
 refine wk_start ?_
 refine kv g0 (ldBA 5 [.lit (.int .i64 t1.1), .lit (.int .i64 t1.2.1), .row 2, .lit (.int .i64 t1.2.2.2.1), .lit (.int .i64 t1.2.2.2.2)]) ?_
 refine ks g0 (stB 5 [.lit (.int .i64 t1.1), .lit (.int .i64 t1.2.1), .row 2, .lit (.int .i64 t1.2.2.2.1), .lit (.int .i64 t1.2.2.2.2)]) ?_
 refine kv g0 (asg) ?_
 refine wk_end ?_
 refine ac_next ?_
 refine aw_ret ?_
 refine ac_thenR ?_
 obtain rfl := Option.some.inj H
 exact acr hE [.cell 4 78, .tmp 5] (rcA 5 (.tmp .nil)) (.many _ _ _) [(0, 2)] 9999
/-! spec_DrawAcked -/
def spec_DrawAcked.f (k : Nat) (l0 : List Int) : Option (Int × Int × (List S43) × Int × Int × Int) := (spec_l01New.f k l0).bind fun t1 => (spec_l01Below.f t1.1 t1.2.1 t1.2.2 6).bind fun t3 => (spec_l18Any.f k t3.2.1 t3.2.2.1 t3.2.2.2).bind fun t5 => some (t5.1, t5.2.1, t5.2.2.1, t5.2.2.2.1, t5.2.2.2.2.1, wrap64 (t5.2.1 + (wrap64 (t3.1 - 1))))
theorem spec_DrawAcked.ok {k : Nat} {l0 : List Int} {r : Int × Int × (List S43) × Int × Int × Int} (H : spec_DrawAcked.f k l0 = some r) : ACalls Try.prog 52 [] [.sl .o 1 (l0.map (eI .u8))] [(0, .row 43 4 (r.2.2.1.map e43))] (.tup [.agg [.lit (.int .i64 r.1), .lit (.int .i64 r.2.1), .row 0, .lit (.int .i64 r.2.2.2.1), .lit (.int .i64 r.2.2.2.2.1)], .lit (.int .i64 r.2.2.2.2.2)]) := by
 refine acalls (fn := Try.f52) (nt := 19) Try.func52 rfl rfl (Nat.le_of_ble_eq_true rfl) fun E hE => ?_
 rw [spec_DrawAcked.f] at H
 refine aw_grp1 ?_
 refine wk_start ?_
 refine kb g0 (alc 0 [.int .i64 0, .int .i64 0, .slice none 0 0, .int .i64 0, .int .i64 0] [.lit (.int .i64 0), .lit (.int .i64 0), .lit (.slice none 0 0), .lit (.int .i64 0), .lit (.int .i64 0)]) ?_
 refine kv g0 (asg) ?_
 refine wk_end ?_
 refine ac_next ?_
 refine aw_grp1 ?_
 refine wk_start ?_
 refine kv g0 (mv) ?_
 obtain ⟨t1, A2, H⟩ := of_bind H
 refine kcS1 8 (.box 1 0) [(1, .box 186 [.sl .o 1 (t1.1.map (eI .u8)), .lit (.int .i64 t1.2.1), .lit (.int .i64 t1.2.2)])] g0 (cal (spec_l01New.ok A2) [1] 9999 .o (hf := Try.func95)) rfl rfl ?_
 refine kv g0 (asg) ?_
 refine wk_end ?_
 refine ac_next ?_
 refine aw_grp1 ?_
 refine wk_start ?_
 refine kv g0 (mv) ?_
 obtain ⟨t3, A4, H⟩ := of_bind H
 refine kcS1 10 (.lit (.int .i64 t3.1)) [(1, .box 186 [.sl .o 1 (t3.2.1.map (eI .u8)), .lit (.int .i64 t3.2.2.1), .lit (.int .i64 t3.2.2.2)])] g0 (cal (spec_l01Below.ok A4) [1] 9999 .o (hf := Try.func97)) rfl rfl ?_
 refine kv g0 (sub6) ?_
 refine kv g0 (asg) ?_
 refine wk_end ?_
 refine ac_next ?_
 refine aw_grp1 ?_
 refine wk_start ?_
 refine kv g0 (mv) ?_
 obtain ⟨t5, A6, H⟩ := of_bind H
 refine kcS2 13 (.agg [.lit (.int .i64 t5.1), .lit (.int .i64 t5.2.1), .row 2, .lit (.int .i64 t5.2.2.2.1), .lit (.int .i64 t5.2.2.2.2.1)]) [(1, .box 186 [.sl .o 1 (t5.2.2.2.2.2.1.map (eI .u8)), .lit (.int .i64 t5.2.2.2.2.2.2.1), .lit (.int .i64 t5.2.2.2.2.2.2.2)]), (2, .row 43 4 (t5.2.2.1.map e43))] g0 (cal (spec_l18Any.ok A6) [1, 2] 9999 .o (hf := Try.func130)) rfl rfl ?_
 refine kb g0 (alc 3 [.int .i64 0, .int .i64 0, .slice none 0 0, .int .i64 0, .int .i64 0] [.lit (.int .i64 0), .lit (.int .i64 0), .lit (.slice none 0 0), .lit (.int .i64 0), .lit (.int .i64 0)]) ?_
 refine ks g0 (stB 5 [.lit (.int .i64 t5.1), .lit (.int .i64 t5.2.1), .row 2, .lit (.int .i64 t5.2.2.2.1), .lit (.int .i64 t5.2.2.2.2.1)]) ?_
 refine wk_end ?_
 refine ac_next ?_
 refine aw_grp1 ?_
 refine wk_start ?_
 refine kv g0 (ldBA 5 [.lit (.int .i64 t5.1), .lit (.int .i64 t5.2.1), .row 2, .lit (.int .i64 t5.2.2.2.1), .lit (.int .i64 t5.2.2.2.2.1)]) ?_
 refine kv g0 (faB 1 1) ?_
 refine kv g0 (ldB) ?_
 refine kv g0 (mv) ?_
 refine kv g0 (add6) ?_
 refine ks g0 (stB 5 [.lit (.int .i64 t5.1), .lit (.int .i64 t5.2.1), .row 2, .lit (.int .i64 t5.2.2.2.1), .lit (.int .i64 t5.2.2.2.2.1)]) ?_
 refine kv g0 (asg) ?_
 refine wk_end_draw hM (by kernel_rfl) ?_
 refine ac_next ?_
 refine aw_ret ?_
 obtain rfl := Option.some.inj H
 exact acr hE [.cell 2 78, .tmp 3] (rcA 5 (.tmp .nil)) (.many _ _ _) [(0, 2)] 9999
/-! spec_DrawSenderOk -/
def spec_DrawSenderOk.f (k : Nat) (l0 : List Int) : Option (Int × Int × (List S43) × Int × Int) := (spec_l01New.f k l0).bind fun t1 => ((spec_l18Any.f k t1.1 t1.2.1 t1.2.2).bind fun t3 => some (t3.1, t3.2.1, t3.2.2.1, t3.2.2.2.1, t3.2.2.2.2.1))
theorem spec_DrawSenderOk.ok {k : Nat} {l0 : List Int} {r : Int × Int × (List S43) × Int × Int} (H : spec_DrawSenderOk.f k l0 = some r) : ACalls Try.prog 53 [] [.sl .o 1 (l0.map (eI .u8))] [(0, .row 43 4 (r.2.2.1.map e43))] (.agg [.lit (.int .i64 r.1), .lit (.int .i64 r.2.1), .row 0, .lit (.int .i64 r.2.2.2.1), .lit (.int .i64 r.2.2.2.2)]) := by
 refine acalls (fn := Try.f53) (nt := 6) Try.func53 rfl rfl (Nat.le_of_ble_eq_true rfl) fun E hE => ?_
 rw [spec_DrawSenderOk.f] at H
 refine aw_grp1 ?_
 refine wk_start ?_
 refine kb g0 (alc 0 [.int .i64 0, .int .i64 0, .slice none 0 0, .int .i64 0, .int .i64 0] [.lit (.int .i64 0), .lit (.int .i64 0), .lit (.slice none 0 0), .lit (.int .i64 0), .lit (.int .i64 0)]) ?_
 refine wk_end ?_
 refine ac_next ?_
 refine aw_grp1 ?_
 refine wk_start ?_
 refine kv g0 (mv) ?_
 obtain ⟨t1, A2, H⟩ := of_bind H
 refine kcS1 4 (.box 1 0) [(1, .box 186 [.sl .o 1 (t1.1.map (eI .u8)), .lit (.int .i64 t1.2.1), .lit (.int .i64 t1.2.2)])] g0 (cal (spec_l01New.ok A2) [1] 9999 .o (hf := Try.func95)) rfl rfl ?_
 obtain ⟨t3, A4, H⟩ := of_bind H
 refine kcS2 5 (.agg [.lit (.int .i64 t3.1), .lit (.int .i64 t3.2.1), .row 2, .lit (.int .i64 t3.2.2.2.1), .lit (.int .i64 t3.2.2.2.2.1)]) [(1, .box 186 [.sl .o 1 (t3.2.2.2.2.2.1.map (eI .u8)), .lit (.int .i64 t3.2.2.2.2.2.2.1), .lit (.int .i64 t3.2.2.2.2.2.2.2)]), (2, .row 43 4 (t3.2.2.1.map e43))] g0 (cal (spec_l18Any.ok A4) [1, 2] 9999 .o (hf := Try.func130)) rfl rfl ?_
 refine ks g0 (stB 5 [.lit (.int .i64 t3.1), .lit (.int .i64 t3.2.1), .row 2, .lit (.int .i64 t3.2.2.2.1), .lit (.int .i64 t3.2.2.2.2.1)]) ?_
 refine wk_end ?_
 refine ac_next ?_
 refine aw_ret ?_
 obtain rfl := Option.some.inj H
 exact acr hE [.cell 2 78] (rcA 5 .nil) (.one _) [(0, 2)] 9999
/-! impl_Says -/
def impl_Says.l0 : Nat → Int → Int → (List S43) → Int → Int → (List S45) → Int → Option ((List S45))
 | 0, _, _, _, _, _, _, _ => none
 | k9 + 1, a0_0, a0_1, l0_2, a0_3, a0_4, q7, p8 => if p8 < (l0_2.length : Int) then if 0 ≤ p8 then if q7.length + ([(⟨1, a0_0, wrap64 (a0_1 + p8), (⟨(rd_T43 l0_2 p8).f0, (rd_T43 l0_2 p8).f1, (rd_T43 l0_2 p8).f2, (rd_T43 l0_2 p8).f3⟩ : S43)⟩ : S45)] : List S45).length < 2513169434916 then impl_Says.l0 k9 a0_0 a0_1 l0_2 a0_3 a0_4 (q7 ++ ([(⟨1, a0_0, wrap64 (a0_1 + p8), (⟨(rd_T43 l0_2 p8).f0, (rd_T43 l0_2 p8).f1, (rd_T43 l0_2 p8).f2, (rd_T43 l0_2 p8).f3⟩ : S43)⟩ : S45)] : List S45)) (wrap64 (p8 + 1)) else none else none else some q7
def impl_Says.f (k : Nat) (a0_0 : Int) (a0_1 : Int) (l0_2 : List S43) (a0_3 : Int) (a0_4 : Int) : Option ((List S45)) := (impl_SenderOk.f k a0_0 a0_1 l0_2 a0_3 a0_4).bind fun t1 => if t1 = true then impl_Says.l0 k a0_0 a0_1 l0_2 a0_3 a0_4 ([] : List S45) 0 else some ([] : List S45)
theorem impl_Says.ok {k : Nat} {a0_0 : Int} {a0_1 : Int} {l0_2 : List S43} {a0_3 : Int} {a0_4 : Int} {r : (List S45)} (H : impl_Says.f k a0_0 a0_1 l0_2 a0_3 a0_4 = some r) : ACalls Try.prog 42 [] [.agg [.lit (.int .i64 a0_0), .lit (.int .i64 a0_1), .sl .o 4 (l0_2.map e43), .lit (.int .i64 a0_3), .lit (.int .i64 a0_4)]] [(0, .row 45 7 (r.map e45))] (.row 0) := by
 refine acalls (fn := Try.f42) (nt := 32) Try.func42 rfl rfl (Nat.le_of_ble_eq_true rfl) fun E hE => ?_
 rw [impl_Says.f] at H
 refine aw_grp1 ?_
 refine wk_start ?_
 refine kb g0 (bxA 0) ?_
 refine kv g0 (asg) ?_
 refine wk_end ?_
 refine ac_next ?_
 refine aw_grp1 ?_
 refine wk_start ?_
 refine kb g0 (bsl 1 45 7 [.int .i64 0, .int .i64 0, .int .i64 0, .int .i64 0, .int .i64 0, .int .i64 0, .int .i64 0] (([] : List S45).map e45)) ?_
 refine kv g0 (asg) ?_
 refine wk_end ?_
 refine ac_next ?_
 refine aw_grp1 ?_
 refine aw_grp1 ?_
 refine wk_start ?_
 refine kv g0 (ldBA 5 [.lit (.int .i64 a0_0), .lit (.int .i64 a0_1), .sl .o 4 (l0_2.map e43), .lit (.int .i64 a0_3), .lit (.int .i64 a0_4)]) ?_
 obtain ⟨t1, A2, H⟩ := of_bind H
 refine kcS0 8 (.lit (.bool t1)) [] g0 (cal (impl_SenderOk.ok A2) [] 9999 .n (hf := Try.func46)) rfl rfl ?_
 refine kv g0 (not_) ?_
 refine wk_end ?_
 refine ac_next ?_
 by_cases c3 : t1 = true
 ·rw [if_pos c3] at H
  refine aw_ifF ?_ (nF c3)
  refine aw_skip ?_
  refine ac_next ?_
  refine aw_grp1 ?_
  refine aw_grp1 ?_
  refine wk_start ?_
  refine kv g0 (faB 2 2) ?_
  refine kv g0 (ldB) ?_
  refine kv g0 (lnS lenE) ?_
  refine kv g0 (mv) ?_
  refine wk_end ?_
  refine ac_next ?_
  refine aw_block ?_
  refine aw_loop2 (fun (k_ : Nat) (q7 : List S45) (p8 : Int) => k_ ≤ k ∧ impl_Says.l0 k_ a0_0 a0_1 l0_2 a0_3 a0_4 q7 p8 = some r) (fun (q7 : List S45) (p8 : Int) => ⟨[(1, .box 0 0), (3, .row 1), (12, .sl .o 4 (l0_2.map e43)), (13, .lit (.int .i64 (l0_2.length : Int))), (14, .lit (.int .i64 p8))], [(0, .box 78 [.lit (.int .i64 a0_0), .lit (.int .i64 a0_1), .sl .o 4 (l0_2.map e43), .lit (.int .i64 a0_3), .lit (.int .i64 a0_4)]), (1, .row 45 7 (q7.map e45))]⟩) k ([] : List S45) 0 ⟨Nat.le_refl _, H⟩ (fun K_ h_ => acw hE [(0, 0), (1, 1)] 9999 h_) (fun _ _ => by intro h_; have h_ := h_.2; rw [impl_Says.l0.eq_1] at h_; cases h_) ?_
  intro k9 q7 p8 hq_ K13 hK14
  have hk9 := hq_.1
  have H := hq_.2
  clear hq_
  rw [impl_Says.l0.eq_2] at H
  refine aw_grp1 ?_
  refine wk_start ?_
  refine kv g0 (lss) ?_
  refine wk_end ?_
  refine ac_next ?_
  refine aw_grp1 ?_
  by_cases c10 : p8 < (l0_2.length : Int)
  ·rw [if_pos c10] at H
   refine aw_ifT ?_ (decide_eq_true c10)
   refine aw_skip ?_
   refine ac_next ?_
   refine aw_grp1 ?_
   refine aw_block ?_
   refine aw_grp1 ?_
   refine wk_start ?_
   refine kv g0 (mv) ?_
   obtain ⟨c11, H⟩ := of_if H
   refine kv g0 (ixS 43 (e43 (rd_T43 l0_2 p8)) c11 (getE (z := z43) c11 c10)) ?_
   refine kv g0 (ldRA 4 [.lit (.int .i64 ((rd_T43 l0_2 p8).f0)), .lit (.int .i64 ((rd_T43 l0_2 p8).f1)), .lit (.int .i64 ((rd_T43 l0_2 p8).f2)), .lit (.int .i64 ((rd_T43 l0_2 p8).f3))]) ?_
   refine kb g0 (alc 2 [.int .i64 0, .int .i64 0, .int .i64 0, .int .i64 0] [.lit (.int .i64 0), .lit (.int .i64 0), .lit (.int .i64 0), .lit (.int .i64 0)]) ?_
   refine kv g0 (asg) ?_
   refine ks g0 (stB 4 [.lit (.int .i64 ((rd_T43 l0_2 p8).f0)), .lit (.int .i64 ((rd_T43 l0_2 p8).f1)), .lit (.int .i64 ((rd_T43 l0_2 p8).f2)), .lit (.int .i64 ((rd_T43 l0_2 p8).f3))]) ?_
   refine wk_end ?_
   refine ac_next ?_
   refine wk_start ?_
   refine kv g0 (mv) ?_
   refine kv g0 (faB 0 0) ?_
   refine kv g0 (ldB) ?_
   refine kv g0 (faB 1 1) ?_
   refine kv g0 (ldB) ?_
   refine kv g0 (mv) ?_
   refine kv g0 (add6) ?_
   refine kv g0 (ldBA 4 [.lit (.int .i64 ((rd_T43 l0_2 p8).f0)), .lit (.int .i64 ((rd_T43 l0_2 p8).f1)), .lit (.int .i64 ((rd_T43 l0_2 p8).f2)), .lit (.int .i64 ((rd_T43 l0_2 p8).f3))]) ?_
   refine kv g0 (bld [(0, 1), (1, 1), (2, 1), (3, 4)] [.int .i64 0, .int .i64 0, .int .i64 0, .int .i64 0, .int .i64 0, .int .i64 0, .int .i64 0] [.lit (.int .i64 1), .lit (.int .i64 a0_0), .lit (.int .i64 (wrap64 (a0_1 + p8))), .lit (.int .i64 ((rd_T43 l0_2 p8).f0)), .lit (.int .i64 ((rd_T43 l0_2 p8).f1)), .lit (.int .i64 ((rd_T43 l0_2 p8).f2)), .lit (.int .i64 ((rd_T43 l0_2 p8).f3))]) ?_
   refine kb g0 (bsl 3 45 7 [.int .i64 0, .int .i64 0, .int .i64 0, .int .i64 0, .int .i64 0, .int .i64 0, .int .i64 0] (([(⟨1, a0_0, wrap64 (a0_1 + p8), (⟨(rd_T43 l0_2 p8).f0, (rd_T43 l0_2 p8).f1, (rd_T43 l0_2 p8).f2, (rd_T43 l0_2 p8).f3⟩ : S43)⟩ : S45)] : List S45).map e45)) ?_
   obtain ⟨c12, H⟩ := of_if H
   refine kc g0 (apR 4 45 7 56 [.int .i64 0, .int .i64 0, .int .i64 0, .int .i64 0, .int .i64 0, .int .i64 0, .int .i64 0] ((q7 ++ ([(⟨1, a0_0, wrap64 (a0_1 + p8), (⟨(rd_T43 l0_2 p8).f0, (rd_T43 l0_2 p8).f1, (rd_T43 l0_2 p8).f2, (rd_T43 l0_2 p8).f3⟩ : S43)⟩ : S45)] : List S45)).map e45) (.row rfl) (apb c12 rfl) appE) ?_
   refine kv g0 (asg) ?_
   refine wk_end ?_
   refine ac_blkN ?_
   refine ac_next ?_
   refine wk_start ?_
   refine kv g0 (add6) ?_
   refine kv g0 (mv) ?_
   refine wk_end ?_
   refine ac_k ?_
   exact acw hE [(0, 0), (1, 4)] 9999 (hK14 k9 (q7 ++ ([(⟨1, a0_0, wrap64 (a0_1 + p8), (⟨(rd_T43 l0_2 p8).f0, (rd_T43 l0_2 p8).f1, (rd_T43 l0_2 p8).f2, (rd_T43 l0_2 p8).f3⟩ : S43)⟩ : S45)] : List S45)) (wrap64 (p8 + 1)) (Nat.le_refl _) ⟨by omega, H⟩)
  rw [if_neg c10] at H
  refine aw_ifF ?_ (decide_eq_false c10)
  refine aw_exit ?_
  refine ac_then ?_
  refine ac_then ?_
  refine ac_hit rfl ?_
  refine ac_next ?_
  refine aw_grp1 ?_
  refine wk_start ?_
  refine kv g0 (mv) ?_
  refine kv g0 (asg) ?_
  refine wk_end ?_
  refine ac_next ?_
  refine aw_ret ?_
  obtain rfl := Option.some.inj H
  exact acr hE [.tmp 2] (.tmp .nil) (.one _) [(0, 1)] 9999
 rw [if_neg c3] at H
 refine aw_ifT ?_ (nT (bF c3))
 refine aw_grp1 ?_
 refine wk_start ?_
 refine kv g0 (mv) ?_
 refine kv g0 (asg) ?_
 refine wk_end ?_
 refine ac_next ?_
 refine aw_ret ?_
 refine ac_thenR ?_
 obtain rfl := Option.some.inj H
 exact acr hE [.tmp 2] (.tmp .nil) (.one _) [(0, 1)] 9999
/-! spec_Says -/
def spec_Says.l0 : Nat → Int → Int → (List S43) → Int → Int → (List S45) → Int → Option ((List S45))
 | 0, _, _, _, _, _, _, _ => none
 | k9 + 1, a0_0, a0_1, l0_2, a0_3, a0_4, q7, p8 => if p8 < (l0_2.length : Int) then ((spec_SenderOk.f k9 a0_0 a0_1 l0_2 a0_3 a0_4).bind fun t11 => if t11 = true then if 0 ≤ p8 then (if q7.length + ([(⟨1, a0_0, wrap64 (a0_1 + p8), (⟨(rd_T43 l0_2 p8).f0, (rd_T43 l0_2 p8).f1, (rd_T43 l0_2 p8).f2, (rd_T43 l0_2 p8).f3⟩ : S43)⟩ : S45)] : List S45).length < 2513169434916 then spec_Says.l0 k9 a0_0 a0_1 l0_2 a0_3 a0_4 (q7 ++ ([(⟨1, a0_0, wrap64 (a0_1 + p8), (⟨(rd_T43 l0_2 p8).f0, (rd_T43 l0_2 p8).f1, (rd_T43 l0_2 p8).f2, (rd_T43 l0_2 p8).f3⟩ : S43)⟩ : S45)] : List S45)) (wrap64 (p8 + 1)) else none) else none else some q7) else some q7
def spec_Says.f (k : Nat) (a0_0 : Int) (a0_1 : Int) (l0_2 : List S43) (a0_3 : Int) (a0_4 : Int) : Option ((List S45)) := spec_Says.l0 k a0_0 a0_1 l0_2 a0_3 a0_4 ([] : List S45) 0
theorem spec_Says.ok {k : Nat} {a0_0 : Int} {a0_1 : Int} {l0_2 : List S43} {a0_3 : Int} {a0_4 : Int} {r : (List S45)} (H : spec_Says.f k a0_0 a0_1 l0_2 a0_3 a0_4 = some r) : ACalls Try.prog 54 [] [.agg [.lit (.int .i64 a0_0), .lit (.int .i64 a0_1), .sl .o 4 (l0_2.map e43), .lit (.int .i64 a0_3), .lit (.int .i64 a0_4)]] [(0, .row 45 7 (r.map e45))] (.row 0) := by
 refine acalls (fn := Try.f54) (nt := 33) Try.func54 rfl rfl (Nat.le_of_ble_eq_true rfl) fun E hE => ?_
 rw [spec_Says.f] at H
 refine aw_grp1 ?_
 refine wk_start ?_
 refine kb g0 (bxA 0) ?_
 refine kv g0 (asg) ?_
 refine wk_end ?_
 refine ac_next ?_
 refine aw_grp1 ?_
 refine wk_start ?_
 refine kb g0 (bsl 1 45 7 [.int .i64 0, .int .i64 0, .int .i64 0, .int .i64 0, .int .i64 0, .int .i64 0, .int .i64 0] (([] : List S45).map e45)) ?_
 refine kv g0 (asg) ?_
 refine wk_end ?_
 refine ac_next ?_
 refine aw_grp1 ?_
 refine aw_grp1 ?_
 refine wk_start ?_
 refine kv g0 (asg) ?_
 refine wk_end ?_
 refine ac_next ?_
 refine aw_block ?_
 refine aw_loop2 (fun (k_ : Nat) (q7 : List S45) (p8 : Int) => k_ ≤ k ∧ spec_Says.l0 k_ a0_0 a0_1 l0_2 a0_3 a0_4 q7 p8 = some r) (fun (q7 : List S45) (p8 : Int) => ⟨[(1, .box 0 0), (3, .row 1), (4, .lit (.int .i64 p8))], [(0, .box 78 [.lit (.int .i64 a0_0), .lit (.int .i64 a0_1), .sl .o 4 (l0_2.map e43), .lit (.int .i64 a0_3), .lit (.int .i64 a0_4)]), (1, .row 45 7 (q7.map e45))]⟩) k ([] : List S45) 0 ⟨Nat.le_refl _, H⟩ (fun K_ h_ => acw hE [(0, 0), (1, 1)] 9999 h_) (fun _ _ => by intro h_; have h_ := h_.2; rw [spec_Says.l0.eq_1] at h_; cases h_) ?_
 intro k9 q7 p8 hq_ K16 hK17
 have hk9 := hq_.1
 have H := hq_.2
 clear hq_
 rw [spec_Says.l0.eq_2] at H
 refine aw_grp1 ?_
 refine aw_grp1 ?_
 refine wk_start ?_
 refine kv g0 (mv) ?_
 refine kv g0 (faB 2 2) ?_
 refine kv g0 (ldB) ?_
 refine kv g0 (lnS lenE) ?_
 refine kv g0 (lss) ?_
 refine kv g0 (mv) ?_
 by_cases c10 : p8 < (l0_2.length : Int)
 ·rw [if_pos c10] at H
  refine kv (g1 (decide_eq_true c10)) (ldBA 5 [.lit (.int .i64 a0_0), .lit (.int .i64 a0_1), .sl .o 4 (l0_2.map e43), .lit (.int .i64 a0_3), .lit (.int .i64 a0_4)]) ?_
  obtain ⟨t11, A12, H⟩ := of_bind H
  refine kcS0 13 (.lit (.bool t11)) [] (g1 (decide_eq_true c10)) (cal (spec_SenderOk.ok A12) [] 9999 .n (hf := Try.func57)) rfl rfl ?_
  refine kv g0 (pkT (decide_eq_true c10)) ?_
  refine wk_end ?_
  refine ac_next ?_
  by_cases c13 : t11 = true
  ·rw [if_pos c13] at H
   refine aw_ifT ?_ c13
   refine aw_skip ?_
   refine ac_next ?_
   refine aw_grp1 ?_
   refine aw_block ?_
   refine wk_start ?_
   refine kv g0 (mv) ?_
   refine kv g0 (faB 0 0) ?_
   refine kv g0 (ldB) ?_
   refine kv g0 (faB 1 1) ?_
   refine kv g0 (ldB) ?_
   refine kv g0 (mv) ?_
   refine kv g0 (add6) ?_
   refine kv g0 (faB 2 2) ?_
   refine kv g0 (ldB) ?_
   refine kv g0 (mv) ?_
   obtain ⟨c14, H⟩ := of_if H
   refine kv g0 (ixS 43 (e43 (rd_T43 l0_2 p8)) c14 (getE (z := z43) c14 c10)) ?_
   refine kv g0 (ldRA 4 [.lit (.int .i64 ((rd_T43 l0_2 p8).f0)), .lit (.int .i64 ((rd_T43 l0_2 p8).f1)), .lit (.int .i64 ((rd_T43 l0_2 p8).f2)), .lit (.int .i64 ((rd_T43 l0_2 p8).f3))]) ?_
   refine kv g0 (bld [(0, 1), (1, 1), (2, 1), (3, 4)] [.int .i64 0, .int .i64 0, .int .i64 0, .int .i64 0, .int .i64 0, .int .i64 0, .int .i64 0] [.lit (.int .i64 1), .lit (.int .i64 a0_0), .lit (.int .i64 (wrap64 (a0_1 + p8))), .lit (.int .i64 ((rd_T43 l0_2 p8).f0)), .lit (.int .i64 ((rd_T43 l0_2 p8).f1)), .lit (.int .i64 ((rd_T43 l0_2 p8).f2)), .lit (.int .i64 ((rd_T43 l0_2 p8).f3))]) ?_
   refine kb g0 (bsl 2 45 7 [.int .i64 0, .int .i64 0, .int .i64 0, .int .i64 0, .int .i64 0, .int .i64 0, .int .i64 0] (([(⟨1, a0_0, wrap64 (a0_1 + p8), (⟨(rd_T43 l0_2 p8).f0, (rd_T43 l0_2 p8).f1, (rd_T43 l0_2 p8).f2, (rd_T43 l0_2 p8).f3⟩ : S43)⟩ : S45)] : List S45).map e45)) ?_
   obtain ⟨c15, H⟩ := of_if H
   refine kc g0 (apR 3 45 7 56 [.int .i64 0, .int .i64 0, .int .i64 0, .int .i64 0, .int .i64 0, .int .i64 0, .int .i64 0] ((q7 ++ ([(⟨1, a0_0, wrap64 (a0_1 + p8), (⟨(rd_T43 l0_2 p8).f0, (rd_T43 l0_2 p8).f1, (rd_T43 l0_2 p8).f2, (rd_T43 l0_2 p8).f3⟩ : S43)⟩ : S45)] : List S45)).map e45) (.row rfl) (apb c15 rfl) appE) ?_
   refine kv g0 (asg) ?_
   refine wk_end_draw hM (by kernel_rfl) ?_
   refine ac_blkN ?_
   refine ac_next ?_
   refine wk_start ?_
   refine kv g0 (mv) ?_
   refine kv g0 (add6) ?_
   refine kv g0 (asg) ?_
   refine wk_end ?_
   refine ac_k ?_
   exact acw hE [(0, 0), (1, 3)] 9999 (hK17 k9 (q7 ++ ([(⟨1, a0_0, wrap64 (a0_1 + p8), (⟨(rd_T43 l0_2 p8).f0, (rd_T43 l0_2 p8).f1, (rd_T43 l0_2 p8).f2, (rd_T43 l0_2 p8).f3⟩ : S43)⟩ : S45)] : List S45)) (wrap64 (p8 + 1)) (Nat.le_refl _) ⟨by omega, H⟩)
  rw [if_neg c13] at H
  refine aw_ifF ?_ (bF c13)
  refine aw_exit ?_
  refine ac_then ?_
  refine ac_then ?_
  refine ac_hit rfl ?_
  refine ac_next ?_
  refine aw_grp1 ?_
  refine wk_start ?_
  refine kv g0 (mv) ?_
  refine kv g0 (asg) ?_
  refine wk_end ?_
  refine ac_next ?_
  refine aw_ret ?_
  obtain rfl := Option.some.inj H
  exact acr hE [.tmp 2] (.tmp .nil) (.one _) [(0, 1)] 9999
 rw [if_neg c10] at H
 refine kx (hT (decide_eq_false c10)) ?_
 refine kx (hT (decide_eq_false c10)) ?_
 refine kv g0 (pkF (decide_eq_false c10)) ?_
 refine wk_end ?_
 refine ac_next ?_
 refine aw_ifF ?_ rfl
 refine aw_exit ?_
 refine ac_then ?_
 refine ac_then ?_
 refine ac_hit rfl ?_
 refine ac_next ?_
 refine aw_grp1 ?_
 refine wk_start ?_
 refine kv g0 (mv) ?_
 refine kv g0 (asg) ?_
 refine wk_end ?_
 refine ac_next ?_
 refine aw_ret ?_
 obtain rfl := Option.some.inj H
 exact acr hE [.tmp 2] (.tmp .nil) (.one _) [(0, 1)] 9999
/-! laws_sameItems -/
def laws_sameItems.l0 : Nat → (List S43) → (List S43) → Int → Option (Bool)
 | 0, _, _, _ => none
 | k7 + 1, l0, l1, p6 => if p6 < (l0.length : Int) then if 0 ≤ p6 then (if p6 < (l1.length : Int) then if (((rd_T43 l0 p6).f0) == ((rd_T43 l1 p6).f0) && (((rd_T43 l0 p6).f1) == ((rd_T43 l1 p6).f1) && (((rd_T43 l0 p6).f2) == ((rd_T43 l1 p6).f2) && (((rd_T43 l0 p6).f3) == ((rd_T43 l1 p6).f3))))) = true then laws_sameItems.l0 k7 l0 l1 (wrap64 (p6 + 1)) else some false else none) else none else some true
def laws_sameItems.f (k : Nat) (l0 : List S43) (l1 : List S43) : Option (Bool) := if (l0.length : Int) = (l1.length : Int) then laws_sameItems.l0 k l0 l1 0 else some false
theorem laws_sameItems.ok {k : Nat} {l0 : List S43} {l1 : List S43} {r : Bool} (H : laws_sameItems.f k l0 l1 = some r) : ACalls Try.prog 35 [] [.sl .o 4 (l0.map e43), .sl .o 4 (l1.map e43)] [] (.lit (.bool r)) := by
 refine acalls (fn := Try.f35) (nt := 26) Try.func35 rfl rfl (Nat.le_of_ble_eq_true rfl) fun E hE => ?_
 rw [laws_sameItems.f] at H
 refine aw_grp1 ?_
 refine wk_start ?_
 refine kv g0 (asg) ?_
 refine wk_end ?_
 refine ac_next ?_
 refine aw_grp1 ?_
 refine aw_grp1 ?_
 refine wk_start ?_
 refine kv g0 (mv) ?_
 refine kv g0 (lnS lenE) ?_
 refine kv g0 (mv) ?_
 refine kv g0 (lnS lenE) ?_
 refine kv g0 (neq) ?_
 refine wk_end ?_
 refine ac_next ?_
 by_cases c1 : (l0.length : Int) = (l1.length : Int)
 ·rw [if_pos c1] at H
  refine aw_ifF ?_ (eM c1)
  refine aw_skip ?_
  refine ac_next ?_
  refine aw_grp1 ?_
  refine aw_grp1 ?_
  refine wk_start ?_
  refine kv g0 (asg) ?_
  refine wk_end ?_
  refine ac_next ?_
  refine aw_block ?_
  refine aw_loop1 (fun (k_ : Nat) (p6 : Int) => k_ ≤ k ∧ laws_sameItems.l0 k_ l0 l1 p6 = some r) (fun (p6 : Int) => ⟨[(0, .sl .o 4 (l0.map e43)), (1, .sl .o 4 (l1.map e43)), (5, .lit (.int .i64 p6))], []⟩) k 0 ⟨Nat.le_refl _, H⟩ (fun K_ h_ => acw hE [] 9999 h_) (fun _ => by intro h_; have h_ := h_.2; rw [laws_sameItems.l0.eq_1] at h_; cases h_) ?_
  intro k7 p6 hq_ K12 hK13
  have hk7 := hq_.1
  have H := hq_.2
  clear hq_
  rw [laws_sameItems.l0.eq_2] at H
  refine aw_grp1 ?_
  refine aw_grp1 ?_
  refine wk_start ?_
  refine kv g0 (mv) ?_
  refine kv g0 (mv) ?_
  refine kv g0 (lnS lenE) ?_
  refine kv g0 (lss) ?_
  refine wk_end ?_
  refine ac_next ?_
  by_cases c8 : p6 < (l0.length : Int)
  ·rw [if_pos c8] at H
   refine aw_ifT ?_ (decide_eq_true c8)
   refine aw_skip ?_
   refine ac_next ?_
   refine aw_grp1 ?_
   refine aw_block ?_
   refine aw_grp1 ?_
   refine wk_start ?_
   refine kv g0 (mv) ?_
   refine kv g0 (mv) ?_
   obtain ⟨c9, H⟩ := of_if H
   refine kv g0 (ixS 43 (e43 (rd_T43 l0 p6)) c9 (getE (z := z43) c9 c8)) ?_
   refine kv g0 (ldRA 4 [.lit (.int .i64 ((rd_T43 l0 p6).f0)), .lit (.int .i64 ((rd_T43 l0 p6).f1)), .lit (.int .i64 ((rd_T43 l0 p6).f2)), .lit (.int .i64 ((rd_T43 l0 p6).f3))]) ?_
   refine kv g0 (mv) ?_
   refine kv g0 (mv) ?_
   obtain ⟨c10, H⟩ := of_if H
   refine kv g0 (ixS 43 (e43 (rd_T43 l1 p6)) c9 (getE (z := z43) c9 c10)) ?_
   refine kv g0 (ldRA 4 [.lit (.int .i64 ((rd_T43 l1 p6).f0)), .lit (.int .i64 ((rd_T43 l1 p6).f1)), .lit (.int .i64 ((rd_T43 l1 p6).f2)), .lit (.int .i64 ((rd_T43 l1 p6).f3))]) ?_
   refine kv g0 (neS (fun w => eq43 _ w ((rd_T43 l0 p6).f0) ((rd_T43 l0 p6).f1) ((rd_T43 l0 p6).f2) ((rd_T43 l0 p6).f3) ((rd_T43 l1 p6).f0) ((rd_T43 l1 p6).f1) ((rd_T43 l1 p6).f2) ((rd_T43 l1 p6).f3))) ?_
   refine wk_end_draw hM (by kernel_rfl) ?_
   refine ac_next ?_
   by_cases c11 : (((rd_T43 l0 p6).f0) == ((rd_T43 l1 p6).f0) && (((rd_T43 l0 p6).f1) == ((rd_T43 l1 p6).f1) && (((rd_T43 l0 p6).f2) == ((rd_T43 l1 p6).f2) && (((rd_T43 l0 p6).f3) == ((rd_T43 l1 p6).f3))))) = true
   ·rw [if_pos c11] at H
    refine aw_ifF ?_ (nF c11)
    refine aw_skip ?_
    refine ac_blkN ?_
    refine ac_next ?_
    refine wk_start ?_
    refine kv g0 (mv) ?_
    refine kv g0 (add6) ?_
    refine kv g0 (asg) ?_
    refine wk_end ?_
    refine ac_k ?_
    exact acw hE [] 9999 (hK13 k7 (wrap64 (p6 + 1)) (Nat.le_refl _) ⟨by omega, H⟩)
   rw [if_neg c11] at H
   refine aw_ifT ?_ (nT (bF c11))
   refine aw_grp1 ?_
   refine wk_start ?_
   refine kv g0 (asg) ?_
   refine wk_end ?_
   refine ac_next ?_
   refine aw_ret ?_
   refine ac_blkR ?_
   refine ac_thenR ?_
   refine ac_thenR ?_
   refine ac_blkR ?_
   refine ac_thenR ?_
   obtain rfl := Option.some.inj H
   exact acr hE [.tmp 4] (.tmp .nil) (.one _) [] 9999
  rw [if_neg c8] at H
  refine aw_ifF ?_ (decide_eq_false c8)
  refine aw_exit ?_
  refine ac_then ?_
  refine ac_then ?_
  refine ac_hit rfl ?_
  refine ac_next ?_
  refine aw_grp1 ?_
  refine wk_start ?_
  refine kv g0 (asg) ?_
  refine wk_end ?_
  refine ac_next ?_
  refine aw_ret ?_
  obtain rfl := Option.some.inj H
  exact acr hE [.tmp 4] (.tmp .nil) (.one _) [] 9999
 rw [if_neg c1] at H
 refine aw_ifT ?_ (eN c1)
 refine aw_grp1 ?_
 refine wk_start ?_
 refine kv g0 (asg) ?_
 refine wk_end ?_
 refine ac_next ?_
 refine aw_ret ?_
 refine ac_thenR ?_
 obtain rfl := Option.some.inj H
 exact acr hE [.tmp 4] (.tmp .nil) (.one _) [] 9999
/-! laws_sameSender -/
def laws_sameSender.f (k : Nat) (a0_0 : Int) (a0_1 : Int) (l0_2 : List S43) (a0_3 : Int) (a0_4 : Int) (a1_0 : Int) (a1_1 : Int) (l1_2 : List S43) (a1_3 : Int) (a1_4 : Int) : Option (Bool) := if a0_0 = a1_0 then (if a0_1 = a1_1 then ((laws_sameItems.f k l0_2 l1_2).bind fun t3 => (if t3 = true then (if a0_3 = a1_3 then some (a0_4 == a1_4) else some false) else some false)) else some false) else some false
theorem laws_sameSender.ok {k : Nat} {a0_0 : Int} {a0_1 : Int} {l0_2 : List S43} {a0_3 : Int} {a0_4 : Int} {a1_0 : Int} {a1_1 : Int} {l1_2 : List S43} {a1_3 : Int} {a1_4 : Int} {r : Bool} (H : laws_sameSender.f k a0_0 a0_1 l0_2 a0_3 a0_4 a1_0 a1_1 l1_2 a1_3 a1_4 = some r) : ACalls Try.prog 45 [] [.agg [.lit (.int .i64 a0_0), .lit (.int .i64 a0_1), .sl .o 4 (l0_2.map e43), .lit (.int .i64 a0_3), .lit (.int .i64 a0_4)], .agg [.lit (.int .i64 a1_0), .lit (.int .i64 a1_1), .sl .o 4 (l1_2.map e43), .lit (.int .i64 a1_3), .lit (.int .i64 a1_4)]] [] (.lit (.bool r)) := by
 refine acalls (fn := Try.f45) (nt := 38) Try.func45 rfl rfl (Nat.le_of_ble_eq_true rfl) fun E hE => ?_
 rw [laws_sameSender.f] at H
 refine aw_grp1 ?_
 refine wk_start ?_
 refine kb g0 (bxA 0) ?_
 refine kb g0 (bxA 1) ?_
 refine kv g0 (asg) ?_
 refine wk_end ?_
 refine ac_next ?_
 refine aw_grp1 ?_
 refine wk_start ?_
 refine kv g0 (faB 0 0) ?_
 refine kv g0 (ldB) ?_
 refine kv g0 (faB 0 0) ?_
 refine kv g0 (ldB) ?_
 refine kv g0 (eql) ?_
 refine kv g0 (mv) ?_
 by_cases c1 : a0_0 = a1_0
 ·rw [if_pos c1] at H
  refine kv (g1 (eT c1)) (faB 1 1) ?_
  refine kv (g1 (eT c1)) (ldB) ?_
  refine kv (g1 (eT c1)) (faB 1 1) ?_
  refine kv (g1 (eT c1)) (ldB) ?_
  refine kv (g1 (eT c1)) (eql) ?_
  refine kv g0 (pkT (eT c1)) ?_
  refine kv g0 (mv) ?_
  by_cases c2 : a0_1 = a1_1
  ·rw [if_pos c2] at H
   refine kv (g1 (eT c2)) (faB 2 2) ?_
   refine kv (g1 (eT c2)) (ldB) ?_
   refine kv (g1 (eT c2)) (faB 2 2) ?_
   refine kv (g1 (eT c2)) (ldB) ?_
   obtain ⟨t3, A4, H⟩ := of_bind H
   refine kcS0 22 (.lit (.bool t3)) [] (g1 (eT c2)) (cal (laws_sameItems.ok A4) [] 9999 .n (hf := Try.func35)) rfl rfl ?_
   refine kv g0 (pkT (eT c2)) ?_
   refine kv g0 (mv) ?_
   by_cases c5 : t3 = true
   ·rw [if_pos c5] at H
    refine kv (g1 c5) (faB 3 3) ?_
    refine kv (g1 c5) (ldB) ?_
    refine kv (g1 c5) (faB 3 3) ?_
    refine kv (g1 c5) (ldB) ?_
    refine kv (g1 c5) (eql) ?_
    refine kv g0 (pkT c5) ?_
    refine kv g0 (mv) ?_
    by_cases c6 : a0_3 = a1_3
    ·rw [if_pos c6] at H
     refine kv (g1 (eT c6)) (faB 4 4) ?_
     refine kv (g1 (eT c6)) (ldB) ?_
     refine kv (g1 (eT c6)) (faB 4 4) ?_
     refine kv (g1 (eT c6)) (ldB) ?_
     refine kv (g1 (eT c6)) (eql) ?_
     refine kv g0 (pkT (eT c6)) ?_
     refine kv g0 (asg) ?_
     refine wk_end ?_
     refine ac_next ?_
     refine aw_ret ?_
     obtain rfl := Option.some.inj H
     exact acr hE [.tmp 4] (.tmp .nil) (.one _) [] 9999
    rw [if_neg c6] at H
    refine kx (hT (eF c6)) ?_
    refine kx (hT (eF c6)) ?_
    refine kx (hT (eF c6)) ?_
    refine kx (hT (eF c6)) ?_
    refine kx (hT (eF c6)) ?_
    refine kv g0 (pkF (eF c6)) ?_
    refine kv g0 (asg) ?_
    refine wk_end ?_
    refine ac_next ?_
    refine aw_ret ?_
    obtain rfl := Option.some.inj H
    exact acr hE [.tmp 4] (.tmp .nil) (.one _) [] 9999
   rw [if_neg c5] at H
   refine kx (hT (bF c5)) ?_
   refine kx (hT (bF c5)) ?_
   refine kx (hT (bF c5)) ?_
   refine kx (hT (bF c5)) ?_
   refine kx (hT (bF c5)) ?_
   refine kv g0 (pkF (bF c5)) ?_
   refine kv g0 (mv) ?_
   refine kx (hT rfl) ?_
   refine kx (hT rfl) ?_
   refine kx (hT rfl) ?_
   refine kx (hT rfl) ?_
   refine kx (hT rfl) ?_
   refine kv g0 (pkF rfl) ?_
   refine kv g0 (asg) ?_
   refine wk_end ?_
   refine ac_next ?_
   refine aw_ret ?_
   obtain rfl := Option.some.inj H
   exact acr hE [.tmp 4] (.tmp .nil) (.one _) [] 9999
  rw [if_neg c2] at H
  refine kx (hT (eF c2)) ?_
  refine kx (hT (eF c2)) ?_
  refine kx (hT (eF c2)) ?_
  refine kx (hT (eF c2)) ?_
  refine kx (hT (eF c2)) ?_
  refine kv g0 (pkF (eF c2)) ?_
  refine kv g0 (mv) ?_
  refine kx (hT rfl) ?_
  refine kx (hT rfl) ?_
  refine kx (hT rfl) ?_
  refine kx (hT rfl) ?_
  refine kx (hT rfl) ?_
  refine kv g0 (pkF rfl) ?_
  refine kv g0 (mv) ?_
  refine kx (hT rfl) ?_
  refine kx (hT rfl) ?_
  refine kx (hT rfl) ?_
  refine kx (hT rfl) ?_
  refine kx (hT rfl) ?_
  refine kv g0 (pkF rfl) ?_
  refine kv g0 (asg) ?_
  refine wk_end ?_
  refine ac_next ?_
  refine aw_ret ?_
  obtain rfl := Option.some.inj H
  exact acr hE [.tmp 4] (.tmp .nil) (.one _) [] 9999
 rw [if_neg c1] at H
 refine kx (hT (eF c1)) ?_
 refine kx (hT (eF c1)) ?_
 refine kx (hT (eF c1)) ?_
 refine kx (hT (eF c1)) ?_
 refine kx (hT (eF c1)) ?_
 refine kv g0 (pkF (eF c1)) ?_
 refine kv g0 (mv) ?_
 refine kx (hT rfl) ?_
 refine kx (hT rfl) ?_
 refine kx (hT rfl) ?_
 refine kx (hT rfl) ?_
 refine kx (hT rfl) ?_
 refine kv g0 (pkF rfl) ?_
 refine kv g0 (mv) ?_
 refine kx (hT rfl) ?_
 refine kx (hT rfl) ?_
 refine kx (hT rfl) ?_
 refine kx (hT rfl) ?_
 refine kx (hT rfl) ?_
 refine kv g0 (pkF rfl) ?_
 refine kv g0 (mv) ?_
 refine kx (hT rfl) ?_
 refine kx (hT rfl) ?_
 refine kx (hT rfl) ?_
 refine kx (hT rfl) ?_
 refine kx (hT rfl) ?_
 refine kv g0 (pkF rfl) ?_
 refine kv g0 (asg) ?_
 refine wk_end ?_
 refine ac_next ?_
 refine aw_ret ?_
 obtain rfl := Option.some.inj H
 exact acr hE [.tmp 4] (.tmp .nil) (.one _) [] 9999
end Go.Proofs.Ytbapmfjdnnajiaa.PFnSendersTold
