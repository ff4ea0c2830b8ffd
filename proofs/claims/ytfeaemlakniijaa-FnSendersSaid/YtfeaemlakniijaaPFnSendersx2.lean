import Derived.Test.YtfeaemlakniijaaPFnSendersx1
set_option linter.unusedVariables false
set_option linter.unusedSimpArgs false
set_option maxRecDepth 100000
namespace Go.Proofs.Ytfeaemlakniijaa.PFnSenders
open Go Go.RowKit Go.Proofs.YtfeaemlakniijaaA
/-! spec_l18Sender -/
def spec_l18Sender.l0 : Nat → (List Int) → Int → Int → Int → Int → (List S34) → Int → Int → (List S34) → Int → Int → Int → Int → Option (Int × Int × (List S34) × Int × Int × (List Int) × Int × Int)
 | 0, _, _, _, _, _, _, _, _, _, _, _, _, _ => none
 | k36 + 1, q23, p24, p25, p26, p27, q28, p29, p30, q31, p32, p33, p34, p35 => (spec_l01Below.f q23 p24 p25 8).bind fun t37 => if p35 < t37.1 then (spec_l01Below.f t37.2.1 t37.2.2.1 t37.2.2.2 4).bind fun t40 => if t40.1 = 0 then ((spec_Again.f k36 p26 p27 q28 p29 p30 p35).bind fun t43 => spec_l18Sender.l0 k36 t40.2.1 t40.2.2.1 t40.2.2.2 t43.1 t43.2.1 t43.2.2.1 t43.2.2.2.1 t43.2.2.2.2.1 q31 p32 p33 p34 (wrap64 (p35 + 1))) else if t40.1 = 1 then ((spec_l01Below.f t40.2.1 t40.2.2.1 t40.2.2.2 3).bind fun t46 => ((spec_Acked.f k36 p26 p27 q28 p29 p30 (wrap64 (p27 + t46.1))).bind fun t48 => spec_l18Sender.l0 k36 t46.2.1 t46.2.2.1 t46.2.2.2 t48.1 t48.2.1 t48.2.2.1 t48.2.2.2.1 t48.2.2.2.2 q31 p32 p33 p34 (wrap64 (p35 + 1)))) else ((spec_Taken.f k36 p26 p27 q28 p29 p30 q31 p32 p33 p34 p35).bind fun t50 => spec_l18Sender.l0 k36 t40.2.1 t40.2.2.1 t40.2.2.2 t50.1 t50.2.1 t50.2.2.1 t50.2.2.2.1 t50.2.2.2.2.1 t50.2.2.2.2.2.1 t50.2.2.2.2.2.2.1 t50.2.2.2.2.2.2.2.1 t50.2.2.2.2.2.2.2.2.1 (wrap64 (p35 + 1))) else some (p26, p27, q28, p29, p30, t37.2.1, t37.2.2.1, t37.2.2.2)
def spec_l18Sender.f (k : Nat) (l0_0 : List Int) (a0_1 : Int) (a0_2 : Int) : Option (Int × Int × (List S34) × Int × Int × (List Int) × Int × Int) := (spec_l01Below.f l0_0 a0_1 a0_2 3).bind fun t1 => ((spec_SenderNew.f t1.1).bind fun t3 => (spec_l16Ring.f k t1.2.1 t1.2.2.1 t1.2.2.2).bind fun t5 => spec_l18Sender.l0 k t5.2.2.2.2.1 t5.2.2.2.2.2.1 t5.2.2.2.2.2.2 t3.1 t3.2.1 ([]) t3.2.2.1 t3.2.2.2 t5.1 t5.2.1 t5.2.2.1 t5.2.2.2.1 0)
theorem spec_l18Sender.ok {k : Nat} {l0_0 : List Int} {a0_1 : Int} {a0_2 : Int} {r : Int × Int × (List S34) × Int × Int × (List Int) × Int × Int} (H : spec_l18Sender.f k l0_0 a0_1 a0_2 = some r) : ACalls Try.prog 95 [(0, .box 142 [.sl .u 1 (l0_0.map (eI .u8)), .lit (.int .i64 a0_1), .lit (.int .i64 a0_2)])] [.box 0 0] [(0, .box 142 [.sl .u 1 (r.2.2.2.2.2.1.map (eI .u8)), .lit (.int .i64 r.2.2.2.2.2.2.1), .lit (.int .i64 r.2.2.2.2.2.2.2)]), (1, .row 34 4 (r.2.2.1.map e34))] (.agg [.lit (.int .i64 r.1), .lit (.int .i64 r.2.1), .row 1, .lit (.int .i64 r.2.2.2.1), .lit (.int .i64 r.2.2.2.2.1)]) := by
 refine acalls (fn := Try.f95) (nt := 45) Try.func95 rfl rfl (Nat.le_of_ble_eq_true rfl) fun E hE => ?_
 rw [spec_l18Sender.f] at H
 refine aw_grp1 ?_
 refine wk_start ?_
 refine kb g0 (alc 1 [.int .i64 0, .int .i64 0, .slice none 0 0, .int .i64 0, .int .i64 0] [.lit (.int .i64 0), .lit (.int .i64 0), .lit (.slice none 0 0), .lit (.int .i64 0), .lit (.int .i64 0)]) ?_
 refine wk_end ?_
 refine ac_next ?_
 refine aw_grp1 ?_
 refine wk_start ?_
 refine kv g0 (mv) ?_
 obtain ⟨t1, A2, H⟩ := of_bind H
 refine kcS1 7 (.lit (.int .i64 t1.1)) [(0, .box 142 [.sl .u 1 (t1.2.1.map (eI .u8)), .lit (.int .i64 t1.2.2.1), .lit (.int .i64 t1.2.2.2)])] g0 (cal (spec_l01Below.ok A2) [0] 9999 .u (hf := Try.func52)) rfl rfl ?_
 obtain ⟨t3, A4, H⟩ := of_bind H
 refine kcS0 8 (.agg [.lit (.int .i64 t3.1), .lit (.int .i64 t3.2.1), .lit (.slice none 0 0), .lit (.int .i64 t3.2.2.1), .lit (.int .i64 t3.2.2.2)]) [] g0 (cal (spec_SenderNew.ok A4) [] 9999 .n (hf := Try.func139)) rfl rfl ?_
 refine kb g0 (alc 2 [.int .i64 0, .int .i64 0, .slice none 0 0, .int .i64 0, .int .i64 0] [.lit (.int .i64 0), .lit (.int .i64 0), .lit (.slice none 0 0), .lit (.int .i64 0), .lit (.int .i64 0)]) ?_
 refine ks g0 (stB 5 [.lit (.int .i64 t3.1), .lit (.int .i64 t3.2.1), .lit (.slice none 0 0), .lit (.int .i64 t3.2.2.1), .lit (.int .i64 t3.2.2.2)]) ?_
 refine wk_end ?_
 refine ac_next ?_
 refine aw_grp1 ?_
 refine wk_start ?_
 refine kv g0 (mv) ?_
 obtain ⟨t5, A6, H⟩ := of_bind H
 refine kcS2 10 (.agg [.row 3, .lit (.int .i64 t5.2.1), .lit (.int .i64 t5.2.2.1), .lit (.int .i64 t5.2.2.2.1)]) [(0, .box 142 [.sl .u 1 (t5.2.2.2.2.1.map (eI .u8)), .lit (.int .i64 t5.2.2.2.2.2.1), .lit (.int .i64 t5.2.2.2.2.2.2)]), (3, .row 34 4 (t5.1.map e34))] g0 (cal (spec_l16Ring.ok A6) [0, 3] 9999 .u (hf := Try.func140)) rfl rfl ?_
 refine kb g0 (alc 4 [.slice none 0 0, .int .i64 0, .int .i64 0, .int .i64 0] [.lit (.slice none 0 0), .lit (.int .i64 0), .lit (.int .i64 0), .lit (.int .i64 0)]) ?_
 refine ks g0 (stB 4 [.row 3, .lit (.int .i64 t5.2.1), .lit (.int .i64 t5.2.2.1), .lit (.int .i64 t5.2.2.2.1)]) ?_
 refine wk_end ?_
 refine ac_next ?_
 refine aw_grp1 ?_
 refine aw_grp1 ?_
 refine wk_start ?_
 refine kv g0 (asg) ?_
 refine wk_end ?_
 refine ac_next ?_
 refine aw_block ?_
 refine ac_nilB 2 2 9 34 4 [.lit (.int .i64 t3.1), .lit (.int .i64 t3.2.1), .row 9, .lit (.int .i64 t3.2.2.1), .lit (.int .i64 t3.2.2.2)] ?_
 refine aw_loop13 (fun (k_ : Nat) (q23 : List Int) (p24 : Int) (p25 : Int) (p26 : Int) (p27 : Int) (q28 : List S34) (p29 : Int) (p30 : Int) (q31 : List S34) (p32 : Int) (p33 : Int) (p34 : Int) (p35 : Int) => k_ ≤ k ∧ spec_l18Sender.l0 k_ q23 p24 p25 p26 p27 q28 p29 p30 q31 p32 p33 p34 p35 = some r) (fun (q23 : List Int) (p24 : Int) (p25 : Int) (p26 : Int) (p27 : Int) (q28 : List S34) (p29 : Int) (p30 : Int) (q31 : List S34) (p32 : Int) (p33 : Int) (p34 : Int) (p35 : Int) => ⟨[(0, .box 0 0), (2, .box 1 0), (3, .box 2 0), (4, .box 4 0), (5, .lit (.int .i64 p35))], [(0, .box 142 [.sl .u 1 (q23.map (eI .u8)), .lit (.int .i64 p24), .lit (.int .i64 p25)]), (1, .box 75 [.lit (.int .i64 0), .lit (.int .i64 0), .lit (.slice none 0 0), .lit (.int .i64 0), .lit (.int .i64 0)]), (2, .box 75 [.lit (.int .i64 p26), .lit (.int .i64 p27), .row 9, .lit (.int .i64 p29), .lit (.int .i64 p30)]), (3, .row 34 4 (q31.map e34)), (4, .box 164 [.row 3, .lit (.int .i64 p32), .lit (.int .i64 p33), .lit (.int .i64 p34)]), (9, .row 34 4 (q28.map e34))]⟩) k t5.2.2.2.2.1 t5.2.2.2.2.2.1 t5.2.2.2.2.2.2 t3.1 t3.2.1 ([]) t3.2.2.1 t3.2.2.2 t5.1 t5.2.1 t5.2.2.1 t5.2.2.2.1 0 ⟨Nat.le_refl _, H⟩ (fun K_ h_ => acw hE [(0, 0), (1, 1), (2, 2), (3, 3), (4, 4), (9, 9)] 9999 h_) (fun _ _ _ _ _ _ _ _ _ _ _ _ _ => by intro h_; have h_ := h_.2; rw [spec_l18Sender.l0.eq_1] at h_; cases h_) ?_
 intro k36 q23 p24 p25 p26 p27 q28 p29 p30 q31 p32 p33 p34 p35 hq_ K52 hK53
 have hk36 := hq_.1
 have H := hq_.2
 clear hq_
 rw [spec_l18Sender.l0.eq_2] at H
 refine aw_grp1 ?_
 refine aw_grp1 ?_
 refine wk_start ?_
 refine kv g0 (mv) ?_
 refine kv g0 (mv) ?_
 obtain ⟨t37, A38, H⟩ := of_bind H
 refine kcS1 13 (.lit (.int .i64 t37.1)) [(0, .box 142 [.sl .u 1 (t37.2.1.map (eI .u8)), .lit (.int .i64 t37.2.2.1), .lit (.int .i64 t37.2.2.2)])] g0 (cal (spec_l01Below.ok A38) [0] 9999 .u (hf := Try.func52)) rfl rfl ?_
 refine kv g0 (lss) ?_
 refine wk_end ?_
 refine ac_next ?_
 by_cases c39 : p35 < t37.1
 ·rw [if_pos c39] at H
  refine aw_ifT ?_ (decide_eq_true c39)
  refine aw_skip ?_
  refine ac_next ?_
  refine aw_grp1 ?_
  refine aw_block ?_
  refine aw_grp1 ?_
  refine wk_start ?_
  refine kv g0 (mv) ?_
  obtain ⟨t40, A41, H⟩ := of_bind H
  refine kcS1 18 (.lit (.int .i64 t40.1)) [(0, .box 142 [.sl .u 1 (t40.2.1.map (eI .u8)), .lit (.int .i64 t40.2.2.1), .lit (.int .i64 t40.2.2.2)])] g0 (cal (spec_l01Below.ok A41) [0] 9999 .u (hf := Try.func52)) rfl rfl ?_
  refine wk_end ?_
  refine ac_next ?_
  refine aw_block ?_
  refine aw_grp1 ?_
  refine wk_start ?_
  refine kv g0 (eql) ?_
  refine kv g0 (asg) ?_
  refine wk_end ?_
  refine ac_next ?_
  by_cases c42 : t40.1 = 0
  ·rw [if_pos c42] at H
   refine aw_ifT ?_ (eT c42)
   refine wk_start ?_
   refine kv g0 (ldBA 5 [.lit (.int .i64 p26), .lit (.int .i64 p27), .row 9, .lit (.int .i64 p29), .lit (.int .i64 p30)]) ?_
   refine kv g0 (mv) ?_
   obtain ⟨t43, A44, H⟩ := of_bind H
   refine kcS1 32 (.tup [.agg [.lit (.int .i64 t43.1), .lit (.int .i64 t43.2.1), .row 10, .lit (.int .i64 t43.2.2.2.1), .lit (.int .i64 t43.2.2.2.2.1)], .lit (.bool t43.2.2.2.2.2)]) [(10, .row 34 4 (t43.2.2.1.map e34))] g0 (cal (spec_Again.ok A44) [10] 9999 .n (hf := Try.func141)) rfl rfl ?_
   refine kv g0 (mv) ?_
   refine kv g0 (ext) ?_
   refine kv g0 (ext) ?_
   refine ks g0 (stB 5 [.lit (.int .i64 t43.1), .lit (.int .i64 t43.2.1), .row 10, .lit (.int .i64 t43.2.2.2.1), .lit (.int .i64 t43.2.2.2.2.1)]) ?_
   refine wk_end ?_
   refine ac_blkN ?_
   refine ac_blkN ?_
   refine ac_next ?_
   refine wk_start ?_
   refine kv g0 (mv) ?_
   refine kv g0 (add6) ?_
   refine kv g0 (asg) ?_
   refine wk_end ?_
   refine ac_k ?_
   exact acw hE [(0, 0), (1, 1), (2, 2), (3, 3), (4, 4), (9, 10)] 9999 (hK53 k36 t40.2.1 t40.2.2.1 t40.2.2.2 t43.1 t43.2.1 t43.2.2.1 t43.2.2.2.1 t43.2.2.2.2.1 q31 p32 p33 p34 (wrap64 (p35 + 1)) (Nat.le_refl _) ⟨by omega, H⟩)
  rw [if_neg c42] at H
  refine aw_ifF ?_ (eF c42)
  refine aw_grp1 ?_
  refine wk_start ?_
  refine kv g0 (eql) ?_
  refine kv g0 (asg) ?_
  refine wk_end ?_
  refine ac_next ?_
  by_cases c45 : t40.1 = 1
  ·rw [if_pos c45] at H
   refine aw_ifT ?_ (eT c45)
   refine wk_start ?_
   refine kv g0 (ldBA 5 [.lit (.int .i64 p26), .lit (.int .i64 p27), .row 9, .lit (.int .i64 p29), .lit (.int .i64 p30)]) ?_
   refine kv g0 (faB 1 1) ?_
   refine kv g0 (ldB) ?_
   refine kv g0 (mv) ?_
   obtain ⟨t46, A47, H⟩ := of_bind H
   refine kcS1 41 (.lit (.int .i64 t46.1)) [(0, .box 142 [.sl .u 1 (t46.2.1.map (eI .u8)), .lit (.int .i64 t46.2.2.1), .lit (.int .i64 t46.2.2.2)])] g0 (cal (spec_l01Below.ok A47) [0] 9999 .u (hf := Try.func52)) rfl rfl ?_
   refine kv g0 (add6) ?_
   obtain ⟨t48, A49, H⟩ := of_bind H
   refine kcS1 43 (.agg [.lit (.int .i64 t48.1), .lit (.int .i64 t48.2.1), .row 11, .lit (.int .i64 t48.2.2.2.1), .lit (.int .i64 t48.2.2.2.2)]) [(11, .row 34 4 (t48.2.2.1.map e34))] g0 (cal (spec_Acked.ok A49) [11] 9999 .n (hf := Try.func142)) rfl rfl ?_
   refine ks g0 (stB 5 [.lit (.int .i64 t48.1), .lit (.int .i64 t48.2.1), .row 11, .lit (.int .i64 t48.2.2.2.1), .lit (.int .i64 t48.2.2.2.2)]) ?_
   refine wk_end_draw hM (by kernel_rfl) ?_
   refine ac_blkN ?_
   refine ac_blkN ?_
   refine ac_next ?_
   refine wk_start ?_
   refine kv g0 (mv) ?_
   refine kv g0 (add6) ?_
   refine kv g0 (asg) ?_
   refine wk_end ?_
   refine ac_k ?_
   exact acw hE [(0, 0), (1, 1), (2, 2), (3, 3), (4, 4), (9, 11)] 9999 (hK53 k36 t46.2.1 t46.2.2.1 t46.2.2.2 t48.1 t48.2.1 t48.2.2.1 t48.2.2.2.1 t48.2.2.2.2 q31 p32 p33 p34 (wrap64 (p35 + 1)) (Nat.le_refl _) ⟨by omega, H⟩)
  rw [if_neg c45] at H
  refine aw_ifF ?_ (eF c45)
  refine wk_start ?_
  refine kv g0 (ldBA 5 [.lit (.int .i64 p26), .lit (.int .i64 p27), .row 9, .lit (.int .i64 p29), .lit (.int .i64 p30)]) ?_
  refine kv g0 (ldBA 4 [.row 3, .lit (.int .i64 p32), .lit (.int .i64 p33), .lit (.int .i64 p34)]) ?_
  refine kv g0 (mv) ?_
  obtain ⟨t50, A51, H⟩ := of_bind H
  refine kcS2 23 (.tup [.agg [.lit (.int .i64 t50.1), .lit (.int .i64 t50.2.1), .row 12, .lit (.int .i64 t50.2.2.2.1), .lit (.int .i64 t50.2.2.2.2.1)], .agg [.row 13, .lit (.int .i64 t50.2.2.2.2.2.2.1), .lit (.int .i64 t50.2.2.2.2.2.2.2.1), .lit (.int .i64 t50.2.2.2.2.2.2.2.2.1)], .lit (.bool t50.2.2.2.2.2.2.2.2.2)]) [(12, .row 34 4 (t50.2.2.1.map e34)), (13, .row 34 4 (t50.2.2.2.2.2.1.map e34))] g0 (cal (spec_Taken.ok A51) [12, 13] 9999 .n (hf := Try.func143)) rfl rfl ?_
  refine kv g0 (mv) ?_
  refine kv g0 (ext) ?_
  refine kv g0 (ext) ?_
  refine kv g0 (ext) ?_
  refine ks g0 (stB 5 [.lit (.int .i64 t50.1), .lit (.int .i64 t50.2.1), .row 12, .lit (.int .i64 t50.2.2.2.1), .lit (.int .i64 t50.2.2.2.2.1)]) ?_
  refine ks g0 (stB 4 [.row 13, .lit (.int .i64 t50.2.2.2.2.2.2.1), .lit (.int .i64 t50.2.2.2.2.2.2.2.1), .lit (.int .i64 t50.2.2.2.2.2.2.2.2.1)]) ?_
  refine wk_end ?_
  refine ac_blkN ?_
  refine ac_blkN ?_
  refine ac_next ?_
  refine wk_start ?_
  refine kv g0 (mv) ?_
  refine kv g0 (add6) ?_
  refine kv g0 (asg) ?_
  refine wk_end ?_
  refine ac_k ?_
  exact acw hE [(0, 0), (1, 1), (2, 2), (3, 13), (4, 4), (9, 12)] 9999 (hK53 k36 t40.2.1 t40.2.2.1 t40.2.2.2 t50.1 t50.2.1 t50.2.2.1 t50.2.2.2.1 t50.2.2.2.2.1 t50.2.2.2.2.2.1 t50.2.2.2.2.2.2.1 t50.2.2.2.2.2.2.2.1 t50.2.2.2.2.2.2.2.2.1 (wrap64 (p35 + 1)) (Nat.le_refl _) ⟨by omega, H⟩)
 rw [if_neg c39] at H
 refine aw_ifF ?_ (decide_eq_false c39)
 refine aw_exit ?_
 refine ac_then ?_
 refine ac_then ?_
 refine ac_hit rfl ?_
 refine ac_next ?_
 refine aw_grp1 ?_
 refine wk_start ?_
 refine kv g0 (ldBA 5 [.lit (.int .i64 p26), .lit (.int .i64 p27), .row 9, .lit (.int .i64 p29), .lit (.int .i64 p30)]) ?_
 refine ks g0 (stB 5 [.lit (.int .i64 p26), .lit (.int .i64 p27), .row 9, .lit (.int .i64 p29), .lit (.int .i64 p30)]) ?_
 refine wk_end ?_
 refine ac_next ?_
 refine aw_ret ?_
 obtain rfl := Option.some.inj H
 exact acr hE [.cell 2 75] (rcA 5 .nil) (.one _) [(0, 0), (1, 9)] 9999
/-! spec_DrawSender -/
def spec_DrawSender.f (k : Nat) (l0 : List Int) : Option (Int × Int × (List S34) × Int × Int) := (spec_l01New.f k l0).bind fun t1 => ((spec_l18Sender.f k t1.1 t1.2.1 t1.2.2).bind fun t3 => some (t3.1, t3.2.1, t3.2.2.1, t3.2.2.2.1, t3.2.2.2.2.1))
theorem spec_DrawSender.ok {k : Nat} {l0 : List Int} {r : Int × Int × (List S34) × Int × Int} (H : spec_DrawSender.f k l0 = some r) : ACalls Try.prog 35 [] [.sl .o 1 (l0.map (eI .u8))] [(0, .row 34 4 (r.2.2.1.map e34))] (.agg [.lit (.int .i64 r.1), .lit (.int .i64 r.2.1), .row 0, .lit (.int .i64 r.2.2.2.1), .lit (.int .i64 r.2.2.2.2)]) := by
 refine acalls (fn := Try.f35) (nt := 6) Try.func35 rfl rfl (Nat.le_of_ble_eq_true rfl) fun E hE => ?_
 rw [spec_DrawSender.f] at H
 refine aw_grp1 ?_
 refine wk_start ?_
 refine kb g0 (alc 0 [.int .i64 0, .int .i64 0, .slice none 0 0, .int .i64 0, .int .i64 0] [.lit (.int .i64 0), .lit (.int .i64 0), .lit (.slice none 0 0), .lit (.int .i64 0), .lit (.int .i64 0)]) ?_
 refine wk_end ?_
 refine ac_next ?_
 refine aw_grp1 ?_
 refine wk_start ?_
 refine kv g0 (mv) ?_
 obtain ⟨t1, A2, H⟩ := of_bind H
 refine kcS1 4 (.box 1 0) [(1, .box 142 [.sl .o 1 (t1.1.map (eI .u8)), .lit (.int .i64 t1.2.1), .lit (.int .i64 t1.2.2)])] g0 (cal (spec_l01New.ok A2) [1] 9999 .o (hf := Try.func50)) rfl rfl ?_
 obtain ⟨t3, A4, H⟩ := of_bind H
 refine kcS2 5 (.agg [.lit (.int .i64 t3.1), .lit (.int .i64 t3.2.1), .row 2, .lit (.int .i64 t3.2.2.2.1), .lit (.int .i64 t3.2.2.2.2.1)]) [(1, .box 142 [.sl .o 1 (t3.2.2.2.2.2.1.map (eI .u8)), .lit (.int .i64 t3.2.2.2.2.2.2.1), .lit (.int .i64 t3.2.2.2.2.2.2.2)]), (2, .row 34 4 (t3.2.2.1.map e34))] g0 (cal (spec_l18Sender.ok A4) [1, 2] 9999 .o (hf := Try.func95)) rfl rfl ?_
 refine ks g0 (stB 5 [.lit (.int .i64 t3.1), .lit (.int .i64 t3.2.1), .row 2, .lit (.int .i64 t3.2.2.2.1), .lit (.int .i64 t3.2.2.2.2.1)]) ?_
 refine wk_end ?_
 refine ac_next ?_
 refine aw_ret ?_
 obtain rfl := Option.some.inj H
 exact acr hE [.cell 2 75] (rcA 5 .nil) (.one _) [(0, 2)] 9999
/-! impl_within -/
def impl_within.f (a0 : Int) (a1 : Int) (a2 : Int) : Option (Bool) := if a0 ≥ a1 then some (decide (a0 ≤ a2)) else some false
theorem impl_within.ok {a0 : Int} {a1 : Int} {a2 : Int} {r : Bool} (H : impl_within.f a0 a1 a2 = some r) : ACalls Try.prog 55 [] [.lit (.int .i64 a0), .lit (.int .i64 a1), .lit (.int .i64 a2)] [] (.lit (.bool r)) := by
 refine acalls (fn := Try.f55) (nt := 15) Try.func55 rfl rfl (Nat.le_of_ble_eq_true rfl) fun E hE => ?_
 rw [impl_within.f] at H
 refine aw_grp1 ?_
 refine wk_start ?_
 refine kv g0 (asg) ?_
 refine wk_end ?_
 refine ac_next ?_
 refine aw_grp1 ?_
 refine wk_start ?_
 refine kv g0 (mv) ?_
 refine kv g0 (mv) ?_
 refine kv g0 (geq) ?_
 refine kv g0 (mv) ?_
 by_cases c1 : a0 ≥ a1
 ·rw [if_pos c1] at H
  refine kv (g1 (decide_eq_true c1)) (mv) ?_
  refine kv (g1 (decide_eq_true c1)) (mv) ?_
  refine kv (g1 (decide_eq_true c1)) (leq) ?_
  refine kv g0 (pkT (decide_eq_true c1)) ?_
  refine kv g0 (asg) ?_
  refine wk_end ?_
  refine ac_next ?_
  refine aw_ret ?_
  obtain rfl := Option.some.inj H
  exact acr hE [.tmp 6] (.tmp .nil) (.one _) [] 9999
 rw [if_neg c1] at H
 refine kx (hT (decide_eq_false c1)) ?_
 refine kx (hT (decide_eq_false c1)) ?_
 refine kx (hT (decide_eq_false c1)) ?_
 refine kv g0 (pkF (decide_eq_false c1)) ?_
 refine kv g0 (asg) ?_
 refine wk_end ?_
 refine ac_next ?_
 refine aw_ret ?_
 obtain rfl := Option.some.inj H
 exact acr hE [.tmp 6] (.tmp .nil) (.one _) [] 9999
/-! impl_isPid -/
def impl_isPid.f (a0 : Int) : Option (Bool) := (impl_within.f a0 0 2).bind fun t1 => some t1
theorem impl_isPid.ok {a0 : Int} {r : Bool} (H : impl_isPid.f a0 = some r) : ACalls Try.prog 56 [] [.lit (.int .i64 a0)] [] (.lit (.bool r)) := by
 refine acalls (fn := Try.f56) (nt := 5) Try.func56 rfl rfl (Nat.le_of_ble_eq_true rfl) fun E hE => ?_
 rw [impl_isPid.f] at H
 refine aw_grp1 ?_
 refine wk_start ?_
 refine kv g0 (asg) ?_
 refine wk_end ?_
 refine ac_next ?_
 refine aw_grp1 ?_
 refine wk_start ?_
 refine kv g0 (mv) ?_
 obtain ⟨t1, A2, H⟩ := of_bind H
 refine kcS0 4 (.lit (.bool t1)) [] g0 (cal (impl_within.ok A2) [] 9999 .n (hf := Try.func55)) rfl rfl ?_
 refine kv g0 (asg) ?_
 refine wk_end ?_
 refine ac_next ?_
 refine aw_ret ?_
 obtain rfl := Option.some.inj H
 exact acr hE [.tmp 2] (.tmp .nil) (.one _) [] 9999
/-! impl_HalfOk -/
def impl_HalfOk.f (a0 : Int) : Option (Bool) := (impl_within.f a0 0 4294967295).bind fun t1 => some t1
theorem impl_HalfOk.ok {a0 : Int} {r : Bool} (H : impl_HalfOk.f a0 = some r) : ACalls Try.prog 113 [] [.lit (.int .i64 a0)] [] (.lit (.bool r)) := by
 refine acalls (fn := Try.f113) (nt := 5) Try.func113 rfl rfl (Nat.le_of_ble_eq_true rfl) fun E hE => ?_
 rw [impl_HalfOk.f] at H
 refine aw_grp1 ?_
 refine wk_start ?_
 refine kv g0 (asg) ?_
 refine wk_end ?_
 refine ac_next ?_
 refine aw_grp1 ?_
 refine wk_start ?_
 refine kv g0 (mv) ?_
 obtain ⟨t1, A2, H⟩ := of_bind H
 refine kcS0 4 (.lit (.bool t1)) [] g0 (cal (impl_within.ok A2) [] 9999 .n (hf := Try.func55)) rfl rfl ?_
 refine kv g0 (asg) ?_
 refine wk_end ?_
 refine ac_next ?_
 refine aw_ret ?_
 obtain rfl := Option.some.inj H
 exact acr hE [.tmp 2] (.tmp .nil) (.one _) [] 9999
/-! impl_ItemOk -/
def impl_ItemOk.f (a0_0 : Int) (a0_1 : Int) (a0_2 : Int) (a0_3 : Int) : Option (Bool) := if a0_0 = 1 then ((impl_HalfOk.f a0_1).bind fun t2 => (if t2 = true then ((impl_HalfOk.f a0_2).bind fun t5 => (if t5 = true then some (a0_3 == 0) else some false)) else some false)) else if a0_0 = 2 then ((impl_within.f a0_3 1 1000000000).bind fun t9 => (if t9 = true then (if a0_1 = 0 then some (a0_2 == 0) else some false) else some false)) else some false
theorem impl_ItemOk.ok {a0_0 : Int} {a0_1 : Int} {a0_2 : Int} {a0_3 : Int} {r : Bool} (H : impl_ItemOk.f a0_0 a0_1 a0_2 a0_3 = some r) : ACalls Try.prog 57 [] [.agg [.lit (.int .i64 a0_0), .lit (.int .i64 a0_1), .lit (.int .i64 a0_2), .lit (.int .i64 a0_3)]] [] (.lit (.bool r)) := by
 refine acalls (fn := Try.f57) (nt := 35) Try.func57 rfl rfl (Nat.le_of_ble_eq_true rfl) fun E hE => ?_
 rw [impl_ItemOk.f] at H
 refine aw_grp1 ?_
 refine wk_start ?_
 refine kb g0 (bxA 0) ?_
 refine kv g0 (asg) ?_
 refine wk_end ?_
 refine ac_next ?_
 refine aw_grp1 ?_
 refine aw_grp1 ?_
 refine wk_start ?_
 refine kv g0 (faB 0 0) ?_
 refine kv g0 (ldB) ?_
 refine wk_end ?_
 refine ac_next ?_
 refine aw_block ?_
 refine aw_grp1 ?_
 refine wk_start ?_
 refine kv g0 (eql) ?_
 refine kv g0 (asg) ?_
 refine wk_end ?_
 refine ac_next ?_
 by_cases c1 : a0_0 = 1
 ·rw [if_pos c1] at H
  refine aw_ifT ?_ (eT c1)
  refine aw_grp1 ?_
  refine wk_start ?_
  refine kv g0 (faB 1 1) ?_
  refine kv g0 (ldB) ?_
  obtain ⟨t2, A3, H⟩ := of_bind H
  refine kcS0 9 (.lit (.bool t2)) [] g0 (cal (impl_HalfOk.ok A3) [] 9999 .n (hf := Try.func113)) rfl rfl ?_
  refine kv g0 (mv) ?_
  by_cases c4 : t2 = true
  ·rw [if_pos c4] at H
   refine kv (g1 c4) (faB 2 2) ?_
   refine kv (g1 c4) (ldB) ?_
   obtain ⟨t5, A6, H⟩ := of_bind H
   refine kcS0 13 (.lit (.bool t5)) [] (g1 c4) (cal (impl_HalfOk.ok A6) [] 9999 .n (hf := Try.func113)) rfl rfl ?_
   refine kv g0 (pkT c4) ?_
   refine kv g0 (mv) ?_
   by_cases c7 : t5 = true
   ·rw [if_pos c7] at H
    refine kv (g1 c7) (faB 3 3) ?_
    refine kv (g1 c7) (ldB) ?_
    refine kv (g1 c7) (eql) ?_
    refine kv g0 (pkT c7) ?_
    refine kv g0 (asg) ?_
    refine wk_end ?_
    refine ac_next ?_
    refine aw_ret ?_
    refine ac_blkR ?_
    refine ac_thenR ?_
    obtain rfl := Option.some.inj H
    exact acr hE [.tmp 2] (.tmp .nil) (.one _) [] 9999
   rw [if_neg c7] at H
   refine kx (hT (bF c7)) ?_
   refine kx (hT (bF c7)) ?_
   refine kx (hT (bF c7)) ?_
   refine kv g0 (pkF (bF c7)) ?_
   refine kv g0 (asg) ?_
   refine wk_end ?_
   refine ac_next ?_
   refine aw_ret ?_
   refine ac_blkR ?_
   refine ac_thenR ?_
   obtain rfl := Option.some.inj H
   exact acr hE [.tmp 2] (.tmp .nil) (.one _) [] 9999
  rw [if_neg c4] at H
  refine kx (hT (bF c4)) ?_
  refine kx (hT (bF c4)) ?_
  refine kx (hT (bF c4)) ?_
  refine kv g0 (pkF (bF c4)) ?_
  refine kv g0 (mv) ?_
  refine kx (hT rfl) ?_
  refine kx (hT rfl) ?_
  refine kx (hT rfl) ?_
  refine kv g0 (pkF rfl) ?_
  refine kv g0 (asg) ?_
  refine wk_end ?_
  refine ac_next ?_
  refine aw_ret ?_
  refine ac_blkR ?_
  refine ac_thenR ?_
  obtain rfl := Option.some.inj H
  exact acr hE [.tmp 2] (.tmp .nil) (.one _) [] 9999
 rw [if_neg c1] at H
 refine aw_ifF ?_ (eF c1)
 refine aw_grp1 ?_
 refine wk_start ?_
 refine kv g0 (eql) ?_
 refine kv g0 (asg) ?_
 refine wk_end ?_
 refine ac_next ?_
 by_cases c8 : a0_0 = 2
 ·rw [if_pos c8] at H
  refine aw_ifT ?_ (eT c8)
  refine aw_grp1 ?_
  refine wk_start ?_
  refine kv g0 (faB 3 3) ?_
  refine kv g0 (ldB) ?_
  obtain ⟨t9, A10, H⟩ := of_bind H
  refine kcS0 24 (.lit (.bool t9)) [] g0 (cal (impl_within.ok A10) [] 9999 .n (hf := Try.func55)) rfl rfl ?_
  refine kv g0 (mv) ?_
  by_cases c11 : t9 = true
  ·rw [if_pos c11] at H
   refine kv (g1 c11) (faB 1 1) ?_
   refine kv (g1 c11) (ldB) ?_
   refine kv (g1 c11) (eql) ?_
   refine kv g0 (pkT c11) ?_
   refine kv g0 (mv) ?_
   by_cases c12 : a0_1 = 0
   ·rw [if_pos c12] at H
    refine kv (g1 (eT c12)) (faB 2 2) ?_
    refine kv (g1 (eT c12)) (ldB) ?_
    refine kv (g1 (eT c12)) (eql) ?_
    refine kv g0 (pkT (eT c12)) ?_
    refine kv g0 (asg) ?_
    refine wk_end ?_
    refine ac_next ?_
    refine aw_ret ?_
    refine ac_blkR ?_
    refine ac_thenR ?_
    obtain rfl := Option.some.inj H
    exact acr hE [.tmp 2] (.tmp .nil) (.one _) [] 9999
   rw [if_neg c12] at H
   refine kx (hT (eF c12)) ?_
   refine kx (hT (eF c12)) ?_
   refine kx (hT (eF c12)) ?_
   refine kv g0 (pkF (eF c12)) ?_
   refine kv g0 (asg) ?_
   refine wk_end ?_
   refine ac_next ?_
   refine aw_ret ?_
   refine ac_blkR ?_
   refine ac_thenR ?_
   obtain rfl := Option.some.inj H
   exact acr hE [.tmp 2] (.tmp .nil) (.one _) [] 9999
  rw [if_neg c11] at H
  refine kx (hT (bF c11)) ?_
  refine kx (hT (bF c11)) ?_
  refine kx (hT (bF c11)) ?_
  refine kv g0 (pkF (bF c11)) ?_
  refine kv g0 (mv) ?_
  refine kx (hT rfl) ?_
  refine kx (hT rfl) ?_
  refine kx (hT rfl) ?_
  refine kv g0 (pkF rfl) ?_
  refine kv g0 (asg) ?_
  refine wk_end ?_
  refine ac_next ?_
  refine aw_ret ?_
  refine ac_blkR ?_
  refine ac_thenR ?_
  obtain rfl := Option.some.inj H
  exact acr hE [.tmp 2] (.tmp .nil) (.one _) [] 9999
 rw [if_neg c8] at H
 refine aw_ifF ?_ (eF c8)
 refine aw_skip ?_
 refine ac_blkN ?_
 refine ac_next ?_
 refine aw_grp1 ?_
 refine wk_start ?_
 refine kv g0 (asg) ?_
 refine wk_end ?_
 refine ac_next ?_
 refine aw_ret ?_
 obtain rfl := Option.some.inj H
 exact acr hE [.tmp 2] (.tmp .nil) (.one _) [] 9999
/-! impl_areItems -/
def impl_areItems.l0 : Nat → (List S34) → Int → Option (Bool)
 | 0, _, _ => none
 | k7 + 1, l0, p6 => if p6 < (l0.length : Int) then if 0 ≤ p6 then (impl_ItemOk.f ((rd_T34 l0 p6).f0) ((rd_T34 l0 p6).f1) ((rd_T34 l0 p6).f2) ((rd_T34 l0 p6).f3)).bind fun t10 => if t10 = true then impl_areItems.l0 k7 l0 (wrap64 (p6 + 1)) else some false else none else some true
def impl_areItems.f (k : Nat) (l0 : List S34) : Option (Bool) := impl_areItems.l0 k l0 0
theorem impl_areItems.ok {k : Nat} {l0 : List S34} {r : Bool} (H : impl_areItems.f k l0 = some r) : ACalls Try.prog 98 [] [.sl .o 4 (l0.map e34)] [] (.lit (.bool r)) := by
 refine acalls (fn := Try.f98) (nt := 15) Try.func98 rfl rfl (Nat.le_of_ble_eq_true rfl) fun E hE => ?_
 rw [impl_areItems.f] at H
 refine aw_grp1 ?_
 refine wk_start ?_
 refine kv g0 (asg) ?_
 refine wk_end ?_
 refine ac_next ?_
 refine aw_grp1 ?_
 refine aw_grp1 ?_
 refine wk_start ?_
 refine kv g0 (mv) ?_
 refine kv g0 (lnS lenE) ?_
 refine kv g0 (mv) ?_
 refine wk_end ?_
 refine ac_next ?_
 refine aw_block ?_
 refine aw_loop1 (fun (k_ : Nat) (p6 : Int) => k_ ≤ k ∧ impl_areItems.l0 k_ l0 p6 = some r) (fun (p6 : Int) => ⟨[(5, .sl .o 4 (l0.map e34)), (6, .lit (.int .i64 (l0.length : Int))), (7, .lit (.int .i64 p6))], []⟩) k 0 ⟨Nat.le_refl _, H⟩ (fun K_ h_ => acw hE [] 9999 h_) (fun _ => by intro h_; have h_ := h_.2; rw [impl_areItems.l0.eq_1] at h_; cases h_) ?_
 intro k7 p6 hq_ K13 hK14
 have hk7 := hq_.1
 have H := hq_.2
 clear hq_
 rw [impl_areItems.l0.eq_2] at H
 refine aw_grp1 ?_
 refine wk_start ?_
 refine kv g0 (lss) ?_
 refine wk_end ?_
 refine ac_next ?_
 refine aw_grp1 ?_
 by_cases c8 : p6 < (l0.length : Int)
 ·rw [if_pos c8] at H
  refine aw_ifT ?_ (decide_eq_true c8)
  refine aw_skip ?_
  refine ac_next ?_
  refine aw_grp1 ?_
  refine aw_block ?_
  refine aw_grp1 ?_
  refine wk_start ?_
  obtain ⟨c9, H⟩ := of_if H
  refine kv g0 (ixS 34 (e34 (rd_T34 l0 p6)) c9 (getE (z := z34) c9 c8)) ?_
  refine kv g0 (ldRA 4 [.lit (.int .i64 ((rd_T34 l0 p6).f0)), .lit (.int .i64 ((rd_T34 l0 p6).f1)), .lit (.int .i64 ((rd_T34 l0 p6).f2)), .lit (.int .i64 ((rd_T34 l0 p6).f3))]) ?_
  refine kb g0 (alc 0 [.int .i64 0, .int .i64 0, .int .i64 0, .int .i64 0] [.lit (.int .i64 0), .lit (.int .i64 0), .lit (.int .i64 0), .lit (.int .i64 0)]) ?_
  refine ks g0 (stB 4 [.lit (.int .i64 ((rd_T34 l0 p6).f0)), .lit (.int .i64 ((rd_T34 l0 p6).f1)), .lit (.int .i64 ((rd_T34 l0 p6).f2)), .lit (.int .i64 ((rd_T34 l0 p6).f3))]) ?_
  refine wk_end ?_
  refine ac_next ?_
  refine aw_grp1 ?_
  refine wk_start ?_
  refine kv g0 (ldBA 4 [.lit (.int .i64 ((rd_T34 l0 p6).f0)), .lit (.int .i64 ((rd_T34 l0 p6).f1)), .lit (.int .i64 ((rd_T34 l0 p6).f2)), .lit (.int .i64 ((rd_T34 l0 p6).f3))]) ?_
  obtain ⟨t10, A11, H⟩ := of_bind H
  refine kcS0 12 (.lit (.bool t10)) [] g0 (cal (impl_ItemOk.ok A11) [] 9999 .n (hf := Try.func57)) rfl rfl ?_
  refine kv g0 (not_) ?_
  refine wk_end ?_
  refine ac_next ?_
  by_cases c12 : t10 = true
  ·rw [if_pos c12] at H
   refine aw_ifF ?_ (nF c12)
   refine aw_skip ?_
   refine ac_blkN ?_
   refine ac_next ?_
   refine wk_start ?_
   refine kv g0 (add6) ?_
   refine kv g0 (mv) ?_
   refine wk_end ?_
   refine ac_k ?_
   exact acw hE [] 9999 (hK14 k7 (wrap64 (p6 + 1)) (Nat.le_refl _) ⟨by omega, H⟩)
  rw [if_neg c12] at H
  refine aw_ifT ?_ (nT (bF c12))
  refine aw_grp1 ?_
  refine wk_start ?_
  refine kv g0 (asg) ?_
  refine wk_end ?_
  refine ac_next ?_
  refine aw_ret ?_
  refine ac_blkR ?_
  refine ac_thenR ?_
  refine ac_thenR ?_
  refine ac_blkR ?_
  refine ac_thenR ?_
  obtain rfl := Option.some.inj H
  exact acr hE [.tmp 2] (.tmp .nil) (.one _) [] 9999
 rw [if_neg c8] at H
 refine aw_ifF ?_ (decide_eq_false c8)
 refine aw_exit ?_
 refine ac_then ?_
 refine ac_then ?_
 refine ac_hit rfl ?_
 refine ac_next ?_
 refine aw_grp1 ?_
 refine wk_start ?_
 refine kv g0 (asg) ?_
 refine wk_end ?_
 refine ac_next ?_
 refine aw_ret ?_
 obtain rfl := Option.some.inj H
 exact acr hE [.tmp 2] (.tmp .nil) (.one _) [] 9999
/-! impl_SenderOk -/
def impl_SenderOk.f (k : Nat) (a0_0 : Int) (a0_1 : Int) (l0_2 : List S34) (a0_3 : Int) (a0_4 : Int) : Option (Bool) := (impl_isPid.f a0_0).bind fun t1 => (if t1 = true then ((impl_within.f a0_1 1 1000000000).bind fun t4 => (if t4 = true then (if (l0_2.length : Int) ≤ 3 then ((impl_areItems.f k l0_2).bind fun t8 => (if t8 = true then ((impl_within.f a0_3 0 1000000000).bind fun t11 => (if t11 = true then (if a0_4 = 1 then some true else (if a0_4 = 2 then some true else some (a0_4 == 4))) else some false)) else some false)) else some false) else some false)) else some false)
theorem impl_SenderOk.ok {k : Nat} {a0_0 : Int} {a0_1 : Int} {l0_2 : List S34} {a0_3 : Int} {a0_4 : Int} {r : Bool} (H : impl_SenderOk.f k a0_0 a0_1 l0_2 a0_3 a0_4 = some r) : ACalls Try.prog 40 [] [.agg [.lit (.int .i64 a0_0), .lit (.int .i64 a0_1), .sl .o 4 (l0_2.map e34), .lit (.int .i64 a0_3), .lit (.int .i64 a0_4)]] [] (.lit (.bool r)) := by
 refine acalls (fn := Try.f40) (nt := 42) Try.func40 rfl rfl (Nat.le_of_ble_eq_true rfl) fun E hE => ?_
 rw [impl_SenderOk.f] at H
 refine aw_grp1 ?_
 refine wk_start ?_
 refine kb g0 (bxA 0) ?_
 refine kv g0 (asg) ?_
 refine wk_end ?_
 refine ac_next ?_
 refine aw_grp1 ?_
 refine wk_start ?_
 refine kv g0 (faB 0 0) ?_
 refine kv g0 (ldB) ?_
 obtain ⟨t1, A2, H⟩ := of_bind H
 refine kcS0 5 (.lit (.bool t1)) [] g0 (cal (impl_isPid.ok A2) [] 9999 .n (hf := Try.func56)) rfl rfl ?_
 refine kv g0 (mv) ?_
 by_cases c3 : t1 = true
 ·rw [if_pos c3] at H
  refine kv (g1 c3) (faB 1 1) ?_
  refine kv (g1 c3) (ldB) ?_
  obtain ⟨t4, A5, H⟩ := of_bind H
  refine kcS0 9 (.lit (.bool t4)) [] (g1 c3) (cal (impl_within.ok A5) [] 9999 .n (hf := Try.func55)) rfl rfl ?_
  refine kv g0 (pkT c3) ?_
  refine kv g0 (mv) ?_
  by_cases c6 : t4 = true
  ·rw [if_pos c6] at H
   refine kv (g1 c6) (faB 2 2) ?_
   refine kv (g1 c6) (ldB) ?_
   refine kv (g1 c6) (lnS lenE) ?_
   refine kv (g1 c6) (leq) ?_
   refine kv g0 (pkT c6) ?_
   refine kv g0 (mv) ?_
   by_cases c7 : (l0_2.length : Int) ≤ 3
   ·rw [if_pos c7] at H
    refine kv (g1 (decide_eq_true c7)) (faB 2 2) ?_
    refine kv (g1 (decide_eq_true c7)) (ldB) ?_
    obtain ⟨t8, A9, H⟩ := of_bind H
    refine kcS0 20 (.lit (.bool t8)) [] (g1 (decide_eq_true c7)) (cal (impl_areItems.ok A9) [] 9999 .n (hf := Try.func98)) rfl rfl ?_
    refine kv g0 (pkT (decide_eq_true c7)) ?_
    refine kv g0 (mv) ?_
    by_cases c10 : t8 = true
    ·rw [if_pos c10] at H
     refine kv (g1 c10) (faB 3 3) ?_
     refine kv (g1 c10) (ldB) ?_
     obtain ⟨t11, A12, H⟩ := of_bind H
     refine kcS0 25 (.lit (.bool t11)) [] (g1 c10) (cal (impl_within.ok A12) [] 9999 .n (hf := Try.func55)) rfl rfl ?_
     refine kv g0 (pkT c10) ?_
     refine kv g0 (mv) ?_
     by_cases c13 : t11 = true
     ·rw [if_pos c13] at H
      refine kv (g1 c13) (faB 4 4) ?_
      refine kv (g1 c13) (ldB) ?_
      refine kv (g1 c13) (eql) ?_
      refine kv (g1 c13) (mv) ?_
      by_cases c14 : a0_4 = 1
      ·rw [if_pos c14] at H
       refine kx (hF (eT c14)) ?_
       refine kx (hF (eT c14)) ?_
       refine kx (hF (eT c14)) ?_
       refine kv (g1 c13) (pkT (eT c14)) ?_
       refine kv (g1 c13) (mv) ?_
       refine kx (hF rfl) ?_
       refine kx (hF rfl) ?_
       refine kx (hF rfl) ?_
       refine kv (g1 c13) (pkT rfl) ?_
       refine kv g0 (pkT c13) ?_
       refine kv g0 (asg) ?_
       refine wk_end ?_
       refine ac_next ?_
       refine aw_ret ?_
       obtain rfl := Option.some.inj H
       exact acr hE [.tmp 2] (.tmp .nil) (.one _) [] 9999
      rw [if_neg c14] at H
      refine kv (g1 (eF c14)) (faB 4 4) ?_
      refine kv (g1 (eF c14)) (ldB) ?_
      refine kv (g1 (eF c14)) (eql) ?_
      refine kv (g1 c13) (pkF (eF c14)) ?_
      refine kv (g1 c13) (mv) ?_
      by_cases c15 : a0_4 = 2
      ·rw [if_pos c15] at H
       refine kx (hF (eT c15)) ?_
       refine kx (hF (eT c15)) ?_
       refine kx (hF (eT c15)) ?_
       refine kv (g1 c13) (pkT (eT c15)) ?_
       refine kv g0 (pkT c13) ?_
       refine kv g0 (asg) ?_
       refine wk_end ?_
       refine ac_next ?_
       refine aw_ret ?_
       obtain rfl := Option.some.inj H
       exact acr hE [.tmp 2] (.tmp .nil) (.one _) [] 9999
      rw [if_neg c15] at H
      refine kv (g1 (eF c15)) (faB 4 4) ?_
      refine kv (g1 (eF c15)) (ldB) ?_
      refine kv (g1 (eF c15)) (eql) ?_
      refine kv (g1 c13) (pkF (eF c15)) ?_
      refine kv g0 (pkT c13) ?_
      refine kv g0 (asg) ?_
      refine wk_end ?_
      refine ac_next ?_
      refine aw_ret ?_
      obtain rfl := Option.some.inj H
      exact acr hE [.tmp 2] (.tmp .nil) (.one _) [] 9999
     rw [if_neg c13] at H
     refine kx (hT (bF c13)) ?_
     refine kx (hT (bF c13)) ?_
     refine kx (hT (bF c13)) ?_
     refine ku (neT (hT (bF c13))) ?_
     refine ku neU ?_
     refine ku neU ?_
     refine ku neU ?_
     refine kx (hT (bF c13)) ?_
     refine ku (neT (hT (bF c13))) ?_
     refine ku neU ?_
     refine ku neU ?_
     refine ku neU ?_
     refine kx (hT (bF c13)) ?_
     refine kv g0 (pkF (bF c13)) ?_
     refine kv g0 (asg) ?_
     refine wk_end ?_
     refine ac_next ?_
     refine aw_ret ?_
     obtain rfl := Option.some.inj H
     exact acr hE [.tmp 2] (.tmp .nil) (.one _) [] 9999
    rw [if_neg c10] at H
    refine kx (hT (bF c10)) ?_
    refine kx (hT (bF c10)) ?_
    refine kx (hT (bF c10)) ?_
    refine kv g0 (pkF (bF c10)) ?_
    refine kv g0 (mv) ?_
    refine kx (hT rfl) ?_
    refine kx (hT rfl) ?_
    refine kx (hT rfl) ?_
    refine ku (neT (hT rfl)) ?_
    refine ku neU ?_
    refine ku neU ?_
    refine ku neU ?_
    refine kx (hT rfl) ?_
    refine ku (neT (hT rfl)) ?_
    refine ku neU ?_
    refine ku neU ?_
    refine ku neU ?_
    refine kx (hT rfl) ?_
    refine kv g0 (pkF rfl) ?_
    refine kv g0 (asg) ?_
    refine wk_end ?_
    refine ac_next ?_
    refine aw_ret ?_
    obtain rfl := Option.some.inj H
    exact acr hE [.tmp 2] (.tmp .nil) (.one _) [] 9999
   rw [if_neg c7] at H
   refine kx (hT (decide_eq_false c7)) ?_
   refine kx (hT (decide_eq_false c7)) ?_
   refine kx (hT (decide_eq_false c7)) ?_
   refine kv g0 (pkF (decide_eq_false c7)) ?_
   refine kv g0 (mv) ?_
   refine kx (hT rfl) ?_
   refine kx (hT rfl) ?_
   refine kx (hT rfl) ?_
   refine kv g0 (pkF rfl) ?_
   refine kv g0 (mv) ?_
   refine kx (hT rfl) ?_
   refine kx (hT rfl) ?_
   refine kx (hT rfl) ?_
   refine ku (neT (hT rfl)) ?_
   refine ku neU ?_
   refine ku neU ?_
   refine ku neU ?_
   refine kx (hT rfl) ?_
   refine ku (neT (hT rfl)) ?_
   refine ku neU ?_
   refine ku neU ?_
   refine ku neU ?_
   refine kx (hT rfl) ?_
   refine kv g0 (pkF rfl) ?_
   refine kv g0 (asg) ?_
   refine wk_end ?_
   refine ac_next ?_
   refine aw_ret ?_
   obtain rfl := Option.some.inj H
   exact acr hE [.tmp 2] (.tmp .nil) (.one _) [] 9999
  rw [if_neg c6] at H
  refine kx (hT (bF c6)) ?_
  refine kx (hT (bF c6)) ?_
  refine kx (hT (bF c6)) ?_
  refine kx (hT (bF c6)) ?_
  refine kv g0 (pkF (bF c6)) ?_
  refine kv g0 (mv) ?_
  refine kx (hT rfl) ?_
  refine kx (hT rfl) ?_
  refine kx (hT rfl) ?_
  refine kv g0 (pkF rfl) ?_
  refine kv g0 (mv) ?_
  refine kx (hT rfl) ?_
  refine kx (hT rfl) ?_
  refine kx (hT rfl) ?_
  refine kv g0 (pkF rfl) ?_
  refine kv g0 (mv) ?_
  refine kx (hT rfl) ?_
  refine kx (hT rfl) ?_
  refine kx (hT rfl) ?_
  refine ku (neT (hT rfl)) ?_
  refine ku neU ?_
  refine ku neU ?_
  refine ku neU ?_
  refine kx (hT rfl) ?_
  refine ku (neT (hT rfl)) ?_
  refine ku neU ?_
  refine ku neU ?_
  refine ku neU ?_
  refine kx (hT rfl) ?_
  refine kv g0 (pkF rfl) ?_
  refine kv g0 (asg) ?_
  refine wk_end ?_
  refine ac_next ?_
  refine aw_ret ?_
  obtain rfl := Option.some.inj H
  exact acr hE [.tmp 2] (.tmp .nil) (.one _) [] 9999
 rw [if_neg c3] at H
 refine kx (hT (bF c3)) ?_
 refine kx (hT (bF c3)) ?_
 refine kx (hT (bF c3)) ?_
 refine kv g0 (pkF (bF c3)) ?_
 refine kv g0 (mv) ?_
 refine kx (hT rfl) ?_
 refine kx (hT rfl) ?_
 refine kx (hT rfl) ?_
 refine kx (hT rfl) ?_
 refine kv g0 (pkF rfl) ?_
 refine kv g0 (mv) ?_
 refine kx (hT rfl) ?_
 refine kx (hT rfl) ?_
 refine kx (hT rfl) ?_
 refine kv g0 (pkF rfl) ?_
 refine kv g0 (mv) ?_
 refine kx (hT rfl) ?_
 refine kx (hT rfl) ?_
 refine kx (hT rfl) ?_
 refine kv g0 (pkF rfl) ?_
 refine kv g0 (mv) ?_
 refine kx (hT rfl) ?_
 refine kx (hT rfl) ?_
 refine kx (hT rfl) ?_
 refine ku (neT (hT rfl)) ?_
 refine ku neU ?_
 refine ku neU ?_
 refine ku neU ?_
 refine kx (hT rfl) ?_
 refine ku (neT (hT rfl)) ?_
 refine ku neU ?_
 refine ku neU ?_
 refine ku neU ?_
 refine kx (hT rfl) ?_
 refine kv g0 (pkF rfl) ?_
 refine kv g0 (asg) ?_
 refine wk_end ?_
 refine ac_next ?_
 refine aw_ret ?_
 obtain rfl := Option.some.inj H
 exact acr hE [.tmp 2] (.tmp .nil) (.one _) [] 9999
/-! impl_Says -/
def impl_Says.l0 : Nat → Int → Int → (List S34) → Int → Int → (List S36) → Int → Option ((List S36))
 | 0, _, _, _, _, _, _, _ => none
 | k9 + 1, a0_0, a0_1, l0_2, a0_3, a0_4, q7, p8 => if p8 < (l0_2.length : Int) then if 0 ≤ p8 then if q7.length + ([(⟨1, a0_0, wrap64 (a0_1 + p8), (⟨(rd_T34 l0_2 p8).f0, (rd_T34 l0_2 p8).f1, (rd_T34 l0_2 p8).f2, (rd_T34 l0_2 p8).f3⟩ : S34)⟩ : S36)] : List S36).length < 2513169434916 then impl_Says.l0 k9 a0_0 a0_1 l0_2 a0_3 a0_4 (q7 ++ ([(⟨1, a0_0, wrap64 (a0_1 + p8), (⟨(rd_T34 l0_2 p8).f0, (rd_T34 l0_2 p8).f1, (rd_T34 l0_2 p8).f2, (rd_T34 l0_2 p8).f3⟩ : S34)⟩ : S36)] : List S36)) (wrap64 (p8 + 1)) else none else none else some q7
def impl_Says.f (k : Nat) (a0_0 : Int) (a0_1 : Int) (l0_2 : List S34) (a0_3 : Int) (a0_4 : Int) : Option ((List S36)) := (impl_SenderOk.f k a0_0 a0_1 l0_2 a0_3 a0_4).bind fun t1 => if t1 = true then impl_Says.l0 k a0_0 a0_1 l0_2 a0_3 a0_4 ([] : List S36) 0 else some ([] : List S36)
theorem impl_Says.ok {k : Nat} {a0_0 : Int} {a0_1 : Int} {l0_2 : List S34} {a0_3 : Int} {a0_4 : Int} {r : (List S36)} (H : impl_Says.f k a0_0 a0_1 l0_2 a0_3 a0_4 = some r) : ACalls Try.prog 36 [] [.agg [.lit (.int .i64 a0_0), .lit (.int .i64 a0_1), .sl .o 4 (l0_2.map e34), .lit (.int .i64 a0_3), .lit (.int .i64 a0_4)]] [(0, .row 36 7 (r.map e36))] (.row 0) := by
 refine acalls (fn := Try.f36) (nt := 32) Try.func36 rfl rfl (Nat.le_of_ble_eq_true rfl) fun E hE => ?_
 rw [impl_Says.f] at H
 refine aw_grp1 ?_
 refine wk_start ?_
 refine kb g0 (bxA 0) ?_
 refine kv g0 (asg) ?_
 refine wk_end ?_
 refine ac_next ?_
 refine aw_grp1 ?_
 refine wk_start ?_
 refine kb g0 (bsl 1 36 7 [.int .i64 0, .int .i64 0, .int .i64 0, .int .i64 0, .int .i64 0, .int .i64 0, .int .i64 0] (([] : List S36).map e36)) ?_
 refine kv g0 (asg) ?_
 refine wk_end ?_
 refine ac_next ?_
 refine aw_grp1 ?_
 refine aw_grp1 ?_
 refine wk_start ?_
 refine kv g0 (ldBA 5 [.lit (.int .i64 a0_0), .lit (.int .i64 a0_1), .sl .o 4 (l0_2.map e34), .lit (.int .i64 a0_3), .lit (.int .i64 a0_4)]) ?_
 obtain ⟨t1, A2, H⟩ := of_bind H
 refine kcS0 8 (.lit (.bool t1)) [] g0 (cal (impl_SenderOk.ok A2) [] 9999 .n (hf := Try.func40)) rfl rfl ?_
 refine kv g0 (not_) ?_
 refine wk_end ?_
 refine ac_next ?_
 by_cases c3 : t1 = true
 ·rw [if_pos c3] at H
  refine aw_ifF ?_ (nF c3)
  refine aw_skip ?_
  refine ac_next ?_
  refine aw_grp1 ?_
  refine aw_grp1 ?_
  refine wk_start ?_
  refine kv g0 (faB 2 2) ?_
  refine kv g0 (ldB) ?_
  refine kv g0 (lnS lenE) ?_
  refine kv g0 (mv) ?_
  refine wk_end ?_
  refine ac_next ?_
  refine aw_block ?_
  refine aw_loop2 (fun (k_ : Nat) (q7 : List S36) (p8 : Int) => k_ ≤ k ∧ impl_Says.l0 k_ a0_0 a0_1 l0_2 a0_3 a0_4 q7 p8 = some r) (fun (q7 : List S36) (p8 : Int) => ⟨[(1, .box 0 0), (3, .row 1), (12, .sl .o 4 (l0_2.map e34)), (13, .lit (.int .i64 (l0_2.length : Int))), (14, .lit (.int .i64 p8))], [(0, .box 75 [.lit (.int .i64 a0_0), .lit (.int .i64 a0_1), .sl .o 4 (l0_2.map e34), .lit (.int .i64 a0_3), .lit (.int .i64 a0_4)]), (1, .row 36 7 (q7.map e36))]⟩) k ([] : List S36) 0 ⟨Nat.le_refl _, H⟩ (fun K_ h_ => acw hE [(0, 0), (1, 1)] 9999 h_) (fun _ _ => by intro h_; have h_ := h_.2; rw [impl_Says.l0.eq_1] at h_; cases h_) ?_
  intro k9 q7 p8 hq_ K13 hK14
  have hk9 := hq_.1
  have H := hq_.2
  clear hq_
  rw [impl_Says.l0.eq_2] at H
  refine aw_grp1 ?_
  refine wk_start ?_
  refine kv g0 (lss) ?_
  refine wk_end ?_
  refine ac_next ?_
  refine aw_grp1 ?_
  by_cases c10 : p8 < (l0_2.length : Int)
  ·rw [if_pos c10] at H
   refine aw_ifT ?_ (decide_eq_true c10)
   refine aw_skip ?_
   refine ac_next ?_
   refine aw_grp1 ?_
   refine aw_block ?_
   refine aw_grp1 ?_
   refine wk_start ?_
   refine kv g0 (mv) ?_
   obtain ⟨c11, H⟩ := of_if H
   refine kv g0 (ixS 34 (e34 (rd_T34 l0_2 p8)) c11 (getE (z := z34) c11 c10)) ?_
   refine kv g0 (ldRA 4 [.lit (.int .i64 ((rd_T34 l0_2 p8).f0)), .lit (.int .i64 ((rd_T34 l0_2 p8).f1)), .lit (.int .i64 ((rd_T34 l0_2 p8).f2)), .lit (.int .i64 ((rd_T34 l0_2 p8).f3))]) ?_
   refine kb g0 (alc 2 [.int .i64 0, .int .i64 0, .int .i64 0, .int .i64 0] [.lit (.int .i64 0), .lit (.int .i64 0), .lit (.int .i64 0), .lit (.int .i64 0)]) ?_
   refine kv g0 (asg) ?_
   refine ks g0 (stB 4 [.lit (.int .i64 ((rd_T34 l0_2 p8).f0)), .lit (.int .i64 ((rd_T34 l0_2 p8).f1)), .lit (.int .i64 ((rd_T34 l0_2 p8).f2)), .lit (.int .i64 ((rd_T34 l0_2 p8).f3))]) ?_
   refine wk_end ?_
   refine ac_next ?_
   refine wk_start ?_
   refine kv g0 (mv) ?_
   refine kv g0 (faB 0 0) ?_
   refine kv g0 (ldB) ?_
   refine kv g0 (faB 1 1) ?_
   refine kv g0 (ldB) ?_
   refine kv g0 (mv) ?_
   refine kv g0 (add6) ?_
   refine kv g0 (ldBA 4 [.lit (.int .i64 ((rd_T34 l0_2 p8).f0)), .lit (.int .i64 ((rd_T34 l0_2 p8).f1)), .lit (.int .i64 ((rd_T34 l0_2 p8).f2)), .lit (.int .i64 ((rd_T34 l0_2 p8).f3))]) ?_
   refine kv g0 (bld [(0, 1), (1, 1), (2, 1), (3, 4)] [.int .i64 0, .int .i64 0, .int .i64 0, .int .i64 0, .int .i64 0, .int .i64 0, .int .i64 0] [.lit (.int .i64 1), .lit (.int .i64 a0_0), .lit (.int .i64 (wrap64 (a0_1 + p8))), .lit (.int .i64 ((rd_T34 l0_2 p8).f0)), .lit (.int .i64 ((rd_T34 l0_2 p8).f1)), .lit (.int .i64 ((rd_T34 l0_2 p8).f2)), .lit (.int .i64 ((rd_T34 l0_2 p8).f3))]) ?_
   refine kb g0 (bsl 3 36 7 [.int .i64 0, .int .i64 0, .int .i64 0, .int .i64 0, .int .i64 0, .int .i64 0, .int .i64 0] (([(⟨1, a0_0, wrap64 (a0_1 + p8), (⟨(rd_T34 l0_2 p8).f0, (rd_T34 l0_2 p8).f1, (rd_T34 l0_2 p8).f2, (rd_T34 l0_2 p8).f3⟩ : S34)⟩ : S36)] : List S36).map e36)) ?_
   obtain ⟨c12, H⟩ := of_if H
   refine kc g0 (apR 4 36 7 56 [.int .i64 0, .int .i64 0, .int .i64 0, .int .i64 0, .int .i64 0, .int .i64 0, .int .i64 0] ((q7 ++ ([(⟨1, a0_0, wrap64 (a0_1 + p8), (⟨(rd_T34 l0_2 p8).f0, (rd_T34 l0_2 p8).f1, (rd_T34 l0_2 p8).f2, (rd_T34 l0_2 p8).f3⟩ : S34)⟩ : S36)] : List S36)).map e36) (.row rfl) (apb c12 rfl) appE) ?_
   refine kv g0 (asg) ?_
   refine wk_end ?_
   refine ac_blkN ?_
   refine ac_next ?_
   refine wk_start ?_
   refine kv g0 (add6) ?_
   refine kv g0 (mv) ?_
   refine wk_end ?_
   refine ac_k ?_
   exact acw hE [(0, 0), (1, 4)] 9999 (hK14 k9 (q7 ++ ([(⟨1, a0_0, wrap64 (a0_1 + p8), (⟨(rd_T34 l0_2 p8).f0, (rd_T34 l0_2 p8).f1, (rd_T34 l0_2 p8).f2, (rd_T34 l0_2 p8).f3⟩ : S34)⟩ : S36)] : List S36)) (wrap64 (p8 + 1)) (Nat.le_refl _) ⟨by omega, H⟩)
  rw [if_neg c10] at H
  refine aw_ifF ?_ (decide_eq_false c10)
  refine aw_exit ?_
  refine ac_then ?_
  refine ac_then ?_
  refine ac_hit rfl ?_
  refine ac_next ?_
  refine aw_grp1 ?_
  refine wk_start ?_
  refine kv g0 (mv) ?_
  refine kv g0 (asg) ?_
  refine wk_end ?_
  refine ac_next ?_
  refine aw_ret ?_
  obtain rfl := Option.some.inj H
  exact acr hE [.tmp 2] (.tmp .nil) (.one _) [(0, 1)] 9999
 rw [if_neg c3] at H
 refine aw_ifT ?_ (nT (bF c3))
 refine aw_grp1 ?_
 refine wk_start ?_
 refine kv g0 (mv) ?_
 refine kv g0 (asg) ?_
 refine wk_end ?_
 refine ac_next ?_
 refine aw_ret ?_
 refine ac_thenR ?_
 obtain rfl := Option.some.inj H
 exact acr hE [.tmp 2] (.tmp .nil) (.one _) [(0, 1)] 9999
/-! spec_DrawPlaces -/
def spec_DrawPlaces.l0 : Nat → (List Int) → Int → Int → (List Int) → Int → Option ((List Int))
 | 0, _, _, _, _, _ => none
 | k14 + 1, q9, p10, p11, q12, p13 => if p13 < 12 then (spec_l01Below.f q9 p10 p11 10000).bind fun t16 => (if q12.length + ([t16.1] : List Int).length < 17592186044416 then spec_DrawPlaces.l0 k14 t16.2.1 t16.2.2.1 t16.2.2.2 (q12 ++ ([t16.1] : List Int)) (wrap64 (p13 + 1)) else none) else some q12
def spec_DrawPlaces.f (k : Nat) (l0 : List Int) : Option ((List Int)) := (spec_l01New.f k l0).bind fun t1 => (spec_l01Byte.f t1.1 t1.2.1 t1.2.2).bind fun t3 => spec_DrawPlaces.l0 k t3.2.1 t3.2.2.1 t3.2.2.2 ([] : List Int) 0
theorem spec_DrawPlaces.ok {k : Nat} {l0 : List Int} {r : (List Int)} (H : spec_DrawPlaces.f k l0 = some r) : ACalls Try.prog 9 [] [.sl .o 1 (l0.map (eI .u8))] [(0, .row 3 1 (r.map (eI .i64)))] (.row 0) := by
 refine acalls (fn := Try.f9) (nt := 21) Try.func9 rfl rfl (Nat.le_of_ble_eq_true rfl) fun E hE => ?_
 rw [spec_DrawPlaces.f] at H
 refine aw_grp1 ?_
 refine wk_start ?_
 refine kv g0 (asg) ?_
 refine wk_end ?_
 refine ac_next ?_
 refine aw_grp1 ?_
 refine wk_start ?_
 refine kv g0 (mv) ?_
 obtain ⟨t1, A2, H⟩ := of_bind H
 refine kcS1 7 (.box 0 0) [(0, .box 142 [.sl .o 1 (t1.1.map (eI .u8)), .lit (.int .i64 t1.2.1), .lit (.int .i64 t1.2.2)])] g0 (cal (spec_l01New.ok A2) [0] 9999 .o (hf := Try.func50)) rfl rfl ?_
 refine kv g0 (asg) ?_
 refine wk_end ?_
 refine ac_next ?_
 refine aw_grp1 ?_
 refine wk_start ?_
 refine kv g0 (mv) ?_
 obtain ⟨t3, A4, H⟩ := of_bind H
 refine kcS1 9 (.lit (.int .i64 t3.1)) [(0, .box 142 [.sl .o 1 (t3.2.1.map (eI .u8)), .lit (.int .i64 t3.2.2.1), .lit (.int .i64 t3.2.2.2)])] g0 (cal (spec_l01Byte.ok A4) [0] 9999 .o (hf := Try.func51)) rfl rfl ?_
 refine wk_end ?_
 refine ac_next ?_
 refine aw_grp1 ?_
 refine wk_start ?_
 refine kb g0 (bsl 1 3 1 [.int .i64 0] (([] : List Int).map (eI .i64))) ?_
 refine kv g0 (asg) ?_
 refine wk_end ?_
 refine ac_next ?_
 refine aw_grp1 ?_
 refine aw_grp1 ?_
 refine wk_start ?_
 refine kv g0 (asg) ?_
 refine wk_end ?_
 refine ac_next ?_
 refine aw_block ?_
 refine aw_loop5 (fun (k_ : Nat) (q9 : List Int) (p10 : Int) (p11 : Int) (q12 : List Int) (p13 : Int) => k_ ≤ k ∧ spec_DrawPlaces.l0 k_ q9 p10 p11 q12 p13 = some r) (fun (q9 : List Int) (p10 : Int) (p11 : Int) (q12 : List Int) (p13 : Int) => ⟨[(3, .box 0 0), (4, .row 1), (5, .lit (.int .i64 p13))], [(0, .box 142 [.sl .o 1 (q9.map (eI .u8)), .lit (.int .i64 p10), .lit (.int .i64 p11)]), (1, .row 3 1 (q12.map (eI .i64)))]⟩) k t3.2.1 t3.2.2.1 t3.2.2.2 ([] : List Int) 0 ⟨Nat.le_refl _, H⟩ (fun K_ h_ => acw hE [(0, 0), (1, 1)] 9999 h_) (fun _ _ _ _ _ => by intro h_; have h_ := h_.2; rw [spec_DrawPlaces.l0.eq_1] at h_; cases h_) ?_
 intro k14 q9 p10 p11 q12 p13 hq_ K19 hK20
 have hk14 := hq_.1
 have H := hq_.2
 clear hq_
 rw [spec_DrawPlaces.l0.eq_2] at H
 refine aw_grp1 ?_
 refine aw_grp1 ?_
 refine wk_start ?_
 refine kv g0 (mv) ?_
 refine kv g0 (lss) ?_
 refine wk_end ?_
 refine ac_next ?_
 by_cases c15 : p13 < 12
 ·rw [if_pos c15] at H
  refine aw_ifT ?_ (decide_eq_true c15)
  refine aw_skip ?_
  refine ac_next ?_
  refine aw_grp1 ?_
  refine aw_block ?_
  refine wk_start ?_
  refine kv g0 (mv) ?_
  refine kv g0 (mv) ?_
  obtain ⟨t16, A17, H⟩ := of_bind H
  refine kcS1 17 (.lit (.int .i64 t16.1)) [(0, .box 142 [.sl .o 1 (t16.2.1.map (eI .u8)), .lit (.int .i64 t16.2.2.1), .lit (.int .i64 t16.2.2.2)])] g0 (cal (spec_l01Below.ok A17) [0] 9999 .o (hf := Try.func52)) rfl rfl ?_
  refine kb g0 (bsl 2 3 1 [.int .i64 0] (([t16.1] : List Int).map (eI .i64))) ?_
  obtain ⟨c18, H⟩ := of_if H
  refine kc g0 (apR 3 3 1 8 [.int .i64 0] ((q12 ++ ([t16.1] : List Int)).map (eI .i64)) (.row rfl) (apb c18 rfl) appE) ?_
  refine kv g0 (asg) ?_
  refine wk_end ?_
  refine ac_blkN ?_
  refine ac_next ?_
  refine wk_start ?_
  refine kv g0 (mv) ?_
  refine kv g0 (add6) ?_
  refine kv g0 (asg) ?_
  refine wk_end ?_
  refine ac_k ?_
  exact acw hE [(0, 0), (1, 3)] 9999 (hK20 k14 t16.2.1 t16.2.2.1 t16.2.2.2 (q12 ++ ([t16.1] : List Int)) (wrap64 (p13 + 1)) (Nat.le_refl _) ⟨by omega, H⟩)
 rw [if_neg c15] at H
 refine aw_ifF ?_ (decide_eq_false c15)
 refine aw_exit ?_
 refine ac_then ?_
 refine ac_then ?_
 refine ac_hit rfl ?_
 refine ac_next ?_
 refine aw_grp1 ?_
 refine wk_start ?_
 refine kv g0 (mv) ?_
 refine kv g0 (asg) ?_
 refine wk_end ?_
 refine ac_next ?_
 refine aw_ret ?_
 obtain rfl := Option.some.inj H
 exact acr hE [.tmp 2] (.tmp .nil) (.one _) [(0, 1)] 9999
/-! impl_copyItems -/
def impl_copyItems.f (l0 : List S34) : Option ((List S34)) := if ([] : List S34).length + l0.length < 4398046511104 then some (([] : List S34) ++ l0) else none
theorem impl_copyItems.ok {l0 : List S34} {r : (List S34)} (H : impl_copyItems.f l0 = some r) : ACalls Try.prog 97 [] [.sl .o 4 (l0.map e34)] [(0, .row 34 4 (r.map e34))] (.row 0) := by
 refine acalls (fn := Try.f97) (nt := 6) Try.func97 rfl rfl (Nat.le_of_ble_eq_true rfl) fun E hE => ?_
 rw [impl_copyItems.f] at H
 refine aw_grp1 ?_
 refine wk_start ?_
 refine kv g0 (asg) ?_
 refine wk_end ?_
 refine ac_next ?_
 refine aw_grp1 ?_
 refine wk_start ?_
 refine kb g0 (bsl 0 34 4 [.int .i64 0, .int .i64 0, .int .i64 0, .int .i64 0] (([] : List S34).map e34)) ?_
 refine kv g0 (mv) ?_
 obtain ⟨c1, H⟩ := of_if H
 refine kc g0 (apR 1 34 4 32 [.int .i64 0, .int .i64 0, .int .i64 0, .int .i64 0] ((([] : List S34) ++ l0).map e34) (.slF (fl34)) (apb c1 rfl) appE) ?_
 refine kv g0 (asg) ?_
 refine wk_end ?_
 refine ac_next ?_
 refine aw_ret ?_
 obtain rfl := Option.some.inj H
 exact acr hE [.tmp 2] (.tmp .nil) (.one _) [(0, 1)] 9999
/-! impl_copySender -/
def impl_copySender.f (a0_0 : Int) (a0_1 : Int) (l0_2 : List S34) (a0_3 : Int) (a0_4 : Int) : Option (Int × Int × (List S34) × Int × Int) := (impl_copyItems.f l0_2).bind fun t1 => some (a0_0, a0_1, t1, a0_3, a0_4)
theorem impl_copySender.ok {a0_0 : Int} {a0_1 : Int} {l0_2 : List S34} {a0_3 : Int} {a0_4 : Int} {r : Int × Int × (List S34) × Int × Int} (H : impl_copySender.f a0_0 a0_1 l0_2 a0_3 a0_4 = some r) : ACalls Try.prog 96 [] [.agg [.lit (.int .i64 a0_0), .lit (.int .i64 a0_1), .sl .o 4 (l0_2.map e34), .lit (.int .i64 a0_3), .lit (.int .i64 a0_4)]] [(0, .row 34 4 (r.2.2.1.map e34))] (.agg [.lit (.int .i64 r.1), .lit (.int .i64 r.2.1), .row 0, .lit (.int .i64 r.2.2.2.1), .lit (.int .i64 r.2.2.2.2)]) := by
 refine acalls (fn := Try.f96) (nt := 8) Try.func96 rfl rfl (Nat.le_of_ble_eq_true rfl) fun E hE => ?_
 rw [impl_copySender.f] at H
 refine aw_grp1 ?_
 refine wk_start ?_
 refine kb g0 (bxA 0) ?_
 refine kb g0 (alc 1 [.int .i64 0, .int .i64 0, .slice none 0 0, .int .i64 0, .int .i64 0] [.lit (.int .i64 0), .lit (.int .i64 0), .lit (.slice none 0 0), .lit (.int .i64 0), .lit (.int .i64 0)]) ?_
 refine wk_end ?_
 refine ac_next ?_
 refine aw_grp1 ?_
 refine wk_start ?_
 refine kv g0 (faB 2 2) ?_
 refine kv g0 (ldB) ?_
 obtain ⟨t1, A2, H⟩ := of_bind H
 refine kcS1 5 (.row 2) [(2, .row 34 4 (t1.map e34))] g0 (cal (impl_copyItems.ok A2) [2] 9999 .n (hf := Try.func97)) rfl rfl ?_
 refine kv g0 (faB 2 2) ?_
 refine ks g0 (stB 1 [.lit (.int .i64 a0_0), .lit (.int .i64 a0_1), .row 2, .lit (.int .i64 a0_3), .lit (.int .i64 a0_4)]) ?_
 refine wk_end ?_
 refine ac_next ?_
 refine aw_grp1 ?_
 refine wk_start ?_
 refine kv g0 (ldBA 5 [.lit (.int .i64 a0_0), .lit (.int .i64 a0_1), .row 2, .lit (.int .i64 a0_3), .lit (.int .i64 a0_4)]) ?_
 refine ks g0 (stB 5 [.lit (.int .i64 a0_0), .lit (.int .i64 a0_1), .row 2, .lit (.int .i64 a0_3), .lit (.int .i64 a0_4)]) ?_
 refine wk_end ?_
 refine ac_next ?_
 refine aw_ret ?_
 obtain rfl := Option.some.inj H
 exact acr hE [.cell 2 75] (rcA 5 .nil) (.one _) [(0, 2)] 9999
/-! impl_Acked -/
def impl_Acked.f (k : Nat) (a0_0 : Int) (a0_1 : Int) (l0_2 : List S34) (a0_3 : Int) (a0_4 : Int) (a1 : Int) : Option (Int × Int × (List S34) × Int × Int) := (impl_copySender.f a0_0 a0_1 l0_2 a0_3 a0_4).bind fun t1 => (impl_SenderOk.f k a0_0 a0_1 l0_2 a0_3 a0_4).bind fun t3 => (if t3 = true then ((impl_within.f a1 (wrap64 (a0_1 + 1)) (wrap64 (a0_1 + (l0_2.length : Int)))).bind fun t6 => if t6 = true then if 0 ≤ (wrap64 (a1 - a0_1)) then (if (wrap64 (a1 - a0_1)) ≤ (l0_2.length : Int) then ((impl_copyItems.f (l0_2.drop (wrap64 (a1 - a0_1)).toNat)).bind fun t11 => some (t1.1, a1, t11, t1.2.2.2.1, 1)) else none) else none else some (t1.1, t1.2.1, t1.2.2.1, t1.2.2.2.1, t1.2.2.2.2)) else some (t1.1, t1.2.1, t1.2.2.1, t1.2.2.2.1, t1.2.2.2.2))
theorem impl_Acked.ok {k : Nat} {a0_0 : Int} {a0_1 : Int} {l0_2 : List S34} {a0_3 : Int} {a0_4 : Int} {a1 : Int} {r : Int × Int × (List S34) × Int × Int} (H : impl_Acked.f k a0_0 a0_1 l0_2 a0_3 a0_4 a1 = some r) : ACalls Try.prog 37 [] [.agg [.lit (.int .i64 a0_0), .lit (.int .i64 a0_1), .sl .o 4 (l0_2.map e34), .lit (.int .i64 a0_3), .lit (.int .i64 a0_4)], .lit (.int .i64 a1)] [(0, .row 34 4 (r.2.2.1.map e34))] (.agg [.lit (.int .i64 r.1), .lit (.int .i64 r.2.1), .row 0, .lit (.int .i64 r.2.2.2.1), .lit (.int .i64 r.2.2.2.2)]) := by
 refine acalls (fn := Try.f37) (nt := 39) Try.func37 rfl rfl (Nat.le_of_ble_eq_true rfl) fun E hE => ?_
 rw [impl_Acked.f] at H
 refine aw_grp1 ?_
 refine wk_start ?_
 refine kb g0 (bxA 0) ?_
 refine kb g0 (alc 1 [.int .i64 0, .int .i64 0, .slice none 0 0, .int .i64 0, .int .i64 0] [.lit (.int .i64 0), .lit (.int .i64 0), .lit (.slice none 0 0), .lit (.int .i64 0), .lit (.int .i64 0)]) ?_
 refine wk_end ?_
 refine ac_next ?_
 refine aw_grp1 ?_
 refine wk_start ?_
 refine kv g0 (ldBA 5 [.lit (.int .i64 a0_0), .lit (.int .i64 a0_1), .sl .o 4 (l0_2.map e34), .lit (.int .i64 a0_3), .lit (.int .i64 a0_4)]) ?_
 obtain ⟨t1, A2, H⟩ := of_bind H
 refine kcS1 7 (.agg [.lit (.int .i64 t1.1), .lit (.int .i64 t1.2.1), .row 2, .lit (.int .i64 t1.2.2.2.1), .lit (.int .i64 t1.2.2.2.2)]) [(2, .row 34 4 (t1.2.2.1.map e34))] g0 (cal (impl_copySender.ok A2) [2] 9999 .n (hf := Try.func96)) rfl rfl ?_
 refine kb g0 (alc 3 [.int .i64 0, .int .i64 0, .slice none 0 0, .int .i64 0, .int .i64 0] [.lit (.int .i64 0), .lit (.int .i64 0), .lit (.slice none 0 0), .lit (.int .i64 0), .lit (.int .i64 0)]) ?_
 refine ks g0 (stB 5 [.lit (.int .i64 t1.1), .lit (.int .i64 t1.2.1), .row 2, .lit (.int .i64 t1.2.2.2.1), .lit (.int .i64 t1.2.2.2.2)]) ?_
 refine wk_end ?_
 refine ac_next ?_
 refine aw_grp1 ?_
 refine aw_grp1 ?_
 refine wk_start ?_
 refine kv g0 (ldBA 5 [.lit (.int .i64 a0_0), .lit (.int .i64 a0_1), .sl .o 4 (l0_2.map e34), .lit (.int .i64 a0_3), .lit (.int .i64 a0_4)]) ?_
 obtain ⟨t3, A4, H⟩ := of_bind H
 refine kcS0 9 (.lit (.bool t3)) [] g0 (cal (impl_SenderOk.ok A4) [] 9999 .n (hf := Try.func40)) rfl rfl ?_
 refine kv g0 (not_) ?_
 refine kv g0 (mv) ?_
 by_cases c5 : t3 = true
 ·rw [if_pos c5] at H
  refine kv (g1 (nF c5)) (mv) ?_
  refine kv (g1 (nF c5)) (faB 1 1) ?_
  refine kv (g1 (nF c5)) (ldB) ?_
  refine kv (g1 (nF c5)) (add6) ?_
  refine kv (g1 (nF c5)) (faB 1 1) ?_
  refine kv (g1 (nF c5)) (ldB) ?_
  refine kv (g1 (nF c5)) (faB 2 2) ?_
  refine kv (g1 (nF c5)) (ldB) ?_
  refine kv (g1 (nF c5)) (lnS lenE) ?_
  refine kv (g1 (nF c5)) (add6) ?_
  obtain ⟨t6, A7, H⟩ := of_bind H
  refine kcS0 22 (.lit (.bool t6)) [] (g1 (nF c5)) (cal (impl_within.ok A7) [] 9999 .n (hf := Try.func55)) rfl rfl ?_
  refine kv (g1 (nF c5)) (not_) ?_
  refine kv g0 (pkF (nF c5)) ?_
  refine wk_end ?_
  refine ac_next ?_
  by_cases c8 : t6 = true
  ·rw [if_pos c8] at H
   refine aw_ifF ?_ (nF c8)
   refine aw_skip ?_
   refine ac_next ?_
   refine aw_grp1 ?_
   refine wk_start ?_
   refine kv g0 (faB 2 2) ?_
   refine kv g0 (ldB) ?_
   refine kv g0 (mv) ?_
   refine kv g0 (faB 1 1) ?_
   refine kv g0 (ldB) ?_
   refine kv g0 (sub6) ?_
   obtain ⟨c9, H⟩ := of_if H
   obtain ⟨c10, H⟩ := of_if H
   refine kv g0 (slL 34 c9 c10) ?_
   obtain ⟨t11, A12, H⟩ := of_bind H
   refine kcS1 33 (.row 4) [(4, .row 34 4 (t11.map e34))] g0 (cal (impl_copyItems.ok A12) [4] 9999 .n (hf := Try.func97)) rfl rfl ?_
   refine kv g0 (faB 2 2) ?_
   refine ks g0 (stB 1 [.lit (.int .i64 t1.1), .lit (.int .i64 t1.2.1), .row 4, .lit (.int .i64 t1.2.2.2.1), .lit (.int .i64 t1.2.2.2.2)]) ?_
   refine wk_end ?_
   refine ac_next ?_
   refine aw_grp1 ?_
   refine wk_start ?_
   refine kv g0 (mv) ?_
   refine kv g0 (faB 1 1) ?_
   refine ks g0 (stB 1 [.lit (.int .i64 t1.1), .lit (.int .i64 a1), .row 4, .lit (.int .i64 t1.2.2.2.1), .lit (.int .i64 t1.2.2.2.2)]) ?_
   refine wk_end ?_
   refine ac_next ?_
   refine aw_grp1 ?_
   refine wk_start ?_
   refine kv g0 (faB 4 4) ?_
   refine ks g0 (stB 1 [.lit (.int .i64 t1.1), .lit (.int .i64 a1), .row 4, .lit (.int .i64 t1.2.2.2.1), .lit (.int .i64 1)]) ?_
   refine wk_end ?_
   refine ac_next ?_
   refine aw_grp1 ?_
   refine wk_start ?_
   refine kv g0 (ldBA 5 [.lit (.int .i64 t1.1), .lit (.int .i64 a1), .row 4, .lit (.int .i64 t1.2.2.2.1), .lit (.int .i64 1)]) ?_
   refine ks g0 (stB 5 [.lit (.int .i64 t1.1), .lit (.int .i64 a1), .row 4, .lit (.int .i64 t1.2.2.2.1), .lit (.int .i64 1)]) ?_
   refine wk_end ?_
   refine ac_next ?_
   refine aw_ret ?_
   obtain rfl := Option.some.inj H
   exact acr hE [.cell 4 75] (rcA 5 .nil) (.one _) [(0, 4)] 9999
  rw [if_neg c8] at H
  refine aw_ifT ?_ (nT (bF c8))
  refine aw_grp1 ?_
  refine wk_start ?_
  refine kv g0 (ldBA 5 [.lit (.int .i64 t1.1), .lit (.int .i64 t1.2.1), .row 2, .lit (.int .i64 t1.2.2.2.1), .lit (.int .i64 t1.2.2.2.2)]) ?_
  refine ks g0 (stB 5 [.lit (.int .i64 t1.1), .lit (.int .i64 t1.2.1), .row 2, .lit (.int .i64 t1.2.2.2.1), .lit (.int .i64 t1.2.2.2.2)]) ?_
  refine wk_end ?_
  refine ac_next ?_
  refine aw_ret ?_
  refine ac_thenR ?_
  obtain rfl := Option.some.inj H
  exact acr hE [.cell 4 75] (rcA 5 .nil) (.one _) [(0, 2)] 9999
 rw [if_neg c5] at H
 refine kx (hF (nT (bF c5))) ?_
 refine kx (hF (nT (bF c5))) ?_
 refine kx (hF (nT (bF c5))) ?_
 refine kx (hF (nT (bF c5))) ?_
 refine kx (hF (nT (bF c5))) ?_
 refine kx (hF (nT (bF c5))) ?_
 refine kx (hF (nT (bF c5))) ?_
 refine kx (hF (nT (bF c5))) ?_
 refine kx (hF (nT (bF c5))) ?_
 refine kx (hF (nT (bF c5))) ?_
 refine kx (hF (nT (bF c5))) ?_
 refine kx (hF (nT (bF c5))) ?_
 refine kv g0 (pkT (nT (bF c5))) ?_
 refine wk_end ?_
 refine ac_next ?_
 refine aw_ifT ?_ rfl
 refine aw_grp1 ?_
 refine wk_start ?_
 refine kv g0 (ldBA 5 [.lit (.int .i64 t1.1), .lit (.int .i64 t1.2.1), .row 2, .lit (.int .i64 t1.2.2.2.1), .lit (.int .i64 t1.2.2.2.2)]) ?_
 refine ks g0 (stB 5 [.lit (.int .i64 t1.1), .lit (.int .i64 t1.2.1), .row 2, .lit (.int .i64 t1.2.2.2.1), .lit (.int .i64 t1.2.2.2.2)]) ?_
 refine wk_end ?_
 refine ac_next ?_
 refine aw_ret ?_
 refine ac_thenR ?_
 obtain rfl := Option.some.inj H
 exact acr hE [.cell 4 75] (rcA 5 .nil) (.one _) [(0, 2)] 9999
/-! impl_Again -/
def impl_Again.f (k : Nat) (a0_0 : Int) (a0_1 : Int) (l0_2 : List S34) (a0_3 : Int) (a0_4 : Int) (a1 : Int) : Option (Int × Int × (List S34) × Int × Int × Bool) := (impl_copySender.f a0_0 a0_1 l0_2 a0_3 a0_4).bind fun t1 => (impl_SenderOk.f k a0_0 a0_1 l0_2 a0_3 a0_4).bind fun t3 => (if t3 = true then (if (l0_2.length : Int) = 0 then some (t1.1, t1.2.1, t1.2.2.1, t1.2.2.2.1, t1.2.2.2.2, false) else if (wrap64 (a0_3 + a0_4)) > a1 then some (t1.1, t1.2.1, t1.2.2.1, t1.2.2.2.1, t1.2.2.2.2, false) else some (t1.1, t1.2.1, t1.2.2.1, a1, min 4 (wrap64 (2 * a0_4)), true)) else some (t1.1, t1.2.1, t1.2.2.1, t1.2.2.2.1, t1.2.2.2.2, false))
theorem impl_Again.ok {k : Nat} {a0_0 : Int} {a0_1 : Int} {l0_2 : List S34} {a0_3 : Int} {a0_4 : Int} {a1 : Int} {r : Int × Int × (List S34) × Int × Int × Bool} (H : impl_Again.f k a0_0 a0_1 l0_2 a0_3 a0_4 a1 = some r) : ACalls Try.prog 38 [] [.agg [.lit (.int .i64 a0_0), .lit (.int .i64 a0_1), .sl .o 4 (l0_2.map e34), .lit (.int .i64 a0_3), .lit (.int .i64 a0_4)], .lit (.int .i64 a1)] [(0, .row 34 4 (r.2.2.1.map e34))] (.tup [.agg [.lit (.int .i64 r.1), .lit (.int .i64 r.2.1), .row 0, .lit (.int .i64 r.2.2.2.1), .lit (.int .i64 r.2.2.2.2.1)], .lit (.bool r.2.2.2.2.2)]) := by
 refine acalls (fn := Try.f38) (nt := 36) Try.func38 rfl rfl (Nat.le_of_ble_eq_true rfl) fun E hE => ?_
 rw [impl_Again.f] at H
 refine aw_grp1 ?_
 refine wk_start ?_
 refine kb g0 (bxA 0) ?_
 refine kb g0 (alc 1 [.int .i64 0, .int .i64 0, .slice none 0 0, .int .i64 0, .int .i64 0] [.lit (.int .i64 0), .lit (.int .i64 0), .lit (.slice none 0 0), .lit (.int .i64 0), .lit (.int .i64 0)]) ?_
 refine kv g0 (asg) ?_
 refine wk_end ?_
 refine ac_next ?_
 refine aw_grp1 ?_
 refine wk_start ?_
 refine kv g0 (ldBA 5 [.lit (.int .i64 a0_0), .lit (.int .i64 a0_1), .sl .o 4 (l0_2.map e34), .lit (.int .i64 a0_3), .lit (.int .i64 a0_4)]) ?_
 obtain ⟨t1, A2, H⟩ := of_bind H
 refine kcS1 8 (.agg [.lit (.int .i64 t1.1), .lit (.int .i64 t1.2.1), .row 2, .lit (.int .i64 t1.2.2.2.1), .lit (.int .i64 t1.2.2.2.2)]) [(2, .row 34 4 (t1.2.2.1.map e34))] g0 (cal (impl_copySender.ok A2) [2] 9999 .n (hf := Try.func96)) rfl rfl ?_
 refine kb g0 (alc 3 [.int .i64 0, .int .i64 0, .slice none 0 0, .int .i64 0, .int .i64 0] [.lit (.int .i64 0), .lit (.int .i64 0), .lit (.slice none 0 0), .lit (.int .i64 0), .lit (.int .i64 0)]) ?_
 refine ks g0 (stB 5 [.lit (.int .i64 t1.1), .lit (.int .i64 t1.2.1), .row 2, .lit (.int .i64 t1.2.2.2.1), .lit (.int .i64 t1.2.2.2.2)]) ?_
 refine wk_end ?_
 refine ac_next ?_
 refine aw_grp1 ?_
 refine aw_grp1 ?_
 refine wk_start ?_
 refine kv g0 (ldBA 5 [.lit (.int .i64 a0_0), .lit (.int .i64 a0_1), .sl .o 4 (l0_2.map e34), .lit (.int .i64 a0_3), .lit (.int .i64 a0_4)]) ?_
 obtain ⟨t3, A4, H⟩ := of_bind H
 refine kcS0 10 (.lit (.bool t3)) [] g0 (cal (impl_SenderOk.ok A4) [] 9999 .n (hf := Try.func40)) rfl rfl ?_
 refine kv g0 (not_) ?_
 refine kv g0 (mv) ?_
 by_cases c5 : t3 = true
 ·rw [if_pos c5] at H
  refine kv (g1 (nF c5)) (faB 2 2) ?_
  refine kv (g1 (nF c5)) (ldB) ?_
  refine kv (g1 (nF c5)) (lnS lenE) ?_
  refine kv (g1 (nF c5)) (eql) ?_
  refine kv g0 (pkF (nF c5)) ?_
  refine kv g0 (mv) ?_
  by_cases c6 : (l0_2.length : Int) = 0
  ·rw [if_pos c6] at H
   refine kx (hF (eT c6)) ?_
   refine kx (hF (eT c6)) ?_
   refine kx (hF (eT c6)) ?_
   refine kx (hF (eT c6)) ?_
   refine kx (hF (eT c6)) ?_
   refine kx (hF (eT c6)) ?_
   refine kx (hF (eT c6)) ?_
   refine kv g0 (pkT (eT c6)) ?_
   refine wk_end ?_
   refine ac_next ?_
   refine aw_ifT ?_ rfl
   refine aw_grp1 ?_
   refine wk_start ?_
   refine kv g0 (ldBA 5 [.lit (.int .i64 t1.1), .lit (.int .i64 t1.2.1), .row 2, .lit (.int .i64 t1.2.2.2.1), .lit (.int .i64 t1.2.2.2.2)]) ?_
   refine ks g0 (stB 5 [.lit (.int .i64 t1.1), .lit (.int .i64 t1.2.1), .row 2, .lit (.int .i64 t1.2.2.2.1), .lit (.int .i64 t1.2.2.2.2)]) ?_
   refine kv g0 (asg) ?_
   refine wk_end ?_
   refine ac_next ?_
   refine aw_ret ?_
   refine ac_thenR ?_
   obtain rfl := Option.some.inj H
   exact acr hE [.cell 4 75, .tmp 5] (rcA 5 (.tmp .nil)) (.many _ _ _) [(0, 2)] 9999
  rw [if_neg c6] at H
  refine kv (g1 (eF c6)) (faB 3 3) ?_
  refine kv (g1 (eF c6)) (ldB) ?_
  refine kv (g1 (eF c6)) (faB 4 4) ?_
  refine kv (g1 (eF c6)) (ldB) ?_
  refine kv (g1 (eF c6)) (add6) ?_
  refine kv (g1 (eF c6)) (mv) ?_
  refine kv (g1 (eF c6)) (gtr) ?_
  refine kv g0 (pkF (eF c6)) ?_
  refine wk_end ?_
  refine ac_next ?_
  by_cases c7 : (wrap64 (a0_3 + a0_4)) > a1
  ·rw [if_pos c7] at H
   refine aw_ifT ?_ (decide_eq_true c7)
   refine aw_grp1 ?_
   refine wk_start ?_
   refine kv g0 (ldBA 5 [.lit (.int .i64 t1.1), .lit (.int .i64 t1.2.1), .row 2, .lit (.int .i64 t1.2.2.2.1), .lit (.int .i64 t1.2.2.2.2)]) ?_
   refine ks g0 (stB 5 [.lit (.int .i64 t1.1), .lit (.int .i64 t1.2.1), .row 2, .lit (.int .i64 t1.2.2.2.1), .lit (.int .i64 t1.2.2.2.2)]) ?_
   refine kv g0 (asg) ?_
   refine wk_end ?_
   refine ac_next ?_
   refine aw_ret ?_
   refine ac_thenR ?_
   obtain rfl := Option.some.inj H
   exact acr hE [.cell 4 75, .tmp 5] (rcA 5 (.tmp .nil)) (.many _ _ _) [(0, 2)] 9999
  rw [if_neg c7] at H
  refine aw_ifF ?_ (decide_eq_false c7)
  refine aw_skip ?_
  refine ac_next ?_
  refine aw_grp1 ?_
  refine wk_start ?_
  refine kv g0 (mv) ?_
  refine kv g0 (faB 3 3) ?_
  refine ks g0 (stB 1 [.lit (.int .i64 t1.1), .lit (.int .i64 t1.2.1), .row 2, .lit (.int .i64 a1), .lit (.int .i64 t1.2.2.2.2)]) ?_
  refine wk_end ?_
  refine ac_next ?_
  refine aw_grp1 ?_
  refine wk_start ?_
  refine kv g0 (faB 4 4) ?_
  refine kv g0 (ldB) ?_
  refine kv g0 (mul6) ?_
  refine kv g0 (min_) ?_
  refine kv g0 (faB 4 4) ?_
  refine ks g0 (stB 1 [.lit (.int .i64 t1.1), .lit (.int .i64 t1.2.1), .row 2, .lit (.int .i64 a1), .lit (.int .i64 (min 4 (wrap64 (2 * a0_4))))]) ?_
  refine wk_end ?_
  refine ac_next ?_
  refine aw_grp1 ?_
  refine wk_start ?_
  refine kv g0 (ldBA 5 [.lit (.int .i64 t1.1), .lit (.int .i64 t1.2.1), .row 2, .lit (.int .i64 a1), .lit (.int .i64 (min 4 (wrap64 (2 * a0_4))))]) ?_
  refine ks g0 (stB 5 [.lit (.int .i64 t1.1), .lit (.int .i64 t1.2.1), .row 2, .lit (.int .i64 a1), .lit (.int .i64 (min 4 (wrap64 (2 * a0_4))))]) ?_
  refine kv g0 (asg) ?_
  refine wk_end ?_
  refine ac_next ?_
  refine aw_ret ?_
  obtain rfl := Option.some.inj H
  exact acr hE [.cell 4 75, .tmp 5] (rcA 5 (.tmp .nil)) (.many _ _ _) [(0, 2)] 9999
 rw [if_neg c5] at H
 refine kx (hF (nT (bF c5))) ?_
 refine kx (hF (nT (bF c5))) ?_
 refine kx (hF (nT (bF c5))) ?_
 refine kx (hF (nT (bF c5))) ?_
 refine kv g0 (pkT (nT (bF c5))) ?_
 refine kv g0 (mv) ?_
 refine kx (hF rfl) ?_
 refine kx (hF rfl) ?_
 refine kx (hF rfl) ?_
 refine kx (hF rfl) ?_
 refine kx (hF rfl) ?_
 refine kx (hF rfl) ?_
 refine kx (hF rfl) ?_
 refine kv g0 (pkT rfl) ?_
 refine wk_end ?_
 refine ac_next ?_
 refine aw_ifT ?_ rfl
 refine aw_grp1 ?_
 refine wk_start ?_
 refine kv g0 (ldBA 5 [.lit (.int .i64 t1.1), .lit (.int .i64 t1.2.1), .row 2, .lit (.int .i64 t1.2.2.2.1), .lit (.int .i64 t1.2.2.2.2)]) ?_
 refine ks g0 (stB 5 [.lit (.int .i64 t1.1), .lit (.int .i64 t1.2.1), .row 2, .lit (.int .i64 t1.2.2.2.1), .lit (.int .i64 t1.2.2.2.2)]) ?_
 refine kv g0 (asg) ?_
 refine wk_end ?_
 refine ac_next ?_
 refine aw_ret ?_
 refine ac_thenR ?_
 obtain rfl := Option.some.inj H
 exact acr hE [.cell 4 75, .tmp 5] (rcA 5 (.tmp .nil)) (.many _ _ _) [(0, 2)] 9999
/-! laws_sameItems -/
def laws_sameItems.l0 : Nat → (List S34) → (List S34) → Int → Option (Bool)
 | 0, _, _, _ => none
 | k7 + 1, l0, l1, p6 => if p6 < (l0.length : Int) then if 0 ≤ p6 then (if p6 < (l1.length : Int) then if (((rd_T34 l0 p6).f0) == ((rd_T34 l1 p6).f0) && (((rd_T34 l0 p6).f1) == ((rd_T34 l1 p6).f1) && (((rd_T34 l0 p6).f2) == ((rd_T34 l1 p6).f2) && (((rd_T34 l0 p6).f3) == ((rd_T34 l1 p6).f3))))) = true then laws_sameItems.l0 k7 l0 l1 (wrap64 (p6 + 1)) else some false else none) else none else some true
def laws_sameItems.f (k : Nat) (l0 : List S34) (l1 : List S34) : Option (Bool) := if (l0.length : Int) = (l1.length : Int) then laws_sameItems.l0 k l0 l1 0 else some false
theorem laws_sameItems.ok {k : Nat} {l0 : List S34} {l1 : List S34} {r : Bool} (H : laws_sameItems.f k l0 l1 = some r) : ACalls Try.prog 29 [] [.sl .o 4 (l0.map e34), .sl .o 4 (l1.map e34)] [] (.lit (.bool r)) := by
 refine acalls (fn := Try.f29) (nt := 26) Try.func29 rfl rfl (Nat.le_of_ble_eq_true rfl) fun E hE => ?_
 rw [laws_sameItems.f] at H
 refine aw_grp1 ?_
 refine wk_start ?_
 refine kv g0 (asg) ?_
 refine wk_end ?_
 refine ac_next ?_
 refine aw_grp1 ?_
 refine aw_grp1 ?_
 refine wk_start ?_
 refine kv g0 (mv) ?_
 refine kv g0 (lnS lenE) ?_
 refine kv g0 (mv) ?_
 refine kv g0 (lnS lenE) ?_
 refine kv g0 (neq) ?_
 refine wk_end ?_
 refine ac_next ?_
 by_cases c1 : (l0.length : Int) = (l1.length : Int)
 ·rw [if_pos c1] at H
  refine aw_ifF ?_ (eM c1)
  refine aw_skip ?_
  refine ac_next ?_
  refine aw_grp1 ?_
  refine aw_grp1 ?_
  refine wk_start ?_
  refine kv g0 (asg) ?_
  refine wk_end ?_
  refine ac_next ?_
  refine aw_block ?_
  refine aw_loop1 (fun (k_ : Nat) (p6 : Int) => k_ ≤ k ∧ laws_sameItems.l0 k_ l0 l1 p6 = some r) (fun (p6 : Int) => ⟨[(0, .sl .o 4 (l0.map e34)), (1, .sl .o 4 (l1.map e34)), (5, .lit (.int .i64 p6))], []⟩) k 0 ⟨Nat.le_refl _, H⟩ (fun K_ h_ => acw hE [] 9999 h_) (fun _ => by intro h_; have h_ := h_.2; rw [laws_sameItems.l0.eq_1] at h_; cases h_) ?_
  intro k7 p6 hq_ K12 hK13
  have hk7 := hq_.1
  have H := hq_.2
  clear hq_
  rw [laws_sameItems.l0.eq_2] at H
  refine aw_grp1 ?_
  refine aw_grp1 ?_
  refine wk_start ?_
  refine kv g0 (mv) ?_
  refine kv g0 (mv) ?_
  refine kv g0 (lnS lenE) ?_
  refine kv g0 (lss) ?_
  refine wk_end ?_
  refine ac_next ?_
  by_cases c8 : p6 < (l0.length : Int)
  ·rw [if_pos c8] at H
   refine aw_ifT ?_ (decide_eq_true c8)
   refine aw_skip ?_
   refine ac_next ?_
   refine aw_grp1 ?_
   refine aw_block ?_
   refine aw_grp1 ?_
   refine wk_start ?_
   refine kv g0 (mv) ?_
   refine kv g0 (mv) ?_
   obtain ⟨c9, H⟩ := of_if H
   refine kv g0 (ixS 34 (e34 (rd_T34 l0 p6)) c9 (getE (z := z34) c9 c8)) ?_
   refine kv g0 (ldRA 4 [.lit (.int .i64 ((rd_T34 l0 p6).f0)), .lit (.int .i64 ((rd_T34 l0 p6).f1)), .lit (.int .i64 ((rd_T34 l0 p6).f2)), .lit (.int .i64 ((rd_T34 l0 p6).f3))]) ?_
   refine kv g0 (mv) ?_
   refine kv g0 (mv) ?_
   obtain ⟨c10, H⟩ := of_if H
   refine kv g0 (ixS 34 (e34 (rd_T34 l1 p6)) c9 (getE (z := z34) c9 c10)) ?_
   refine kv g0 (ldRA 4 [.lit (.int .i64 ((rd_T34 l1 p6).f0)), .lit (.int .i64 ((rd_T34 l1 p6).f1)), .lit (.int .i64 ((rd_T34 l1 p6).f2)), .lit (.int .i64 ((rd_T34 l1 p6).f3))]) ?_
   refine kv g0 (neS (fun w => eq34 _ w ((rd_T34 l0 p6).f0) ((rd_T34 l0 p6).f1) ((rd_T34 l0 p6).f2) ((rd_T34 l0 p6).f3) ((rd_T34 l1 p6).f0) ((rd_T34 l1 p6).f1) ((rd_T34 l1 p6).f2) ((rd_T34 l1 p6).f3))) ?_
   refine wk_end_draw hM (by kernel_rfl) ?_
   refine ac_next ?_
   by_cases c11 : (((rd_T34 l0 p6).f0) == ((rd_T34 l1 p6).f0) && (((rd_T34 l0 p6).f1) == ((rd_T34 l1 p6).f1) && (((rd_T34 l0 p6).f2) == ((rd_T34 l1 p6).f2) && (((rd_T34 l0 p6).f3) == ((rd_T34 l1 p6).f3))))) = true
   ·rw [if_pos c11] at H
    refine aw_ifF ?_ (nF c11)
    refine aw_skip ?_
    refine ac_blkN ?_
    refine ac_next ?_
    refine wk_start ?_
    refine kv g0 (mv) ?_
    refine kv g0 (add6) ?_
    refine kv g0 (asg) ?_
    refine wk_end ?_
    refine ac_k ?_
    exact acw hE [] 9999 (hK13 k7 (wrap64 (p6 + 1)) (Nat.le_refl _) ⟨by omega, H⟩)
   rw [if_neg c11] at H
   refine aw_ifT ?_ (nT (bF c11))
   refine aw_grp1 ?_
   refine wk_start ?_
   refine kv g0 (asg) ?_
   refine wk_end ?_
   refine ac_next ?_
   refine aw_ret ?_
   refine ac_blkR ?_
   refine ac_thenR ?_
   refine ac_thenR ?_
   refine ac_blkR ?_
   refine ac_thenR ?_
   obtain rfl := Option.some.inj H
   exact acr hE [.tmp 4] (.tmp .nil) (.one _) [] 9999
  rw [if_neg c8] at H
  refine aw_ifF ?_ (decide_eq_false c8)
  refine aw_exit ?_
  refine ac_then ?_
  refine ac_then ?_
  refine ac_hit rfl ?_
  refine ac_next ?_
  refine aw_grp1 ?_
  refine wk_start ?_
  refine kv g0 (asg) ?_
  refine wk_end ?_
  refine ac_next ?_
  refine aw_ret ?_
  obtain rfl := Option.some.inj H
  exact acr hE [.tmp 4] (.tmp .nil) (.one _) [] 9999
 rw [if_neg c1] at H
 refine aw_ifT ?_ (eN c1)
 refine aw_grp1 ?_
 refine wk_start ?_
 refine kv g0 (asg) ?_
 refine wk_end ?_
 refine ac_next ?_
 refine aw_ret ?_
 refine ac_thenR ?_
 obtain rfl := Option.some.inj H
 exact acr hE [.tmp 4] (.tmp .nil) (.one _) [] 9999
/-! laws_sameSender -/
def laws_sameSender.f (k : Nat) (a0_0 : Int) (a0_1 : Int) (l0_2 : List S34) (a0_3 : Int) (a0_4 : Int) (a1_0 : Int) (a1_1 : Int) (l1_2 : List S34) (a1_3 : Int) (a1_4 : Int) : Option (Bool) := if a0_0 = a1_0 then (if a0_1 = a1_1 then ((laws_sameItems.f k l0_2 l1_2).bind fun t3 => (if t3 = true then (if a0_3 = a1_3 then some (a0_4 == a1_4) else some false) else some false)) else some false) else some false
theorem laws_sameSender.ok {k : Nat} {a0_0 : Int} {a0_1 : Int} {l0_2 : List S34} {a0_3 : Int} {a0_4 : Int} {a1_0 : Int} {a1_1 : Int} {l1_2 : List S34} {a1_3 : Int} {a1_4 : Int} {r : Bool} (H : laws_sameSender.f k a0_0 a0_1 l0_2 a0_3 a0_4 a1_0 a1_1 l1_2 a1_3 a1_4 = some r) : ACalls Try.prog 39 [] [.agg [.lit (.int .i64 a0_0), .lit (.int .i64 a0_1), .sl .o 4 (l0_2.map e34), .lit (.int .i64 a0_3), .lit (.int .i64 a0_4)], .agg [.lit (.int .i64 a1_0), .lit (.int .i64 a1_1), .sl .o 4 (l1_2.map e34), .lit (.int .i64 a1_3), .lit (.int .i64 a1_4)]] [] (.lit (.bool r)) := by
 refine acalls (fn := Try.f39) (nt := 38) Try.func39 rfl rfl (Nat.le_of_ble_eq_true rfl) fun E hE => ?_
 rw [laws_sameSender.f] at H
 refine aw_grp1 ?_
 refine wk_start ?_
 refine kb g0 (bxA 0) ?_
 refine kb g0 (bxA 1) ?_
 refine kv g0 (asg) ?_
 refine wk_end ?_
 refine ac_next ?_
 refine aw_grp1 ?_
 refine wk_start ?_
 refine kv g0 (faB 0 0) ?_
 refine kv g0 (ldB) ?_
 refine kv g0 (faB 0 0) ?_
 refine kv g0 (ldB) ?_
 refine kv g0 (eql) ?_
 refine kv g0 (mv) ?_
 by_cases c1 : a0_0 = a1_0
 ·rw [if_pos c1] at H
  refine kv (g1 (eT c1)) (faB 1 1) ?_
  refine kv (g1 (eT c1)) (ldB) ?_
  refine kv (g1 (eT c1)) (faB 1 1) ?_
  refine kv (g1 (eT c1)) (ldB) ?_
  refine kv (g1 (eT c1)) (eql) ?_
  refine kv g0 (pkT (eT c1)) ?_
  refine kv g0 (mv) ?_
  by_cases c2 : a0_1 = a1_1
  ·rw [if_pos c2] at H
   refine kv (g1 (eT c2)) (faB 2 2) ?_
   refine kv (g1 (eT c2)) (ldB) ?_
   refine kv (g1 (eT c2)) (faB 2 2) ?_
   refine kv (g1 (eT c2)) (ldB) ?_
   obtain ⟨t3, A4, H⟩ := of_bind H
   refine kcS0 22 (.lit (.bool t3)) [] (g1 (eT c2)) (cal (laws_sameItems.ok A4) [] 9999 .n (hf := Try.func29)) rfl rfl ?_
   refine kv g0 (pkT (eT c2)) ?_
   refine kv g0 (mv) ?_
   by_cases c5 : t3 = true
   ·rw [if_pos c5] at H
    refine kv (g1 c5) (faB 3 3) ?_
    refine kv (g1 c5) (ldB) ?_
    refine kv (g1 c5) (faB 3 3) ?_
    refine kv (g1 c5) (ldB) ?_
    refine kv (g1 c5) (eql) ?_
    refine kv g0 (pkT c5) ?_
    refine kv g0 (mv) ?_
    by_cases c6 : a0_3 = a1_3
    ·rw [if_pos c6] at H
     refine kv (g1 (eT c6)) (faB 4 4) ?_
     refine kv (g1 (eT c6)) (ldB) ?_
     refine kv (g1 (eT c6)) (faB 4 4) ?_
     refine kv (g1 (eT c6)) (ldB) ?_
     refine kv (g1 (eT c6)) (eql) ?_
     refine kv g0 (pkT (eT c6)) ?_
     refine kv g0 (asg) ?_
     refine wk_end ?_
     refine ac_next ?_
     refine aw_ret ?_
     obtain rfl := Option.some.inj H
     exact acr hE [.tmp 4] (.tmp .nil) (.one _) [] 9999
    rw [if_neg c6] at H
    refine kx (hT (eF c6)) ?_
    refine kx (hT (eF c6)) ?_
    refine kx (hT (eF c6)) ?_
    refine kx (hT (eF c6)) ?_
    refine kx (hT (eF c6)) ?_
    refine kv g0 (pkF (eF c6)) ?_
    refine kv g0 (asg) ?_
    refine wk_end ?_
    refine ac_next ?_
    refine aw_ret ?_
    obtain rfl := Option.some.inj H
    exact acr hE [.tmp 4] (.tmp .nil) (.one _) [] 9999
   rw [if_neg c5] at H
   refine kx (hT (bF c5)) ?_
   refine kx (hT (bF c5)) ?_
   refine kx (hT (bF c5)) ?_
   refine kx (hT (bF c5)) ?_
   refine kx (hT (bF c5)) ?_
   refine kv g0 (pkF (bF c5)) ?_
   refine kv g0 (mv) ?_
   refine kx (hT rfl) ?_
   refine kx (hT rfl) ?_
   refine kx (hT rfl) ?_
   refine kx (hT rfl) ?_
   refine kx (hT rfl) ?_
   refine kv g0 (pkF rfl) ?_
   refine kv g0 (asg) ?_
   refine wk_end ?_
   refine ac_next ?_
   refine aw_ret ?_
   obtain rfl := Option.some.inj H
   exact acr hE [.tmp 4] (.tmp .nil) (.one _) [] 9999
  rw [if_neg c2] at H
  refine kx (hT (eF c2)) ?_
  refine kx (hT (eF c2)) ?_
  refine kx (hT (eF c2)) ?_
  refine kx (hT (eF c2)) ?_
  refine kx (hT (eF c2)) ?_
  refine kv g0 (pkF (eF c2)) ?_
  refine kv g0 (mv) ?_
  refine kx (hT rfl) ?_
  refine kx (hT rfl) ?_
  refine kx (hT rfl) ?_
  refine kx (hT rfl) ?_
  refine kx (hT rfl) ?_
  refine kv g0 (pkF rfl) ?_
  refine kv g0 (mv) ?_
  refine kx (hT rfl) ?_
  refine kx (hT rfl) ?_
  refine kx (hT rfl) ?_
  refine kx (hT rfl) ?_
  refine kx (hT rfl) ?_
  refine kv g0 (pkF rfl) ?_
  refine kv g0 (asg) ?_
  refine wk_end ?_
  refine ac_next ?_
  refine aw_ret ?_
  obtain rfl := Option.some.inj H
  exact acr hE [.tmp 4] (.tmp .nil) (.one _) [] 9999
 rw [if_neg c1] at H
 refine kx (hT (eF c1)) ?_
 refine kx (hT (eF c1)) ?_
 refine kx (hT (eF c1)) ?_
 refine kx (hT (eF c1)) ?_
 refine kx (hT (eF c1)) ?_
 refine kv g0 (pkF (eF c1)) ?_
 refine kv g0 (mv) ?_
 refine kx (hT rfl) ?_
 refine kx (hT rfl) ?_
 refine kx (hT rfl) ?_
 refine kx (hT rfl) ?_
 refine kx (hT rfl) ?_
 refine kv g0 (pkF rfl) ?_
 refine kv g0 (mv) ?_
 refine kx (hT rfl) ?_
 refine kx (hT rfl) ?_
 refine kx (hT rfl) ?_
 refine kx (hT rfl) ?_
 refine kx (hT rfl) ?_
 refine kv g0 (pkF rfl) ?_
 refine kv g0 (mv) ?_
 refine kx (hT rfl) ?_
 refine kx (hT rfl) ?_
 refine kx (hT rfl) ?_
 refine kx (hT rfl) ?_
 refine kx (hT rfl) ?_
 refine kv g0 (pkF rfl) ?_
 refine kv g0 (asg) ?_
 refine wk_end ?_
 refine ac_next ?_
 refine aw_ret ?_
 obtain rfl := Option.some.inj H
 exact acr hE [.tmp 4] (.tmp .nil) (.one _) [] 9999
/-! laws_FnSenders -/
def laws_FnSenders.l0 : Nat → (Int × Int × (List S34) × Int × Int) → ((List S36)) → ((List Int)) → (Int × Int × (List S34) × Int × Int) → Int → Option (Bool)
 | 0, _, _, _, _, _ => none
 | k22 + 1, t4, t6, t8, t12, p21 => if p21 < (t6.length : Int) then if 0 ≤ p21 then (if ((rd_T36 t6 p21).f2) = (wrap64 (t4.2.1 + p21)) then (if p21 < (t4.2.2.1.length : Int) then (if (((rd_T36 t6 p21).f3.f0) == ((rd_T34 t4.2.2.1 p21).f0) && (((rd_T36 t6 p21).f3.f1) == ((rd_T34 t4.2.2.1 p21).f1) && (((rd_T36 t6 p21).f3.f2) == ((rd_T34 t4.2.2.1 p21).f2) && (((rd_T36 t6 p21).f3.f3) == ((rd_T34 t4.2.2.1 p21).f3))))) = true then (if ((rd_T36 t6 p21).f1) = t4.1 then if ((rd_T36 t6 p21).f0) = 1 then laws_FnSenders.l0 k22 t4 t6 t8 t12 (wrap64 (p21 + 1)) else some false else some false) else some false) else none) else some false) else none else (impl_Acked.f k22 t12.1 t12.2.1 t12.2.2.1 t12.2.2.2.1 t12.2.2.2.2 (wrap64 (t4.2.1 + ((rd t8 0).tmod (wrap64 ((t4.2.2.1.length : Int) + 1)))))).bind fun t32 => (impl_Again.f k22 t4.1 t4.2.1 t4.2.2.1 t4.2.2.2.1 t4.2.2.2.2 (wrap64 (t4.2.2.2.1 + t4.2.2.2.2))).bind fun t34 => (impl_Again.f k22 t4.1 t4.2.1 t4.2.2.1 t4.2.2.2.1 t4.2.2.2.2 (wrap64 ((wrap64 (t4.2.2.2.1 + t4.2.2.2.2)) - 1))).bind fun t36 => if (t6.length : Int) = (t4.2.2.1.length : Int) then (if 0 ≤ ((rd t8 0).tmod (wrap64 ((t4.2.2.1.length : Int) + 1))) then (if ((rd t8 0).tmod (wrap64 ((t4.2.2.1.length : Int) + 1))) ≤ (t4.2.2.1.length : Int) then ((laws_sameItems.f k22 t12.2.2.1 (t4.2.2.1.drop ((rd t8 0).tmod (wrap64 ((t4.2.2.1.length : Int) + 1))).toNat)).bind fun t41 => (if t41 = true then (if t12.2.1 = (wrap64 (t4.2.1 + ((rd t8 0).tmod (wrap64 ((t4.2.2.1.length : Int) + 1))))) then ((laws_sameSender.f k22 t32.1 t32.2.1 t32.2.2.1 t32.2.2.2.1 t32.2.2.2.2 t12.1 t12.2.1 t12.2.2.1 t12.2.2.2.1 t12.2.2.2.2).bind fun t45 => (if t45 = true then (if t34.2.2.2.2.2 = (decide ((t4.2.2.1.length : Int) > 0)) then (if t36.2.2.2.2.2 = true then some false else ((laws_sameItems.f k22 t34.2.2.1 t4.2.2.1).bind fun t50 => (if t50 = true then ((impl_SenderOk.f k22 t4.1 t4.2.1 t4.2.2.1 t4.2.2.2.1 t4.2.2.2.2).bind fun t53 => (if t53 = true then ((impl_SenderOk.f k22 t12.1 t12.2.1 t12.2.2.1 t12.2.2.2.1 t12.2.2.2.2).bind fun t56 => (if t56 = true then ((impl_Acked.f k22 t4.1 t4.2.1 t4.2.2.1 t4.2.2.2.1 t4.2.2.2.2 (wrap64 ((wrap64 (t4.2.1 + (t4.2.2.1.length : Int))) + 1))).bind fun t59 => ((laws_sameSender.f k22 t59.1 t59.2.1 t59.2.2.1 t59.2.2.2.1 t59.2.2.2.2 t4.1 t4.2.1 t4.2.2.1 t4.2.2.2.1 t4.2.2.2.2).bind fun t61 => some t61)) else some false)) else some false)) else some false))) else some false) else some false)) else some false) else some false)) else none) else none) else some false
def laws_FnSenders.f (k : Nat) (l0 : List Int) : Option (Bool) := (laws_big.f l0).bind fun t1 => if t1 = true then some true else (spec_DrawSender.f k l0).bind fun t4 => (impl_Says.f k t4.1 t4.2.1 t4.2.2.1 t4.2.2.2.1 t4.2.2.2.2).bind fun t6 => (spec_DrawPlaces.f k l0).bind fun t8 => (if 0 < (t8.length : Int) then (if (wrap64 ((t4.2.2.1.length : Int) + 1)) ≠ 0 then (impl_Acked.f k t4.1 t4.2.1 t4.2.2.1 t4.2.2.2.1 t4.2.2.2.2 (wrap64 (t4.2.1 + ((rd t8 0).tmod (wrap64 ((t4.2.2.1.length : Int) + 1)))))).bind fun t12 => laws_FnSenders.l0 k t4 t6 t8 t12 0 else none) else none)
theorem laws_FnSenders.ok {k : Nat} {l0 : List Int} {r : Bool} (H : laws_FnSenders.f k l0 = some r) : ACalls Try.prog 6 [] [.sl .o 1 (l0.map (eI .u8))] [] (.lit (.bool r)) := by
 refine acalls (fn := Try.f6) (nt := 177) Try.func6 rfl rfl (Nat.le_of_ble_eq_true rfl) fun E hE => ?_
 rw [laws_FnSenders.f] at H
 refine aw_grp1 ?_
 refine wk_start ?_
 refine kv g0 (asg) ?_
 refine wk_end ?_
 refine ac_next ?_
 refine aw_grp1 ?_
 refine aw_grp1 ?_
 refine wk_start ?_
 refine kv g0 (mv) ?_
 obtain ⟨t1, A2, H⟩ := of_bind H
 refine kcS0 14 (.lit (.bool t1)) [] g0 (cal (laws_big.ok A2) [] 9999 .n (hf := Try.func8)) rfl rfl ?_
 refine wk_end ?_
 refine ac_next ?_
 by_cases c3 : t1 = true
 ·rw [if_pos c3] at H
  refine aw_ifT ?_ c3
  refine aw_grp1 ?_
  refine wk_start ?_
  refine kv g0 (asg) ?_
  refine wk_end ?_
  refine ac_next ?_
  refine aw_ret ?_
  refine ac_thenR ?_
  obtain rfl := Option.some.inj H
  exact acr hE [.tmp 2] (.tmp .nil) (.one _) [] 9999
 rw [if_neg c3] at H
 refine aw_ifF ?_ (bF c3)
 refine aw_skip ?_
 refine ac_next ?_
 refine aw_grp1 ?_
 refine wk_start ?_
 refine kv g0 (mv) ?_
 obtain ⟨t4, A5, H⟩ := of_bind H
 refine kcS1 16 (.agg [.lit (.int .i64 t4.1), .lit (.int .i64 t4.2.1), .row 0, .lit (.int .i64 t4.2.2.2.1), .lit (.int .i64 t4.2.2.2.2)]) [(0, .row 34 4 (t4.2.2.1.map e34))] g0 (cal (spec_DrawSender.ok A5) [0] 9999 .n (hf := Try.func35)) rfl rfl ?_
 refine kb g0 (alc 1 [.int .i64 0, .int .i64 0, .slice none 0 0, .int .i64 0, .int .i64 0] [.lit (.int .i64 0), .lit (.int .i64 0), .lit (.slice none 0 0), .lit (.int .i64 0), .lit (.int .i64 0)]) ?_
 refine ks g0 (stB 5 [.lit (.int .i64 t4.1), .lit (.int .i64 t4.2.1), .row 0, .lit (.int .i64 t4.2.2.2.1), .lit (.int .i64 t4.2.2.2.2)]) ?_
 refine wk_end ?_
 refine ac_next ?_
 refine aw_grp1 ?_
 refine wk_start ?_
 refine kv g0 (ldBA 5 [.lit (.int .i64 t4.1), .lit (.int .i64 t4.2.1), .row 0, .lit (.int .i64 t4.2.2.2.1), .lit (.int .i64 t4.2.2.2.2)]) ?_
 obtain ⟨t6, A7, H⟩ := of_bind H
 refine kcS1 18 (.row 2) [(2, .row 36 7 (t6.map e36))] g0 (cal (impl_Says.ok A7) [2] 9999 .n (hf := Try.func36)) rfl rfl ?_
 refine kv g0 (asg) ?_
 refine wk_end ?_
 refine ac_next ?_
 refine aw_grp1 ?_
 refine wk_start ?_
 refine kv g0 (mv) ?_
 obtain ⟨t8, A9, H⟩ := of_bind H
 refine kcS1 20 (.row 3) [(3, .row 3 1 (t8.map (eI .i64)))] g0 (cal (spec_DrawPlaces.ok A9) [3] 9999 .n (hf := Try.func9)) rfl rfl ?_
 obtain ⟨c10, H⟩ := of_if H
 refine kv g0 (ixR 3 (by decide : (0 : Int) ≤ 0) (ltE c10)) ?_
 refine kv g0 (ldE (eI .i64 (rd t8 0)) (.lit (.int .i64 (rd t8 0))) (getE (z := (0 : Int)) (by decide : (0 : Int) ≤ 0) c10)) ?_
 refine kv g0 (faB 2 2) ?_
 refine kv g0 (ldB) ?_
 refine kv g0 (lnR lenE) ?_
 refine kv g0 (add6) ?_
 obtain ⟨c11, H⟩ := of_if H
 refine kv g0 (rem c11) ?_
 refine kv g0 (asg) ?_
 refine wk_end_draw hM (by kernel_rfl) ?_
 refine ac_next ?_
 refine aw_grp1 ?_
 refine wk_start ?_
 refine kv g0 (ldBA 5 [.lit (.int .i64 t4.1), .lit (.int .i64 t4.2.1), .row 0, .lit (.int .i64 t4.2.2.2.1), .lit (.int .i64 t4.2.2.2.2)]) ?_
 refine kv g0 (faB 1 1) ?_
 refine kv g0 (ldB) ?_
 refine kv g0 (mv) ?_
 refine kv g0 (add6) ?_
 obtain ⟨t12, A13, H⟩ := of_bind H
 refine kcS1 33 (.agg [.lit (.int .i64 t12.1), .lit (.int .i64 t12.2.1), .row 4, .lit (.int .i64 t12.2.2.2.1), .lit (.int .i64 t12.2.2.2.2)]) [(4, .row 34 4 (t12.2.2.1.map e34))] g0 (cal (impl_Acked.ok A13) [4] 9999 .n (hf := Try.func37)) rfl rfl ?_
 refine kb g0 (alc 5 [.int .i64 0, .int .i64 0, .slice none 0 0, .int .i64 0, .int .i64 0] [.lit (.int .i64 0), .lit (.int .i64 0), .lit (.slice none 0 0), .lit (.int .i64 0), .lit (.int .i64 0)]) ?_
 refine ks g0 (stB 5 [.lit (.int .i64 t12.1), .lit (.int .i64 t12.2.1), .row 4, .lit (.int .i64 t12.2.2.2.1), .lit (.int .i64 t12.2.2.2.2)]) ?_
 refine wk_end ?_
 refine ac_next ?_
 refine aw_grp1 ?_
 refine aw_grp1 ?_
 refine wk_start ?_
 refine kv g0 (asg) ?_
 refine wk_end ?_
 refine ac_next ?_
 refine aw_block ?_
 refine aw_loop1 (fun (k_ : Nat) (p21 : Int) => k_ ≤ k ∧ laws_FnSenders.l0 k_ t4 t6 t8 t12 p21 = some r) (fun (p21 : Int) => ⟨[(3, .box 1 0), (4, .row 2), (5, .lit (.int .i64 ((rd t8 0).tmod (wrap64 ((t4.2.2.1.length : Int) + 1))))), (6, .box 5 0), (7, .lit (.int .i64 p21))], [(0, .row 34 4 (t4.2.2.1.map e34)), (1, .box 75 [.lit (.int .i64 t4.1), .lit (.int .i64 t4.2.1), .row 0, .lit (.int .i64 t4.2.2.2.1), .lit (.int .i64 t4.2.2.2.2)]), (2, .row 36 7 (t6.map e36)), (4, .row 34 4 (t12.2.2.1.map e34)), (5, .box 75 [.lit (.int .i64 t12.1), .lit (.int .i64 t12.2.1), .row 4, .lit (.int .i64 t12.2.2.2.1), .lit (.int .i64 t12.2.2.2.2)])]⟩) k 0 ⟨Nat.le_refl _, H⟩ (fun K_ h_ => acw hE [(0, 0), (1, 1), (2, 2), (4, 4), (5, 5)] 9999 h_) (fun _ => by intro h_; have h_ := h_.2; rw [laws_FnSenders.l0.eq_1] at h_; cases h_) ?_
 intro k22 p21 hq_ K30 hK31
 have hk22 := hq_.1
 have H := hq_.2
 clear hq_
 rw [laws_FnSenders.l0.eq_2] at H
 refine aw_grp1 ?_
 refine aw_grp1 ?_
 refine wk_start ?_
 refine kv g0 (mv) ?_
 refine kv g0 (mv) ?_
 refine kv g0 (lnR lenE) ?_
 refine kv g0 (lss) ?_
 refine wk_end ?_
 refine ac_next ?_
 by_cases c23 : p21 < (t6.length : Int)
 ·rw [if_pos c23] at H
  refine aw_ifT ?_ (decide_eq_true c23)
  refine aw_skip ?_
  refine ac_next ?_
  refine aw_grp1 ?_
  refine aw_block ?_
  refine aw_grp1 ?_
  refine wk_start ?_
  refine kv g0 (mv) ?_
  refine kv g0 (mv) ?_
  obtain ⟨c24, H⟩ := of_if H
  refine kv g0 (ixR 36 c24 (ltE c23)) ?_
  refine kv g0 (faE 2 2) ?_
  refine kv g0 (ldE (e36 (rd_T36 t6 p21)) (.lit (.int .i64 ((rd_T36 t6 p21).f2))) (getE (z := z36) c24 c23)) ?_
  refine kv g0 (faB 1 1) ?_
  refine kv g0 (ldB) ?_
  refine kv g0 (mv) ?_
  refine kv g0 (add6) ?_
  refine kv g0 (neq) ?_
  refine kv g0 (mv) ?_
  by_cases c25 : ((rd_T36 t6 p21).f2) = (wrap64 (t4.2.1 + p21))
  ·rw [if_pos c25] at H
   refine kv (g1 (eM c25)) (mv) ?_
   refine kv (g1 (eM c25)) (mv) ?_
   refine kv (g1 (eM c25)) (ixR 36 c24 (ltE c23)) ?_
   refine kv (g1 (eM c25)) (faE 3 3) ?_
   refine kv (g1 (eM c25)) (ldEA 4 (e36 (rd_T36 t6 p21)) [.lit (.int .i64 ((rd_T36 t6 p21).f3.f0)), .lit (.int .i64 ((rd_T36 t6 p21).f3.f1)), .lit (.int .i64 ((rd_T36 t6 p21).f3.f2)), .lit (.int .i64 ((rd_T36 t6 p21).f3.f3))] (getE (z := z36) c24 c23)) ?_
   refine kv (g1 (eM c25)) (faB 2 2) ?_
   refine kv (g1 (eM c25)) (ldB) ?_
   refine kv (g1 (eM c25)) (mv) ?_
   obtain ⟨c26, H⟩ := of_if H
   refine kv (g1 (eM c25)) (ixR 34 c24 (ltE c26)) ?_
   refine kv (g1 (eM c25)) (ldEA 4 (e34 (rd_T34 t4.2.2.1 p21)) [.lit (.int .i64 ((rd_T34 t4.2.2.1 p21).f0)), .lit (.int .i64 ((rd_T34 t4.2.2.1 p21).f1)), .lit (.int .i64 ((rd_T34 t4.2.2.1 p21).f2)), .lit (.int .i64 ((rd_T34 t4.2.2.1 p21).f3))] (getE (z := z34) c24 c26)) ?_
   refine kv (g1 (eM c25)) (neS (fun w => eq34 _ w ((rd_T36 t6 p21).f3.f0) ((rd_T36 t6 p21).f3.f1) ((rd_T36 t6 p21).f3.f2) ((rd_T36 t6 p21).f3.f3) ((rd_T34 t4.2.2.1 p21).f0) ((rd_T34 t4.2.2.1 p21).f1) ((rd_T34 t4.2.2.1 p21).f2) ((rd_T34 t4.2.2.1 p21).f3))) ?_
   refine kv g0 (pkF (eM c25)) ?_
   refine kv g0 (mv) ?_
   by_cases c27 : (((rd_T36 t6 p21).f3.f0) == ((rd_T34 t4.2.2.1 p21).f0) && (((rd_T36 t6 p21).f3.f1) == ((rd_T34 t4.2.2.1 p21).f1) && (((rd_T36 t6 p21).f3.f2) == ((rd_T34 t4.2.2.1 p21).f2) && (((rd_T36 t6 p21).f3.f3) == ((rd_T34 t4.2.2.1 p21).f3))))) = true
   ·rw [if_pos c27] at H
    refine kv (g1 (nF c27)) (mv) ?_
    refine kv (g1 (nF c27)) (mv) ?_
    refine kv (g1 (nF c27)) (ixR 36 c24 (ltE c23)) ?_
    refine kv (g1 (nF c27)) (faE 1 1) ?_
    refine kv (g1 (nF c27)) (ldE (e36 (rd_T36 t6 p21)) (.lit (.int .i64 ((rd_T36 t6 p21).f1))) (getE (z := z36) c24 c23)) ?_
    refine kv (g1 (nF c27)) (faB 0 0) ?_
    refine kv (g1 (nF c27)) (ldB) ?_
    refine kv (g1 (nF c27)) (neq) ?_
    refine kv g0 (pkF (nF c27)) ?_
    refine kv g0 (mv) ?_
    by_cases c28 : ((rd_T36 t6 p21).f1) = t4.1
    ·rw [if_pos c28] at H
     refine kv (g1 (eM c28)) (mv) ?_
     refine kv (g1 (eM c28)) (mv) ?_
     refine kv (g1 (eM c28)) (ixR 36 c24 (ltE c23)) ?_
     refine kv (g1 (eM c28)) (faE 0 0) ?_
     refine kv (g1 (eM c28)) (ldE (e36 (rd_T36 t6 p21)) (.lit (.int .i64 ((rd_T36 t6 p21).f0))) (getE (z := z36) c24 c23)) ?_
     refine kv (g1 (eM c28)) (neq) ?_
     refine kv g0 (pkF (eM c28)) ?_
     refine wk_end_draw hM (by kernel_rfl) ?_
     refine ac_next ?_
     by_cases c29 : ((rd_T36 t6 p21).f0) = 1
     ·rw [if_pos c29] at H
      refine aw_ifF ?_ (eM c29)
      refine aw_skip ?_
      refine ac_blkN ?_
      refine ac_next ?_
      refine wk_start ?_
      refine kv g0 (mv) ?_
      refine kv g0 (add6) ?_
      refine kv g0 (asg) ?_
      refine wk_end ?_
      refine ac_k ?_
      exact acw hE [(0, 0), (1, 1), (2, 2), (4, 4), (5, 5)] 9999 (hK31 k22 (wrap64 (p21 + 1)) (Nat.le_refl _) ⟨by omega, H⟩)
     rw [if_neg c29] at H
     refine aw_ifT ?_ (eN c29)
     refine aw_grp1 ?_
     refine wk_start ?_
     refine kv g0 (asg) ?_
     refine wk_end ?_
     refine ac_next ?_
     refine aw_ret ?_
     refine ac_blkR ?_
     refine ac_thenR ?_
     refine ac_thenR ?_
     refine ac_blkR ?_
     refine ac_thenR ?_
     obtain rfl := Option.some.inj H
     exact acr hE [.tmp 2] (.tmp .nil) (.one _) [] 9999
    rw [if_neg c28] at H
    refine kx (hF (eN c28)) ?_
    refine kx (hF (eN c28)) ?_
    refine kx (hF (eN c28)) ?_
    refine kx (hF (eN c28)) ?_
    refine kx (hF (eN c28)) ?_
    refine kx (hF (eN c28)) ?_
    refine kv g0 (pkT (eN c28)) ?_
    refine wk_end_draw hM (by kernel_rfl) ?_
    refine ac_next ?_
    refine aw_ifT ?_ rfl
    refine aw_grp1 ?_
    refine wk_start ?_
    refine kv g0 (asg) ?_
    refine wk_end ?_
    refine ac_next ?_
    refine aw_ret ?_
    refine ac_blkR ?_
    refine ac_thenR ?_
    refine ac_thenR ?_
    refine ac_blkR ?_
    refine ac_thenR ?_
    obtain rfl := Option.some.inj H
    exact acr hE [.tmp 2] (.tmp .nil) (.one _) [] 9999
   rw [if_neg c27] at H
   refine kx (hF (nT (bF c27))) ?_
   refine kx (hF (nT (bF c27))) ?_
   refine kx (hF (nT (bF c27))) ?_
   refine kx (hF (nT (bF c27))) ?_
   refine kx (hF (nT (bF c27))) ?_
   refine kx (hF (nT (bF c27))) ?_
   refine kx (hF (nT (bF c27))) ?_
   refine kx (hF (nT (bF c27))) ?_
   refine kv g0 (pkT (nT (bF c27))) ?_
   refine kv g0 (mv) ?_
   refine kx (hF rfl) ?_
   refine kx (hF rfl) ?_
   refine kx (hF rfl) ?_
   refine kx (hF rfl) ?_
   refine kx (hF rfl) ?_
   refine kx (hF rfl) ?_
   refine kv g0 (pkT rfl) ?_
   refine wk_end_draw hM (by kernel_rfl) ?_
   refine ac_next ?_
   refine aw_ifT ?_ rfl
   refine aw_grp1 ?_
   refine wk_start ?_
   refine kv g0 (asg) ?_
   refine wk_end ?_
   refine ac_next ?_
   refine aw_ret ?_
   refine ac_blkR ?_
   refine ac_thenR ?_
   refine ac_thenR ?_
   refine ac_blkR ?_
   refine ac_thenR ?_
   obtain rfl := Option.some.inj H
   exact acr hE [.tmp 2] (.tmp .nil) (.one _) [] 9999
  rw [if_neg c25] at H
  refine kx (hF (eN c25)) ?_
  refine kx (hF (eN c25)) ?_
  refine kx (hF (eN c25)) ?_
  refine kx (hF (eN c25)) ?_
  refine kx (hF (eN c25)) ?_
  refine kx (hF (eN c25)) ?_
  refine kx (hF (eN c25)) ?_
  refine kx (hF (eN c25)) ?_
  refine kx (hF (eN c25)) ?_
  refine kx (hF (eN c25)) ?_
  refine kx (hF (eN c25)) ?_
  refine kv g0 (pkT (eN c25)) ?_
  refine kv g0 (mv) ?_
  refine kx (hF rfl) ?_
  refine kx (hF rfl) ?_
  refine kx (hF rfl) ?_
  refine kx (hF rfl) ?_
  refine kx (hF rfl) ?_
  refine kx (hF rfl) ?_
  refine kx (hF rfl) ?_
  refine kx (hF rfl) ?_
  refine kv g0 (pkT rfl) ?_
  refine kv g0 (mv) ?_
  refine kx (hF rfl) ?_
  refine kx (hF rfl) ?_
  refine kx (hF rfl) ?_
  refine kx (hF rfl) ?_
  refine kx (hF rfl) ?_
  refine kx (hF rfl) ?_
  refine kv g0 (pkT rfl) ?_
  refine wk_end_draw hM (by kernel_rfl) ?_
  refine ac_next ?_
  refine aw_ifT ?_ rfl
  refine aw_grp1 ?_
  refine wk_start ?_
  refine kv g0 (asg) ?_
  refine wk_end ?_
  refine ac_next ?_
  refine aw_ret ?_
  refine ac_blkR ?_
  refine ac_thenR ?_
  refine ac_thenR ?_
  refine ac_blkR ?_
  refine ac_thenR ?_
  obtain rfl := Option.some.inj H
  exact acr hE [.tmp 2] (.tmp .nil) (.one _) [] 9999
 rw [if_neg c23] at H
 refine aw_ifF ?_ (decide_eq_false c23)
 refine aw_exit ?_
 refine ac_then ?_
 refine ac_then ?_
 refine ac_hit rfl ?_
 refine ac_next ?_
 refine aw_grp1 ?_
 refine wk_start ?_
 refine kv g0 (ldBA 5 [.lit (.int .i64 t12.1), .lit (.int .i64 t12.2.1), .row 4, .lit (.int .i64 t12.2.2.2.1), .lit (.int .i64 t12.2.2.2.2)]) ?_
 refine kv g0 (faB 1 1) ?_
 refine kv g0 (ldB) ?_
 refine kv g0 (mv) ?_
 refine kv g0 (add6) ?_
 obtain ⟨t32, A33, H⟩ := of_bind H
 refine kcS1 86 (.agg [.lit (.int .i64 t32.1), .lit (.int .i64 t32.2.1), .row 6, .lit (.int .i64 t32.2.2.2.1), .lit (.int .i64 t32.2.2.2.2)]) [(6, .row 34 4 (t32.2.2.1.map e34))] g0 (cal (impl_Acked.ok A33) [6] 9999 .n (hf := Try.func37)) rfl rfl ?_
 refine kb g0 (alc 7 [.int .i64 0, .int .i64 0, .slice none 0 0, .int .i64 0, .int .i64 0] [.lit (.int .i64 0), .lit (.int .i64 0), .lit (.slice none 0 0), .lit (.int .i64 0), .lit (.int .i64 0)]) ?_
 refine ks g0 (stB 5 [.lit (.int .i64 t32.1), .lit (.int .i64 t32.2.1), .row 6, .lit (.int .i64 t32.2.2.2.1), .lit (.int .i64 t32.2.2.2.2)]) ?_
 refine wk_end ?_
 refine ac_next ?_
 refine aw_grp1 ?_
 refine wk_start ?_
 refine kv g0 (ldBA 5 [.lit (.int .i64 t4.1), .lit (.int .i64 t4.2.1), .row 0, .lit (.int .i64 t4.2.2.2.1), .lit (.int .i64 t4.2.2.2.2)]) ?_
 refine kv g0 (faB 3 3) ?_
 refine kv g0 (ldB) ?_
 refine kv g0 (faB 4 4) ?_
 refine kv g0 (ldB) ?_
 refine kv g0 (add6) ?_
 obtain ⟨t34, A35, H⟩ := of_bind H
 refine kcS1 94 (.tup [.agg [.lit (.int .i64 t34.1), .lit (.int .i64 t34.2.1), .row 8, .lit (.int .i64 t34.2.2.2.1), .lit (.int .i64 t34.2.2.2.2.1)], .lit (.bool t34.2.2.2.2.2)]) [(8, .row 34 4 (t34.2.2.1.map e34))] g0 (cal (impl_Again.ok A35) [8] 9999 .n (hf := Try.func38)) rfl rfl ?_
 refine kv g0 (mv) ?_
 refine kv g0 (ext) ?_
 refine kv g0 (ext) ?_
 refine kb g0 (alc 9 [.int .i64 0, .int .i64 0, .slice none 0 0, .int .i64 0, .int .i64 0] [.lit (.int .i64 0), .lit (.int .i64 0), .lit (.slice none 0 0), .lit (.int .i64 0), .lit (.int .i64 0)]) ?_
 refine ks g0 (stB 5 [.lit (.int .i64 t34.1), .lit (.int .i64 t34.2.1), .row 8, .lit (.int .i64 t34.2.2.2.1), .lit (.int .i64 t34.2.2.2.2.1)]) ?_
 refine kv g0 (asg) ?_
 refine wk_end ?_
 refine ac_next ?_
 refine aw_grp1 ?_
 refine wk_start ?_
 refine kv g0 (ldBA 5 [.lit (.int .i64 t4.1), .lit (.int .i64 t4.2.1), .row 0, .lit (.int .i64 t4.2.2.2.1), .lit (.int .i64 t4.2.2.2.2)]) ?_
 refine kv g0 (faB 3 3) ?_
 refine kv g0 (ldB) ?_
 refine kv g0 (faB 4 4) ?_
 refine kv g0 (ldB) ?_
 refine kv g0 (add6) ?_
 refine kv g0 (sub6) ?_
 obtain ⟨t36, A37, H⟩ := of_bind H
 refine kcS1 105 (.tup [.agg [.lit (.int .i64 t36.1), .lit (.int .i64 t36.2.1), .row 10, .lit (.int .i64 t36.2.2.2.1), .lit (.int .i64 t36.2.2.2.2.1)], .lit (.bool t36.2.2.2.2.2)]) [(10, .row 34 4 (t36.2.2.1.map e34))] g0 (cal (impl_Again.ok A37) [10] 9999 .n (hf := Try.func38)) rfl rfl ?_
 refine kv g0 (mv) ?_
 refine kv g0 (ext) ?_
 refine kv g0 (ext) ?_
 refine kb g0 (alc 11 [.int .i64 0, .int .i64 0, .slice none 0 0, .int .i64 0, .int .i64 0] [.lit (.int .i64 0), .lit (.int .i64 0), .lit (.slice none 0 0), .lit (.int .i64 0), .lit (.int .i64 0)]) ?_
 refine ks g0 (stB 5 [.lit (.int .i64 t36.1), .lit (.int .i64 t36.2.1), .row 10, .lit (.int .i64 t36.2.2.2.1), .lit (.int .i64 t36.2.2.2.2.1)]) ?_
 refine kv g0 (asg) ?_
 refine wk_end ?_
 refine ac_next ?_
 refine aw_grp1 ?_
 refine wk_start ?_
 refine kv g0 (mv) ?_
 refine kv g0 (lnR lenE) ?_
 refine kv g0 (faB 2 2) ?_
 refine kv g0 (ldB) ?_
 refine kv g0 (lnR lenE) ?_
 refine kv g0 (eql) ?_
 refine kv g0 (mv) ?_
 by_cases c38 : (t6.length : Int) = (t4.2.2.1.length : Int)
 ·rw [if_pos c38] at H
  refine kv (g1 (eT c38)) (faB 2 2) ?_
  refine kv (g1 (eT c38)) (ldB) ?_
  refine kv (g1 (eT c38)) (faB 2 2) ?_
  refine kv (g1 (eT c38)) (ldB) ?_
  refine kv (g1 (eT c38)) (mv) ?_
  obtain ⟨c39, H⟩ := of_if H
  obtain ⟨c40, H⟩ := of_if H
  refine kv (g1 (eT c38)) (srL 34 c39 c40) ?_
  obtain ⟨t41, A42, H⟩ := of_bind H
  refine kcS0 121 (.lit (.bool t41)) [] (g1 (eT c38)) (cal (laws_sameItems.ok A42) [] 9999 .n (hf := Try.func29) (hargs := by rw [← mapD]; rfl)) rfl rfl ?_
  refine kv g0 (pkT (eT c38)) ?_
  refine kv g0 (mv) ?_
  by_cases c43 : t41 = true
  ·rw [if_pos c43] at H
   refine kv (g1 c43) (faB 1 1) ?_
   refine kv (g1 c43) (ldB) ?_
   refine kv (g1 c43) (faB 1 1) ?_
   refine kv (g1 c43) (ldB) ?_
   refine kv (g1 c43) (mv) ?_
   refine kv (g1 c43) (add6) ?_
   refine kv (g1 c43) (eql) ?_
   refine kv g0 (pkT c43) ?_
   refine kv g0 (mv) ?_
   by_cases c44 : t12.2.1 = (wrap64 (t4.2.1 + ((rd t8 0).tmod (wrap64 ((t4.2.2.1.length : Int) + 1)))))
   ·rw [if_pos c44] at H
    refine kv (g1 (eT c44)) (ldBA 5 [.lit (.int .i64 t32.1), .lit (.int .i64 t32.2.1), .row 6, .lit (.int .i64 t32.2.2.2.1), .lit (.int .i64 t32.2.2.2.2)]) ?_
    refine kv (g1 (eT c44)) (ldBA 5 [.lit (.int .i64 t12.1), .lit (.int .i64 t12.2.1), .row 4, .lit (.int .i64 t12.2.2.2.1), .lit (.int .i64 t12.2.2.2.2)]) ?_
    obtain ⟨t45, A46, H⟩ := of_bind H
    refine kcS0 135 (.lit (.bool t45)) [] (g1 (eT c44)) (cal (laws_sameSender.ok A46) [] 9999 .n (hf := Try.func39)) rfl rfl ?_
    refine kv g0 (pkT (eT c44)) ?_
    refine kv g0 (mv) ?_
    by_cases c47 : t45 = true
    ·rw [if_pos c47] at H
     refine kv (g1 c47) (mv) ?_
     refine kv (g1 c47) (faB 2 2) ?_
     refine kv (g1 c47) (ldB) ?_
     refine kv (g1 c47) (lnR lenE) ?_
     refine kv (g1 c47) (gtr) ?_
     refine kv (g1 c47) (beq) ?_
     refine kv g0 (pkT c47) ?_
     refine kv g0 (mv) ?_
     by_cases c48 : t34.2.2.2.2.2 = (decide ((t4.2.2.1.length : Int) > 0))
     ·rw [if_pos c48] at H
      refine kv (g1 (eTb c48)) (mv) ?_
      refine kv (g1 (eTb c48)) (not_) ?_
      refine kv g0 (pkT (eTb c48)) ?_
      refine kv g0 (mv) ?_
      by_cases c49 : t36.2.2.2.2.2 = true
      ·rw [if_pos c49] at H
       refine kx (hT (nF c49)) ?_
       refine kx (hT (nF c49)) ?_
       refine kx (hT (nF c49)) ?_
       refine kx (hT (nF c49)) ?_
       refine kx (hT (nF c49)) ?_
       refine kv g0 (pkF (nF c49)) ?_
       refine kv g0 (mv) ?_
       refine kx (hT rfl) ?_
       refine kx (hT rfl) ?_
       refine kv g0 (pkF rfl) ?_
       refine kv g0 (mv) ?_
       refine kx (hT rfl) ?_
       refine kx (hT rfl) ?_
       refine kv g0 (pkF rfl) ?_
       refine kv g0 (mv) ?_
       refine kx (hT rfl) ?_
       refine kx (hT rfl) ?_
       refine kx (hT rfl) ?_
       refine kx (hT rfl) ?_
       refine kx (hT rfl) ?_
       refine kx (hT rfl) ?_
       refine kx (hT rfl) ?_
       refine kx (hT rfl) ?_
       refine kx (hT rfl) ?_
       refine kx (hT rfl) ?_
       refine kx (hT rfl) ?_
       refine kv g0 (pkF rfl) ?_
       refine kv g0 (asg) ?_
       refine wk_end_draw hM (by kernel_rfl) ?_
       refine ac_next ?_
       refine aw_ret ?_
       obtain rfl := Option.some.inj H
       exact acr hE [.tmp 2] (.tmp .nil) (.one _) [] 9999
      rw [if_neg c49] at H
      refine kv (g1 (nT (bF c49))) (faB 2 2) ?_
      refine kv (g1 (nT (bF c49))) (ldB) ?_
      refine kv (g1 (nT (bF c49))) (faB 2 2) ?_
      refine kv (g1 (nT (bF c49))) (ldB) ?_
      obtain ⟨t50, A51, H⟩ := of_bind H
      refine kcS0 154 (.lit (.bool t50)) [] (g1 (nT (bF c49))) (cal (laws_sameItems.ok A51) [] 9999 .n (hf := Try.func29)) rfl rfl ?_
      refine kv g0 (pkT (nT (bF c49))) ?_
      refine kv g0 (mv) ?_
      by_cases c52 : t50 = true
      ·rw [if_pos c52] at H
       refine kv (g1 c52) (ldBA 5 [.lit (.int .i64 t4.1), .lit (.int .i64 t4.2.1), .row 0, .lit (.int .i64 t4.2.2.2.1), .lit (.int .i64 t4.2.2.2.2)]) ?_
       obtain ⟨t53, A54, H⟩ := of_bind H
       refine kcS0 158 (.lit (.bool t53)) [] (g1 c52) (cal (impl_SenderOk.ok A54) [] 9999 .n (hf := Try.func40)) rfl rfl ?_
       refine kv g0 (pkT c52) ?_
       refine kv g0 (mv) ?_
       by_cases c55 : t53 = true
       ·rw [if_pos c55] at H
        refine kv (g1 c55) (ldBA 5 [.lit (.int .i64 t12.1), .lit (.int .i64 t12.2.1), .row 4, .lit (.int .i64 t12.2.2.2.1), .lit (.int .i64 t12.2.2.2.2)]) ?_
        obtain ⟨t56, A57, H⟩ := of_bind H
        refine kcS0 162 (.lit (.bool t56)) [] (g1 c55) (cal (impl_SenderOk.ok A57) [] 9999 .n (hf := Try.func40)) rfl rfl ?_
        refine kv g0 (pkT c55) ?_
        refine kv g0 (mv) ?_
        by_cases c58 : t56 = true
        ·rw [if_pos c58] at H
         refine kv (g1 c58) (ldBA 5 [.lit (.int .i64 t4.1), .lit (.int .i64 t4.2.1), .row 0, .lit (.int .i64 t4.2.2.2.1), .lit (.int .i64 t4.2.2.2.2)]) ?_
         refine kv (g1 c58) (faB 1 1) ?_
         refine kv (g1 c58) (ldB) ?_
         refine kv (g1 c58) (faB 2 2) ?_
         refine kv (g1 c58) (ldB) ?_
         refine kv (g1 c58) (lnR lenE) ?_
         refine kv (g1 c58) (add6) ?_
         refine kv (g1 c58) (add6) ?_
         obtain ⟨t59, A60, H⟩ := of_bind H
         refine kcS1 173 (.agg [.lit (.int .i64 t59.1), .lit (.int .i64 t59.2.1), .row 12, .lit (.int .i64 t59.2.2.2.1), .lit (.int .i64 t59.2.2.2.2)]) [(12, .row 34 4 (t59.2.2.1.map e34))] (g1 c58) (cal (impl_Acked.ok A60) [12] 9999 .n (hf := Try.func37)) rfl rfl ?_
         refine kv (g1 c58) (ldBA 5 [.lit (.int .i64 t4.1), .lit (.int .i64 t4.2.1), .row 0, .lit (.int .i64 t4.2.2.2.1), .lit (.int .i64 t4.2.2.2.2)]) ?_
         obtain ⟨t61, A62, H⟩ := of_bind H
         refine kcS0 175 (.lit (.bool t61)) [] (g1 c58) (cal (laws_sameSender.ok A62) [] 9999 .n (hf := Try.func39)) rfl rfl ?_
         refine kv g0 (pkT c58) ?_
         refine kv g0 (asg) ?_
         refine wk_end_draw hM (by kernel_rfl) ?_
         refine ac_next ?_
         refine aw_ret ?_
         obtain rfl := Option.some.inj H
         exact acr hE [.tmp 2] (.tmp .nil) (.one _) [] 9999
        rw [if_neg c58] at H
        refine kx (hT (bF c58)) ?_
        refine kx (hT (bF c58)) ?_
        refine kx (hT (bF c58)) ?_
        refine kx (hT (bF c58)) ?_
        refine kx (hT (bF c58)) ?_
        refine kx (hT (bF c58)) ?_
        refine kx (hT (bF c58)) ?_
        refine kx (hT (bF c58)) ?_
        refine kx (hT (bF c58)) ?_
        refine kx (hT (bF c58)) ?_
        refine kx (hT (bF c58)) ?_
        refine kv g0 (pkF (bF c58)) ?_
        refine kv g0 (asg) ?_
        refine wk_end_draw hM (by kernel_rfl) ?_
        refine ac_next ?_
        refine aw_ret ?_
        obtain rfl := Option.some.inj H
        exact acr hE [.tmp 2] (.tmp .nil) (.one _) [] 9999
       rw [if_neg c55] at H
       refine kx (hT (bF c55)) ?_
       refine kx (hT (bF c55)) ?_
       refine kv g0 (pkF (bF c55)) ?_
       refine kv g0 (mv) ?_
       refine kx (hT rfl) ?_
       refine kx (hT rfl) ?_
       refine kx (hT rfl) ?_
       refine kx (hT rfl) ?_
       refine kx (hT rfl) ?_
       refine kx (hT rfl) ?_
       refine kx (hT rfl) ?_
       refine kx (hT rfl) ?_
       refine kx (hT rfl) ?_
       refine kx (hT rfl) ?_
       refine kx (hT rfl) ?_
       refine kv g0 (pkF rfl) ?_
       refine kv g0 (asg) ?_
       refine wk_end_draw hM (by kernel_rfl) ?_
       refine ac_next ?_
       refine aw_ret ?_
       obtain rfl := Option.some.inj H
       exact acr hE [.tmp 2] (.tmp .nil) (.one _) [] 9999
      rw [if_neg c52] at H
      refine kx (hT (bF c52)) ?_
      refine kx (hT (bF c52)) ?_
      refine kv g0 (pkF (bF c52)) ?_
      refine kv g0 (mv) ?_
      refine kx (hT rfl) ?_
      refine kx (hT rfl) ?_
      refine kv g0 (pkF rfl) ?_
      refine kv g0 (mv) ?_
      refine kx (hT rfl) ?_
      refine kx (hT rfl) ?_
      refine kx (hT rfl) ?_
      refine kx (hT rfl) ?_
      refine kx (hT rfl) ?_
      refine kx (hT rfl) ?_
      refine kx (hT rfl) ?_
      refine kx (hT rfl) ?_
      refine kx (hT rfl) ?_
      refine kx (hT rfl) ?_
      refine kx (hT rfl) ?_
      refine kv g0 (pkF rfl) ?_
      refine kv g0 (asg) ?_
      refine wk_end_draw hM (by kernel_rfl) ?_
      refine ac_next ?_
      refine aw_ret ?_
      obtain rfl := Option.some.inj H
      exact acr hE [.tmp 2] (.tmp .nil) (.one _) [] 9999
     rw [if_neg c48] at H
     refine kx (hT (eFb c48)) ?_
     refine kx (hT (eFb c48)) ?_
     refine kv g0 (pkF (eFb c48)) ?_
     refine kv g0 (mv) ?_
     refine kx (hT rfl) ?_
     refine kx (hT rfl) ?_
     refine kx (hT rfl) ?_
     refine kx (hT rfl) ?_
     refine kx (hT rfl) ?_
     refine kv g0 (pkF rfl) ?_
     refine kv g0 (mv) ?_
     refine kx (hT rfl) ?_
     refine kx (hT rfl) ?_
     refine kv g0 (pkF rfl) ?_
     refine kv g0 (mv) ?_
     refine kx (hT rfl) ?_
     refine kx (hT rfl) ?_
     refine kv g0 (pkF rfl) ?_
     refine kv g0 (mv) ?_
     refine kx (hT rfl) ?_
     refine kx (hT rfl) ?_
     refine kx (hT rfl) ?_
     refine kx (hT rfl) ?_
     refine kx (hT rfl) ?_
     refine kx (hT rfl) ?_
     refine kx (hT rfl) ?_
     refine kx (hT rfl) ?_
     refine kx (hT rfl) ?_
     refine kx (hT rfl) ?_
     refine kx (hT rfl) ?_
     refine kv g0 (pkF rfl) ?_
     refine kv g0 (asg) ?_
     refine wk_end_draw hM (by kernel_rfl) ?_
     refine ac_next ?_
     refine aw_ret ?_
     obtain rfl := Option.some.inj H
     exact acr hE [.tmp 2] (.tmp .nil) (.one _) [] 9999
    rw [if_neg c47] at H
    refine kx (hT (bF c47)) ?_
    refine kx (hT (bF c47)) ?_
    refine kx (hT (bF c47)) ?_
    refine kx (hT (bF c47)) ?_
    refine kx (hT (bF c47)) ?_
    refine kx (hT (bF c47)) ?_
    refine kv g0 (pkF (bF c47)) ?_
    refine kv g0 (mv) ?_
    refine kx (hT rfl) ?_
    refine kx (hT rfl) ?_
    refine kv g0 (pkF rfl) ?_
    refine kv g0 (mv) ?_
    refine kx (hT rfl) ?_
    refine kx (hT rfl) ?_
    refine kx (hT rfl) ?_
    refine kx (hT rfl) ?_
    refine kx (hT rfl) ?_
    refine kv g0 (pkF rfl) ?_
    refine kv g0 (mv) ?_
    refine kx (hT rfl) ?_
    refine kx (hT rfl) ?_
    refine kv g0 (pkF rfl) ?_
    refine kv g0 (mv) ?_
    refine kx (hT rfl) ?_
    refine kx (hT rfl) ?_
    refine kv g0 (pkF rfl) ?_
    refine kv g0 (mv) ?_
    refine kx (hT rfl) ?_
    refine kx (hT rfl) ?_
    refine kx (hT rfl) ?_
    refine kx (hT rfl) ?_
    refine kx (hT rfl) ?_
    refine kx (hT rfl) ?_
    refine kx (hT rfl) ?_
    refine kx (hT rfl) ?_
    refine kx (hT rfl) ?_
    refine kx (hT rfl) ?_
    refine kx (hT rfl) ?_
    refine kv g0 (pkF rfl) ?_
    refine kv g0 (asg) ?_
    refine wk_end_draw hM (by kernel_rfl) ?_
    refine ac_next ?_
    refine aw_ret ?_
    obtain rfl := Option.some.inj H
    exact acr hE [.tmp 2] (.tmp .nil) (.one _) [] 9999
   rw [if_neg c44] at H
   refine kx (hT (eF c44)) ?_
   refine kx (hT (eF c44)) ?_
   refine kx (hT (eF c44)) ?_
   refine kv g0 (pkF (eF c44)) ?_
   refine kv g0 (mv) ?_
   refine kx (hT rfl) ?_
   refine kx (hT rfl) ?_
   refine kx (hT rfl) ?_
   refine kx (hT rfl) ?_
   refine kx (hT rfl) ?_
   refine kx (hT rfl) ?_
   refine kv g0 (pkF rfl) ?_
   refine kv g0 (mv) ?_
   refine kx (hT rfl) ?_
   refine kx (hT rfl) ?_
   refine kv g0 (pkF rfl) ?_
   refine kv g0 (mv) ?_
   refine kx (hT rfl) ?_
   refine kx (hT rfl) ?_
   refine kx (hT rfl) ?_
   refine kx (hT rfl) ?_
   refine kx (hT rfl) ?_
   refine kv g0 (pkF rfl) ?_
   refine kv g0 (mv) ?_
   refine kx (hT rfl) ?_
   refine kx (hT rfl) ?_
   refine kv g0 (pkF rfl) ?_
   refine kv g0 (mv) ?_
   refine kx (hT rfl) ?_
   refine kx (hT rfl) ?_
   refine kv g0 (pkF rfl) ?_
   refine kv g0 (mv) ?_
   refine kx (hT rfl) ?_
   refine kx (hT rfl) ?_
   refine kx (hT rfl) ?_
   refine kx (hT rfl) ?_
   refine kx (hT rfl) ?_
   refine kx (hT rfl) ?_
   refine kx (hT rfl) ?_
   refine kx (hT rfl) ?_
   refine kx (hT rfl) ?_
   refine kx (hT rfl) ?_
   refine kx (hT rfl) ?_
   refine kv g0 (pkF rfl) ?_
   refine kv g0 (asg) ?_
   refine wk_end_draw hM (by kernel_rfl) ?_
   refine ac_next ?_
   refine aw_ret ?_
   obtain rfl := Option.some.inj H
   exact acr hE [.tmp 2] (.tmp .nil) (.one _) [] 9999
  rw [if_neg c43] at H
  refine kx (hT (bF c43)) ?_
  refine kx (hT (bF c43)) ?_
  refine kx (hT (bF c43)) ?_
  refine kx (hT (bF c43)) ?_
  refine kx (hT (bF c43)) ?_
  refine kx (hT (bF c43)) ?_
  refine kx (hT (bF c43)) ?_
  refine kv g0 (pkF (bF c43)) ?_
  refine kv g0 (mv) ?_
  refine kx (hT rfl) ?_
  refine kx (hT rfl) ?_
  refine kx (hT rfl) ?_
  refine kv g0 (pkF rfl) ?_
  refine kv g0 (mv) ?_
  refine kx (hT rfl) ?_
  refine kx (hT rfl) ?_
  refine kx (hT rfl) ?_
  refine kx (hT rfl) ?_
  refine kx (hT rfl) ?_
  refine kx (hT rfl) ?_
  refine kv g0 (pkF rfl) ?_
  refine kv g0 (mv) ?_
  refine kx (hT rfl) ?_
  refine kx (hT rfl) ?_
  refine kv g0 (pkF rfl) ?_
  refine kv g0 (mv) ?_
  refine kx (hT rfl) ?_
  refine kx (hT rfl) ?_
  refine kx (hT rfl) ?_
  refine kx (hT rfl) ?_
  refine kx (hT rfl) ?_
  refine kv g0 (pkF rfl) ?_
  refine kv g0 (mv) ?_
  refine kx (hT rfl) ?_
  refine kx (hT rfl) ?_
  refine kv g0 (pkF rfl) ?_
  refine kv g0 (mv) ?_
  refine kx (hT rfl) ?_
  refine kx (hT rfl) ?_
  refine kv g0 (pkF rfl) ?_
  refine kv g0 (mv) ?_
  refine kx (hT rfl) ?_
  refine kx (hT rfl) ?_
  refine kx (hT rfl) ?_
  refine kx (hT rfl) ?_
  refine kx (hT rfl) ?_
  refine kx (hT rfl) ?_
  refine kx (hT rfl) ?_
  refine kx (hT rfl) ?_
  refine kx (hT rfl) ?_
  refine kx (hT rfl) ?_
  refine kx (hT rfl) ?_
  refine kv g0 (pkF rfl) ?_
  refine kv g0 (asg) ?_
  refine wk_end_draw hM (by kernel_rfl) ?_
  refine ac_next ?_
  refine aw_ret ?_
  obtain rfl := Option.some.inj H
  exact acr hE [.tmp 2] (.tmp .nil) (.one _) [] 9999
 rw [if_neg c38] at H
 refine kx (hT (eF c38)) ?_
 refine kx (hT (eF c38)) ?_
 refine kx (hT (eF c38)) ?_
 refine kx (hT (eF c38)) ?_
 refine kx (hT (eF c38)) ?_
 refine kx (hT (eF c38)) ?_
 refine kx (hT (eF c38)) ?_
 refine kv g0 (pkF (eF c38)) ?_
 refine kv g0 (mv) ?_
 refine kx (hT rfl) ?_
 refine kx (hT rfl) ?_
 refine kx (hT rfl) ?_
 refine kx (hT rfl) ?_
 refine kx (hT rfl) ?_
 refine kx (hT rfl) ?_
 refine kx (hT rfl) ?_
 refine kv g0 (pkF rfl) ?_
 refine kv g0 (mv) ?_
 refine kx (hT rfl) ?_
 refine kx (hT rfl) ?_
 refine kx (hT rfl) ?_
 refine kv g0 (pkF rfl) ?_
 refine kv g0 (mv) ?_
 refine kx (hT rfl) ?_
 refine kx (hT rfl) ?_
 refine kx (hT rfl) ?_
 refine kx (hT rfl) ?_
 refine kx (hT rfl) ?_
 refine kx (hT rfl) ?_
 refine kv g0 (pkF rfl) ?_
 refine kv g0 (mv) ?_
 refine kx (hT rfl) ?_
 refine kx (hT rfl) ?_
 refine kv g0 (pkF rfl) ?_
 refine kv g0 (mv) ?_
 refine kx (hT rfl) ?_
 refine kx (hT rfl) ?_
 refine kx (hT rfl) ?_
 refine kx (hT rfl) ?_
 refine kx (hT rfl) ?_
 refine kv g0 (pkF rfl) ?_
 refine kv g0 (mv) ?_
 refine kx (hT rfl) ?_
 refine kx (hT rfl) ?_
 refine kv g0 (pkF rfl) ?_
 refine kv g0 (mv) ?_
 refine kx (hT rfl) ?_
 refine kx (hT rfl) ?_
 refine kv g0 (pkF rfl) ?_
 refine kv g0 (mv) ?_
 refine kx (hT rfl) ?_
 refine kx (hT rfl) ?_
 refine kx (hT rfl) ?_
 refine kx (hT rfl) ?_
 refine kx (hT rfl) ?_
 refine kx (hT rfl) ?_
 refine kx (hT rfl) ?_
 refine kx (hT rfl) ?_
 refine kx (hT rfl) ?_
 refine kx (hT rfl) ?_
 refine kx (hT rfl) ?_
 refine kv g0 (pkF rfl) ?_
 refine kv g0 (asg) ?_
 refine wk_end_draw hM (by kernel_rfl) ?_
 refine ac_next ?_
 refine aw_ret ?_
 obtain rfl := Option.some.inj H
 exact acr hE [.tmp 2] (.tmp .nil) (.one _) [] 9999
end Go.Proofs.Ytfeaemlakniijaa.PFnSenders
