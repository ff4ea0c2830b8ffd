import Derived.Test.YthgmgbccgokfeaaPFnExactOnlyForx1
set_option linter.unusedVariables false
set_option linter.unusedSimpArgs false
set_option maxRecDepth 100000
namespace Go.Proofs.Ythgmgbccgokfeaa.PFnExactOnlyFor
open Go Go.RowKit Go.Proofs.YthgmgbccgokfeaaA
/-! impl_Rule_48, handed impl_OnlyFor_1 -/
def impl_Rule_48_w49.l0 : Nat → (List S60) → Int → Int → Int → Option ((List S60) × Int)
 | 0, _, _, _, _ => none
 | k17 + 1, q13, p14, p15, p16 => if p16 < (q13.length : Int) then if 0 ≤ p16 then (if p15.toNat ≤ p16.toNat then (impl_OnlyFor_1.f k17 ((rd_T60 q13 p16).f0) ((rd_T60 q13 p16).f1) ((rd_T60 q13 p16).f2) ((rd_T60 q13 p16).f3) p14).bind fun t21 => if t21.1 = true then impl_Rule_48_w49.l0 k17 q13 t21.2 p15 (wrap64 (p16 + 1)) else (if 0 ≤ p15 then (if p15 < (q13.length : Int) then impl_Rule_48_w49.l0 k17 (q13.set p15.toNat (⟨(rd_T60 q13 p16).f0, (rd_T60 q13 p16).f1, (rd_T60 q13 p16).f2, (rd_T60 q13 p16).f3⟩ : S60)) t21.2 (wrap64 (p15 + 1)) (wrap64 (p16 + 1)) else none) else none) else none) else none else if 0 ≤ p15 then (if p15 ≤ (q13.length : Int) then if p15 ≤ ((q13.take p15.toNat ++ List.replicate (q13.length - p15.toNat) z60).length : Int) then some ((q13.take p15.toNat ++ List.replicate (q13.length - p15.toNat) z60).take p15.toNat, p14) else none else none) else none
def impl_Rule_48_w49.f (k : Nat) (l0 : List S60) (a1_0_0 : Int) : Option ((List S60) × Int) := (impl_Rule_83_w49.f k l0 a1_0_0).bind fun t1 => if t1.1 = (-1) then some (l0, t1.2) else impl_Rule_48_w49.l0 k l0 t1.2 t1.1 (wrap64 (t1.1 + 1))
theorem impl_Rule_48_w49.ok {k : Nat} {l0 : List S60} {a1_0_0 : Int} {r : (List S60) × Int} (H : impl_Rule_48_w49.f k l0 a1_0_0 = some r) : ACalls Try.prog 48 [(0, .drow false ds60 60 4 (l0.map e60)), (1, .box 3 [.lit (.int .i64 a1_0_0)])] [.row 0, .fn 49 [.box 1 0]] [(0, .gone), (1, .box 3 [.lit (.int .i64 r.2)]), (2, .drow false ds60 60 4 (r.1.map e60))] (.row 2) := by
 refine acalls (fn := Try.f48) (nt := 42) Try.func48 rfl rfl (Nat.le_of_ble_eq_true rfl) fun E hE => ?_
 rw [impl_Rule_48_w49.f] at H
 refine aw_grp1 ?_
 refine wk_start ?_
 refine kv g0 (asg) ?_
 refine wk_end ?_
 refine ac_next ?_
 refine aw_grp1 ?_
 refine wk_start ?_
 refine kv g0 (mv) ?_
 refine kv g0 (mv) ?_
 obtain ⟨t1, A2, H⟩ := of_bind H
 refine kcS1 10 (.lit (.int .i64 t1.1)) [(1, .box 3 [.lit (.int .i64 t1.2)])] g0 (cal (impl_Rule_83_w49.ok A2) [1] 9999 .n (hf := Try.func83)) rfl rfl ?_
 refine kv g0 (asg) ?_
 refine wk_end ?_
 refine ac_next ?_
 refine aw_grp1 ?_
 refine aw_grp1 ?_
 refine wk_start ?_
 refine kv g0 (mv) ?_
 refine kv g0 (eql) ?_
 refine wk_end ?_
 refine ac_next ?_
 by_cases c3 : t1.1 = (-1)
 ·rw [if_pos c3] at H
  refine aw_ifT ?_ (eT c3)
  refine aw_grp1 ?_
  refine wk_start ?_
  refine kv g0 (mv) ?_
  refine kv g0 (asg) ?_
  refine wk_end ?_
  refine ac_next ?_
  refine aw_ret ?_
  refine ac_thenR ?_
  refine ac_rsD 4 l0.length ?_ (List.length_map ..)
  refine ac_preD 4 6 (l0.map e60) ?_ takeL
  obtain rfl := Option.some.inj H
  exact acr hE [.tmp 4] (.tmp .nil) (.one _) [(0, 0), (1, 1), (2, 6)] 9999
 rw [if_neg c3] at H
 refine aw_ifF ?_ (eF c3)
 refine aw_skip ?_
 refine ac_next ?_
 refine aw_grp1 ?_
 refine aw_grp1 ?_
 refine wk_start ?_
 refine kv g0 (mv) ?_
 refine kv g0 (add6) ?_
 refine kv g0 (asg) ?_
 refine wk_end ?_
 refine ac_next ?_
 refine aw_block ?_
 refine ac_g1 (deadW 0 (e60) l0 (t1.1.toNat) ((wrap64 (t1.1 + 1)).toNat) (outM) cl60) ?_
 refine aw_loop4 (fun (k_ : Nat) (q13 : List S60) (p14 : Int) (p15 : Int) (p16 : Int) => k_ ≤ k ∧ impl_Rule_48_w49.l0 k_ q13 p14 p15 p16 = some r) (fun (q13 : List S60) (p14 : Int) (p15 : Int) (p16 : Int) => ⟨[(0, .row 0), (1, .fn 49 [.box 1 0]), (5, .lit (.int .i64 p15)), (6, .lit (.int .i64 p16))], [(0, .drow false ds60 60 4 (deadL (e60) 4 q13 (p15.toNat) (p16.toNat))), (1, .box 3 [.lit (.int .i64 p14)])]⟩) k l0 t1.2 t1.1 (wrap64 (t1.1 + 1)) ⟨Nat.le_refl _, H⟩ (fun K_ h_ => acw hE [(0, 0), (1, 1)] 9999 h_) (fun _ _ _ _ => by intro h_; have h_ := h_.2; rw [impl_Rule_48_w49.l0.eq_1] at h_; cases h_) ?_
 intro k17 q13 p14 p15 p16 hq_ K26 hK27
 have hk17 := hq_.1
 have H := hq_.2
 clear hq_
 rw [impl_Rule_48_w49.l0.eq_2] at H
 refine aw_grp1 ?_
 refine aw_grp1 ?_
 refine wk_start ?_
 refine kv g0 (mv) ?_
 refine kv g0 (mv) ?_
 refine kv g0 (lnD lenF) ?_
 refine kv g0 (lss) ?_
 refine wk_end ?_
 refine ac_next ?_
 by_cases c18 : p16 < (q13.length : Int)
 ·rw [if_pos c18] at H
  refine aw_ifT ?_ (decide_eq_true c18)
  refine aw_skip ?_
  refine ac_next ?_
  refine aw_grp1 ?_
  refine aw_block ?_
  refine aw_grp1 ?_
  refine wk_start ?_
  refine kv g0 (mv) ?_
  refine kv g0 (mv) ?_
  obtain ⟨c19, H⟩ := of_if H
  refine kv g0 (ixD 60 c19 (ltF c18)) ?_
  obtain ⟨c20, H⟩ := of_if H
  refine kcS4 25 (.agg [.row 2, .row 3, .lit (.int .i64 ((rd_T60 q13 p16).f2)), .lit (.int .i64 ((rd_T60 q13 p16).f3))]) [(0, .drow true ds60 60 4 ((deadL (e60) 4 q13 (p15.toNat) (p16.toNat)).set p16.toNat (.agg [.row 2, .row 3, .lit (.int .i64 ((rd_T60 q13 p16).f2)), .lit (.int .i64 ((rd_T60 q13 p16).f3))]))), (3, .row 92 6 (((rd_T60 q13 p16).f1).map e92)), (0, .drow true ds60 60 4 ((deadL (e60) 4 q13 (p15.toNat) (p16.toNat)).set p16.toNat (.agg [.row 2, .sl .n 6 (((rd_T60 q13 p16).f1).map e92), .lit (.int .i64 ((rd_T60 q13 p16).f2)), .lit (.int .i64 ((rd_T60 q13 p16).f3))]))), (2, .row 3 1 (((rd_T60 q13 p16).f0).map (eI .i64)))] g0 (okv_gh (tk 0 2 0 (.agg [.row 2, .sl .n 6 (((rd_T60 q13 p16).f1).map e92), .lit (.int .i64 ((rd_T60 q13 p16).f2)), .lit (.int .i64 ((rd_T60 q13 p16).f3))]) (deadG (f := e60) (sz := 4) (z := z60) c19 c18) (rfl) rfl) (okv_gh (tk 0 3 1 (.agg [.row 2, .row 3, .lit (.int .i64 ((rd_T60 q13 p16).f2)), .lit (.int .i64 ((rd_T60 q13 p16).f3))]) (setXF (f := e60) (X := .agg [.row 2, .sl .n 6 (((rd_T60 q13 p16).f1).map e92), .lit (.int .i64 ((rd_T60 q13 p16).f2)), .lit (.int .i64 ((rd_T60 q13 p16).f3))]) c19 c18) (setXX) rfl) (ldDA 4 [.row 2, .row 3, .lit (.int .i64 ((rd_T60 q13 p16).f2)), .lit (.int .i64 ((rd_T60 q13 p16).f3))] (setXF (f := e60) (X := .agg [.row 2, .row 3, .lit (.int .i64 ((rd_T60 q13 p16).f2)), .lit (.int .i64 ((rd_T60 q13 p16).f3))]) c19 c18) rfl))).owp rfl rfl ?_
  refine kb g0 (alc 4 [.slice none 0 0, .slice none 0 0, .int .i64 0, .int .i64 0] [.lit (.slice none 0 0), .lit (.slice none 0 0), .lit (.int .i64 0), .lit (.int .i64 0)]) ?_
  refine ks g0 (stB 4 [.row 2, .row 3, .lit (.int .i64 ((rd_T60 q13 p16).f2)), .lit (.int .i64 ((rd_T60 q13 p16).f3))]) ?_
  refine wk_end ?_
  refine ac_next ?_
  refine aw_grp1 ?_
  refine wk_start ?_
  refine kv g0 (mv) ?_
  refine kv g0 (ldBA 4 [.row 2, .row 3, .lit (.int .i64 ((rd_T60 q13 p16).f2)), .lit (.int .i64 ((rd_T60 q13 p16).f3))]) ?_
  obtain ⟨t21, A22, H⟩ := of_bind H
  refine kcS1 28 (.lit (.bool t21.1)) [(1, .box 3 [.lit (.int .i64 t21.2)])] g0 (cal (impl_OnlyFor_1.ok A22) [1] 9999 .n (hf := Try.func49)) rfl rfl ?_
  refine kv g0 (not_) ?_
  refine wk_end ?_
  refine ac_next ?_
  by_cases c23 : t21.1 = true
  ·rw [if_pos c23] at H
   refine aw_ifF ?_ (nF c23)
   refine aw_skip ?_
   refine ac_blkN ?_
   refine ac_next ?_
   refine wk_start ?_
   refine kv g0 (mv) ?_
   refine kv g0 (add6) ?_
   refine kv g0 (asg) ?_
   refine wk_end ?_
   refine ac_g1 (deadW 0 (e60) q13 (p15.toNat) ((wrap64 (p16 + 1)).toNat) (outDS (f := e60) (x := q13) (sz := 4) (lo := p15.toNat) (hi := p16.toNat) (lo' := p15.toNat) (hi' := (wrap64 (p16 + 1)).toNat) (i := p16.toNat) (X := .agg [.row 2, .row 3, .lit (.int .i64 ((rd_T60 q13 p16).f2)), .lit (.int .i64 ((rd_T60 q13 p16).f3))]) (fun hm => (by have h0_ := toN1 (i := p16) (n := q13.length) (by omega) (by omega) (by simpa using hm); omega))) cl60) ?_
   refine ac_k ?_
   exact acw hE [(0, 0), (1, 1)] 9999 (hK27 k17 q13 t21.2 p15 (wrap64 (p16 + 1)) (Nat.le_refl _) ⟨by omega, H⟩)
  rw [if_neg c23] at H
  refine aw_ifT ?_ (nT (bF c23))
  refine aw_grp1 ?_
  refine wk_start ?_
  refine kv g0 (mv) ?_
  refine kv g0 (mv) ?_
  refine kv g0 (ldBA 4 [.row 2, .row 3, .lit (.int .i64 ((rd_T60 q13 p16).f2)), .lit (.int .i64 ((rd_T60 q13 p16).f3))]) ?_
  obtain ⟨c24, H⟩ := of_if H
  obtain ⟨c25, H⟩ := of_if H
  refine kv g0 (ixD 60 c24 (ltS (ltF c25))) ?_
  refine kcN2 (.junk) [(0, .drow true ds60 60 4 ((deadL (e60) 4 q13 (p15.toNat) (p16.toNat + 1)).set p15.toNat (.agg [.row 2, .row 3, .lit (.int .i64 ((rd_T60 q13 p16).f2)), .lit (.int .i64 ((rd_T60 q13 p16).f3))]))), (0, .drow false ds60 60 4 (deadL (e60) 4 q13 (p15.toNat) (p16.toNat + 1)))] g0 (okv_gh (deadW 0 (e60) q13 (p15.toNat) (p16.toNat + 1) (outDS (f := e60) (x := q13) (sz := 4) (lo := p15.toNat) (hi := p16.toNat) (lo' := p15.toNat) (hi' := p16.toNat + 1) (i := p16.toNat) (X := .agg [.row 2, .row 3, .lit (.int .i64 ((rd_T60 q13 p16).f2)), .lit (.int .i64 ((rd_T60 q13 p16).f3))]) (fun hm => (by omega))) cl60) (stD 4 ds60 0 4 [.row 2, .row 3, .lit (.int .i64 ((rd_T60 q13 p16).f2)), .lit (.int .i64 ((rd_T60 q13 p16).f3))] (.agg [.row 2, .row 3, .lit (.int .i64 ((rd_T60 q13 p16).f2)), .lit (.int .i64 ((rd_T60 q13 p16).f3))]) (deadX (f := e60) (z := z60) c24 c25) (rfl) (hX' := deadXl rfl rfl))).owp rfl rfl ?_
  refine wk_end ?_
  refine ac_next ?_
  refine wk_start ?_
  refine kv g0 (mv) ?_
  refine kv g0 (add6) ?_
  refine kv g0 (asg) ?_
  refine wk_end ?_
  refine ac_blkN ?_
  refine ac_next ?_
  refine wk_start ?_
  refine kv g0 (mv) ?_
  refine kv g0 (add6) ?_
  refine kv g0 (asg) ?_
  refine wk_end ?_
  refine ac_g2 (pk 0 2 0 (.agg [.sl .n 1 (((rd_T60 q13 p16).f0).map (eI .i64)), .row 3, .lit (.int .i64 ((rd_T60 q13 p16).f2)), .lit (.int .i64 ((rd_T60 q13 p16).f3))]) (setXF (f := e60) (X := .agg [.row 2, .row 3, .lit (.int .i64 ((rd_T60 q13 p16).f2)), .lit (.int .i64 ((rd_T60 q13 p16).f3))]) c24 c25) (setXX) rfl) ?_
  refine ac_g2 (pk 0 3 1 (.agg [.sl .n 1 (((rd_T60 q13 p16).f0).map (eI .i64)), .sl .n 6 (((rd_T60 q13 p16).f1).map e92), .lit (.int .i64 ((rd_T60 q13 p16).f2)), .lit (.int .i64 ((rd_T60 q13 p16).f3))]) (setXF (f := e60) (X := .agg [.sl .n 1 (((rd_T60 q13 p16).f0).map (eI .i64)), .row 3, .lit (.int .i64 ((rd_T60 q13 p16).f2)), .lit (.int .i64 ((rd_T60 q13 p16).f3))]) c24 c25) (setXX) rfl) ?_
  refine ac_g1 (deadW 0 (e60) (q13.set p15.toNat (⟨(rd_T60 q13 p16).f0, (rd_T60 q13 p16).f1, (rd_T60 q13 p16).f2, (rd_T60 q13 p16).f3⟩ : S60)) ((wrap64 (p15 + 1)).toNat) ((wrap64 (p16 + 1)).toNat) (outDE (f := e60) (sz := 4) (x := q13) (lo := p15.toNat) (hi := p16.toNat + 1) (lo' := (wrap64 (p15 + 1)).toNat) (hi' := (wrap64 (p16 + 1)).toNat) (i := p15.toNat) (v := (⟨(rd_T60 q13 p16).f0, (rd_T60 q13 p16).f1, (rd_T60 q13 p16).f2, (rd_T60 q13 p16).f3⟩ : S60)) (fun hm => (by have h0_ := toN1 (i := p15) (n := q13.length) (by omega) (by omega) (by simpa using hm); have h1_ := toN1 (i := p16) (n := q13.length) (by omega) (by omega) (by simpa using hm); omega)) (by omega)) cl60) ?_
  refine ac_k ?_
  exact acw hE [(0, 0), (1, 1)] 9999 (hK27 k17 (q13.set p15.toNat (⟨(rd_T60 q13 p16).f0, (rd_T60 q13 p16).f1, (rd_T60 q13 p16).f2, (rd_T60 q13 p16).f3⟩ : S60)) t21.2 (wrap64 (p15 + 1)) (wrap64 (p16 + 1)) (Nat.le_refl _) ⟨by omega, H⟩)
 rw [if_neg c18] at H
 refine aw_ifF ?_ (decide_eq_false c18)
 refine aw_exit ?_
 refine ac_then ?_
 refine ac_then ?_
 refine ac_hit rfl ?_
 refine ac_next ?_
 refine aw_grp1 ?_
 refine wk_start ?_
 refine kv g0 (mv) ?_
 refine kv g0 (mv) ?_
 obtain ⟨c28, H⟩ := of_if H
 obtain ⟨c29, H⟩ := of_if H
 refine kv g0 (srLD 60 deadL_len c28 c29) ?_
 refine ks g0 (clrD [.slice none 0 0, .slice none 0 0, .int .i64 0, .int .i64 0] (e60 z60) ((q13.take p15.toNat ++ List.replicate (q13.length - p15.toNat) z60).map e60) (clrND (frl' c29)) clrED) ?_
 refine wk_end ?_
 refine ac_next ?_
 refine aw_grp1 ?_
 refine wk_start ?_
 refine kv g0 (mv) ?_
 refine kv g0 (mv) ?_
 obtain ⟨c30, H⟩ := of_if H
 refine kv g0 (srHD 60 (List.length_map ..) c28 c30) ?_
 refine kv g0 (asg) ?_
 refine wk_end ?_
 refine ac_next ?_
 refine aw_ret ?_
 refine ac_g1 (sealD 0 (rfl) cl60) ?_
 refine ac_preD 4 5 (((q13.take p15.toNat ++ List.replicate (q13.length - p15.toNat) z60).take p15.toNat).map e60) ?_ (List.map_take ..).symm
 obtain rfl := Option.some.inj H
 exact acr hE [.tmp 4] (.tmp .nil) (.one _) [(0, 0), (1, 1), (2, 5)] 9999
/-! impl_OnlyFor -/
def impl_OnlyFor.f (k : Nat) (a0_0 : Int) (a0_1 : Int) (a0_2 : Int) (l0_3 : List S60) (a1 : Int) : Option (Int × Int × Int × (List S60)) := (impl_copyPolicy.f k a0_0 a0_1 a0_2 l0_3).bind fun t1 => (impl_PolicyOk.f k a0_0 a0_1 a0_2 l0_3).bind fun t3 => if t3 = true then (impl_Rule_48_w49.f k t1.2.2.2 a1).bind fun t6 => some (t1.1, t1.2.1, t1.2.2.1, t6.1) else some (t1.1, t1.2.1, t1.2.2.1, t1.2.2.2)
theorem impl_OnlyFor.ok {k : Nat} {a0_0 : Int} {a0_1 : Int} {a0_2 : Int} {l0_3 : List S60} {a1 : Int} {r : Int × Int × Int × (List S60)} (H : impl_OnlyFor.f k a0_0 a0_1 a0_2 l0_3 a1 = some r) : ACalls Try.prog 18 [] [.agg [.lit (.int .i64 a0_0), .lit (.int .i64 a0_1), .lit (.int .i64 a0_2), .sl .o 4 (l0_3.map e60)], .lit (.int .i64 a1)] [(0, .drow false ds60 60 4 (r.2.2.2.map e60))] (.agg [.lit (.int .i64 r.1), .lit (.int .i64 r.2.1), .lit (.int .i64 r.2.2.1), .row 0]) := by
 refine acalls (fn := Try.f18) (nt := 18) Try.func18 rfl rfl (Nat.le_of_ble_eq_true rfl) fun E hE => ?_
 rw [impl_OnlyFor.f] at H
 refine aw_grp1 ?_
 refine wk_start ?_
 refine kb g0 (bxA 0) ?_
 refine kb g0 (bx1 1) ?_
 refine kb g0 (alc 2 [.int .i64 0, .int .i64 0, .int .i64 0, .slice none 0 0] [.lit (.int .i64 0), .lit (.int .i64 0), .lit (.int .i64 0), .lit (.slice none 0 0)]) ?_
 refine wk_end ?_
 refine ac_next ?_
 refine aw_grp1 ?_
 refine wk_start ?_
 refine kv g0 (ldBA 4 [.lit (.int .i64 a0_0), .lit (.int .i64 a0_1), .lit (.int .i64 a0_2), .sl .o 4 (l0_3.map e60)]) ?_
 obtain ⟨t1, A2, H⟩ := of_bind H
 refine kcS1 7 (.agg [.lit (.int .i64 t1.1), .lit (.int .i64 t1.2.1), .lit (.int .i64 t1.2.2.1), .row 3]) [(3, .drow false ds60 60 4 (t1.2.2.2.map e60))] g0 (cal (impl_copyPolicy.ok A2) [3] 9999 .n (hf := Try.func47)) rfl rfl ?_
 refine kb g0 (alc 4 [.int .i64 0, .int .i64 0, .int .i64 0, .slice none 0 0] [.lit (.int .i64 0), .lit (.int .i64 0), .lit (.int .i64 0), .lit (.slice none 0 0)]) ?_
 refine ks g0 (stB 4 [.lit (.int .i64 t1.1), .lit (.int .i64 t1.2.1), .lit (.int .i64 t1.2.2.1), .row 3]) ?_
 refine wk_end ?_
 refine ac_next ?_
 refine aw_grp1 ?_
 refine aw_grp1 ?_
 refine wk_start ?_
 refine kv g0 (ldBA 4 [.lit (.int .i64 a0_0), .lit (.int .i64 a0_1), .lit (.int .i64 a0_2), .sl .o 4 (l0_3.map e60)]) ?_
 obtain ⟨t3, A4, H⟩ := of_bind H
 refine kcS0 9 (.lit (.bool t3)) [] g0 (cal (impl_PolicyOk.ok A4) [] 9999 .n (hf := Try.func39)) rfl rfl ?_
 refine kv g0 (not_) ?_
 refine wk_end ?_
 refine ac_next ?_
 by_cases c5 : t3 = true
 ·rw [if_pos c5] at H
  refine aw_ifF ?_ (nF c5)
  refine aw_skip ?_
  refine ac_next ?_
  refine aw_grp1 ?_
  refine wk_start ?_
  refine kv g0 (faB 3 3) ?_
  refine kv g0 (ldB) ?_
  refine kv g0 (mkf [.box 1 0]) ?_
  obtain ⟨t6, A7, H⟩ := of_bind H
  refine kcS3 15 (.row 5) [(3, .gone), (1, .box 3 [.lit (.int .i64 t6.2)]), (5, .drow false ds60 60 4 (t6.1.map e60))] g0 (cal (impl_Rule_48_w49.ok A7) [3, 1, 5] 9999 .n (hf := Try.func48)) rfl rfl ?_
  refine kv g0 (faB 3 3) ?_
  refine ks g0 (stB 1 [.lit (.int .i64 t1.1), .lit (.int .i64 t1.2.1), .lit (.int .i64 t1.2.2.1), .row 5]) ?_
  refine wk_end ?_
  refine ac_next ?_
  refine aw_grp1 ?_
  refine wk_start ?_
  refine kv g0 (ldBA 4 [.lit (.int .i64 t1.1), .lit (.int .i64 t1.2.1), .lit (.int .i64 t1.2.2.1), .row 5]) ?_
  refine ks g0 (stB 4 [.lit (.int .i64 t1.1), .lit (.int .i64 t1.2.1), .lit (.int .i64 t1.2.2.1), .row 5]) ?_
  refine wk_end ?_
  refine ac_next ?_
  refine aw_ret ?_
  obtain rfl := Option.some.inj H
  exact acr hE [.cell 4 30] (rcA 4 .nil) (.one _) [(0, 5)] 9999
 rw [if_neg c5] at H
 refine aw_ifT ?_ (nT (bF c5))
 refine aw_grp1 ?_
 refine wk_start ?_
 refine kv g0 (ldBA 4 [.lit (.int .i64 t1.1), .lit (.int .i64 t1.2.1), .lit (.int .i64 t1.2.2.1), .row 3]) ?_
 refine ks g0 (stB 4 [.lit (.int .i64 t1.1), .lit (.int .i64 t1.2.1), .lit (.int .i64 t1.2.2.1), .row 3]) ?_
 refine wk_end ?_
 refine ac_next ?_
 refine aw_ret ?_
 refine ac_thenR ?_
 obtain rfl := Option.some.inj H
 exact acr hE [.cell 4 30] (rcA 4 .nil) (.one _) [(0, 3)] 9999
/-! laws_eqIntS -/
def laws_eqIntS.l0 : Nat → (List Int) → (List Int) → Int → Option (Bool)
 | 0, _, _, _ => none
 | k7 + 1, l0, l1, p6 => if p6 < (l0.length : Int) then if 0 ≤ p6 then (if p6 < (l1.length : Int) then if (rd l0 p6) = (rd l1 p6) then laws_eqIntS.l0 k7 l0 l1 (wrap64 (p6 + 1)) else some false else none) else none else some true
def laws_eqIntS.f (k : Nat) (l0 : List Int) (l1 : List Int) : Option (Bool) := if (l0.length : Int) = (l1.length : Int) then laws_eqIntS.l0 k l0 l1 0 else some false
theorem laws_eqIntS.ok {k : Nat} {l0 : List Int} {l1 : List Int} {r : Bool} (H : laws_eqIntS.f k l0 l1 = some r) : ACalls Try.prog 12 [] [.sl .o 1 (l0.map (eI .i64)), .sl .o 1 (l1.map (eI .i64))] [] (.lit (.bool r)) := by
 refine acalls (fn := Try.f12) (nt := 26) Try.func12 rfl rfl (Nat.le_of_ble_eq_true rfl) fun E hE => ?_
 rw [laws_eqIntS.f] at H
 refine aw_grp1 ?_
 refine wk_start ?_
 refine kv g0 (asg) ?_
 refine wk_end ?_
 refine ac_next ?_
 refine aw_grp1 ?_
 refine aw_grp1 ?_
 refine wk_start ?_
 refine kv g0 (mv) ?_
 refine kv g0 (lnS lenE) ?_
 refine kv g0 (mv) ?_
 refine kv g0 (lnS lenE) ?_
 refine kv g0 (neq) ?_
 refine wk_end ?_
 refine ac_next ?_
 by_cases c1 : (l0.length : Int) = (l1.length : Int)
 ·rw [if_pos c1] at H
  refine aw_ifF ?_ (eM c1)
  refine aw_skip ?_
  refine ac_next ?_
  refine aw_grp1 ?_
  refine aw_grp1 ?_
  refine wk_start ?_
  refine kv g0 (asg) ?_
  refine wk_end ?_
  refine ac_next ?_
  refine aw_block ?_
  refine aw_loop1 (fun (k_ : Nat) (p6 : Int) => k_ ≤ k ∧ laws_eqIntS.l0 k_ l0 l1 p6 = some r) (fun (p6 : Int) => ⟨[(0, .sl .o 1 (l0.map (eI .i64))), (1, .sl .o 1 (l1.map (eI .i64))), (5, .lit (.int .i64 p6))], []⟩) k 0 ⟨Nat.le_refl _, H⟩ (fun K_ h_ => acw hE [] 9999 h_) (fun _ => by intro h_; have h_ := h_.2; rw [laws_eqIntS.l0.eq_1] at h_; cases h_) ?_
  intro k7 p6 hq_ K12 hK13
  have hk7 := hq_.1
  have H := hq_.2
  clear hq_
  rw [laws_eqIntS.l0.eq_2] at H
  refine aw_grp1 ?_
  refine aw_grp1 ?_
  refine wk_start ?_
  refine kv g0 (mv) ?_
  refine kv g0 (mv) ?_
  refine kv g0 (lnS lenE) ?_
  refine kv g0 (lss) ?_
  refine wk_end ?_
  refine ac_next ?_
  by_cases c8 : p6 < (l0.length : Int)
  ·rw [if_pos c8] at H
   refine aw_ifT ?_ (decide_eq_true c8)
   refine aw_skip ?_
   refine ac_next ?_
   refine aw_grp1 ?_
   refine aw_block ?_
   refine aw_grp1 ?_
   refine wk_start ?_
   refine kv g0 (mv) ?_
   refine kv g0 (mv) ?_
   obtain ⟨c9, H⟩ := of_if H
   refine kv g0 (ixS 3 (eI .i64 (rd l0 p6)) c9 (getE (z := (0 : Int)) c9 c8)) ?_
   refine kv g0 (ldR (.lit (.int .i64 (rd l0 p6)))) ?_
   refine kv g0 (mv) ?_
   refine kv g0 (mv) ?_
   obtain ⟨c10, H⟩ := of_if H
   refine kv g0 (ixS 3 (eI .i64 (rd l1 p6)) c9 (getE (z := (0 : Int)) c9 c10)) ?_
   refine kv g0 (ldR (.lit (.int .i64 (rd l1 p6)))) ?_
   refine kv g0 (neq) ?_
   refine wk_end_draw hM (by kernel_rfl) ?_
   refine ac_next ?_
   by_cases c11 : (rd l0 p6) = (rd l1 p6)
   ·rw [if_pos c11] at H
    refine aw_ifF ?_ (eM c11)
    refine aw_skip ?_
    refine ac_blkN ?_
    refine ac_next ?_
    refine wk_start ?_
    refine kv g0 (mv) ?_
    refine kv g0 (add6) ?_
    refine kv g0 (asg) ?_
    refine wk_end ?_
    refine ac_k ?_
    exact acw hE [] 9999 (hK13 k7 (wrap64 (p6 + 1)) (Nat.le_refl _) ⟨by omega, H⟩)
   rw [if_neg c11] at H
   refine aw_ifT ?_ (eN c11)
   refine aw_grp1 ?_
   refine wk_start ?_
   refine kv g0 (asg) ?_
   refine wk_end ?_
   refine ac_next ?_
   refine aw_ret ?_
   refine ac_blkR ?_
   refine ac_thenR ?_
   refine ac_thenR ?_
   refine ac_blkR ?_
   refine ac_thenR ?_
   obtain rfl := Option.some.inj H
   exact acr hE [.tmp 4] (.tmp .nil) (.one _) [] 9999
  rw [if_neg c8] at H
  refine aw_ifF ?_ (decide_eq_false c8)
  refine aw_exit ?_
  refine ac_then ?_
  refine ac_then ?_
  refine ac_hit rfl ?_
  refine ac_next ?_
  refine aw_grp1 ?_
  refine wk_start ?_
  refine kv g0 (asg) ?_
  refine wk_end ?_
  refine ac_next ?_
  refine aw_ret ?_
  obtain rfl := Option.some.inj H
  exact acr hE [.tmp 4] (.tmp .nil) (.one _) [] 9999
 rw [if_neg c1] at H
 refine aw_ifT ?_ (eN c1)
 refine aw_grp1 ?_
 refine wk_start ?_
 refine kv g0 (asg) ?_
 refine wk_end ?_
 refine ac_next ?_
 refine aw_ret ?_
 refine ac_thenR ?_
 obtain rfl := Option.some.inj H
 exact acr hE [.tmp 4] (.tmp .nil) (.one _) [] 9999
/-! laws_eqWide -/
def laws_eqWide.f (a0_0 : Int) (a0_1 : Int) (a1_0 : Int) (a1_1 : Int) : Option (Bool) := if a0_0 = a1_0 then if a0_1 = a1_1 then some true else some false else some false
theorem laws_eqWide.ok {a0_0 : Int} {a0_1 : Int} {a1_0 : Int} {a1_1 : Int} {r : Bool} (H : laws_eqWide.f a0_0 a0_1 a1_0 a1_1 = some r) : ACalls Try.prog 115 [] [.agg [.lit (.int .i64 a0_0), .lit (.int .i64 a0_1)], .agg [.lit (.int .i64 a1_0), .lit (.int .i64 a1_1)]] [] (.lit (.bool r)) := by
 refine acalls (fn := Try.f115) (nt := 15) Try.func115 rfl rfl (Nat.le_of_ble_eq_true rfl) fun E hE => ?_
 rw [laws_eqWide.f] at H
 refine aw_grp1 ?_
 refine wk_start ?_
 refine kb g0 (bxA 0) ?_
 refine kb g0 (bxA 1) ?_
 refine kv g0 (asg) ?_
 refine wk_end ?_
 refine ac_next ?_
 refine aw_grp1 ?_
 refine aw_grp1 ?_
 refine wk_start ?_
 refine kv g0 (faB 0 0) ?_
 refine kv g0 (ldB) ?_
 refine kv g0 (faB 0 0) ?_
 refine kv g0 (ldB) ?_
 refine kv g0 (neq) ?_
 refine wk_end ?_
 refine ac_next ?_
 by_cases c1 : a0_0 = a1_0
 ·rw [if_pos c1] at H
  refine aw_ifF ?_ (eM c1)
  refine aw_skip ?_
  refine ac_next ?_
  refine aw_grp1 ?_
  refine aw_grp1 ?_
  refine wk_start ?_
  refine kv g0 (faB 1 1) ?_
  refine kv g0 (ldB) ?_
  refine kv g0 (faB 1 1) ?_
  refine kv g0 (ldB) ?_
  refine kv g0 (neq) ?_
  refine wk_end ?_
  refine ac_next ?_
  by_cases c2 : a0_1 = a1_1
  ·rw [if_pos c2] at H
   refine aw_ifF ?_ (eM c2)
   refine aw_skip ?_
   refine ac_next ?_
   refine aw_grp1 ?_
   refine wk_start ?_
   refine kv g0 (asg) ?_
   refine wk_end ?_
   refine ac_next ?_
   refine aw_ret ?_
   obtain rfl := Option.some.inj H
   exact acr hE [.tmp 4] (.tmp .nil) (.one _) [] 9999
  rw [if_neg c2] at H
  refine aw_ifT ?_ (eN c2)
  refine aw_grp1 ?_
  refine wk_start ?_
  refine kv g0 (asg) ?_
  refine wk_end ?_
  refine ac_next ?_
  refine aw_ret ?_
  refine ac_thenR ?_
  obtain rfl := Option.some.inj H
  exact acr hE [.tmp 4] (.tmp .nil) (.one _) [] 9999
 rw [if_neg c1] at H
 refine aw_ifT ?_ (eN c1)
 refine aw_grp1 ?_
 refine wk_start ?_
 refine kv g0 (asg) ?_
 refine wk_end ?_
 refine ac_next ?_
 refine aw_ret ?_
 refine ac_thenR ?_
 obtain rfl := Option.some.inj H
 exact acr hE [.tmp 4] (.tmp .nil) (.one _) [] 9999
/-! laws_eqCond -/
def laws_eqCond.f (a0_0 : Int) (a0_1 : Int) (a0_2 : Int) (a0_3 : Int) (a0_4 : Int) (a0_5 : Int) (a1_0 : Int) (a1_1 : Int) (a1_2 : Int) (a1_3 : Int) (a1_4 : Int) (a1_5 : Int) : Option (Bool) := if a0_0 = a1_0 then (laws_eqWide.f a0_1 a0_2 a1_1 a1_2).bind fun t2 => if t2 = true then if a0_3 = a1_3 then (laws_eqWide.f a0_4 a0_5 a1_4 a1_5).bind fun t6 => if t6 = true then some true else some false else some false else some false else some false
theorem laws_eqCond.ok {a0_0 : Int} {a0_1 : Int} {a0_2 : Int} {a0_3 : Int} {a0_4 : Int} {a0_5 : Int} {a1_0 : Int} {a1_1 : Int} {a1_2 : Int} {a1_3 : Int} {a1_4 : Int} {a1_5 : Int} {r : Bool} (H : laws_eqCond.f a0_0 a0_1 a0_2 a0_3 a0_4 a0_5 a1_0 a1_1 a1_2 a1_3 a1_4 a1_5 = some r) : ACalls Try.prog 112 [] [.agg [.lit (.int .i64 a0_0), .lit (.int .i64 a0_1), .lit (.int .i64 a0_2), .lit (.int .i64 a0_3), .lit (.int .i64 a0_4), .lit (.int .i64 a0_5)], .agg [.lit (.int .i64 a1_0), .lit (.int .i64 a1_1), .lit (.int .i64 a1_2), .lit (.int .i64 a1_3), .lit (.int .i64 a1_4), .lit (.int .i64 a1_5)]] [] (.lit (.bool r)) := by
 refine acalls (fn := Try.f112) (nt := 27) Try.func112 rfl rfl (Nat.le_of_ble_eq_true rfl) fun E hE => ?_
 rw [laws_eqCond.f] at H
 refine aw_grp1 ?_
 refine wk_start ?_
 refine kb g0 (bxA 0) ?_
 refine kb g0 (bxA 1) ?_
 refine kv g0 (asg) ?_
 refine wk_end ?_
 refine ac_next ?_
 refine aw_grp1 ?_
 refine aw_grp1 ?_
 refine wk_start ?_
 refine kv g0 (faB 0 0) ?_
 refine kv g0 (ldB) ?_
 refine kv g0 (faB 0 0) ?_
 refine kv g0 (ldB) ?_
 refine kv g0 (neq) ?_
 refine wk_end ?_
 refine ac_next ?_
 by_cases c1 : a0_0 = a1_0
 ·rw [if_pos c1] at H
  refine aw_ifF ?_ (eM c1)
  refine aw_skip ?_
  refine ac_next ?_
  refine aw_grp1 ?_
  refine aw_grp1 ?_
  refine wk_start ?_
  refine kv g0 (faB 1 1) ?_
  refine kv g0 (ldBA 2 [.lit (.int .i64 a0_1), .lit (.int .i64 a0_2)]) ?_
  refine kv g0 (faB 1 1) ?_
  refine kv g0 (ldBA 2 [.lit (.int .i64 a1_1), .lit (.int .i64 a1_2)]) ?_
  obtain ⟨t2, A3, H⟩ := of_bind H
  refine kcS0 14 (.lit (.bool t2)) [] g0 (cal (laws_eqWide.ok A3) [] 9999 .n (hf := Try.func115)) rfl rfl ?_
  refine kv g0 (not_) ?_
  refine wk_end ?_
  refine ac_next ?_
  by_cases c4 : t2 = true
  ·rw [if_pos c4] at H
   refine aw_ifF ?_ (nF c4)
   refine aw_skip ?_
   refine ac_next ?_
   refine aw_grp1 ?_
   refine aw_grp1 ?_
   refine wk_start ?_
   refine kv g0 (faB 3 3) ?_
   refine kv g0 (ldB) ?_
   refine kv g0 (faB 3 3) ?_
   refine kv g0 (ldB) ?_
   refine kv g0 (neq) ?_
   refine wk_end ?_
   refine ac_next ?_
   by_cases c5 : a0_3 = a1_3
   ·rw [if_pos c5] at H
    refine aw_ifF ?_ (eM c5)
    refine aw_skip ?_
    refine ac_next ?_
    refine aw_grp1 ?_
    refine aw_grp1 ?_
    refine wk_start ?_
    refine kv g0 (faB 4 4) ?_
    refine kv g0 (ldBA 2 [.lit (.int .i64 a0_4), .lit (.int .i64 a0_5)]) ?_
    refine kv g0 (faB 4 4) ?_
    refine kv g0 (ldBA 2 [.lit (.int .i64 a1_4), .lit (.int .i64 a1_5)]) ?_
    obtain ⟨t6, A7, H⟩ := of_bind H
    refine kcS0 25 (.lit (.bool t6)) [] g0 (cal (laws_eqWide.ok A7) [] 9999 .n (hf := Try.func115)) rfl rfl ?_
    refine kv g0 (not_) ?_
    refine wk_end ?_
    refine ac_next ?_
    by_cases c8 : t6 = true
    ·rw [if_pos c8] at H
     refine aw_ifF ?_ (nF c8)
     refine aw_skip ?_
     refine ac_next ?_
     refine aw_grp1 ?_
     refine wk_start ?_
     refine kv g0 (asg) ?_
     refine wk_end ?_
     refine ac_next ?_
     refine aw_ret ?_
     obtain rfl := Option.some.inj H
     exact acr hE [.tmp 4] (.tmp .nil) (.one _) [] 9999
    rw [if_neg c8] at H
    refine aw_ifT ?_ (nT (bF c8))
    refine aw_grp1 ?_
    refine wk_start ?_
    refine kv g0 (asg) ?_
    refine wk_end ?_
    refine ac_next ?_
    refine aw_ret ?_
    refine ac_thenR ?_
    obtain rfl := Option.some.inj H
    exact acr hE [.tmp 4] (.tmp .nil) (.one _) [] 9999
   rw [if_neg c5] at H
   refine aw_ifT ?_ (eN c5)
   refine aw_grp1 ?_
   refine wk_start ?_
   refine kv g0 (asg) ?_
   refine wk_end ?_
   refine ac_next ?_
   refine aw_ret ?_
   refine ac_thenR ?_
   obtain rfl := Option.some.inj H
   exact acr hE [.tmp 4] (.tmp .nil) (.one _) [] 9999
  rw [if_neg c4] at H
  refine aw_ifT ?_ (nT (bF c4))
  refine aw_grp1 ?_
  refine wk_start ?_
  refine kv g0 (asg) ?_
  refine wk_end ?_
  refine ac_next ?_
  refine aw_ret ?_
  refine ac_thenR ?_
  obtain rfl := Option.some.inj H
  exact acr hE [.tmp 4] (.tmp .nil) (.one _) [] 9999
 rw [if_neg c1] at H
 refine aw_ifT ?_ (eN c1)
 refine aw_grp1 ?_
 refine wk_start ?_
 refine kv g0 (asg) ?_
 refine wk_end ?_
 refine ac_next ?_
 refine aw_ret ?_
 refine ac_thenR ?_
 obtain rfl := Option.some.inj H
 exact acr hE [.tmp 4] (.tmp .nil) (.one _) [] 9999
/-! laws_eqCondS -/
def laws_eqCondS.l0 : Nat → (List S92) → (List S92) → Int → Option (Bool)
 | 0, _, _, _ => none
 | k9 + 1, l0, l1, p8 => if p8 < (l0.length : Int) then if 0 ≤ p8 then (if p8 < (l1.length : Int) then ((laws_eqCond.f ((rd_T92 l0 p8).f0) ((rd_T92 l0 p8).f1.f0) ((rd_T92 l0 p8).f1.f1) ((rd_T92 l0 p8).f2) ((rd_T92 l0 p8).f3.f0) ((rd_T92 l0 p8).f3.f1) ((rd_T92 l1 p8).f0) ((rd_T92 l1 p8).f1.f0) ((rd_T92 l1 p8).f1.f1) ((rd_T92 l1 p8).f2) ((rd_T92 l1 p8).f3.f0) ((rd_T92 l1 p8).f3.f1)).bind fun t13 => if t13 = true then laws_eqCondS.l0 k9 l0 l1 (wrap64 (p8 + 1)) else some false) else none) else none else some true
def laws_eqCondS.f (k : Nat) (l0 : List S92) (l1 : List S92) : Option (Bool) := if (l0.length : Int) = (l1.length : Int) then laws_eqCondS.l0 k l0 l1 0 else some false
theorem laws_eqCondS.ok {k : Nat} {l0 : List S92} {l1 : List S92} {r : Bool} (H : laws_eqCondS.f k l0 l1 = some r) : ACalls Try.prog 105 [] [.sl .o 6 (l0.map e92), .sl .o 6 (l1.map e92)] [] (.lit (.bool r)) := by
 refine acalls (fn := Try.f105) (nt := 27) Try.func105 rfl rfl (Nat.le_of_ble_eq_true rfl) fun E hE => ?_
 rw [laws_eqCondS.f] at H
 refine aw_grp1 ?_
 refine wk_start ?_
 refine kv g0 (asg) ?_
 refine wk_end ?_
 refine ac_next ?_
 refine aw_grp1 ?_
 refine aw_grp1 ?_
 refine wk_start ?_
 refine kv g0 (mv) ?_
 refine kv g0 (lnS lenE) ?_
 refine kv g0 (mv) ?_
 refine kv g0 (lnS lenE) ?_
 refine kv g0 (neq) ?_
 refine wk_end ?_
 refine ac_next ?_
 by_cases c1 : (l0.length : Int) = (l1.length : Int)
 ·rw [if_pos c1] at H
  refine aw_ifF ?_ (eM c1)
  refine aw_skip ?_
  refine ac_next ?_
  refine aw_grp1 ?_
  refine aw_grp1 ?_
  refine wk_start ?_
  refine kv g0 (asg) ?_
  refine wk_end ?_
  refine ac_next ?_
  refine aw_block ?_
  refine aw_loop1 (fun (k_ : Nat) (p8 : Int) => k_ ≤ k ∧ laws_eqCondS.l0 k_ l0 l1 p8 = some r) (fun (p8 : Int) => ⟨[(0, .sl .o 6 (l0.map e92)), (1, .sl .o 6 (l1.map e92)), (5, .lit (.int .i64 p8))], []⟩) k 0 ⟨Nat.le_refl _, H⟩ (fun K_ h_ => acw hE [] 9999 h_) (fun _ => by intro h_; have h_ := h_.2; rw [laws_eqCondS.l0.eq_1] at h_; cases h_) ?_
  intro k9 p8 hq_ K16 hK17
  have hk9 := hq_.1
  have H := hq_.2
  clear hq_
  rw [laws_eqCondS.l0.eq_2] at H
  refine aw_grp1 ?_
  refine aw_grp1 ?_
  refine wk_start ?_
  refine kv g0 (mv) ?_
  refine kv g0 (mv) ?_
  refine kv g0 (lnS lenE) ?_
  refine kv g0 (lss) ?_
  refine wk_end ?_
  refine ac_next ?_
  by_cases c10 : p8 < (l0.length : Int)
  ·rw [if_pos c10] at H
   refine aw_ifT ?_ (decide_eq_true c10)
   refine aw_skip ?_
   refine ac_next ?_
   refine aw_grp1 ?_
   refine aw_block ?_
   refine aw_grp1 ?_
   refine wk_start ?_
   refine kv g0 (mv) ?_
   refine kv g0 (mv) ?_
   obtain ⟨c11, H⟩ := of_if H
   refine kv g0 (ixS 92 (e92 (rd_T92 l0 p8)) c11 (getE (z := z92) c11 c10)) ?_
   refine kv g0 (ldRA 6 [.lit (.int .i64 ((rd_T92 l0 p8).f0)), .lit (.int .i64 ((rd_T92 l0 p8).f1.f0)), .lit (.int .i64 ((rd_T92 l0 p8).f1.f1)), .lit (.int .i64 ((rd_T92 l0 p8).f2)), .lit (.int .i64 ((rd_T92 l0 p8).f3.f0)), .lit (.int .i64 ((rd_T92 l0 p8).f3.f1))]) ?_
   refine kv g0 (mv) ?_
   refine kv g0 (mv) ?_
   obtain ⟨c12, H⟩ := of_if H
   refine kv g0 (ixS 92 (e92 (rd_T92 l1 p8)) c11 (getE (z := z92) c11 c12)) ?_
   refine kv g0 (ldRA 6 [.lit (.int .i64 ((rd_T92 l1 p8).f0)), .lit (.int .i64 ((rd_T92 l1 p8).f1.f0)), .lit (.int .i64 ((rd_T92 l1 p8).f1.f1)), .lit (.int .i64 ((rd_T92 l1 p8).f2)), .lit (.int .i64 ((rd_T92 l1 p8).f3.f0)), .lit (.int .i64 ((rd_T92 l1 p8).f3.f1))]) ?_
   obtain ⟨t13, A14, H⟩ := of_bind H
   refine kcS0 25 (.lit (.bool t13)) [] g0 (cal (laws_eqCond.ok A14) [] 9999 .n (hf := Try.func112)) rfl rfl ?_
   refine kv g0 (not_) ?_
   refine wk_end_draw hM (by kernel_rfl) ?_
   refine ac_next ?_
   by_cases c15 : t13 = true
   ·rw [if_pos c15] at H
    refine aw_ifF ?_ (nF c15)
    refine aw_skip ?_
    refine ac_blkN ?_
    refine ac_next ?_
    refine wk_start ?_
    refine kv g0 (mv) ?_
    refine kv g0 (add6) ?_
    refine kv g0 (asg) ?_
    refine wk_end ?_
    refine ac_k ?_
    exact acw hE [] 9999 (hK17 k9 (wrap64 (p8 + 1)) (Nat.le_refl _) ⟨by omega, H⟩)
   rw [if_neg c15] at H
   refine aw_ifT ?_ (nT (bF c15))
   refine aw_grp1 ?_
   refine wk_start ?_
   refine kv g0 (asg) ?_
   refine wk_end ?_
   refine ac_next ?_
   refine aw_ret ?_
   refine ac_blkR ?_
   refine ac_thenR ?_
   refine ac_thenR ?_
   refine ac_blkR ?_
   refine ac_thenR ?_
   obtain rfl := Option.some.inj H
   exact acr hE [.tmp 4] (.tmp .nil) (.one _) [] 9999
  rw [if_neg c10] at H
  refine aw_ifF ?_ (decide_eq_false c10)
  refine aw_exit ?_
  refine ac_then ?_
  refine ac_then ?_
  refine ac_hit rfl ?_
  refine ac_next ?_
  refine aw_grp1 ?_
  refine wk_start ?_
  refine kv g0 (asg) ?_
  refine wk_end ?_
  refine ac_next ?_
  refine aw_ret ?_
  obtain rfl := Option.some.inj H
  exact acr hE [.tmp 4] (.tmp .nil) (.one _) [] 9999
 rw [if_neg c1] at H
 refine aw_ifT ?_ (eN c1)
 refine aw_grp1 ?_
 refine wk_start ?_
 refine kv g0 (asg) ?_
 refine wk_end ?_
 refine ac_next ?_
 refine aw_ret ?_
 refine ac_thenR ?_
 obtain rfl := Option.some.inj H
 exact acr hE [.tmp 4] (.tmp .nil) (.one _) [] 9999
/-! laws_eqRule -/
def laws_eqRule.f (k : Nat) (l0_0 : List Int) (l0_1 : List S92) (a0_2 : Int) (a0_3 : Int) (l1_0 : List Int) (l1_1 : List S92) (a1_2 : Int) (a1_3 : Int) : Option (Bool) := (laws_eqIntS.f k l0_0 l1_0).bind fun t1 => if t1 = true then (laws_eqCondS.f k l0_1 l1_1).bind fun t4 => if t4 = true then if a0_2 = a1_2 then if a0_3 = a1_3 then some true else some false else some false else some false else some false
theorem laws_eqRule.ok {k : Nat} {l0_0 : List Int} {l0_1 : List S92} {a0_2 : Int} {a0_3 : Int} {l1_0 : List Int} {l1_1 : List S92} {a1_2 : Int} {a1_3 : Int} {r : Bool} (H : laws_eqRule.f k l0_0 l0_1 a0_2 a0_3 l1_0 l1_1 a1_2 a1_3 = some r) : ACalls Try.prog 85 [] [.agg [.sl .o 1 (l0_0.map (eI .i64)), .sl .o 6 (l0_1.map e92), .lit (.int .i64 a0_2), .lit (.int .i64 a0_3)], .agg [.sl .o 1 (l1_0.map (eI .i64)), .sl .o 6 (l1_1.map e92), .lit (.int .i64 a1_2), .lit (.int .i64 a1_3)]] [] (.lit (.bool r)) := by
 refine acalls (fn := Try.f85) (nt := 27) Try.func85 rfl rfl (Nat.le_of_ble_eq_true rfl) fun E hE => ?_
 rw [laws_eqRule.f] at H
 refine aw_grp1 ?_
 refine wk_start ?_
 refine kb g0 (bxA 0) ?_
 refine kb g0 (bxA 1) ?_
 refine kv g0 (asg) ?_
 refine wk_end ?_
 refine ac_next ?_
 refine aw_grp1 ?_
 refine aw_grp1 ?_
 refine wk_start ?_
 refine kv g0 (faB 0 0) ?_
 refine kv g0 (ldB) ?_
 refine kv g0 (faB 0 0) ?_
 refine kv g0 (ldB) ?_
 obtain ⟨t1, A2, H⟩ := of_bind H
 refine kcS0 9 (.lit (.bool t1)) [] g0 (cal (laws_eqIntS.ok A2) [] 9999 .n (hf := Try.func12)) rfl rfl ?_
 refine kv g0 (not_) ?_
 refine wk_end ?_
 refine ac_next ?_
 by_cases c3 : t1 = true
 ·rw [if_pos c3] at H
  refine aw_ifF ?_ (nF c3)
  refine aw_skip ?_
  refine ac_next ?_
  refine aw_grp1 ?_
  refine aw_grp1 ?_
  refine wk_start ?_
  refine kv g0 (faB 1 1) ?_
  refine kv g0 (ldB) ?_
  refine kv g0 (faB 1 1) ?_
  refine kv g0 (ldB) ?_
  obtain ⟨t4, A5, H⟩ := of_bind H
  refine kcS0 15 (.lit (.bool t4)) [] g0 (cal (laws_eqCondS.ok A5) [] 9999 .n (hf := Try.func105)) rfl rfl ?_
  refine kv g0 (not_) ?_
  refine wk_end ?_
  refine ac_next ?_
  by_cases c6 : t4 = true
  ·rw [if_pos c6] at H
   refine aw_ifF ?_ (nF c6)
   refine aw_skip ?_
   refine ac_next ?_
   refine aw_grp1 ?_
   refine aw_grp1 ?_
   refine wk_start ?_
   refine kv g0 (faB 2 2) ?_
   refine kv g0 (ldB) ?_
   refine kv g0 (faB 2 2) ?_
   refine kv g0 (ldB) ?_
   refine kv g0 (neq) ?_
   refine wk_end ?_
   refine ac_next ?_
   by_cases c7 : a0_2 = a1_2
   ·rw [if_pos c7] at H
    refine aw_ifF ?_ (eM c7)
    refine aw_skip ?_
    refine ac_next ?_
    refine aw_grp1 ?_
    refine aw_grp1 ?_
    refine wk_start ?_
    refine kv g0 (faB 3 3) ?_
    refine kv g0 (ldB) ?_
    refine kv g0 (faB 3 3) ?_
    refine kv g0 (ldB) ?_
    refine kv g0 (neq) ?_
    refine wk_end ?_
    refine ac_next ?_
    by_cases c8 : a0_3 = a1_3
    ·rw [if_pos c8] at H
     refine aw_ifF ?_ (eM c8)
     refine aw_skip ?_
     refine ac_next ?_
     refine aw_grp1 ?_
     refine wk_start ?_
     refine kv g0 (asg) ?_
     refine wk_end ?_
     refine ac_next ?_
     refine aw_ret ?_
     obtain rfl := Option.some.inj H
     exact acr hE [.tmp 4] (.tmp .nil) (.one _) [] 9999
    rw [if_neg c8] at H
    refine aw_ifT ?_ (eN c8)
    refine aw_grp1 ?_
    refine wk_start ?_
    refine kv g0 (asg) ?_
    refine wk_end ?_
    refine ac_next ?_
    refine aw_ret ?_
    refine ac_thenR ?_
    obtain rfl := Option.some.inj H
    exact acr hE [.tmp 4] (.tmp .nil) (.one _) [] 9999
   rw [if_neg c7] at H
   refine aw_ifT ?_ (eN c7)
   refine aw_grp1 ?_
   refine wk_start ?_
   refine kv g0 (asg) ?_
   refine wk_end ?_
   refine ac_next ?_
   refine aw_ret ?_
   refine ac_thenR ?_
   obtain rfl := Option.some.inj H
   exact acr hE [.tmp 4] (.tmp .nil) (.one _) [] 9999
  rw [if_neg c6] at H
  refine aw_ifT ?_ (nT (bF c6))
  refine aw_grp1 ?_
  refine wk_start ?_
  refine kv g0 (asg) ?_
  refine wk_end ?_
  refine ac_next ?_
  refine aw_ret ?_
  refine ac_thenR ?_
  obtain rfl := Option.some.inj H
  exact acr hE [.tmp 4] (.tmp .nil) (.one _) [] 9999
 rw [if_neg c3] at H
 refine aw_ifT ?_ (nT (bF c3))
 refine aw_grp1 ?_
 refine wk_start ?_
 refine kv g0 (asg) ?_
 refine wk_end ?_
 refine ac_next ?_
 refine aw_ret ?_
 refine ac_thenR ?_
 obtain rfl := Option.some.inj H
 exact acr hE [.tmp 4] (.tmp .nil) (.one _) [] 9999
/-! laws_eqRuleS -/
def laws_eqRuleS.l0 : Nat → (List S60) → (List S60) → Int → Option (Bool)
 | 0, _, _, _ => none
 | k9 + 1, l0, l1, p8 => if p8 < (l0.length : Int) then if 0 ≤ p8 then (if p8 < (l1.length : Int) then ((laws_eqRule.f k9 ((rd_T60 l0 p8).f0) ((rd_T60 l0 p8).f1) ((rd_T60 l0 p8).f2) ((rd_T60 l0 p8).f3) ((rd_T60 l1 p8).f0) ((rd_T60 l1 p8).f1) ((rd_T60 l1 p8).f2) ((rd_T60 l1 p8).f3)).bind fun t13 => if t13 = true then laws_eqRuleS.l0 k9 l0 l1 (wrap64 (p8 + 1)) else some false) else none) else none else some true
def laws_eqRuleS.f (k : Nat) (l0 : List S60) (l1 : List S60) : Option (Bool) := if (l0.length : Int) = (l1.length : Int) then laws_eqRuleS.l0 k l0 l1 0 else some false
theorem laws_eqRuleS.ok {k : Nat} {l0 : List S60} {l1 : List S60} {r : Bool} (H : laws_eqRuleS.f k l0 l1 = some r) : ACalls Try.prog 43 [] [.sl .o 4 (l0.map e60), .sl .o 4 (l1.map e60)] [] (.lit (.bool r)) := by
 refine acalls (fn := Try.f43) (nt := 27) Try.func43 rfl rfl (Nat.le_of_ble_eq_true rfl) fun E hE => ?_
 rw [laws_eqRuleS.f] at H
 refine aw_grp1 ?_
 refine wk_start ?_
 refine kv g0 (asg) ?_
 refine wk_end ?_
 refine ac_next ?_
 refine aw_grp1 ?_
 refine aw_grp1 ?_
 refine wk_start ?_
 refine kv g0 (mv) ?_
 refine kv g0 (lnS lenE) ?_
 refine kv g0 (mv) ?_
 refine kv g0 (lnS lenE) ?_
 refine kv g0 (neq) ?_
 refine wk_end ?_
 refine ac_next ?_
 by_cases c1 : (l0.length : Int) = (l1.length : Int)
 ·rw [if_pos c1] at H
  refine aw_ifF ?_ (eM c1)
  refine aw_skip ?_
  refine ac_next ?_
  refine aw_grp1 ?_
  refine aw_grp1 ?_
  refine wk_start ?_
  refine kv g0 (asg) ?_
  refine wk_end ?_
  refine ac_next ?_
  refine aw_block ?_
  refine aw_loop1 (fun (k_ : Nat) (p8 : Int) => k_ ≤ k ∧ laws_eqRuleS.l0 k_ l0 l1 p8 = some r) (fun (p8 : Int) => ⟨[(0, .sl .o 4 (l0.map e60)), (1, .sl .o 4 (l1.map e60)), (5, .lit (.int .i64 p8))], []⟩) k 0 ⟨Nat.le_refl _, H⟩ (fun K_ h_ => acw hE [] 9999 h_) (fun _ => by intro h_; have h_ := h_.2; rw [laws_eqRuleS.l0.eq_1] at h_; cases h_) ?_
  intro k9 p8 hq_ K16 hK17
  have hk9 := hq_.1
  have H := hq_.2
  clear hq_
  rw [laws_eqRuleS.l0.eq_2] at H
  refine aw_grp1 ?_
  refine aw_grp1 ?_
  refine wk_start ?_
  refine kv g0 (mv) ?_
  refine kv g0 (mv) ?_
  refine kv g0 (lnS lenE) ?_
  refine kv g0 (lss) ?_
  refine wk_end ?_
  refine ac_next ?_
  by_cases c10 : p8 < (l0.length : Int)
  ·rw [if_pos c10] at H
   refine aw_ifT ?_ (decide_eq_true c10)
   refine aw_skip ?_
   refine ac_next ?_
   refine aw_grp1 ?_
   refine aw_block ?_
   refine aw_grp1 ?_
   refine wk_start ?_
   refine kv g0 (mv) ?_
   refine kv g0 (mv) ?_
   obtain ⟨c11, H⟩ := of_if H
   refine kv g0 (ixS 60 (e60 (rd_T60 l0 p8)) c11 (getE (z := z60) c11 c10)) ?_
   refine kv g0 (ldRA 4 [.sl .o 1 (((rd_T60 l0 p8).f0).map (eI .i64)), .sl .o 6 (((rd_T60 l0 p8).f1).map e92), .lit (.int .i64 ((rd_T60 l0 p8).f2)), .lit (.int .i64 ((rd_T60 l0 p8).f3))]) ?_
   refine kv g0 (mv) ?_
   refine kv g0 (mv) ?_
   obtain ⟨c12, H⟩ := of_if H
   refine kv g0 (ixS 60 (e60 (rd_T60 l1 p8)) c11 (getE (z := z60) c11 c12)) ?_
   refine kv g0 (ldRA 4 [.sl .o 1 (((rd_T60 l1 p8).f0).map (eI .i64)), .sl .o 6 (((rd_T60 l1 p8).f1).map e92), .lit (.int .i64 ((rd_T60 l1 p8).f2)), .lit (.int .i64 ((rd_T60 l1 p8).f3))]) ?_
   obtain ⟨t13, A14, H⟩ := of_bind H
   refine kcS0 25 (.lit (.bool t13)) [] g0 (cal (laws_eqRule.ok A14) [] 9999 .n (hf := Try.func85)) rfl rfl ?_
   refine kv g0 (not_) ?_
   refine wk_end_draw hM (by kernel_rfl) ?_
   refine ac_next ?_
   by_cases c15 : t13 = true
   ·rw [if_pos c15] at H
    refine aw_ifF ?_ (nF c15)
    refine aw_skip ?_
    refine ac_blkN ?_
    refine ac_next ?_
    refine wk_start ?_
    refine kv g0 (mv) ?_
    refine kv g0 (add6) ?_
    refine kv g0 (asg) ?_
    refine wk_end ?_
    refine ac_k ?_
    exact acw hE [] 9999 (hK17 k9 (wrap64 (p8 + 1)) (Nat.le_refl _) ⟨by omega, H⟩)
   rw [if_neg c15] at H
   refine aw_ifT ?_ (nT (bF c15))
   refine aw_grp1 ?_
   refine wk_start ?_
   refine kv g0 (asg) ?_
   refine wk_end ?_
   refine ac_next ?_
   refine aw_ret ?_
   refine ac_blkR ?_
   refine ac_thenR ?_
   refine ac_thenR ?_
   refine ac_blkR ?_
   refine ac_thenR ?_
   obtain rfl := Option.some.inj H
   exact acr hE [.tmp 4] (.tmp .nil) (.one _) [] 9999
  rw [if_neg c10] at H
  refine aw_ifF ?_ (decide_eq_false c10)
  refine aw_exit ?_
  refine ac_then ?_
  refine ac_then ?_
  refine ac_hit rfl ?_
  refine ac_next ?_
  refine aw_grp1 ?_
  refine wk_start ?_
  refine kv g0 (asg) ?_
  refine wk_end ?_
  refine ac_next ?_
  refine aw_ret ?_
  obtain rfl := Option.some.inj H
  exact acr hE [.tmp 4] (.tmp .nil) (.one _) [] 9999
 rw [if_neg c1] at H
 refine aw_ifT ?_ (eN c1)
 refine aw_grp1 ?_
 refine wk_start ?_
 refine kv g0 (asg) ?_
 refine wk_end ?_
 refine ac_next ?_
 refine aw_ret ?_
 refine ac_thenR ?_
 obtain rfl := Option.some.inj H
 exact acr hE [.tmp 4] (.tmp .nil) (.one _) [] 9999
/-! laws_eqPolicy -/
def laws_eqPolicy.f (k : Nat) (a0_0 : Int) (a0_1 : Int) (a0_2 : Int) (l0_3 : List S60) (a1_0 : Int) (a1_1 : Int) (a1_2 : Int) (l1_3 : List S60) : Option (Bool) := if a0_0 = a1_0 then if a0_1 = a1_1 then if a0_2 = a1_2 then (laws_eqRuleS.f k l0_3 l1_3).bind fun t4 => if t4 = true then some true else some false else some false else some false else some false
theorem laws_eqPolicy.ok {k : Nat} {a0_0 : Int} {a0_1 : Int} {a0_2 : Int} {l0_3 : List S60} {a1_0 : Int} {a1_1 : Int} {a1_2 : Int} {l1_3 : List S60} {r : Bool} (H : laws_eqPolicy.f k a0_0 a0_1 a0_2 l0_3 a1_0 a1_1 a1_2 l1_3 = some r) : ACalls Try.prog 13 [] [.agg [.lit (.int .i64 a0_0), .lit (.int .i64 a0_1), .lit (.int .i64 a0_2), .sl .o 4 (l0_3.map e60)], .agg [.lit (.int .i64 a1_0), .lit (.int .i64 a1_1), .lit (.int .i64 a1_2), .sl .o 4 (l1_3.map e60)]] [] (.lit (.bool r)) := by
 refine acalls (fn := Try.f13) (nt := 26) Try.func13 rfl rfl (Nat.le_of_ble_eq_true rfl) fun E hE => ?_
 rw [laws_eqPolicy.f] at H
 refine aw_grp1 ?_
 refine wk_start ?_
 refine kb g0 (bxA 0) ?_
 refine kb g0 (bxA 1) ?_
 refine kv g0 (asg) ?_
 refine wk_end ?_
 refine ac_next ?_
 refine aw_grp1 ?_
 refine aw_grp1 ?_
 refine wk_start ?_
 refine kv g0 (faB 0 0) ?_
 refine kv g0 (ldB) ?_
 refine kv g0 (faB 0 0) ?_
 refine kv g0 (ldB) ?_
 refine kv g0 (neq) ?_
 refine wk_end ?_
 refine ac_next ?_
 by_cases c1 : a0_0 = a1_0
 ·rw [if_pos c1] at H
  refine aw_ifF ?_ (eM c1)
  refine aw_skip ?_
  refine ac_next ?_
  refine aw_grp1 ?_
  refine aw_grp1 ?_
  refine wk_start ?_
  refine kv g0 (faB 1 1) ?_
  refine kv g0 (ldB) ?_
  refine kv g0 (faB 1 1) ?_
  refine kv g0 (ldB) ?_
  refine kv g0 (neq) ?_
  refine wk_end ?_
  refine ac_next ?_
  by_cases c2 : a0_1 = a1_1
  ·rw [if_pos c2] at H
   refine aw_ifF ?_ (eM c2)
   refine aw_skip ?_
   refine ac_next ?_
   refine aw_grp1 ?_
   refine aw_grp1 ?_
   refine wk_start ?_
   refine kv g0 (faB 2 2) ?_
   refine kv g0 (ldB) ?_
   refine kv g0 (faB 2 2) ?_
   refine kv g0 (ldB) ?_
   refine kv g0 (neq) ?_
   refine wk_end ?_
   refine ac_next ?_
   by_cases c3 : a0_2 = a1_2
   ·rw [if_pos c3] at H
    refine aw_ifF ?_ (eM c3)
    refine aw_skip ?_
    refine ac_next ?_
    refine aw_grp1 ?_
    refine aw_grp1 ?_
    refine wk_start ?_
    refine kv g0 (faB 3 3) ?_
    refine kv g0 (ldB) ?_
    refine kv g0 (faB 3 3) ?_
    refine kv g0 (ldB) ?_
    obtain ⟨t4, A5, H⟩ := of_bind H
    refine kcS0 24 (.lit (.bool t4)) [] g0 (cal (laws_eqRuleS.ok A5) [] 9999 .n (hf := Try.func43)) rfl rfl ?_
    refine kv g0 (not_) ?_
    refine wk_end ?_
    refine ac_next ?_
    by_cases c6 : t4 = true
    ·rw [if_pos c6] at H
     refine aw_ifF ?_ (nF c6)
     refine aw_skip ?_
     refine ac_next ?_
     refine aw_grp1 ?_
     refine wk_start ?_
     refine kv g0 (asg) ?_
     refine wk_end ?_
     refine ac_next ?_
     refine aw_ret ?_
     obtain rfl := Option.some.inj H
     exact acr hE [.tmp 4] (.tmp .nil) (.one _) [] 9999
    rw [if_neg c6] at H
    refine aw_ifT ?_ (nT (bF c6))
    refine aw_grp1 ?_
    refine wk_start ?_
    refine kv g0 (asg) ?_
    refine wk_end ?_
    refine ac_next ?_
    refine aw_ret ?_
    refine ac_thenR ?_
    obtain rfl := Option.some.inj H
    exact acr hE [.tmp 4] (.tmp .nil) (.one _) [] 9999
   rw [if_neg c3] at H
   refine aw_ifT ?_ (eN c3)
   refine aw_grp1 ?_
   refine wk_start ?_
   refine kv g0 (asg) ?_
   refine wk_end ?_
   refine ac_next ?_
   refine aw_ret ?_
   refine ac_thenR ?_
   obtain rfl := Option.some.inj H
   exact acr hE [.tmp 4] (.tmp .nil) (.one _) [] 9999
  rw [if_neg c2] at H
  refine aw_ifT ?_ (eN c2)
  refine aw_grp1 ?_
  refine wk_start ?_
  refine kv g0 (asg) ?_
  refine wk_end ?_
  refine ac_next ?_
  refine aw_ret ?_
  refine ac_thenR ?_
  obtain rfl := Option.some.inj H
  exact acr hE [.tmp 4] (.tmp .nil) (.one _) [] 9999
 rw [if_neg c1] at H
 refine aw_ifT ?_ (eN c1)
 refine aw_grp1 ?_
 refine wk_start ?_
 refine kv g0 (asg) ?_
 refine wk_end ?_
 refine ac_next ?_
 refine aw_ret ?_
 refine ac_thenR ?_
 obtain rfl := Option.some.inj H
 exact acr hE [.tmp 4] (.tmp .nil) (.one _) [] 9999
/-! laws_markIntS -/
def laws_markIntS.l0 : Nat → (List Int) → Int → Int → Option (Int × (List Int))
 | 0, _, _, _ => none
 | k6 + 1, q3, p4, p5 => if p5 < (q3.length : Int) then if 0 ≤ p5 then laws_markIntS.l0 k6 (q3.set p5.toNat p4) (wrap64 (p4 + 1)) (wrap64 (p5 + 1)) else none else some (p4, q3)
def laws_markIntS.f (k : Nat) (l0 : List Int) (a1 : Int) : Option (Int × (List Int)) := laws_markIntS.l0 k l0 a1 0
theorem laws_markIntS.ok {k : Nat} {l0 : List Int} {a1 : Int} {r : Int × (List Int)} (H : laws_markIntS.f k l0 a1 = some r) : ACalls Try.prog 15 [(0, .row 3 1 (l0.map (eI .i64)))] [.row 0, .lit (.int .i64 a1)] [(0, .row 3 1 (r.2.map (eI .i64)))] (.lit (.int .i64 r.1)) := by
 refine acalls (fn := Try.f15) (nt := 19) Try.func15 rfl rfl (Nat.le_of_ble_eq_true rfl) fun E hE => ?_
 rw [laws_markIntS.f] at H
 refine aw_grp1 ?_
 refine wk_start ?_
 refine kv g0 (asg) ?_
 refine wk_end ?_
 refine ac_next ?_
 refine aw_grp1 ?_
 refine aw_grp1 ?_
 refine wk_start ?_
 refine kv g0 (asg) ?_
 refine wk_end ?_
 refine ac_next ?_
 refine aw_block ?_
 refine aw_loop3 (fun (k_ : Nat) (q3 : List Int) (p4 : Int) (p5 : Int) => k_ ≤ k ∧ laws_markIntS.l0 k_ q3 p4 p5 = some r) (fun (q3 : List Int) (p4 : Int) (p5 : Int) => ⟨[(0, .row 0), (1, .lit (.int .i64 p4)), (5, .lit (.int .i64 p5))], [(0, .row 3 1 (q3.map (eI .i64)))]⟩) k l0 a1 0 ⟨Nat.le_refl _, H⟩ (fun K_ h_ => acw hE [(0, 0)] 9999 h_) (fun _ _ _ => by intro h_; have h_ := h_.2; rw [laws_markIntS.l0.eq_1] at h_; cases h_) ?_
 intro k6 q3 p4 p5 hq_ K9 hK10
 have hk6 := hq_.1
 have H := hq_.2
 clear hq_
 rw [laws_markIntS.l0.eq_2] at H
 refine aw_grp1 ?_
 refine aw_grp1 ?_
 refine wk_start ?_
 refine kv g0 (mv) ?_
 refine kv g0 (mv) ?_
 refine kv g0 (lnR lenE) ?_
 refine kv g0 (lss) ?_
 refine wk_end ?_
 refine ac_next ?_
 by_cases c7 : p5 < (q3.length : Int)
 ·rw [if_pos c7] at H
  refine aw_ifT ?_ (decide_eq_true c7)
  refine aw_skip ?_
  refine ac_next ?_
  refine aw_grp1 ?_
  refine aw_block ?_
  refine aw_grp1 ?_
  refine wk_start ?_
  refine kv g0 (mv) ?_
  refine kv g0 (mv) ?_
  refine kv g0 (mv) ?_
  obtain ⟨c8, H⟩ := of_if H
  refine kv g0 (ixR 3 c8 (ltE c7)) ?_
  refine ks g0 (stE 1 (eI .i64 p4) ((q3.set p5.toNat p4).map (eI .i64)) (getE (z := (0 : Int)) c8 c7) setE) ?_
  refine wk_end ?_
  refine ac_next ?_
  refine wk_start ?_
  refine kv g0 (mv) ?_
  refine kv g0 (add6) ?_
  refine kv g0 (asg) ?_
  refine wk_end ?_
  refine ac_blkN ?_
  refine ac_next ?_
  refine wk_start ?_
  refine kv g0 (mv) ?_
  refine kv g0 (add6) ?_
  refine kv g0 (asg) ?_
  refine wk_end ?_
  refine ac_k ?_
  exact acw hE [(0, 0)] 9999 (hK10 k6 (q3.set p5.toNat p4) (wrap64 (p4 + 1)) (wrap64 (p5 + 1)) (Nat.le_refl _) ⟨by omega, H⟩)
 rw [if_neg c7] at H
 refine aw_ifF ?_ (decide_eq_false c7)
 refine aw_exit ?_
 refine ac_then ?_
 refine ac_then ?_
 refine ac_hit rfl ?_
 refine ac_next ?_
 refine aw_grp1 ?_
 refine wk_start ?_
 refine kv g0 (mv) ?_
 refine kv g0 (asg) ?_
 refine wk_end ?_
 refine ac_next ?_
 refine aw_ret ?_
 obtain rfl := Option.some.inj H
 exact acr hE [.tmp 4] (.tmp .nil) (.one _) [(0, 0)] 9999
/-! laws_markCondS -/
def laws_markCondS.l0 : Nat → (List S92) → Int → Int → Option (Int × (List S92))
 | 0, _, _, _ => none
 | k6 + 1, q3, p4, p5 => if p5 < (q3.length : Int) then if 0 ≤ p5 then laws_markCondS.l0 k6 (q3.set p5.toNat (⟨p4, (⟨wrap64 (p4 + 1), wrap64 ((wrap64 (p4 + 1)) + 1)⟩ : S90), wrap64 ((wrap64 ((wrap64 (p4 + 1)) + 1)) + 1), (⟨wrap64 ((wrap64 ((wrap64 ((wrap64 (p4 + 1)) + 1)) + 1)) + 1), wrap64 ((wrap64 ((wrap64 ((wrap64 ((wrap64 (p4 + 1)) + 1)) + 1)) + 1)) + 1)⟩ : S90)⟩ : S92)) (wrap64 ((wrap64 ((wrap64 ((wrap64 ((wrap64 ((wrap64 (p4 + 1)) + 1)) + 1)) + 1)) + 1)) + 1)) (wrap64 (p5 + 1)) else none else some (p4, q3)
def laws_markCondS.f (k : Nat) (l0 : List S92) (a1 : Int) : Option (Int × (List S92)) := laws_markCondS.l0 k l0 a1 0
theorem laws_markCondS.ok {k : Nat} {l0 : List S92} {a1 : Int} {r : Int × (List S92)} (H : laws_markCondS.f k l0 a1 = some r) : ACalls Try.prog 86 [(0, .row 92 6 (l0.map e92))] [.row 0, .lit (.int .i64 a1)] [(0, .row 92 6 (r.2.map e92))] (.lit (.int .i64 r.1)) := by
 refine acalls (fn := Try.f86) (nt := 59) Try.func86 rfl rfl (Nat.le_of_ble_eq_true rfl) fun E hE => ?_
 rw [laws_markCondS.f] at H
 refine aw_grp1 ?_
 refine wk_start ?_
 refine kv g0 (asg) ?_
 refine wk_end ?_
 refine ac_next ?_
 refine aw_grp1 ?_
 refine aw_grp1 ?_
 refine wk_start ?_
 refine kv g0 (asg) ?_
 refine wk_end ?_
 refine ac_next ?_
 refine aw_block ?_
 refine aw_loop3 (fun (k_ : Nat) (q3 : List S92) (p4 : Int) (p5 : Int) => k_ ≤ k ∧ laws_markCondS.l0 k_ q3 p4 p5 = some r) (fun (q3 : List S92) (p4 : Int) (p5 : Int) => ⟨[(0, .row 0), (1, .lit (.int .i64 p4)), (5, .lit (.int .i64 p5))], [(0, .row 92 6 (q3.map e92))]⟩) k l0 a1 0 ⟨Nat.le_refl _, H⟩ (fun K_ h_ => acw hE [(0, 0)] 9999 h_) (fun _ _ _ => by intro h_; have h_ := h_.2; rw [laws_markCondS.l0.eq_1] at h_; cases h_) ?_
 intro k6 q3 p4 p5 hq_ K9 hK10
 have hk6 := hq_.1
 have H := hq_.2
 clear hq_
 rw [laws_markCondS.l0.eq_2] at H
 refine aw_grp1 ?_
 refine aw_grp1 ?_
 refine wk_start ?_
 refine kv g0 (mv) ?_
 refine kv g0 (mv) ?_
 refine kv g0 (lnR lenE) ?_
 refine kv g0 (lss) ?_
 refine wk_end ?_
 refine ac_next ?_
 by_cases c7 : p5 < (q3.length : Int)
 ·rw [if_pos c7] at H
  refine aw_ifT ?_ (decide_eq_true c7)
  refine aw_skip ?_
  refine ac_next ?_
  refine aw_grp1 ?_
  refine aw_block ?_
  refine aw_grp1 ?_
  refine wk_start ?_
  refine kv g0 (mv) ?_
  refine kv g0 (mv) ?_
  refine kv g0 (mv) ?_
  obtain ⟨c8, H⟩ := of_if H
  refine kv g0 (ixR 92 c8 (ltE c7)) ?_
  refine kv g0 (faE 0 0) ?_
  refine ks g0 (stE 1 (e92 (⟨p4, (⟨(rd_T92 q3 p5).f1.f0, (rd_T92 q3 p5).f1.f1⟩ : S90), (rd_T92 q3 p5).f2, (⟨(rd_T92 q3 p5).f3.f0, (rd_T92 q3 p5).f3.f1⟩ : S90)⟩ : S92)) ((q3.set p5.toNat (⟨p4, (⟨(rd_T92 q3 p5).f1.f0, (rd_T92 q3 p5).f1.f1⟩ : S90), (rd_T92 q3 p5).f2, (⟨(rd_T92 q3 p5).f3.f0, (rd_T92 q3 p5).f3.f1⟩ : S90)⟩ : S92)).map e92) (getE (z := z92) c8 c7) setE) ?_
  refine wk_end ?_
  refine ac_next ?_
  refine aw_grp1 ?_
  refine wk_start ?_
  refine kv g0 (mv) ?_
  refine kv g0 (add6) ?_
  refine kv g0 (asg) ?_
  refine wk_end ?_
  refine ac_next ?_
  refine aw_grp1 ?_
  refine wk_start ?_
  refine kv g0 (mv) ?_
  refine kv g0 (mv) ?_
  refine kv g0 (mv) ?_
  refine kv g0 (ixR 92 c8 (ltE (ls c7))) ?_
  refine kv g0 (faE 1 1) ?_
  refine kv g0 (faE 0 1) ?_
  refine ks g0 (stE 1 (e92 (⟨p4, (⟨wrap64 (p4 + 1), (rd_T92 q3 p5).f1.f1⟩ : S90), (rd_T92 q3 p5).f2, (⟨(rd_T92 q3 p5).f3.f0, (rd_T92 q3 p5).f3.f1⟩ : S90)⟩ : S92)) ((q3.set p5.toNat (⟨p4, (⟨wrap64 (p4 + 1), (rd_T92 q3 p5).f1.f1⟩ : S90), (rd_T92 q3 p5).f2, (⟨(rd_T92 q3 p5).f3.f0, (rd_T92 q3 p5).f3.f1⟩ : S90)⟩ : S92)).map e92) (setG c8 (ls c7)) setE2) ?_
  refine wk_end ?_
  refine ac_next ?_
  refine aw_grp1 ?_
  refine wk_start ?_
  refine kv g0 (mv) ?_
  refine kv g0 (add6) ?_
  refine kv g0 (asg) ?_
  refine wk_end ?_
  refine ac_next ?_
  refine aw_grp1 ?_
  refine wk_start ?_
  refine kv g0 (mv) ?_
  refine kv g0 (mv) ?_
  refine kv g0 (mv) ?_
  refine kv g0 (ixR 92 c8 (ltE (ls c7))) ?_
  refine kv g0 (faE 1 1) ?_
  refine kv g0 (faE 1 2) ?_
  refine ks g0 (stE 1 (e92 (⟨p4, (⟨wrap64 (p4 + 1), wrap64 ((wrap64 (p4 + 1)) + 1)⟩ : S90), (rd_T92 q3 p5).f2, (⟨(rd_T92 q3 p5).f3.f0, (rd_T92 q3 p5).f3.f1⟩ : S90)⟩ : S92)) ((q3.set p5.toNat (⟨p4, (⟨wrap64 (p4 + 1), wrap64 ((wrap64 (p4 + 1)) + 1)⟩ : S90), (rd_T92 q3 p5).f2, (⟨(rd_T92 q3 p5).f3.f0, (rd_T92 q3 p5).f3.f1⟩ : S90)⟩ : S92)).map e92) (setG c8 (ls c7)) setE2) ?_
  refine wk_end ?_
  refine ac_next ?_
  refine aw_grp1 ?_
  refine wk_start ?_
  refine kv g0 (mv) ?_
  refine kv g0 (add6) ?_
  refine kv g0 (asg) ?_
  refine wk_end ?_
  refine ac_next ?_
  refine aw_grp1 ?_
  refine wk_start ?_
  refine kv g0 (mv) ?_
  refine kv g0 (mv) ?_
  refine kv g0 (mv) ?_
  refine kv g0 (ixR 92 c8 (ltE (ls c7))) ?_
  refine kv g0 (faE 3 3) ?_
  refine ks g0 (stE 1 (e92 (⟨p4, (⟨wrap64 (p4 + 1), wrap64 ((wrap64 (p4 + 1)) + 1)⟩ : S90), wrap64 ((wrap64 ((wrap64 (p4 + 1)) + 1)) + 1), (⟨(rd_T92 q3 p5).f3.f0, (rd_T92 q3 p5).f3.f1⟩ : S90)⟩ : S92)) ((q3.set p5.toNat (⟨p4, (⟨wrap64 (p4 + 1), wrap64 ((wrap64 (p4 + 1)) + 1)⟩ : S90), wrap64 ((wrap64 ((wrap64 (p4 + 1)) + 1)) + 1), (⟨(rd_T92 q3 p5).f3.f0, (rd_T92 q3 p5).f3.f1⟩ : S90)⟩ : S92)).map e92) (setG c8 (ls c7)) setE2) ?_
  refine wk_end ?_
  refine ac_next ?_
  refine aw_grp1 ?_
  refine wk_start ?_
  refine kv g0 (mv) ?_
  refine kv g0 (add6) ?_
  refine kv g0 (asg) ?_
  refine wk_end ?_
  refine ac_next ?_
  refine aw_grp1 ?_
  refine wk_start ?_
  refine kv g0 (mv) ?_
  refine kv g0 (mv) ?_
  refine kv g0 (mv) ?_
  refine kv g0 (ixR 92 c8 (ltE (ls c7))) ?_
  refine kv g0 (faE 4 4) ?_
  refine kv g0 (faE 0 4) ?_
  refine ks g0 (stE 1 (e92 (⟨p4, (⟨wrap64 (p4 + 1), wrap64 ((wrap64 (p4 + 1)) + 1)⟩ : S90), wrap64 ((wrap64 ((wrap64 (p4 + 1)) + 1)) + 1), (⟨wrap64 ((wrap64 ((wrap64 ((wrap64 (p4 + 1)) + 1)) + 1)) + 1), (rd_T92 q3 p5).f3.f1⟩ : S90)⟩ : S92)) ((q3.set p5.toNat (⟨p4, (⟨wrap64 (p4 + 1), wrap64 ((wrap64 (p4 + 1)) + 1)⟩ : S90), wrap64 ((wrap64 ((wrap64 (p4 + 1)) + 1)) + 1), (⟨wrap64 ((wrap64 ((wrap64 ((wrap64 (p4 + 1)) + 1)) + 1)) + 1), (rd_T92 q3 p5).f3.f1⟩ : S90)⟩ : S92)).map e92) (setG c8 (ls c7)) setE2) ?_
  refine wk_end ?_
  refine ac_next ?_
  refine aw_grp1 ?_
  refine wk_start ?_
  refine kv g0 (mv) ?_
  refine kv g0 (add6) ?_
  refine kv g0 (asg) ?_
  refine wk_end ?_
  refine ac_next ?_
  refine aw_grp1 ?_
  refine wk_start ?_
  refine kv g0 (mv) ?_
  refine kv g0 (mv) ?_
  refine kv g0 (mv) ?_
  refine kv g0 (ixR 92 c8 (ltE (ls c7))) ?_
  refine kv g0 (faE 4 4) ?_
  refine kv g0 (faE 1 5) ?_
  refine ks g0 (stE 1 (e92 (⟨p4, (⟨wrap64 (p4 + 1), wrap64 ((wrap64 (p4 + 1)) + 1)⟩ : S90), wrap64 ((wrap64 ((wrap64 (p4 + 1)) + 1)) + 1), (⟨wrap64 ((wrap64 ((wrap64 ((wrap64 (p4 + 1)) + 1)) + 1)) + 1), wrap64 ((wrap64 ((wrap64 ((wrap64 ((wrap64 (p4 + 1)) + 1)) + 1)) + 1)) + 1)⟩ : S90)⟩ : S92)) ((q3.set p5.toNat (⟨p4, (⟨wrap64 (p4 + 1), wrap64 ((wrap64 (p4 + 1)) + 1)⟩ : S90), wrap64 ((wrap64 ((wrap64 (p4 + 1)) + 1)) + 1), (⟨wrap64 ((wrap64 ((wrap64 ((wrap64 (p4 + 1)) + 1)) + 1)) + 1), wrap64 ((wrap64 ((wrap64 ((wrap64 ((wrap64 (p4 + 1)) + 1)) + 1)) + 1)) + 1)⟩ : S90)⟩ : S92)).map e92) (setG c8 (ls c7)) setE2) ?_
  refine wk_end ?_
  refine ac_next ?_
  refine wk_start ?_
  refine kv g0 (mv) ?_
  refine kv g0 (add6) ?_
  refine kv g0 (asg) ?_
  refine wk_end ?_
  refine ac_blkN ?_
  refine ac_next ?_
  refine wk_start ?_
  refine kv g0 (mv) ?_
  refine kv g0 (add6) ?_
  refine kv g0 (asg) ?_
  refine wk_end ?_
  refine ac_k ?_
  exact acw hE [(0, 0)] 9999 (hK10 k6 (q3.set p5.toNat (⟨p4, (⟨wrap64 (p4 + 1), wrap64 ((wrap64 (p4 + 1)) + 1)⟩ : S90), wrap64 ((wrap64 ((wrap64 (p4 + 1)) + 1)) + 1), (⟨wrap64 ((wrap64 ((wrap64 ((wrap64 (p4 + 1)) + 1)) + 1)) + 1), wrap64 ((wrap64 ((wrap64 ((wrap64 ((wrap64 (p4 + 1)) + 1)) + 1)) + 1)) + 1)⟩ : S90)⟩ : S92)) (wrap64 ((wrap64 ((wrap64 ((wrap64 ((wrap64 ((wrap64 (p4 + 1)) + 1)) + 1)) + 1)) + 1)) + 1)) (wrap64 (p5 + 1)) (Nat.le_refl _) ⟨by omega, H⟩)
 rw [if_neg c7] at H
 refine aw_ifF ?_ (decide_eq_false c7)
 refine aw_exit ?_
 refine ac_then ?_
 refine ac_then ?_
 refine ac_hit rfl ?_
 refine ac_next ?_
 refine aw_grp1 ?_
 refine wk_start ?_
 refine kv g0 (mv) ?_
 refine kv g0 (asg) ?_
 refine wk_end ?_
 refine ac_next ?_
 refine aw_ret ?_
 obtain rfl := Option.some.inj H
 exact acr hE [.tmp 4] (.tmp .nil) (.one _) [(0, 0)] 9999
/-! laws_markRuleS -/
def laws_markRuleS.l0 : Nat → (List S60) → Int → Int → Option (Int × (List S60))
 | 0, _, _, _ => none
 | k10 + 1, q7, p8, p9 => if p9 < (q7.length : Int) then if 0 ≤ p9 then ((laws_markIntS.f k10 ((rd_T60 q7 p9).f0) p8).bind fun t13 => (laws_markCondS.f k10 ((rd_T60 q7 p9).f1) t13.1).bind fun t15 => laws_markRuleS.l0 k10 (q7.set p9.toNat (⟨t13.2, t15.2, t15.1, wrap64 (t15.1 + 1)⟩ : S60)) (wrap64 ((wrap64 (t15.1 + 1)) + 1)) (wrap64 (p9 + 1))) else none else some (p8, q7)
def laws_markRuleS.f (k : Nat) (l0 : List S60) (a1 : Int) : Option (Int × (List S60)) := laws_markRuleS.l0 k l0 a1 0
theorem laws_markRuleS.ok {k : Nat} {l0 : List S60} {a1 : Int} {r : Int × (List S60)} (H : laws_markRuleS.f k l0 a1 = some r) : ACalls Try.prog 44 [(0, .drow false ds60 60 4 (l0.map e60))] [.row 0, .lit (.int .i64 a1)] [(0, .drow false ds60 60 4 (r.2.map e60))] (.lit (.int .i64 r.1)) := by
 refine acalls (fn := Try.f44) (nt := 41) Try.func44 rfl rfl (Nat.le_of_ble_eq_true rfl) fun E hE => ?_
 rw [laws_markRuleS.f] at H
 refine aw_grp1 ?_
 refine wk_start ?_
 refine kv g0 (asg) ?_
 refine wk_end ?_
 refine ac_next ?_
 refine aw_grp1 ?_
 refine aw_grp1 ?_
 refine wk_start ?_
 refine kv g0 (asg) ?_
 refine wk_end ?_
 refine ac_next ?_
 refine aw_block ?_
 refine aw_loop3 (fun (k_ : Nat) (q7 : List S60) (p8 : Int) (p9 : Int) => k_ ≤ k ∧ laws_markRuleS.l0 k_ q7 p8 p9 = some r) (fun (q7 : List S60) (p8 : Int) (p9 : Int) => ⟨[(0, .row 0), (1, .lit (.int .i64 p8)), (5, .lit (.int .i64 p9))], [(0, .drow false ds60 60 4 (q7.map e60))]⟩) k l0 a1 0 ⟨Nat.le_refl _, H⟩ (fun K_ h_ => acw hE [(0, 0)] 9999 h_) (fun _ _ _ => by intro h_; have h_ := h_.2; rw [laws_markRuleS.l0.eq_1] at h_; cases h_) ?_
 intro k10 q7 p8 p9 hq_ K17 hK18
 have hk10 := hq_.1
 have H := hq_.2
 clear hq_
 rw [laws_markRuleS.l0.eq_2] at H
 refine aw_grp1 ?_
 refine aw_grp1 ?_
 refine wk_start ?_
 refine kv g0 (mv) ?_
 refine kv g0 (mv) ?_
 refine kv g0 (lnD lenE) ?_
 refine kv g0 (lss) ?_
 refine wk_end ?_
 refine ac_next ?_
 by_cases c11 : p9 < (q7.length : Int)
 ·rw [if_pos c11] at H
  refine aw_ifT ?_ (decide_eq_true c11)
  refine aw_skip ?_
  refine ac_next ?_
  refine aw_grp1 ?_
  refine aw_block ?_
  refine aw_grp1 ?_
  refine wk_start ?_
  refine kv g0 (mv) ?_
  refine kv g0 (mv) ?_
  obtain ⟨c12, H⟩ := of_if H
  refine kv g0 (ixD 60 c12 (ltE c11)) ?_
  refine kv g0 (faE 0 0) ?_
  refine kcS2 16 (.row 1) [(0, .drow true ds60 60 4 ((q7.map e60).set p9.toNat (.agg [.row 1, .sl .n 6 (((rd_T60 q7 p9).f1).map e92), .lit (.int .i64 ((rd_T60 q7 p9).f2)), .lit (.int .i64 ((rd_T60 q7 p9).f3))]))), (1, .row 3 1 (((rd_T60 q7 p9).f0).map (eI .i64)))] g0 (okv_gh (tk 0 1 0 (.agg [.row 1, .sl .n 6 (((rd_T60 q7 p9).f1).map e92), .lit (.int .i64 ((rd_T60 q7 p9).f2)), .lit (.int .i64 ((rd_T60 q7 p9).f3))]) (getE (f := e60) (z := z60) c12 c11) (rfl) rfl) (ldD (.row 1) (setXG (f := e60) (X := .agg [.row 1, .sl .n 6 (((rd_T60 q7 p9).f1).map e92), .lit (.int .i64 ((rd_T60 q7 p9).f2)), .lit (.int .i64 ((rd_T60 q7 p9).f3))]) c12 c11) rfl)).owp rfl rfl ?_
  refine kv g0 (mv) ?_
  obtain ⟨t13, A14, H⟩ := of_bind H
  refine kcS1 18 (.lit (.int .i64 t13.1)) [(1, .row 3 1 (t13.2.map (eI .i64)))] g0 (cal (laws_markIntS.ok A14) [1] 9999 .n (hf := Try.func15)) rfl rfl ?_
  refine kv g0 (asg) ?_
  refine wk_end ?_
  refine ac_next ?_
  refine aw_grp1 ?_
  refine wk_start ?_
  refine kv g0 (mv) ?_
  refine kv g0 (mv) ?_
  refine kv g0 (ixD 60 c12 (ltS (ltE c11))) ?_
  refine kv g0 (faE 1 1) ?_
  refine kcS2 23 (.row 2) [(0, .drow true ds60 60 4 ((q7.map e60).set p9.toNat (.agg [.row 1, .row 2, .lit (.int .i64 ((rd_T60 q7 p9).f2)), .lit (.int .i64 ((rd_T60 q7 p9).f3))]))), (2, .row 92 6 (((rd_T60 q7 p9).f1).map e92))] g0 (okv_gh (tk 0 2 1 (.agg [.row 1, .row 2, .lit (.int .i64 ((rd_T60 q7 p9).f2)), .lit (.int .i64 ((rd_T60 q7 p9).f3))]) (setXG (f := e60) (X := .agg [.row 1, .sl .n 6 (((rd_T60 q7 p9).f1).map e92), .lit (.int .i64 ((rd_T60 q7 p9).f2)), .lit (.int .i64 ((rd_T60 q7 p9).f3))]) c12 c11) (setXX) rfl) (ldD (.row 2) (setXG (f := e60) (X := .agg [.row 1, .row 2, .lit (.int .i64 ((rd_T60 q7 p9).f2)), .lit (.int .i64 ((rd_T60 q7 p9).f3))]) c12 c11) rfl)).owp rfl rfl ?_
  refine kv g0 (mv) ?_
  obtain ⟨t15, A16, H⟩ := of_bind H
  refine kcS1 25 (.lit (.int .i64 t15.1)) [(2, .row 92 6 (t15.2.map e92))] g0 (cal (laws_markCondS.ok A16) [2] 9999 .n (hf := Try.func86)) rfl rfl ?_
  refine kv g0 (asg) ?_
  refine wk_end ?_
  refine ac_next ?_
  refine aw_grp1 ?_
  refine wk_start ?_
  refine kv g0 (mv) ?_
  refine kv g0 (mv) ?_
  refine kv g0 (mv) ?_
  refine kv g0 (ixD 60 c12 (ltS (ltE c11))) ?_
  refine kv g0 (faE 2 2) ?_
  refine ks g0 (stD 4 ds60 2 1 [.lit (.int .i64 t15.1)] (.agg [.row 1, .row 2, .lit (.int .i64 t15.1), .lit (.int .i64 ((rd_T60 q7 p9).f3))]) (setXG (f := e60) (X := .agg [.row 1, .row 2, .lit (.int .i64 ((rd_T60 q7 p9).f2)), .lit (.int .i64 ((rd_T60 q7 p9).f3))]) c12 c11) (setXX)) ?_
  refine wk_end ?_
  refine ac_next ?_
  refine aw_grp1 ?_
  refine wk_start ?_
  refine kv g0 (mv) ?_
  refine kv g0 (add6) ?_
  refine kv g0 (asg) ?_
  refine wk_end ?_
  refine ac_next ?_
  refine aw_grp1 ?_
  refine wk_start ?_
  refine kv g0 (mv) ?_
  refine kv g0 (mv) ?_
  refine kv g0 (mv) ?_
  refine kv g0 (ixD 60 c12 (ltS (ltE c11))) ?_
  refine kv g0 (faE 3 3) ?_
  refine ks g0 (stD 4 ds60 3 1 [.lit (.int .i64 (wrap64 (t15.1 + 1)))] (.agg [.row 1, .row 2, .lit (.int .i64 t15.1), .lit (.int .i64 (wrap64 (t15.1 + 1)))]) (setXG (f := e60) (X := .agg [.row 1, .row 2, .lit (.int .i64 t15.1), .lit (.int .i64 ((rd_T60 q7 p9).f3))]) c12 c11) (setXX)) ?_
  refine wk_end ?_
  refine ac_next ?_
  refine wk_start ?_
  refine kv g0 (mv) ?_
  refine kv g0 (add6) ?_
  refine kv g0 (asg) ?_
  refine wk_end ?_
  refine ac_blkN ?_
  refine ac_next ?_
  refine wk_start ?_
  refine kv g0 (mv) ?_
  refine kv g0 (add6) ?_
  refine kv g0 (asg) ?_
  refine wk_end ?_
  refine ac_g2 (pk 0 1 0 (.agg [.sl .n 1 (t13.2.map (eI .i64)), .row 2, .lit (.int .i64 t15.1), .lit (.int .i64 (wrap64 (t15.1 + 1)))]) (setXG (f := e60) (X := .agg [.row 1, .row 2, .lit (.int .i64 t15.1), .lit (.int .i64 (wrap64 (t15.1 + 1)))]) c12 c11) (setXX) rfl) ?_
  refine ac_g2 (pk 0 2 1 (.agg [.sl .n 1 (t13.2.map (eI .i64)), .sl .n 6 (t15.2.map e92), .lit (.int .i64 t15.1), .lit (.int .i64 (wrap64 (t15.1 + 1)))]) (setXG (f := e60) (X := .agg [.sl .n 1 (t13.2.map (eI .i64)), .row 2, .lit (.int .i64 t15.1), .lit (.int .i64 (wrap64 (t15.1 + 1)))]) c12 c11) (setXX) rfl) ?_
  refine ac_g1 (sealD 0 (setSeal (f := e60) p9.toNat (⟨t13.2, t15.2, t15.1, wrap64 (t15.1 + 1)⟩ : S60)) cl60) ?_
  refine ac_k ?_
  exact acw hE [(0, 0)] 9999 (hK18 k10 (q7.set p9.toNat (⟨t13.2, t15.2, t15.1, wrap64 (t15.1 + 1)⟩ : S60)) (wrap64 ((wrap64 (t15.1 + 1)) + 1)) (wrap64 (p9 + 1)) (Nat.le_refl _) ⟨by omega, H⟩)
 rw [if_neg c11] at H
 refine aw_ifF ?_ (decide_eq_false c11)
 refine aw_exit ?_
 refine ac_then ?_
 refine ac_then ?_
 refine ac_hit rfl ?_
 refine ac_next ?_
 refine aw_grp1 ?_
 refine wk_start ?_
 refine kv g0 (mv) ?_
 refine kv g0 (asg) ?_
 refine wk_end ?_
 refine ac_next ?_
 refine aw_ret ?_
 obtain rfl := Option.some.inj H
 exact acr hE [.tmp 4] (.tmp .nil) (.one _) [(0, 0)] 9999
/-! laws_markPolicy -/
def laws_markPolicy.f (k : Nat) (a0_0 : Int) (a0_1 : Int) (a0_2 : Int) (l0_3 : List S60) (a1 : Int) : Option (Int × (List S60)) := (laws_markRuleS.f k l0_3 a1).bind fun t1 => some (t1.1, t1.2)
theorem laws_markPolicy.ok {k : Nat} {a0_0 : Int} {a0_1 : Int} {a0_2 : Int} {l0_3 : List S60} {a1 : Int} {r : Int × (List S60)} (H : laws_markPolicy.f k a0_0 a0_1 a0_2 l0_3 a1 = some r) : ACalls Try.prog 14 [(0, .drow false ds60 60 4 (l0_3.map e60))] [.agg [.lit (.int .i64 a0_0), .lit (.int .i64 a0_1), .lit (.int .i64 a0_2), .row 0], .lit (.int .i64 a1)] [(0, .drow false ds60 60 4 (r.2.map e60))] (.lit (.int .i64 r.1)) := by
 refine acalls (fn := Try.f14) (nt := 10) Try.func14 rfl rfl (Nat.le_of_ble_eq_true rfl) fun E hE => ?_
 rw [laws_markPolicy.f] at H
 refine aw_grp1 ?_
 refine wk_start ?_
 refine kb g0 (bxA 1) ?_
 refine kv g0 (asg) ?_
 refine wk_end ?_
 refine ac_next ?_
 refine aw_grp1 ?_
 refine wk_start ?_
 refine kv g0 (faB 3 3) ?_
 refine kv g0 (ldB) ?_
 refine kv g0 (mv) ?_
 obtain ⟨t1, A2, H⟩ := of_bind H
 refine kcS1 8 (.lit (.int .i64 t1.1)) [(0, .drow false ds60 60 4 (t1.2.map e60))] g0 (cal (laws_markRuleS.ok A2) [0] 9999 .n (hf := Try.func44)) rfl rfl ?_
 refine kv g0 (asg) ?_
 refine wk_end ?_
 refine ac_next ?_
 refine aw_grp1 ?_
 refine wk_start ?_
 refine kv g0 (mv) ?_
 refine kv g0 (asg) ?_
 refine wk_end ?_
 refine ac_next ?_
 refine aw_ret ?_
 obtain rfl := Option.some.inj H
 exact acr hE [.tmp 4] (.tmp .nil) (.one _) [(0, 0)] 9999
/-! laws_heldIntS -/
def laws_heldIntS.l0 : Nat → (List Int) → Int → Int → Option (Int)
 | 0, _, _, _ => none
 | k6 + 1, l0, p4, p5 => if p5 < (l0.length : Int) then if 0 ≤ p5 then if (rd l0 p5) = p4 then laws_heldIntS.l0 k6 l0 (wrap64 (p4 + 1)) (wrap64 (p5 + 1)) else some (-1) else none else some p4
def laws_heldIntS.f (k : Nat) (l0 : List Int) (a1 : Int) : Option (Int) := laws_heldIntS.l0 k l0 a1 0
theorem laws_heldIntS.ok {k : Nat} {l0 : List Int} {a1 : Int} {r : Int} (H : laws_heldIntS.f k l0 a1 = some r) : ACalls Try.prog 16 [] [.sl .o 1 (l0.map (eI .i64)), .lit (.int .i64 a1)] [] (.lit (.int .i64 r)) := by
 refine acalls (fn := Try.f16) (nt := 21) Try.func16 rfl rfl (Nat.le_of_ble_eq_true rfl) fun E hE => ?_
 rw [laws_heldIntS.f] at H
 refine aw_grp1 ?_
 refine wk_start ?_
 refine kv g0 (asg) ?_
 refine wk_end ?_
 refine ac_next ?_
 refine aw_grp1 ?_
 refine aw_grp1 ?_
 refine wk_start ?_
 refine kv g0 (asg) ?_
 refine wk_end ?_
 refine ac_next ?_
 refine aw_block ?_
 refine aw_loop2 (fun (k_ : Nat) (p4 : Int) (p5 : Int) => k_ ≤ k ∧ laws_heldIntS.l0 k_ l0 p4 p5 = some r) (fun (p4 : Int) (p5 : Int) => ⟨[(0, .sl .o 1 (l0.map (eI .i64))), (1, .lit (.int .i64 p4)), (5, .lit (.int .i64 p5))], []⟩) k a1 0 ⟨Nat.le_refl _, H⟩ (fun K_ h_ => acw hE [] 9999 h_) (fun _ _ => by intro h_; have h_ := h_.2; rw [laws_heldIntS.l0.eq_1] at h_; cases h_) ?_
 intro k6 p4 p5 hq_ K10 hK11
 have hk6 := hq_.1
 have H := hq_.2
 clear hq_
 rw [laws_heldIntS.l0.eq_2] at H
 refine aw_grp1 ?_
 refine aw_grp1 ?_
 refine wk_start ?_
 refine kv g0 (mv) ?_
 refine kv g0 (mv) ?_
 refine kv g0 (lnS lenE) ?_
 refine kv g0 (lss) ?_
 refine wk_end ?_
 refine ac_next ?_
 by_cases c7 : p5 < (l0.length : Int)
 ·rw [if_pos c7] at H
  refine aw_ifT ?_ (decide_eq_true c7)
  refine aw_skip ?_
  refine ac_next ?_
  refine aw_grp1 ?_
  refine aw_block ?_
  refine aw_grp1 ?_
  refine aw_grp1 ?_
  refine wk_start ?_
  refine kv g0 (mv) ?_
  refine kv g0 (mv) ?_
  obtain ⟨c8, H⟩ := of_if H
  refine kv g0 (ixS 3 (eI .i64 (rd l0 p5)) c8 (getE (z := (0 : Int)) c8 c7)) ?_
  refine kv g0 (ldR (.lit (.int .i64 (rd l0 p5)))) ?_
  refine kv g0 (mv) ?_
  refine kv g0 (neq) ?_
  refine wk_end ?_
  refine ac_next ?_
  by_cases c9 : (rd l0 p5) = p4
  ·rw [if_pos c9] at H
   refine aw_ifF ?_ (eM c9)
   refine aw_skip ?_
   refine ac_next ?_
   refine wk_start ?_
   refine kv g0 (mv) ?_
   refine kv g0 (add6) ?_
   refine kv g0 (asg) ?_
   refine wk_end ?_
   refine ac_blkN ?_
   refine ac_next ?_
   refine wk_start ?_
   refine kv g0 (mv) ?_
   refine kv g0 (add6) ?_
   refine kv g0 (asg) ?_
   refine wk_end ?_
   refine ac_k ?_
   exact acw hE [] 9999 (hK11 k6 (wrap64 (p4 + 1)) (wrap64 (p5 + 1)) (Nat.le_refl _) ⟨by omega, H⟩)
  rw [if_neg c9] at H
  refine aw_ifT ?_ (eN c9)
  refine aw_grp1 ?_
  refine wk_start ?_
  refine kv g0 (asg) ?_
  refine wk_end ?_
  refine ac_next ?_
  refine aw_ret ?_
  refine ac_thenR ?_
  refine ac_blkR ?_
  refine ac_thenR ?_
  refine ac_thenR ?_
  refine ac_blkR ?_
  refine ac_thenR ?_
  obtain rfl := Option.some.inj H
  exact acr hE [.tmp 4] (.tmp .nil) (.one _) [] 9999
 rw [if_neg c7] at H
 refine aw_ifF ?_ (decide_eq_false c7)
 refine aw_exit ?_
 refine ac_then ?_
 refine ac_then ?_
 refine ac_hit rfl ?_
 refine ac_next ?_
 refine aw_grp1 ?_
 refine wk_start ?_
 refine kv g0 (mv) ?_
 refine kv g0 (asg) ?_
 refine wk_end ?_
 refine ac_next ?_
 refine aw_ret ?_
 obtain rfl := Option.some.inj H
 exact acr hE [.tmp 4] (.tmp .nil) (.one _) [] 9999
/-! laws_heldCondS -/
def laws_heldCondS.l0 : Nat → (List S92) → Int → Int → Option (Int)
 | 0, _, _, _ => none
 | k11 + 1, l0, p9, p10 => if p10 < (l0.length : Int) then if 0 ≤ p10 then if ((rd_T92 l0 p10).f0) = p9 then if ((rd_T92 l0 p10).f1.f0) = (wrap64 (p9 + 1)) then if ((rd_T92 l0 p10).f1.f1) = (wrap64 ((wrap64 (p9 + 1)) + 1)) then if ((rd_T92 l0 p10).f2) = (wrap64 ((wrap64 ((wrap64 (p9 + 1)) + 1)) + 1)) then if ((rd_T92 l0 p10).f3.f0) = (wrap64 ((wrap64 ((wrap64 ((wrap64 (p9 + 1)) + 1)) + 1)) + 1)) then if ((rd_T92 l0 p10).f3.f1) = (wrap64 ((wrap64 ((wrap64 ((wrap64 ((wrap64 (p9 + 1)) + 1)) + 1)) + 1)) + 1)) then laws_heldCondS.l0 k11 l0 (wrap64 ((wrap64 ((wrap64 ((wrap64 ((wrap64 ((wrap64 (p9 + 1)) + 1)) + 1)) + 1)) + 1)) + 1)) (wrap64 (p10 + 1)) else some (-1) else some (-1) else some (-1) else some (-1) else some (-1) else some (-1) else none else some p9
def laws_heldCondS.f (k : Nat) (l0 : List S92) (a1 : Int) : Option (Int) := laws_heldCondS.l0 k l0 a1 0
theorem laws_heldCondS.ok {k : Nat} {l0 : List S92} {a1 : Int} {r : Int} (H : laws_heldCondS.f k l0 a1 = some r) : ACalls Try.prog 89 [] [.sl .o 6 (l0.map e92), .lit (.int .i64 a1)] [] (.lit (.int .i64 r)) := by
 refine acalls (fn := Try.f89) (nt := 71) Try.func89 rfl rfl (Nat.le_of_ble_eq_true rfl) fun E hE => ?_
 rw [laws_heldCondS.f] at H
 refine aw_grp1 ?_
 refine wk_start ?_
 refine kv g0 (asg) ?_
 refine wk_end ?_
 refine ac_next ?_
 refine aw_grp1 ?_
 refine aw_grp1 ?_
 refine wk_start ?_
 refine kv g0 (asg) ?_
 refine wk_end ?_
 refine ac_next ?_
 refine aw_block ?_
 refine aw_loop2 (fun (k_ : Nat) (p9 : Int) (p10 : Int) => k_ ≤ k ∧ laws_heldCondS.l0 k_ l0 p9 p10 = some r) (fun (p9 : Int) (p10 : Int) => ⟨[(0, .sl .o 6 (l0.map e92)), (1, .lit (.int .i64 p9)), (5, .lit (.int .i64 p10))], []⟩) k a1 0 ⟨Nat.le_refl _, H⟩ (fun K_ h_ => acw hE [] 9999 h_) (fun _ _ => by intro h_; have h_ := h_.2; rw [laws_heldCondS.l0.eq_1] at h_; cases h_) ?_
 intro k11 p9 p10 hq_ K20 hK21
 have hk11 := hq_.1
 have H := hq_.2
 clear hq_
 rw [laws_heldCondS.l0.eq_2] at H
 refine aw_grp1 ?_
 refine aw_grp1 ?_
 refine wk_start ?_
 refine kv g0 (mv) ?_
 refine kv g0 (mv) ?_
 refine kv g0 (lnS lenE) ?_
 refine kv g0 (lss) ?_
 refine wk_end ?_
 refine ac_next ?_
 by_cases c12 : p10 < (l0.length : Int)
 ·rw [if_pos c12] at H
  refine aw_ifT ?_ (decide_eq_true c12)
  refine aw_skip ?_
  refine ac_next ?_
  refine aw_grp1 ?_
  refine aw_block ?_
  refine aw_grp1 ?_
  refine aw_grp1 ?_
  refine wk_start ?_
  refine kv g0 (mv) ?_
  refine kv g0 (mv) ?_
  obtain ⟨c13, H⟩ := of_if H
  refine kv g0 (ixS 92 (e92 (rd_T92 l0 p10)) c13 (getE (z := z92) c13 c12)) ?_
  refine kv g0 (faR 0 0) ?_
  refine kv g0 (ldR (.lit (.int .i64 ((rd_T92 l0 p10).f0)))) ?_
  refine kv g0 (mv) ?_
  refine kv g0 (neq) ?_
  refine wk_end ?_
  refine ac_next ?_
  by_cases c14 : ((rd_T92 l0 p10).f0) = p9
  ·rw [if_pos c14] at H
   refine aw_ifF ?_ (eM c14)
   refine aw_skip ?_
   refine ac_next ?_
   refine aw_grp1 ?_
   refine wk_start ?_
   refine kv g0 (mv) ?_
   refine kv g0 (add6) ?_
   refine kv g0 (asg) ?_
   refine wk_end ?_
   refine ac_next ?_
   refine aw_grp1 ?_
   refine aw_grp1 ?_
   refine wk_start ?_
   refine kv g0 (mv) ?_
   refine kv g0 (mv) ?_
   refine kv g0 (ixS 92 (e92 (rd_T92 l0 p10)) c13 (getE (z := z92) c13 c12)) ?_
   refine kv g0 (faR 1 1) ?_
   refine kv g0 (faR 0 1) ?_
   refine kv g0 (ldR (.lit (.int .i64 ((rd_T92 l0 p10).f1.f0)))) ?_
   refine kv g0 (mv) ?_
   refine kv g0 (neq) ?_
   refine wk_end ?_
   refine ac_next ?_
   by_cases c15 : ((rd_T92 l0 p10).f1.f0) = (wrap64 (p9 + 1))
   ·rw [if_pos c15] at H
    refine aw_ifF ?_ (eM c15)
    refine aw_skip ?_
    refine ac_next ?_
    refine aw_grp1 ?_
    refine wk_start ?_
    refine kv g0 (mv) ?_
    refine kv g0 (add6) ?_
    refine kv g0 (asg) ?_
    refine wk_end ?_
    refine ac_next ?_
    refine aw_grp1 ?_
    refine aw_grp1 ?_
    refine wk_start ?_
    refine kv g0 (mv) ?_
    refine kv g0 (mv) ?_
    refine kv g0 (ixS 92 (e92 (rd_T92 l0 p10)) c13 (getE (z := z92) c13 c12)) ?_
    refine kv g0 (faR 1 1) ?_
    refine kv g0 (faR 1 2) ?_
    refine kv g0 (ldR (.lit (.int .i64 ((rd_T92 l0 p10).f1.f1)))) ?_
    refine kv g0 (mv) ?_
    refine kv g0 (neq) ?_
    refine wk_end ?_
    refine ac_next ?_
    by_cases c16 : ((rd_T92 l0 p10).f1.f1) = (wrap64 ((wrap64 (p9 + 1)) + 1))
    ·rw [if_pos c16] at H
     refine aw_ifF ?_ (eM c16)
     refine aw_skip ?_
     refine ac_next ?_
     refine aw_grp1 ?_
     refine wk_start ?_
     refine kv g0 (mv) ?_
     refine kv g0 (add6) ?_
     refine kv g0 (asg) ?_
     refine wk_end ?_
     refine ac_next ?_
     refine aw_grp1 ?_
     refine aw_grp1 ?_
     refine wk_start ?_
     refine kv g0 (mv) ?_
     refine kv g0 (mv) ?_
     refine kv g0 (ixS 92 (e92 (rd_T92 l0 p10)) c13 (getE (z := z92) c13 c12)) ?_
     refine kv g0 (faR 3 3) ?_
     refine kv g0 (ldR (.lit (.int .i64 ((rd_T92 l0 p10).f2)))) ?_
     refine kv g0 (mv) ?_
     refine kv g0 (neq) ?_
     refine wk_end ?_
     refine ac_next ?_
     by_cases c17 : ((rd_T92 l0 p10).f2) = (wrap64 ((wrap64 ((wrap64 (p9 + 1)) + 1)) + 1))
     ·rw [if_pos c17] at H
      refine aw_ifF ?_ (eM c17)
      refine aw_skip ?_
      refine ac_next ?_
      refine aw_grp1 ?_
      refine wk_start ?_
      refine kv g0 (mv) ?_
      refine kv g0 (add6) ?_
      refine kv g0 (asg) ?_
      refine wk_end ?_
      refine ac_next ?_
      refine aw_grp1 ?_
      refine aw_grp1 ?_
      refine wk_start ?_
      refine kv g0 (mv) ?_
      refine kv g0 (mv) ?_
      refine kv g0 (ixS 92 (e92 (rd_T92 l0 p10)) c13 (getE (z := z92) c13 c12)) ?_
      refine kv g0 (faR 4 4) ?_
      refine kv g0 (faR 0 4) ?_
      refine kv g0 (ldR (.lit (.int .i64 ((rd_T92 l0 p10).f3.f0)))) ?_
      refine kv g0 (mv) ?_
      refine kv g0 (neq) ?_
      refine wk_end ?_
      refine ac_next ?_
      by_cases c18 : ((rd_T92 l0 p10).f3.f0) = (wrap64 ((wrap64 ((wrap64 ((wrap64 (p9 + 1)) + 1)) + 1)) + 1))
      ·rw [if_pos c18] at H
       refine aw_ifF ?_ (eM c18)
       refine aw_skip ?_
       refine ac_next ?_
       refine aw_grp1 ?_
       refine wk_start ?_
       refine kv g0 (mv) ?_
       refine kv g0 (add6) ?_
       refine kv g0 (asg) ?_
       refine wk_end ?_
       refine ac_next ?_
       refine aw_grp1 ?_
       refine aw_grp1 ?_
       refine wk_start ?_
       refine kv g0 (mv) ?_
       refine kv g0 (mv) ?_
       refine kv g0 (ixS 92 (e92 (rd_T92 l0 p10)) c13 (getE (z := z92) c13 c12)) ?_
       refine kv g0 (faR 4 4) ?_
       refine kv g0 (faR 1 5) ?_
       refine kv g0 (ldR (.lit (.int .i64 ((rd_T92 l0 p10).f3.f1)))) ?_
       refine kv g0 (mv) ?_
       refine kv g0 (neq) ?_
       refine wk_end ?_
       refine ac_next ?_
       by_cases c19 : ((rd_T92 l0 p10).f3.f1) = (wrap64 ((wrap64 ((wrap64 ((wrap64 ((wrap64 (p9 + 1)) + 1)) + 1)) + 1)) + 1))
       ·rw [if_pos c19] at H
        refine aw_ifF ?_ (eM c19)
        refine aw_skip ?_
        refine ac_next ?_
        refine wk_start ?_
        refine kv g0 (mv) ?_
        refine kv g0 (add6) ?_
        refine kv g0 (asg) ?_
        refine wk_end ?_
        refine ac_blkN ?_
        refine ac_next ?_
        refine wk_start ?_
        refine kv g0 (mv) ?_
        refine kv g0 (add6) ?_
        refine kv g0 (asg) ?_
        refine wk_end ?_
        refine ac_k ?_
        exact acw hE [] 9999 (hK21 k11 (wrap64 ((wrap64 ((wrap64 ((wrap64 ((wrap64 ((wrap64 (p9 + 1)) + 1)) + 1)) + 1)) + 1)) + 1)) (wrap64 (p10 + 1)) (Nat.le_refl _) ⟨by omega, H⟩)
       rw [if_neg c19] at H
       refine aw_ifT ?_ (eN c19)
       refine aw_grp1 ?_
       refine wk_start ?_
       refine kv g0 (asg) ?_
       refine wk_end ?_
       refine ac_next ?_
       refine aw_ret ?_
       refine ac_thenR ?_
       refine ac_blkR ?_
       refine ac_thenR ?_
       refine ac_thenR ?_
       refine ac_blkR ?_
       refine ac_thenR ?_
       obtain rfl := Option.some.inj H
       exact acr hE [.tmp 4] (.tmp .nil) (.one _) [] 9999
      rw [if_neg c18] at H
      refine aw_ifT ?_ (eN c18)
      refine aw_grp1 ?_
      refine wk_start ?_
      refine kv g0 (asg) ?_
      refine wk_end ?_
      refine ac_next ?_
      refine aw_ret ?_
      refine ac_thenR ?_
      refine ac_blkR ?_
      refine ac_thenR ?_
      refine ac_thenR ?_
      refine ac_blkR ?_
      refine ac_thenR ?_
      obtain rfl := Option.some.inj H
      exact acr hE [.tmp 4] (.tmp .nil) (.one _) [] 9999
     rw [if_neg c17] at H
     refine aw_ifT ?_ (eN c17)
     refine aw_grp1 ?_
     refine wk_start ?_
     refine kv g0 (asg) ?_
     refine wk_end ?_
     refine ac_next ?_
     refine aw_ret ?_
     refine ac_thenR ?_
     refine ac_blkR ?_
     refine ac_thenR ?_
     refine ac_thenR ?_
     refine ac_blkR ?_
     refine ac_thenR ?_
     obtain rfl := Option.some.inj H
     exact acr hE [.tmp 4] (.tmp .nil) (.one _) [] 9999
    rw [if_neg c16] at H
    refine aw_ifT ?_ (eN c16)
    refine aw_grp1 ?_
    refine wk_start ?_
    refine kv g0 (asg) ?_
    refine wk_end ?_
    refine ac_next ?_
    refine aw_ret ?_
    refine ac_thenR ?_
    refine ac_blkR ?_
    refine ac_thenR ?_
    refine ac_thenR ?_
    refine ac_blkR ?_
    refine ac_thenR ?_
    obtain rfl := Option.some.inj H
    exact acr hE [.tmp 4] (.tmp .nil) (.one _) [] 9999
   rw [if_neg c15] at H
   refine aw_ifT ?_ (eN c15)
   refine aw_grp1 ?_
   refine wk_start ?_
   refine kv g0 (asg) ?_
   refine wk_end ?_
   refine ac_next ?_
   refine aw_ret ?_
   refine ac_thenR ?_
   refine ac_blkR ?_
   refine ac_thenR ?_
   refine ac_thenR ?_
   refine ac_blkR ?_
   refine ac_thenR ?_
   obtain rfl := Option.some.inj H
   exact acr hE [.tmp 4] (.tmp .nil) (.one _) [] 9999
  rw [if_neg c14] at H
  refine aw_ifT ?_ (eN c14)
  refine aw_grp1 ?_
  refine wk_start ?_
  refine kv g0 (asg) ?_
  refine wk_end ?_
  refine ac_next ?_
  refine aw_ret ?_
  refine ac_thenR ?_
  refine ac_blkR ?_
  refine ac_thenR ?_
  refine ac_thenR ?_
  refine ac_blkR ?_
  refine ac_thenR ?_
  obtain rfl := Option.some.inj H
  exact acr hE [.tmp 4] (.tmp .nil) (.one _) [] 9999
 rw [if_neg c12] at H
 refine aw_ifF ?_ (decide_eq_false c12)
 refine aw_exit ?_
 refine ac_then ?_
 refine ac_then ?_
 refine ac_hit rfl ?_
 refine ac_next ?_
 refine aw_grp1 ?_
 refine wk_start ?_
 refine kv g0 (mv) ?_
 refine kv g0 (asg) ?_
 refine wk_end ?_
 refine ac_next ?_
 refine aw_ret ?_
 obtain rfl := Option.some.inj H
 exact acr hE [.tmp 4] (.tmp .nil) (.one _) [] 9999
/-! laws_heldRuleS -/
def laws_heldRuleS.l0 : Nat → (List S60) → Int → Int → Option (Int)
 | 0, _, _, _ => none
 | k13 + 1, l0, p11, p12 => if p12 < (l0.length : Int) then if 0 ≤ p12 then ((laws_heldIntS.f k13 ((rd_T60 l0 p12).f0) p11).bind fun t16 => if t16 < 0 then some (-1) else (laws_heldCondS.f k13 ((rd_T60 l0 p12).f1) t16).bind fun t19 => if t19 < 0 then some (-1) else if ((rd_T60 l0 p12).f2) = t19 then if ((rd_T60 l0 p12).f3) = (wrap64 (t19 + 1)) then laws_heldRuleS.l0 k13 l0 (wrap64 ((wrap64 (t19 + 1)) + 1)) (wrap64 (p12 + 1)) else some (-1) else some (-1)) else none else some p11
def laws_heldRuleS.f (k : Nat) (l0 : List S60) (a1 : Int) : Option (Int) := laws_heldRuleS.l0 k l0 a1 0
theorem laws_heldRuleS.ok {k : Nat} {l0 : List S60} {a1 : Int} {r : Int} (H : laws_heldRuleS.f k l0 a1 = some r) : ACalls Try.prog 51 [] [.sl .o 4 (l0.map e60), .lit (.int .i64 a1)] [] (.lit (.int .i64 r)) := by
 refine acalls (fn := Try.f51) (nt := 49) Try.func51 rfl rfl (Nat.le_of_ble_eq_true rfl) fun E hE => ?_
 rw [laws_heldRuleS.f] at H
 refine aw_grp1 ?_
 refine wk_start ?_
 refine kv g0 (asg) ?_
 refine wk_end ?_
 refine ac_next ?_
 refine aw_grp1 ?_
 refine aw_grp1 ?_
 refine wk_start ?_
 refine kv g0 (asg) ?_
 refine wk_end ?_
 refine ac_next ?_
 refine aw_block ?_
 refine aw_loop2 (fun (k_ : Nat) (p11 : Int) (p12 : Int) => k_ ≤ k ∧ laws_heldRuleS.l0 k_ l0 p11 p12 = some r) (fun (p11 : Int) (p12 : Int) => ⟨[(0, .sl .o 4 (l0.map e60)), (1, .lit (.int .i64 p11)), (5, .lit (.int .i64 p12))], []⟩) k a1 0 ⟨Nat.le_refl _, H⟩ (fun K_ h_ => acw hE [] 9999 h_) (fun _ _ => by intro h_; have h_ := h_.2; rw [laws_heldRuleS.l0.eq_1] at h_; cases h_) ?_
 intro k13 p11 p12 hq_ K24 hK25
 have hk13 := hq_.1
 have H := hq_.2
 clear hq_
 rw [laws_heldRuleS.l0.eq_2] at H
 refine aw_grp1 ?_
 refine aw_grp1 ?_
 refine wk_start ?_
 refine kv g0 (mv) ?_
 refine kv g0 (mv) ?_
 refine kv g0 (lnS lenE) ?_
 refine kv g0 (lss) ?_
 refine wk_end ?_
 refine ac_next ?_
 by_cases c14 : p12 < (l0.length : Int)
 ·rw [if_pos c14] at H
  refine aw_ifT ?_ (decide_eq_true c14)
  refine aw_skip ?_
  refine ac_next ?_
  refine aw_grp1 ?_
  refine aw_block ?_
  refine aw_grp1 ?_
  refine wk_start ?_
  refine kv g0 (mv) ?_
  refine kv g0 (mv) ?_
  obtain ⟨c15, H⟩ := of_if H
  refine kv g0 (ixS 60 (e60 (rd_T60 l0 p12)) c15 (getE (z := z60) c15 c14)) ?_
  refine kv g0 (faR 0 0) ?_
  refine kv g0 (ldR (.sl .o 1 (((rd_T60 l0 p12).f0).map (eI .i64)))) ?_
  refine kv g0 (mv) ?_
  obtain ⟨t16, A17, H⟩ := of_bind H
  refine kcS0 18 (.lit (.int .i64 t16)) [] g0 (cal (laws_heldIntS.ok A17) [] 9999 .n (hf := Try.func16)) rfl rfl ?_
  refine kv g0 (asg) ?_
  refine wk_end ?_
  refine ac_next ?_
  refine aw_grp1 ?_
  refine aw_grp1 ?_
  refine wk_start ?_
  refine kv g0 (mv) ?_
  refine kv g0 (lss) ?_
  refine wk_end ?_
  refine ac_next ?_
  by_cases c18 : t16 < 0
  ·rw [if_pos c18] at H
   refine aw_ifT ?_ (decide_eq_true c18)
   refine aw_grp1 ?_
   refine wk_start ?_
   refine kv g0 (asg) ?_
   refine wk_end ?_
   refine ac_next ?_
   refine aw_ret ?_
   refine ac_thenR ?_
   refine ac_blkR ?_
   refine ac_thenR ?_
   refine ac_thenR ?_
   refine ac_blkR ?_
   refine ac_thenR ?_
   obtain rfl := Option.some.inj H
   exact acr hE [.tmp 4] (.tmp .nil) (.one _) [] 9999
  rw [if_neg c18] at H
  refine aw_ifF ?_ (decide_eq_false c18)
  refine aw_skip ?_
  refine ac_next ?_
  refine aw_grp1 ?_
  refine wk_start ?_
  refine kv g0 (mv) ?_
  refine kv g0 (mv) ?_
  refine kv g0 (ixS 60 (e60 (rd_T60 l0 p12)) c15 (getE (z := z60) c15 c14)) ?_
  refine kv g0 (faR 1 1) ?_
  refine kv g0 (ldR (.sl .o 6 (((rd_T60 l0 p12).f1).map e92))) ?_
  refine kv g0 (mv) ?_
  obtain ⟨t19, A20, H⟩ := of_bind H
  refine kcS0 27 (.lit (.int .i64 t19)) [] g0 (cal (laws_heldCondS.ok A20) [] 9999 .n (hf := Try.func89)) rfl rfl ?_
  refine kv g0 (asg) ?_
  refine wk_end ?_
  refine ac_next ?_
  refine aw_grp1 ?_
  refine aw_grp1 ?_
  refine wk_start ?_
  refine kv g0 (mv) ?_
  refine kv g0 (lss) ?_
  refine wk_end ?_
  refine ac_next ?_
  by_cases c21 : t19 < 0
  ·rw [if_pos c21] at H
   refine aw_ifT ?_ (decide_eq_true c21)
   refine aw_grp1 ?_
   refine wk_start ?_
   refine kv g0 (asg) ?_
   refine wk_end ?_
   refine ac_next ?_
   refine aw_ret ?_
   refine ac_thenR ?_
   refine ac_blkR ?_
   refine ac_thenR ?_
   refine ac_thenR ?_
   refine ac_blkR ?_
   refine ac_thenR ?_
   obtain rfl := Option.some.inj H
   exact acr hE [.tmp 4] (.tmp .nil) (.one _) [] 9999
  rw [if_neg c21] at H
  refine aw_ifF ?_ (decide_eq_false c21)
  refine aw_skip ?_
  refine ac_next ?_
  refine aw_grp1 ?_
  refine aw_grp1 ?_
  refine wk_start ?_
  refine kv g0 (mv) ?_
  refine kv g0 (mv) ?_
  refine kv g0 (ixS 60 (e60 (rd_T60 l0 p12)) c15 (getE (z := z60) c15 c14)) ?_
  refine kv g0 (faR 2 2) ?_
  refine kv g0 (ldR (.lit (.int .i64 ((rd_T60 l0 p12).f2)))) ?_
  refine kv g0 (mv) ?_
  refine kv g0 (neq) ?_
  refine wk_end ?_
  refine ac_next ?_
  by_cases c22 : ((rd_T60 l0 p12).f2) = t19
  ·rw [if_pos c22] at H
   refine aw_ifF ?_ (eM c22)
   refine aw_skip ?_
   refine ac_next ?_
   refine aw_grp1 ?_
   refine wk_start ?_
   refine kv g0 (mv) ?_
   refine kv g0 (add6) ?_
   refine kv g0 (asg) ?_
   refine wk_end ?_
   refine ac_next ?_
   refine aw_grp1 ?_
   refine aw_grp1 ?_
   refine wk_start ?_
   refine kv g0 (mv) ?_
   refine kv g0 (mv) ?_
   refine kv g0 (ixS 60 (e60 (rd_T60 l0 p12)) c15 (getE (z := z60) c15 c14)) ?_
   refine kv g0 (faR 3 3) ?_
   refine kv g0 (ldR (.lit (.int .i64 ((rd_T60 l0 p12).f3)))) ?_
   refine kv g0 (mv) ?_
   refine kv g0 (neq) ?_
   refine wk_end ?_
   refine ac_next ?_
   by_cases c23 : ((rd_T60 l0 p12).f3) = (wrap64 (t19 + 1))
   ·rw [if_pos c23] at H
    refine aw_ifF ?_ (eM c23)
    refine aw_skip ?_
    refine ac_next ?_
    refine wk_start ?_
    refine kv g0 (mv) ?_
    refine kv g0 (add6) ?_
    refine kv g0 (asg) ?_
    refine wk_end ?_
    refine ac_blkN ?_
    refine ac_next ?_
    refine wk_start ?_
    refine kv g0 (mv) ?_
    refine kv g0 (add6) ?_
    refine kv g0 (asg) ?_
    refine wk_end ?_
    refine ac_k ?_
    exact acw hE [] 9999 (hK25 k13 (wrap64 ((wrap64 (t19 + 1)) + 1)) (wrap64 (p12 + 1)) (Nat.le_refl _) ⟨by omega, H⟩)
   rw [if_neg c23] at H
   refine aw_ifT ?_ (eN c23)
   refine aw_grp1 ?_
   refine wk_start ?_
   refine kv g0 (asg) ?_
   refine wk_end ?_
   refine ac_next ?_
   refine aw_ret ?_
   refine ac_thenR ?_
   refine ac_blkR ?_
   refine ac_thenR ?_
   refine ac_thenR ?_
   refine ac_blkR ?_
   refine ac_thenR ?_
   obtain rfl := Option.some.inj H
   exact acr hE [.tmp 4] (.tmp .nil) (.one _) [] 9999
  rw [if_neg c22] at H
  refine aw_ifT ?_ (eN c22)
  refine aw_grp1 ?_
  refine wk_start ?_
  refine kv g0 (asg) ?_
  refine wk_end ?_
  refine ac_next ?_
  refine aw_ret ?_
  refine ac_thenR ?_
  refine ac_blkR ?_
  refine ac_thenR ?_
  refine ac_thenR ?_
  refine ac_blkR ?_
  refine ac_thenR ?_
  obtain rfl := Option.some.inj H
  exact acr hE [.tmp 4] (.tmp .nil) (.one _) [] 9999
 rw [if_neg c14] at H
 refine aw_ifF ?_ (decide_eq_false c14)
 refine aw_exit ?_
 refine ac_then ?_
 refine ac_then ?_
 refine ac_hit rfl ?_
 refine ac_next ?_
 refine aw_grp1 ?_
 refine wk_start ?_
 refine kv g0 (mv) ?_
 refine kv g0 (asg) ?_
 refine wk_end ?_
 refine ac_next ?_
 refine aw_ret ?_
 obtain rfl := Option.some.inj H
 exact acr hE [.tmp 4] (.tmp .nil) (.one _) [] 9999
/-! laws_heldPolicy -/
def laws_heldPolicy.f (k : Nat) (a0_0 : Int) (a0_1 : Int) (a0_2 : Int) (l0_3 : List S60) (a1 : Int) : Option (Int) := (laws_heldRuleS.f k l0_3 a1).bind fun t1 => if t1 < 0 then some (-1) else some t1
theorem laws_heldPolicy.ok {k : Nat} {a0_0 : Int} {a0_1 : Int} {a0_2 : Int} {l0_3 : List S60} {a1 : Int} {r : Int} (H : laws_heldPolicy.f k a0_0 a0_1 a0_2 l0_3 a1 = some r) : ACalls Try.prog 19 [] [.agg [.lit (.int .i64 a0_0), .lit (.int .i64 a0_1), .lit (.int .i64 a0_2), .sl .o 4 (l0_3.map e60)], .lit (.int .i64 a1)] [] (.lit (.int .i64 r)) := by
 refine acalls (fn := Try.f19) (nt := 12) Try.func19 rfl rfl (Nat.le_of_ble_eq_true rfl) fun E hE => ?_
 rw [laws_heldPolicy.f] at H
 refine aw_grp1 ?_
 refine wk_start ?_
 refine kb g0 (bxA 0) ?_
 refine kv g0 (asg) ?_
 refine wk_end ?_
 refine ac_next ?_
 refine aw_grp1 ?_
 refine wk_start ?_
 refine kv g0 (faB 3 3) ?_
 refine kv g0 (ldB) ?_
 refine kv g0 (mv) ?_
 obtain ⟨t1, A2, H⟩ := of_bind H
 refine kcS0 8 (.lit (.int .i64 t1)) [] g0 (cal (laws_heldRuleS.ok A2) [] 9999 .n (hf := Try.func51)) rfl rfl ?_
 refine kv g0 (asg) ?_
 refine wk_end ?_
 refine ac_next ?_
 refine aw_grp1 ?_
 refine aw_grp1 ?_
 refine wk_start ?_
 refine kv g0 (mv) ?_
 refine kv g0 (lss) ?_
 refine wk_end ?_
 refine ac_next ?_
 by_cases c3 : t1 < 0
 ·rw [if_pos c3] at H
  refine aw_ifT ?_ (decide_eq_true c3)
  refine aw_grp1 ?_
  refine wk_start ?_
  refine kv g0 (asg) ?_
  refine wk_end ?_
  refine ac_next ?_
  refine aw_ret ?_
  refine ac_thenR ?_
  obtain rfl := Option.some.inj H
  exact acr hE [.tmp 4] (.tmp .nil) (.one _) [] 9999
 rw [if_neg c3] at H
 refine aw_ifF ?_ (decide_eq_false c3)
 refine aw_skip ?_
 refine ac_next ?_
 refine aw_grp1 ?_
 refine wk_start ?_
 refine kv g0 (mv) ?_
 refine kv g0 (asg) ?_
 refine wk_end ?_
 refine ac_next ?_
 refine aw_ret ?_
 obtain rfl := Option.some.inj H
 exact acr hE [.tmp 4] (.tmp .nil) (.one _) [] 9999
/-! laws_FnExactOnlyFor -/
def laws_FnExactOnlyFor.f (k : Nat) (a0_0 : Int) (a0_1 : Int) (a0_2 : Int) (l0_3 : List S86) (a1 : Int) : Option (Bool) := (laws_szPolicy.f k a0_0 a0_1 a0_2 l0_3 1048576).bind fun t1 => if t1 < 0 then some true else (laws_toPolicy.f k a0_0 a0_1 a0_2 l0_3).bind fun t4 => ((spec_OnlyFor.f k t4.1 t4.2.1 t4.2.2.1 t4.2.2.2 a1).bind fun t6 => (laws_toPolicy.f k a0_0 a0_1 a0_2 l0_3).bind fun t8 => (impl_OnlyFor.f k t8.1 t8.2.1 t8.2.2.1 t8.2.2.2 a1).bind fun t10 => (laws_eqPolicy.f k t10.1 t10.2.1 t10.2.2.1 t10.2.2.2 t6.1 t6.2.1 t6.2.2.1 t6.2.2.2).bind fun t12 => if t12 = true then (laws_toPolicy.f k a0_0 a0_1 a0_2 l0_3).bind fun t15 => ((laws_eqPolicy.f k t8.1 t8.2.1 t8.2.2.1 t8.2.2.2 t15.1 t15.2.1 t15.2.2.1 t15.2.2.2).bind fun t17 => if t17 = true then (laws_markPolicy.f k t8.1 t8.2.1 t8.2.2.1 t8.2.2.2 1).bind fun t20 => if t20.1 < 0 then some false else ((laws_eqPolicy.f k t10.1 t10.2.1 t10.2.2.1 t10.2.2.2 t6.1 t6.2.1 t6.2.2.1 t6.2.2.2).bind fun t23 => if t23 = true then (laws_markPolicy.f k t10.1 t10.2.1 t10.2.2.1 t10.2.2.2 1).bind fun t26 => (laws_heldPolicy.f k t10.1 t10.2.1 t10.2.2.1 t26.2 1).bind fun t28 => if t28 < 0 then some false else if t28 = t26.1 then (laws_toPolicy.f k a0_0 a0_1 a0_2 l0_3).bind fun t32 => ((impl_OnlyFor.f k t32.1 t32.2.1 t32.2.2.1 t32.2.2.2 a1).bind fun t34 => (laws_eqPolicy.f k t34.1 t34.2.1 t34.2.2.1 t34.2.2.2 t6.1 t6.2.1 t6.2.2.1 t6.2.2.2).bind fun t36 => if t36 = true then (laws_heldPolicy.f k t10.1 t10.2.1 t10.2.2.1 t26.2 1).bind fun t39 => if t39 < 0 then some false else if t39 = t26.1 then some true else some false else some false) else some false else some false) else some false) else some false)
theorem laws_FnExactOnlyFor.ok {k : Nat} {a0_0 : Int} {a0_1 : Int} {a0_2 : Int} {l0_3 : List S86} {a1 : Int} {r : Bool} (H : laws_FnExactOnlyFor.f k a0_0 a0_1 a0_2 l0_3 a1 = some r) : ACalls Try.prog 4 [] [.agg [.lit (.int .i64 a0_0), .lit (.int .i64 a0_1), .lit (.int .i64 a0_2), .sl .o 4 (l0_3.map e86)], .lit (.int .i64 a1)] [] (.lit (.bool r)) := by
 refine acalls (fn := Try.f4) (nt := 74) Try.func4 rfl rfl (Nat.le_of_ble_eq_true rfl) fun E hE => ?_
 rw [laws_FnExactOnlyFor.f] at H
 refine aw_grp1 ?_
 refine wk_start ?_
 refine kb g0 (bxA 0) ?_
 refine kv g0 (asg) ?_
 refine wk_end ?_
 refine ac_next ?_
 refine aw_grp1 ?_
 refine wk_start ?_
 refine kv g0 (asg) ?_
 refine wk_end ?_
 refine ac_next ?_
 refine aw_grp1 ?_
 refine wk_start ?_
 refine kv g0 (ldBA 4 [.lit (.int .i64 a0_0), .lit (.int .i64 a0_1), .lit (.int .i64 a0_2), .sl .o 4 (l0_3.map e86)]) ?_
 refine kv g0 (mv) ?_
 obtain ⟨t1, A2, H⟩ := of_bind H
 refine kcS0 15 (.lit (.int .i64 t1)) [] g0 (cal (laws_szPolicy.ok A2) [] 9999 .n (hf := Try.func8)) rfl rfl ?_
 refine kv g0 (asg) ?_
 refine wk_end ?_
 refine ac_next ?_
 refine aw_grp1 ?_
 refine aw_grp1 ?_
 refine wk_start ?_
 refine kv g0 (mv) ?_
 refine kv g0 (lss) ?_
 refine wk_end ?_
 refine ac_next ?_
 by_cases c3 : t1 < 0
 ·rw [if_pos c3] at H
  refine aw_ifT ?_ (decide_eq_true c3)
  refine aw_grp1 ?_
  refine wk_start ?_
  refine kv g0 (asg) ?_
  refine wk_end ?_
  refine ac_next ?_
  refine aw_ret ?_
  refine ac_thenR ?_
  obtain rfl := Option.some.inj H
  exact acr hE [.tmp 4] (.tmp .nil) (.one _) [] 9999
 rw [if_neg c3] at H
 refine aw_ifF ?_ (decide_eq_false c3)
 refine aw_skip ?_
 refine ac_next ?_
 refine aw_grp1 ?_
 refine wk_start ?_
 refine kv g0 (ldBA 4 [.lit (.int .i64 a0_0), .lit (.int .i64 a0_1), .lit (.int .i64 a0_2), .sl .o 4 (l0_3.map e86)]) ?_
 obtain ⟨t4, A5, H⟩ := of_bind H
 refine kcS1 19 (.agg [.lit (.int .i64 t4.1), .lit (.int .i64 t4.2.1), .lit (.int .i64 t4.2.2.1), .row 1]) [(1, .drow false ds60 60 4 (t4.2.2.2.map e60))] g0 (cal (laws_toPolicy.ok A5) [1] 9999 .n (hf := Try.func10)) rfl rfl ?_
 refine kv g0 (mv) ?_
 obtain ⟨t6, A7, H⟩ := of_bind H
 refine kcS1 21 (.agg [.lit (.int .i64 t6.1), .lit (.int .i64 t6.2.1), .lit (.int .i64 t6.2.2.1), .row 2]) [(2, .row 60 4 (t6.2.2.2.map e60))] g0 (cal (spec_OnlyFor.ok A7) [2] 9999 .n (hf := Try.func17)) rfl rfl ?_
 refine kb g0 (alc 3 [.int .i64 0, .int .i64 0, .int .i64 0, .slice none 0 0] [.lit (.int .i64 0), .lit (.int .i64 0), .lit (.int .i64 0), .lit (.slice none 0 0)]) ?_
 refine ks g0 (stB 4 [.lit (.int .i64 t6.1), .lit (.int .i64 t6.2.1), .lit (.int .i64 t6.2.2.1), .row 2]) ?_
 refine wk_end ?_
 refine ac_next ?_
 refine aw_grp1 ?_
 refine wk_start ?_
 refine kv g0 (ldBA 4 [.lit (.int .i64 a0_0), .lit (.int .i64 a0_1), .lit (.int .i64 a0_2), .sl .o 4 (l0_3.map e86)]) ?_
 obtain ⟨t8, A9, H⟩ := of_bind H
 refine kcS1 23 (.agg [.lit (.int .i64 t8.1), .lit (.int .i64 t8.2.1), .lit (.int .i64 t8.2.2.1), .row 4]) [(4, .drow false ds60 60 4 (t8.2.2.2.map e60))] g0 (cal (laws_toPolicy.ok A9) [4] 9999 .n (hf := Try.func10)) rfl rfl ?_
 refine kb g0 (alc 5 [.int .i64 0, .int .i64 0, .int .i64 0, .slice none 0 0] [.lit (.int .i64 0), .lit (.int .i64 0), .lit (.int .i64 0), .lit (.slice none 0 0)]) ?_
 refine ks g0 (stB 4 [.lit (.int .i64 t8.1), .lit (.int .i64 t8.2.1), .lit (.int .i64 t8.2.2.1), .row 4]) ?_
 refine wk_end ?_
 refine ac_next ?_
 refine aw_grp1 ?_
 refine wk_start ?_
 refine kv g0 (ldBA 4 [.lit (.int .i64 t8.1), .lit (.int .i64 t8.2.1), .lit (.int .i64 t8.2.2.1), .row 4]) ?_
 refine kv g0 (mv) ?_
 obtain ⟨t10, A11, H⟩ := of_bind H
 refine kcS1 26 (.agg [.lit (.int .i64 t10.1), .lit (.int .i64 t10.2.1), .lit (.int .i64 t10.2.2.1), .row 6]) [(6, .drow false ds60 60 4 (t10.2.2.2.map e60))] g0 (cal (impl_OnlyFor.ok A11) [6] 9999 .n (hf := Try.func18)) rfl rfl ?_
 refine kb g0 (alc 7 [.int .i64 0, .int .i64 0, .int .i64 0, .slice none 0 0] [.lit (.int .i64 0), .lit (.int .i64 0), .lit (.int .i64 0), .lit (.slice none 0 0)]) ?_
 refine ks g0 (stB 4 [.lit (.int .i64 t10.1), .lit (.int .i64 t10.2.1), .lit (.int .i64 t10.2.2.1), .row 6]) ?_
 refine wk_end ?_
 refine ac_next ?_
 refine aw_grp1 ?_
 refine aw_grp1 ?_
 refine wk_start ?_
 refine kv g0 (ldBA 4 [.lit (.int .i64 t10.1), .lit (.int .i64 t10.2.1), .lit (.int .i64 t10.2.2.1), .row 6]) ?_
 refine kv g0 (ldBA 4 [.lit (.int .i64 t6.1), .lit (.int .i64 t6.2.1), .lit (.int .i64 t6.2.2.1), .row 2]) ?_
 obtain ⟨t12, A13, H⟩ := of_bind H
 refine kcS0 29 (.lit (.bool t12)) [] g0 (cal (laws_eqPolicy.ok A13) [] 9999 .n (hf := Try.func13)) rfl rfl ?_
 refine kv g0 (not_) ?_
 refine wk_end ?_
 refine ac_next ?_
 by_cases c14 : t12 = true
 ·rw [if_pos c14] at H
  refine aw_ifF ?_ (nF c14)
  refine aw_skip ?_
  refine ac_next ?_
  refine aw_grp1 ?_
  refine aw_grp1 ?_
  refine wk_start ?_
  refine kv g0 (ldBA 4 [.lit (.int .i64 t8.1), .lit (.int .i64 t8.2.1), .lit (.int .i64 t8.2.2.1), .row 4]) ?_
  refine kv g0 (ldBA 4 [.lit (.int .i64 a0_0), .lit (.int .i64 a0_1), .lit (.int .i64 a0_2), .sl .o 4 (l0_3.map e86)]) ?_
  obtain ⟨t15, A16, H⟩ := of_bind H
  refine kcS1 33 (.agg [.lit (.int .i64 t15.1), .lit (.int .i64 t15.2.1), .lit (.int .i64 t15.2.2.1), .row 8]) [(8, .drow false ds60 60 4 (t15.2.2.2.map e60))] g0 (cal (laws_toPolicy.ok A16) [8] 9999 .n (hf := Try.func10)) rfl rfl ?_
  obtain ⟨t17, A18, H⟩ := of_bind H
  refine kcS0 34 (.lit (.bool t17)) [] g0 (cal (laws_eqPolicy.ok A18) [] 9999 .n (hf := Try.func13)) rfl rfl ?_
  refine kv g0 (not_) ?_
  refine wk_end_draw hM (by kernel_rfl) ?_
  refine ac_next ?_
  by_cases c19 : t17 = true
  ·rw [if_pos c19] at H
   refine aw_ifF ?_ (nF c19)
   refine aw_skip ?_
   refine ac_next ?_
   refine aw_grp1 ?_
   refine wk_start ?_
   refine kv g0 (asg) ?_
   refine wk_end ?_
   refine ac_next ?_
   refine aw_grp1 ?_
   refine wk_start ?_
   refine kv g0 (ldBA 4 [.lit (.int .i64 t8.1), .lit (.int .i64 t8.2.1), .lit (.int .i64 t8.2.2.1), .row 4]) ?_
   refine kv g0 (mv) ?_
   obtain ⟨t20, A21, H⟩ := of_bind H
   refine kcS1 38 (.lit (.int .i64 t20.1)) [(4, .drow false ds60 60 4 (t20.2.map e60))] g0 (cal (laws_markPolicy.ok A21) [4] 9999 .n (hf := Try.func14)) rfl rfl ?_
   refine kv g0 (asg) ?_
   refine wk_end ?_
   refine ac_next ?_
   refine aw_grp1 ?_
   refine aw_grp1 ?_
   refine wk_start ?_
   refine kv g0 (mv) ?_
   refine kv g0 (lss) ?_
   refine kv g0 (mv) ?_
   by_cases c22 : t20.1 < 0
   ·rw [if_pos c22] at H
    refine kx (hF (decide_eq_true c22)) ?_
    refine kx (hF (decide_eq_true c22)) ?_
    refine kx (hF (decide_eq_true c22)) ?_
    refine kx (hF (decide_eq_true c22)) ?_
    refine kv g0 (pkT (decide_eq_true c22)) ?_
    refine wk_end ?_
    refine ac_next ?_
    refine aw_ifT ?_ rfl
    refine aw_grp1 ?_
    refine wk_start ?_
    refine kv g0 (asg) ?_
    refine wk_end ?_
    refine ac_next ?_
    refine aw_ret ?_
    refine ac_thenR ?_
    obtain rfl := Option.some.inj H
    exact acr hE [.tmp 4] (.tmp .nil) (.one _) [] 9999
   rw [if_neg c22] at H
   refine kv (g1 (decide_eq_false c22)) (ldBA 4 [.lit (.int .i64 t10.1), .lit (.int .i64 t10.2.1), .lit (.int .i64 t10.2.2.1), .row 6]) ?_
   refine kv (g1 (decide_eq_false c22)) (ldBA 4 [.lit (.int .i64 t6.1), .lit (.int .i64 t6.2.1), .lit (.int .i64 t6.2.2.1), .row 2]) ?_
   obtain ⟨t23, A24, H⟩ := of_bind H
   refine kcS0 44 (.lit (.bool t23)) [] (g1 (decide_eq_false c22)) (cal (laws_eqPolicy.ok A24) [] 9999 .n (hf := Try.func13)) rfl rfl ?_
   refine kv (g1 (decide_eq_false c22)) (not_) ?_
   refine kv g0 (pkF (decide_eq_false c22)) ?_
   refine wk_end ?_
   refine ac_next ?_
   by_cases c25 : t23 = true
   ·rw [if_pos c25] at H
    refine aw_ifF ?_ (nF c25)
    refine aw_skip ?_
    refine ac_next ?_
    refine aw_grp1 ?_
    refine wk_start ?_
    refine kv g0 (asg) ?_
    refine wk_end ?_
    refine ac_next ?_
    refine aw_grp1 ?_
    refine wk_start ?_
    refine kv g0 (ldBA 4 [.lit (.int .i64 t10.1), .lit (.int .i64 t10.2.1), .lit (.int .i64 t10.2.2.1), .row 6]) ?_
    refine kv g0 (mv) ?_
    obtain ⟨t26, A27, H⟩ := of_bind H
    refine kcS1 49 (.lit (.int .i64 t26.1)) [(6, .drow false ds60 60 4 (t26.2.map e60))] g0 (cal (laws_markPolicy.ok A27) [6] 9999 .n (hf := Try.func14)) rfl rfl ?_
    refine kv g0 (asg) ?_
    refine wk_end ?_
    refine ac_next ?_
    refine aw_grp1 ?_
    refine wk_start ?_
    refine kv g0 (asg) ?_
    refine wk_end ?_
    refine ac_next ?_
    refine aw_grp1 ?_
    refine wk_start ?_
    refine kv g0 (ldBA 4 [.lit (.int .i64 t10.1), .lit (.int .i64 t10.2.1), .lit (.int .i64 t10.2.2.1), .row 6]) ?_
    refine kv g0 (mv) ?_
    obtain ⟨t28, A29, H⟩ := of_bind H
    refine kcS0 52 (.lit (.int .i64 t28)) [] g0 (cal (laws_heldPolicy.ok A29) [] 9999 .n (hf := Try.func19)) rfl rfl ?_
    refine kv g0 (asg) ?_
    refine wk_end ?_
    refine ac_next ?_
    refine aw_grp1 ?_
    refine aw_grp1 ?_
    refine wk_start ?_
    refine kv g0 (mv) ?_
    refine kv g0 (lss) ?_
    refine wk_end ?_
    refine ac_next ?_
    by_cases c30 : t28 < 0
    ·rw [if_pos c30] at H
     refine aw_ifT ?_ (decide_eq_true c30)
     refine aw_grp1 ?_
     refine wk_start ?_
     refine kv g0 (asg) ?_
     refine wk_end ?_
     refine ac_next ?_
     refine aw_ret ?_
     refine ac_thenR ?_
     obtain rfl := Option.some.inj H
     exact acr hE [.tmp 4] (.tmp .nil) (.one _) [] 9999
    rw [if_neg c30] at H
    refine aw_ifF ?_ (decide_eq_false c30)
    refine aw_skip ?_
    refine ac_next ?_
    refine aw_grp1 ?_
    refine aw_grp1 ?_
    refine wk_start ?_
    refine kv g0 (mv) ?_
    refine kv g0 (mv) ?_
    refine kv g0 (neq) ?_
    refine wk_end ?_
    refine ac_next ?_
    by_cases c31 : t28 = t26.1
    ·rw [if_pos c31] at H
     refine aw_ifF ?_ (eM c31)
     refine aw_skip ?_
     refine ac_next ?_
     refine aw_grp1 ?_
     refine wk_start ?_
     refine kv g0 (ldBA 4 [.lit (.int .i64 a0_0), .lit (.int .i64 a0_1), .lit (.int .i64 a0_2), .sl .o 4 (l0_3.map e86)]) ?_
     obtain ⟨t32, A33, H⟩ := of_bind H
     refine kcS1 59 (.agg [.lit (.int .i64 t32.1), .lit (.int .i64 t32.2.1), .lit (.int .i64 t32.2.2.1), .row 9]) [(9, .drow false ds60 60 4 (t32.2.2.2.map e60))] g0 (cal (laws_toPolicy.ok A33) [9] 9999 .n (hf := Try.func10)) rfl rfl ?_
     refine kv g0 (mv) ?_
     obtain ⟨t34, A35, H⟩ := of_bind H
     refine kcS1 61 (.agg [.lit (.int .i64 t34.1), .lit (.int .i64 t34.2.1), .lit (.int .i64 t34.2.2.1), .row 10]) [(10, .drow false ds60 60 4 (t34.2.2.2.map e60))] g0 (cal (impl_OnlyFor.ok A35) [10] 9999 .n (hf := Try.func18)) rfl rfl ?_
     refine kb g0 (alc 11 [.int .i64 0, .int .i64 0, .int .i64 0, .slice none 0 0] [.lit (.int .i64 0), .lit (.int .i64 0), .lit (.int .i64 0), .lit (.slice none 0 0)]) ?_
     refine ks g0 (stB 4 [.lit (.int .i64 t34.1), .lit (.int .i64 t34.2.1), .lit (.int .i64 t34.2.2.1), .row 10]) ?_
     refine wk_end ?_
     refine ac_next ?_
     refine aw_grp1 ?_
     refine aw_grp1 ?_
     refine wk_start ?_
     refine kv g0 (ldBA 4 [.lit (.int .i64 t34.1), .lit (.int .i64 t34.2.1), .lit (.int .i64 t34.2.2.1), .row 10]) ?_
     refine kv g0 (ldBA 4 [.lit (.int .i64 t6.1), .lit (.int .i64 t6.2.1), .lit (.int .i64 t6.2.2.1), .row 2]) ?_
     obtain ⟨t36, A37, H⟩ := of_bind H
     refine kcS0 64 (.lit (.bool t36)) [] g0 (cal (laws_eqPolicy.ok A37) [] 9999 .n (hf := Try.func13)) rfl rfl ?_
     refine kv g0 (not_) ?_
     refine wk_end ?_
     refine ac_next ?_
     by_cases c38 : t36 = true
     ·rw [if_pos c38] at H
      refine aw_ifF ?_ (nF c38)
      refine aw_skip ?_
      refine ac_next ?_
      refine aw_grp1 ?_
      refine wk_start ?_
      refine kv g0 (asg) ?_
      refine wk_end ?_
      refine ac_next ?_
      refine aw_grp1 ?_
      refine wk_start ?_
      refine kv g0 (ldBA 4 [.lit (.int .i64 t10.1), .lit (.int .i64 t10.2.1), .lit (.int .i64 t10.2.2.1), .row 6]) ?_
      refine kv g0 (mv) ?_
      obtain ⟨t39, A40, H⟩ := of_bind H
      refine kcS0 68 (.lit (.int .i64 t39)) [] g0 (cal (laws_heldPolicy.ok A40) [] 9999 .n (hf := Try.func19)) rfl rfl ?_
      refine kv g0 (asg) ?_
      refine wk_end ?_
      refine ac_next ?_
      refine aw_grp1 ?_
      refine aw_grp1 ?_
      refine wk_start ?_
      refine kv g0 (mv) ?_
      refine kv g0 (lss) ?_
      refine wk_end ?_
      refine ac_next ?_
      by_cases c41 : t39 < 0
      ·rw [if_pos c41] at H
       refine aw_ifT ?_ (decide_eq_true c41)
       refine aw_grp1 ?_
       refine wk_start ?_
       refine kv g0 (asg) ?_
       refine wk_end ?_
       refine ac_next ?_
       refine aw_ret ?_
       refine ac_thenR ?_
       obtain rfl := Option.some.inj H
       exact acr hE [.tmp 4] (.tmp .nil) (.one _) [] 9999
      rw [if_neg c41] at H
      refine aw_ifF ?_ (decide_eq_false c41)
      refine aw_skip ?_
      refine ac_next ?_
      refine aw_grp1 ?_
      refine aw_grp1 ?_
      refine wk_start ?_
      refine kv g0 (mv) ?_
      refine kv g0 (mv) ?_
      refine kv g0 (neq) ?_
      refine wk_end ?_
      refine ac_next ?_
      by_cases c42 : t39 = t26.1
      ·rw [if_pos c42] at H
       refine aw_ifF ?_ (eM c42)
       refine aw_skip ?_
       refine ac_next ?_
       refine aw_grp1 ?_
       refine wk_start ?_
       refine kv g0 (asg) ?_
       refine wk_end ?_
       refine ac_next ?_
       refine aw_ret ?_
       obtain rfl := Option.some.inj H
       exact acr hE [.tmp 4] (.tmp .nil) (.one _) [] 9999
      rw [if_neg c42] at H
      refine aw_ifT ?_ (eN c42)
      refine aw_grp1 ?_
      refine wk_start ?_
      refine kv g0 (asg) ?_
      refine wk_end ?_
      refine ac_next ?_
      refine aw_ret ?_
      refine ac_thenR ?_
      obtain rfl := Option.some.inj H
      exact acr hE [.tmp 4] (.tmp .nil) (.one _) [] 9999
     rw [if_neg c38] at H
     refine aw_ifT ?_ (nT (bF c38))
     refine aw_grp1 ?_
     refine wk_start ?_
     refine kv g0 (asg) ?_
     refine wk_end ?_
     refine ac_next ?_
     refine aw_ret ?_
     refine ac_thenR ?_
     obtain rfl := Option.some.inj H
     exact acr hE [.tmp 4] (.tmp .nil) (.one _) [] 9999
    rw [if_neg c31] at H
    refine aw_ifT ?_ (eN c31)
    refine aw_grp1 ?_
    refine wk_start ?_
    refine kv g0 (asg) ?_
    refine wk_end ?_
    refine ac_next ?_
    refine aw_ret ?_
    refine ac_thenR ?_
    obtain rfl := Option.some.inj H
    exact acr hE [.tmp 4] (.tmp .nil) (.one _) [] 9999
   rw [if_neg c25] at H
   refine aw_ifT ?_ (nT (bF c25))
   refine aw_grp1 ?_
   refine wk_start ?_
   refine kv g0 (asg) ?_
   refine wk_end ?_
   refine ac_next ?_
   refine aw_ret ?_
   refine ac_thenR ?_
   obtain rfl := Option.some.inj H
   exact acr hE [.tmp 4] (.tmp .nil) (.one _) [] 9999
  rw [if_neg c19] at H
  refine aw_ifT ?_ (nT (bF c19))
  refine aw_grp1 ?_
  refine wk_start ?_
  refine kv g0 (asg) ?_
  refine wk_end ?_
  refine ac_next ?_
  refine aw_ret ?_
  refine ac_thenR ?_
  obtain rfl := Option.some.inj H
  exact acr hE [.tmp 4] (.tmp .nil) (.one _) [] 9999
 rw [if_neg c14] at H
 refine aw_ifT ?_ (nT (bF c14))
 refine aw_grp1 ?_
 refine wk_start ?_
 refine kv g0 (asg) ?_
 refine wk_end ?_
 refine ac_next ?_
 refine aw_ret ?_
 refine ac_thenR ?_
 obtain rfl := Option.some.inj H
 exact acr hE [.tmp 4] (.tmp .nil) (.one _) [] 9999
end Go.Proofs.Ythgmgbccgokfeaa.PFnExactOnlyFor
