import Derived.Test.YtkkglhhkpihmgaaGreatPFnExactCalmWorldx5
set_option linter.unusedVariables false
set_option linter.unusedSimpArgs false
set_option maxRecDepth 100000
namespace Go.Proofs.YtkkglhhkpihmgaaGreat.PFnExactCalmWorld
open Go Go.RowKit Go.Proofs.YtkkglhhkpihmgaaGreatA
/-! laws_eqEntry -/
def laws_eqEntry.f (a0_0 : Int) (a0_1 : Int) (a0_2 : Int) (a0_3 : Int) (a0_4 : Int) (a0_5 : Int) (a1_0 : Int) (a1_1 : Int) (a1_2 : Int) (a1_3 : Int) (a1_4 : Int) (a1_5 : Int) : Option (Bool):=if a0_0 = a1_0 then if a0_1 = a1_1 then (laws_eqItem.f a0_2 a0_3 a0_4 a0_5 a1_2 a1_3 a1_4 a1_5).bind fun t3=>if t3 = true then some true else some false else some false else some false
theorem laws_eqEntry.ok {a0_0 : Int} {a0_1 : Int} {a0_2 : Int} {a0_3 : Int} {a0_4 : Int} {a0_5 : Int} {a1_0 : Int} {a1_1 : Int} {a1_2 : Int} {a1_3 : Int} {a1_4 : Int} {a1_5 : Int} {r : Bool} (H : laws_eqEntry.f a0_0 a0_1 a0_2 a0_3 a0_4 a0_5 a1_0 a1_1 a1_2 a1_3 a1_4 a1_5 = some r) : ACalls Tryz.prog 226 [] [.agg [.lit (.int .i64 a0_0),.lit (.int .i64 a0_1),.lit (.int .i64 a0_2),.lit (.int .i64 a0_3),.lit (.int .i64 a0_4),.lit (.int .i64 a0_5)],.agg [.lit (.int .i64 a1_0),.lit (.int .i64 a1_1),.lit (.int .i64 a1_2),.lit (.int .i64 a1_3),.lit (.int .i64 a1_4),.lit (.int .i64 a1_5)]] [] (.lit (.bool r)):=by
 refine acalls (fn:=Tryz.f226) (nt:=21) Tryz.func226 rfl rfl (Nat.le_of_ble_eq_true rfl) fun E hE=>?_
 rw [laws_eqEntry.f] at H
 refine aw_grp1<|wk_start<|kb g0 (bxA 0)<|kb g0 (bxA 1)<|kv g0 asg<|wk_end<|ac_next<|aw_grp1<|aw_grp1<|wk_start<|kv g0 (faB 0 0)<|kv g0 ldB<|kv g0 (faB 0 0)<|kv g0 ldB<|kv g0 neq<|wk_end<|ac_next ?_
 by_cases c1 : a0_0 = a1_0
 ·rw [if_pos c1] at H
  refine aw_ifF ?_ (eM c1)
  refine aw_skip<|ac_next<|aw_grp1<|aw_grp1<|wk_start<|kv g0 (faB 1 1)<|kv g0 ldB<|kv g0 (faB 1 1)<|kv g0 ldB<|kv g0 neq<|wk_end<|ac_next ?_
  by_cases c2 : a0_1 = a1_1
  ·rw [if_pos c2] at H
   refine aw_ifF ?_ (eM c2)
   refine aw_skip<|ac_next<|aw_grp1<|aw_grp1<|wk_start<|kv g0 (faB 2 2)<|kv g0 (ldBA 4 [.lit (.int .i64 a0_2),.lit (.int .i64 a0_3),.lit (.int .i64 a0_4),.lit (.int .i64 a0_5)])<|kv g0 (faB 2 2)<|kv g0 (ldBA 4 [.lit (.int .i64 a1_2),.lit (.int .i64 a1_3),.lit (.int .i64 a1_4),.lit (.int .i64 a1_5)]) ?_
   obtain ⟨t3,A4,H⟩:=of_bind H
   refine kcS0 19 (.lit (.bool t3)) [] g0 (cal (laws_eqItem.ok A4) [] 9999 .n (hf:=Tryz.func266)) rfl rfl<|kv g0 not_<|wk_end<|ac_next ?_
   by_cases c5 : t3 = true
   ·rw [if_pos c5] at H
    refine aw_ifF ?_ (nF c5)
    refine aw_skip<|ac_next<|aw_grp1<|wk_start<|kv g0 asg<|wk_end<|ac_next<|aw_ret ?_
    obtain rfl:=Option.some.inj H
    exact acr hE [.tmp 4] (.tmp .nil) (.one _) [] 9999
   rw [if_neg c5] at H
   refine aw_ifT ?_ (nT (bF c5))
   refine aw_grp1<|wk_start<|kv g0 asg<|wk_end<|ac_next<|aw_ret<|ac_thenR ?_
   obtain rfl:=Option.some.inj H
   exact acr hE [.tmp 4] (.tmp .nil) (.one _) [] 9999
  rw [if_neg c2] at H
  refine aw_ifT ?_ (eN c2)
  refine aw_grp1<|wk_start<|kv g0 asg<|wk_end<|ac_next<|aw_ret<|ac_thenR ?_
  obtain rfl:=Option.some.inj H
  exact acr hE [.tmp 4] (.tmp .nil) (.one _) [] 9999
 rw [if_neg c1] at H
 refine aw_ifT ?_ (eN c1)
 refine aw_grp1<|wk_start<|kv g0 asg<|wk_end<|ac_next<|aw_ret<|ac_thenR ?_
 obtain rfl:=Option.some.inj H
 exact acr hE [.tmp 4] (.tmp .nil) (.one _) [] 9999
/-! laws_eqEntryS -/
def laws_eqEntryS.l0 : Nat→(List S139)→(List S139)→Int→Option (Bool)
 | 0,_,_,_=>none
 | k9 + 1,l0,l1,p8=>if p8 < (l0.length : Int) then if 0 ≤ p8 then (if p8 < (l1.length : Int) then ((laws_eqEntry.f ((rd_T139 l0 p8).f0) ((rd_T139 l0 p8).f1) ((rd_T139 l0 p8).f2.f0) ((rd_T139 l0 p8).f2.f1) ((rd_T139 l0 p8).f2.f2) ((rd_T139 l0 p8).f2.f3) ((rd_T139 l1 p8).f0) ((rd_T139 l1 p8).f1) ((rd_T139 l1 p8).f2.f0) ((rd_T139 l1 p8).f2.f1) ((rd_T139 l1 p8).f2.f2) ((rd_T139 l1 p8).f2.f3)).bind fun t13=>if t13 = true then laws_eqEntryS.l0 k9 l0 l1 (wrap64 (p8 + 1)) else some false) else none) else none else some true
def laws_eqEntryS.f (k : Nat) (l0 : List S139) (l1 : List S139) : Option (Bool):=if (l0.length : Int) = (l1.length : Int) then laws_eqEntryS.l0 k l0 l1 0 else some false
theorem laws_eqEntryS.ok {k : Nat} {l0 : List S139} {l1 : List S139} {r : Bool} (H : laws_eqEntryS.f k l0 l1 = some r) : ACalls Tryz.prog 164 [] [.sl .o 6 (l0.map e139),.sl .o 6 (l1.map e139)] [] (.lit (.bool r)):=by
 refine acalls (fn:=Tryz.f164) (nt:=27) Tryz.func164 rfl rfl (Nat.le_of_ble_eq_true rfl) fun E hE=>?_
 rw [laws_eqEntryS.f] at H
 refine aw_grp1<|wk_start<|kv g0 asg<|wk_end<|ac_next<|aw_grp1<|aw_grp1<|wk_start<|kv g0 mv<|kv g0 (lnS lenE)<|kv g0 mv<|kv g0 (lnS lenE)<|kv g0 neq<|wk_end<|ac_next ?_
 by_cases c1 : (l0.length : Int) = (l1.length : Int)
 ·rw [if_pos c1] at H
  refine aw_ifF ?_ (eM c1)
  refine aw_skip<|ac_next<|aw_grp1<|aw_grp1<|wk_start<|kv g0 asg<|wk_end<|ac_next<|aw_block ?_
  refine aw_loop1 (fun (k_ : Nat) (p8 : Int)=>k_ ≤ k∧laws_eqEntryS.l0 k_ l0 l1 p8 = some r) (fun (p8 : Int)=>⟨[(0,.sl .o 6 (l0.map e139)),(1,.sl .o 6 (l1.map e139)),(5,.lit (.int .i64 p8))],[]⟩) k 0 ⟨Nat.le_refl _,H⟩ (fun K_ h_=>acw hE [] 9999 h_) (fun _=>by intro h_;have h_:=h_.2;rw [laws_eqEntryS.l0.eq_1] at h_;cases h_) ?_
  intro k9 p8 hq_ K16 hK17
  have hk9:=hq_.1
  have H:=hq_.2
  clear hq_
  rw [laws_eqEntryS.l0.eq_2] at H
  refine aw_grp1<|aw_grp1<|wk_start<|kv g0 mv<|kv g0 mv<|kv g0 (lnS lenE)<|kv g0 lss<|wk_end<|ac_next ?_
  by_cases c10 : p8 < (l0.length : Int)
  ·rw [if_pos c10] at H
   refine aw_ifT ?_ (decide_eq_true c10)
   refine aw_skip<|ac_next<|aw_grp1<|aw_block<|aw_grp1<|wk_start<|kv g0 mv<|kv g0 mv ?_
   obtain ⟨c11,H⟩:=of_if H
   refine kv g0 (ixS 139 (e139 (rd_T139 l0 p8)) c11 (getE (z:=z139) c11 c10))<|kv g0 (ldRA 6 [.lit (.int .i64 ((rd_T139 l0 p8).f0)),.lit (.int .i64 ((rd_T139 l0 p8).f1)),.lit (.int .i64 ((rd_T139 l0 p8).f2.f0)),.lit (.int .i64 ((rd_T139 l0 p8).f2.f1)),.lit (.int .i64 ((rd_T139 l0 p8).f2.f2)),.lit (.int .i64 ((rd_T139 l0 p8).f2.f3))])<|kv g0 mv<|kv g0 mv ?_
   obtain ⟨c12,H⟩:=of_if H
   refine kv g0 (ixS 139 (e139 (rd_T139 l1 p8)) c11 (getE (z:=z139) c11 c12))<|kv g0 (ldRA 6 [.lit (.int .i64 ((rd_T139 l1 p8).f0)),.lit (.int .i64 ((rd_T139 l1 p8).f1)),.lit (.int .i64 ((rd_T139 l1 p8).f2.f0)),.lit (.int .i64 ((rd_T139 l1 p8).f2.f1)),.lit (.int .i64 ((rd_T139 l1 p8).f2.f2)),.lit (.int .i64 ((rd_T139 l1 p8).f2.f3))]) ?_
   obtain ⟨t13,A14,H⟩:=of_bind H
   refine kcS0 25 (.lit (.bool t13)) [] g0 (cal (laws_eqEntry.ok A14) [] 9999 .n (hf:=Tryz.func226)) rfl rfl<|kv g0 not_<|wk_end_draw hM (by kernel_rfl)<|ac_next ?_
   by_cases c15 : t13 = true
   ·rw [if_pos c15] at H
    refine aw_ifF ?_ (nF c15)
    refine aw_skip<|ac_blkN<|ac_next<|wk_start<|kv g0 mv<|kv g0 add6<|kv g0 asg<|wk_end<|ac_k ?_
    exact acw hE [] 9999 (hK17 k9 (wrap64 (p8 + 1)) (Nat.le_refl _) ⟨by omega,H⟩)
   rw [if_neg c15] at H
   refine aw_ifT ?_ (nT (bF c15))
   refine aw_grp1<|wk_start<|kv g0 asg<|wk_end<|ac_next<|aw_ret<|ac_blkR<|ac_thenR<|ac_thenR<|ac_blkR<|ac_thenR ?_
   obtain rfl:=Option.some.inj H
   exact acr hE [.tmp 4] (.tmp .nil) (.one _) [] 9999
  rw [if_neg c10] at H
  refine aw_ifF ?_ (decide_eq_false c10)
  refine aw_exit<|ac_then<|ac_then<|ac_hit rfl<|ac_next<|aw_grp1<|wk_start<|kv g0 asg<|wk_end<|ac_next<|aw_ret ?_
  obtain rfl:=Option.some.inj H
  exact acr hE [.tmp 4] (.tmp .nil) (.one _) [] 9999
 rw [if_neg c1] at H
 refine aw_ifT ?_ (eN c1)
 refine aw_grp1<|wk_start<|kv g0 asg<|wk_end<|ac_next<|aw_ret<|ac_thenR ?_
 obtain rfl:=Option.some.inj H
 exact acr hE [.tmp 4] (.tmp .nil) (.one _) [] 9999
/-! laws_eqIntS -/
def laws_eqIntS.l0 : Nat→(List Int)→(List Int)→Int→Option (Bool)
 | 0,_,_,_=>none
 | k7 + 1,l0,l1,p6=>if p6 < (l0.length : Int) then if 0 ≤ p6 then (if p6 < (l1.length : Int) then if (rd l0 p6) = (rd l1 p6) then laws_eqIntS.l0 k7 l0 l1 (wrap64 (p6 + 1)) else some false else none) else none else some true
def laws_eqIntS.f (k : Nat) (l0 : List Int) (l1 : List Int) : Option (Bool):=if (l0.length : Int) = (l1.length : Int) then laws_eqIntS.l0 k l0 l1 0 else some false
theorem laws_eqIntS.ok {k : Nat} {l0 : List Int} {l1 : List Int} {r : Bool} (H : laws_eqIntS.f k l0 l1 = some r) : ACalls Tryz.prog 34 [] [.sl .o 1 (l0.map (eI .i64)),.sl .o 1 (l1.map (eI .i64))] [] (.lit (.bool r)):=by
 refine acalls (fn:=Tryz.f34) (nt:=26) Tryz.func34 rfl rfl (Nat.le_of_ble_eq_true rfl) fun E hE=>?_
 rw [laws_eqIntS.f] at H
 refine aw_grp1<|wk_start<|kv g0 asg<|wk_end<|ac_next<|aw_grp1<|aw_grp1<|wk_start<|kv g0 mv<|kv g0 (lnS lenE)<|kv g0 mv<|kv g0 (lnS lenE)<|kv g0 neq<|wk_end<|ac_next ?_
 by_cases c1 : (l0.length : Int) = (l1.length : Int)
 ·rw [if_pos c1] at H
  refine aw_ifF ?_ (eM c1)
  refine aw_skip<|ac_next<|aw_grp1<|aw_grp1<|wk_start<|kv g0 asg<|wk_end<|ac_next<|aw_block ?_
  refine aw_loop1 (fun (k_ : Nat) (p6 : Int)=>k_ ≤ k∧laws_eqIntS.l0 k_ l0 l1 p6 = some r) (fun (p6 : Int)=>⟨[(0,.sl .o 1 (l0.map (eI .i64))),(1,.sl .o 1 (l1.map (eI .i64))),(5,.lit (.int .i64 p6))],[]⟩) k 0 ⟨Nat.le_refl _,H⟩ (fun K_ h_=>acw hE [] 9999 h_) (fun _=>by intro h_;have h_:=h_.2;rw [laws_eqIntS.l0.eq_1] at h_;cases h_) ?_
  intro k7 p6 hq_ K12 hK13
  have hk7:=hq_.1
  have H:=hq_.2
  clear hq_
  rw [laws_eqIntS.l0.eq_2] at H
  refine aw_grp1<|aw_grp1<|wk_start<|kv g0 mv<|kv g0 mv<|kv g0 (lnS lenE)<|kv g0 lss<|wk_end<|ac_next ?_
  by_cases c8 : p6 < (l0.length : Int)
  ·rw [if_pos c8] at H
   refine aw_ifT ?_ (decide_eq_true c8)
   refine aw_skip<|ac_next<|aw_grp1<|aw_block<|aw_grp1<|wk_start<|kv g0 mv<|kv g0 mv ?_
   obtain ⟨c9,H⟩:=of_if H
   refine kv g0 (ixS 3 (eI .i64 (rd l0 p6)) c9 (getE (z:=(0 : Int)) c9 c8))<|kv g0 (ldR (.lit (.int .i64 (rd l0 p6))))<|kv g0 mv<|kv g0 mv ?_
   obtain ⟨c10,H⟩:=of_if H
   refine kv g0 (ixS 3 (eI .i64 (rd l1 p6)) c9 (getE (z:=(0 : Int)) c9 c10))<|kv g0 (ldR (.lit (.int .i64 (rd l1 p6))))<|kv g0 neq<|wk_end_draw hM (by kernel_rfl)<|ac_next ?_
   by_cases c11 : (rd l0 p6) = (rd l1 p6)
   ·rw [if_pos c11] at H
    refine aw_ifF ?_ (eM c11)
    refine aw_skip<|ac_blkN<|ac_next<|wk_start<|kv g0 mv<|kv g0 add6<|kv g0 asg<|wk_end<|ac_k ?_
    exact acw hE [] 9999 (hK13 k7 (wrap64 (p6 + 1)) (Nat.le_refl _) ⟨by omega,H⟩)
   rw [if_neg c11] at H
   refine aw_ifT ?_ (eN c11)
   refine aw_grp1<|wk_start<|kv g0 asg<|wk_end<|ac_next<|aw_ret<|ac_blkR<|ac_thenR<|ac_thenR<|ac_blkR<|ac_thenR ?_
   obtain rfl:=Option.some.inj H
   exact acr hE [.tmp 4] (.tmp .nil) (.one _) [] 9999
  rw [if_neg c8] at H
  refine aw_ifF ?_ (decide_eq_false c8)
  refine aw_exit<|ac_then<|ac_then<|ac_hit rfl<|ac_next<|aw_grp1<|wk_start<|kv g0 asg<|wk_end<|ac_next<|aw_ret ?_
  obtain rfl:=Option.some.inj H
  exact acr hE [.tmp 4] (.tmp .nil) (.one _) [] 9999
 rw [if_neg c1] at H
 refine aw_ifT ?_ (eN c1)
 refine aw_grp1<|wk_start<|kv g0 asg<|wk_end<|ac_next<|aw_ret<|ac_thenR ?_
 obtain rfl:=Option.some.inj H
 exact acr hE [.tmp 4] (.tmp .nil) (.one _) [] 9999
/-! laws_eqEarly -/
def laws_eqEarly.f (a0_0 : Int) (a0_1 : Int) (a0_2 : Int) (a0_3 : Int) (a0_4 : Int) (a0_5 : Int) (a1_0 : Int) (a1_1 : Int) (a1_2 : Int) (a1_3 : Int) (a1_4 : Int) (a1_5 : Int) : Option (Bool):=if a0_0 = a1_0 then if a0_1 = a1_1 then (laws_eqItem.f a0_2 a0_3 a0_4 a0_5 a1_2 a1_3 a1_4 a1_5).bind fun t3=>if t3 = true then some true else some false else some false else some false
theorem laws_eqEarly.ok {a0_0 : Int} {a0_1 : Int} {a0_2 : Int} {a0_3 : Int} {a0_4 : Int} {a0_5 : Int} {a1_0 : Int} {a1_1 : Int} {a1_2 : Int} {a1_3 : Int} {a1_4 : Int} {a1_5 : Int} {r : Bool} (H : laws_eqEarly.f a0_0 a0_1 a0_2 a0_3 a0_4 a0_5 a1_0 a1_1 a1_2 a1_3 a1_4 a1_5 = some r) : ACalls Tryz.prog 227 [] [.agg [.lit (.int .i64 a0_0),.lit (.int .i64 a0_1),.lit (.int .i64 a0_2),.lit (.int .i64 a0_3),.lit (.int .i64 a0_4),.lit (.int .i64 a0_5)],.agg [.lit (.int .i64 a1_0),.lit (.int .i64 a1_1),.lit (.int .i64 a1_2),.lit (.int .i64 a1_3),.lit (.int .i64 a1_4),.lit (.int .i64 a1_5)]] [] (.lit (.bool r)):=by
 refine acalls (fn:=Tryz.f227) (nt:=21) Tryz.func227 rfl rfl (Nat.le_of_ble_eq_true rfl) fun E hE=>?_
 rw [laws_eqEarly.f] at H
 refine aw_grp1<|wk_start<|kb g0 (bxA 0)<|kb g0 (bxA 1)<|kv g0 asg<|wk_end<|ac_next<|aw_grp1<|aw_grp1<|wk_start<|kv g0 (faB 0 0)<|kv g0 ldB<|kv g0 (faB 0 0)<|kv g0 ldB<|kv g0 neq<|wk_end<|ac_next ?_
 by_cases c1 : a0_0 = a1_0
 ·rw [if_pos c1] at H
  refine aw_ifF ?_ (eM c1)
  refine aw_skip<|ac_next<|aw_grp1<|aw_grp1<|wk_start<|kv g0 (faB 1 1)<|kv g0 ldB<|kv g0 (faB 1 1)<|kv g0 ldB<|kv g0 neq<|wk_end<|ac_next ?_
  by_cases c2 : a0_1 = a1_1
  ·rw [if_pos c2] at H
   refine aw_ifF ?_ (eM c2)
   refine aw_skip<|ac_next<|aw_grp1<|aw_grp1<|wk_start<|kv g0 (faB 2 2)<|kv g0 (ldBA 4 [.lit (.int .i64 a0_2),.lit (.int .i64 a0_3),.lit (.int .i64 a0_4),.lit (.int .i64 a0_5)])<|kv g0 (faB 2 2)<|kv g0 (ldBA 4 [.lit (.int .i64 a1_2),.lit (.int .i64 a1_3),.lit (.int .i64 a1_4),.lit (.int .i64 a1_5)]) ?_
   obtain ⟨t3,A4,H⟩:=of_bind H
   refine kcS0 19 (.lit (.bool t3)) [] g0 (cal (laws_eqItem.ok A4) [] 9999 .n (hf:=Tryz.func266)) rfl rfl<|kv g0 not_<|wk_end<|ac_next ?_
   by_cases c5 : t3 = true
   ·rw [if_pos c5] at H
    refine aw_ifF ?_ (nF c5)
    refine aw_skip<|ac_next<|aw_grp1<|wk_start<|kv g0 asg<|wk_end<|ac_next<|aw_ret ?_
    obtain rfl:=Option.some.inj H
    exact acr hE [.tmp 4] (.tmp .nil) (.one _) [] 9999
   rw [if_neg c5] at H
   refine aw_ifT ?_ (nT (bF c5))
   refine aw_grp1<|wk_start<|kv g0 asg<|wk_end<|ac_next<|aw_ret<|ac_thenR ?_
   obtain rfl:=Option.some.inj H
   exact acr hE [.tmp 4] (.tmp .nil) (.one _) [] 9999
  rw [if_neg c2] at H
  refine aw_ifT ?_ (eN c2)
  refine aw_grp1<|wk_start<|kv g0 asg<|wk_end<|ac_next<|aw_ret<|ac_thenR ?_
  obtain rfl:=Option.some.inj H
  exact acr hE [.tmp 4] (.tmp .nil) (.one _) [] 9999
 rw [if_neg c1] at H
 refine aw_ifT ?_ (eN c1)
 refine aw_grp1<|wk_start<|kv g0 asg<|wk_end<|ac_next<|aw_ret<|ac_thenR ?_
 obtain rfl:=Option.some.inj H
 exact acr hE [.tmp 4] (.tmp .nil) (.one _) [] 9999
/-! laws_eqEarlyS -/
def laws_eqEarlyS.l0 : Nat→(List S154)→(List S154)→Int→Option (Bool)
 | 0,_,_,_=>none
 | k9 + 1,l0,l1,p8=>if p8 < (l0.length : Int) then if 0 ≤ p8 then (if p8 < (l1.length : Int) then ((laws_eqEarly.f ((rd_T154 l0 p8).f0) ((rd_T154 l0 p8).f1) ((rd_T154 l0 p8).f2.f0) ((rd_T154 l0 p8).f2.f1) ((rd_T154 l0 p8).f2.f2) ((rd_T154 l0 p8).f2.f3) ((rd_T154 l1 p8).f0) ((rd_T154 l1 p8).f1) ((rd_T154 l1 p8).f2.f0) ((rd_T154 l1 p8).f2.f1) ((rd_T154 l1 p8).f2.f2) ((rd_T154 l1 p8).f2.f3)).bind fun t13=>if t13 = true then laws_eqEarlyS.l0 k9 l0 l1 (wrap64 (p8 + 1)) else some false) else none) else none else some true
def laws_eqEarlyS.f (k : Nat) (l0 : List S154) (l1 : List S154) : Option (Bool):=if (l0.length : Int) = (l1.length : Int) then laws_eqEarlyS.l0 k l0 l1 0 else some false
theorem laws_eqEarlyS.ok {k : Nat} {l0 : List S154} {l1 : List S154} {r : Bool} (H : laws_eqEarlyS.f k l0 l1 = some r) : ACalls Tryz.prog 165 [] [.sl .o 6 (l0.map e154),.sl .o 6 (l1.map e154)] [] (.lit (.bool r)):=by
 refine acalls (fn:=Tryz.f165) (nt:=27) Tryz.func165 rfl rfl (Nat.le_of_ble_eq_true rfl) fun E hE=>?_
 rw [laws_eqEarlyS.f] at H
 refine aw_grp1<|wk_start<|kv g0 asg<|wk_end<|ac_next<|aw_grp1<|aw_grp1<|wk_start<|kv g0 mv<|kv g0 (lnS lenE)<|kv g0 mv<|kv g0 (lnS lenE)<|kv g0 neq<|wk_end<|ac_next ?_
 by_cases c1 : (l0.length : Int) = (l1.length : Int)
 ·rw [if_pos c1] at H
  refine aw_ifF ?_ (eM c1)
  refine aw_skip<|ac_next<|aw_grp1<|aw_grp1<|wk_start<|kv g0 asg<|wk_end<|ac_next<|aw_block ?_
  refine aw_loop1 (fun (k_ : Nat) (p8 : Int)=>k_ ≤ k∧laws_eqEarlyS.l0 k_ l0 l1 p8 = some r) (fun (p8 : Int)=>⟨[(0,.sl .o 6 (l0.map e154)),(1,.sl .o 6 (l1.map e154)),(5,.lit (.int .i64 p8))],[]⟩) k 0 ⟨Nat.le_refl _,H⟩ (fun K_ h_=>acw hE [] 9999 h_) (fun _=>by intro h_;have h_:=h_.2;rw [laws_eqEarlyS.l0.eq_1] at h_;cases h_) ?_
  intro k9 p8 hq_ K16 hK17
  have hk9:=hq_.1
  have H:=hq_.2
  clear hq_
  rw [laws_eqEarlyS.l0.eq_2] at H
  refine aw_grp1<|aw_grp1<|wk_start<|kv g0 mv<|kv g0 mv<|kv g0 (lnS lenE)<|kv g0 lss<|wk_end<|ac_next ?_
  by_cases c10 : p8 < (l0.length : Int)
  ·rw [if_pos c10] at H
   refine aw_ifT ?_ (decide_eq_true c10)
   refine aw_skip<|ac_next<|aw_grp1<|aw_block<|aw_grp1<|wk_start<|kv g0 mv<|kv g0 mv ?_
   obtain ⟨c11,H⟩:=of_if H
   refine kv g0 (ixS 154 (e154 (rd_T154 l0 p8)) c11 (getE (z:=z154) c11 c10))<|kv g0 (ldRA 6 [.lit (.int .i64 ((rd_T154 l0 p8).f0)),.lit (.int .i64 ((rd_T154 l0 p8).f1)),.lit (.int .i64 ((rd_T154 l0 p8).f2.f0)),.lit (.int .i64 ((rd_T154 l0 p8).f2.f1)),.lit (.int .i64 ((rd_T154 l0 p8).f2.f2)),.lit (.int .i64 ((rd_T154 l0 p8).f2.f3))])<|kv g0 mv<|kv g0 mv ?_
   obtain ⟨c12,H⟩:=of_if H
   refine kv g0 (ixS 154 (e154 (rd_T154 l1 p8)) c11 (getE (z:=z154) c11 c12))<|kv g0 (ldRA 6 [.lit (.int .i64 ((rd_T154 l1 p8).f0)),.lit (.int .i64 ((rd_T154 l1 p8).f1)),.lit (.int .i64 ((rd_T154 l1 p8).f2.f0)),.lit (.int .i64 ((rd_T154 l1 p8).f2.f1)),.lit (.int .i64 ((rd_T154 l1 p8).f2.f2)),.lit (.int .i64 ((rd_T154 l1 p8).f2.f3))]) ?_
   obtain ⟨t13,A14,H⟩:=of_bind H
   refine kcS0 25 (.lit (.bool t13)) [] g0 (cal (laws_eqEarly.ok A14) [] 9999 .n (hf:=Tryz.func227)) rfl rfl<|kv g0 not_<|wk_end_draw hM (by kernel_rfl)<|ac_next ?_
   by_cases c15 : t13 = true
   ·rw [if_pos c15] at H
    refine aw_ifF ?_ (nF c15)
    refine aw_skip<|ac_blkN<|ac_next<|wk_start<|kv g0 mv<|kv g0 add6<|kv g0 asg<|wk_end<|ac_k ?_
    exact acw hE [] 9999 (hK17 k9 (wrap64 (p8 + 1)) (Nat.le_refl _) ⟨by omega,H⟩)
   rw [if_neg c15] at H
   refine aw_ifT ?_ (nT (bF c15))
   refine aw_grp1<|wk_start<|kv g0 asg<|wk_end<|ac_next<|aw_ret<|ac_blkR<|ac_thenR<|ac_thenR<|ac_blkR<|ac_thenR ?_
   obtain rfl:=Option.some.inj H
   exact acr hE [.tmp 4] (.tmp .nil) (.one _) [] 9999
  rw [if_neg c10] at H
  refine aw_ifF ?_ (decide_eq_false c10)
  refine aw_exit<|ac_then<|ac_then<|ac_hit rfl<|ac_next<|aw_grp1<|wk_start<|kv g0 asg<|wk_end<|ac_next<|aw_ret ?_
  obtain rfl:=Option.some.inj H
  exact acr hE [.tmp 4] (.tmp .nil) (.one _) [] 9999
 rw [if_neg c1] at H
 refine aw_ifT ?_ (eN c1)
 refine aw_grp1<|wk_start<|kv g0 asg<|wk_end<|ac_next<|aw_ret<|ac_thenR ?_
 obtain rfl:=Option.some.inj H
 exact acr hE [.tmp 4] (.tmp .nil) (.one _) [] 9999
/-! laws_eqKeeper -/
def laws_eqKeeper.f (k : Nat) (l0_0 : List S139) (l0_1 : List Int) (l0_2 : List S154) (a0_3 : Int) (l0_4 : List Int) (l1_0 : List S139) (l1_1 : List Int) (l1_2 : List S154) (a1_3 : Int) (l1_4 : List Int) : Option (Bool):=(laws_eqEntryS.f k l0_0 l1_0).bind fun t1=>if t1 = true then (laws_eqIntS.f k l0_1 l1_1).bind fun t4=>if t4 = true then (laws_eqEarlyS.f k l0_2 l1_2).bind fun t7=>if t7 = true then if a0_3 = a1_3 then (laws_eqIntS.f k l0_4 l1_4).bind fun t11=>if t11 = true then some true else some false else some false else some false else some false else some false
theorem laws_eqKeeper.ok {k : Nat} {l0_0 : List S139} {l0_1 : List Int} {l0_2 : List S154} {a0_3 : Int} {l0_4 : List Int} {l1_0 : List S139} {l1_1 : List Int} {l1_2 : List S154} {a1_3 : Int} {l1_4 : List Int} {r : Bool} (H : laws_eqKeeper.f k l0_0 l0_1 l0_2 a0_3 l0_4 l1_0 l1_1 l1_2 a1_3 l1_4 = some r) : ACalls Tryz.prog 77 [] [.agg [.sl .o 6 (l0_0.map e139),.sl .o 1 (l0_1.map (eI .i64)),.sl .o 6 (l0_2.map e154),.lit (.int .i64 a0_3),.sl .o 1 (l0_4.map (eI .i64))],.agg [.sl .o 6 (l1_0.map e139),.sl .o 1 (l1_1.map (eI .i64)),.sl .o 6 (l1_2.map e154),.lit (.int .i64 a1_3),.sl .o 1 (l1_4.map (eI .i64))]] [] (.lit (.bool r)):=by
 refine acalls (fn:=Tryz.f77) (nt:=34) Tryz.func77 rfl rfl (Nat.le_of_ble_eq_true rfl) fun E hE=>?_
 rw [laws_eqKeeper.f] at H
 refine aw_grp1<|wk_start<|kb g0 (bxA 0)<|kb g0 (bxA 1)<|kv g0 asg<|wk_end<|ac_next<|aw_grp1<|aw_grp1<|wk_start<|kv g0 (faB 0 0)<|kv g0 ldB<|kv g0 (faB 0 0)<|kv g0 ldB ?_
 obtain ⟨t1,A2,H⟩:=of_bind H
 refine kcS0 9 (.lit (.bool t1)) [] g0 (cal (laws_eqEntryS.ok A2) [] 9999 .n (hf:=Tryz.func164)) rfl rfl<|kv g0 not_<|wk_end<|ac_next ?_
 by_cases c3 : t1 = true
 ·rw [if_pos c3] at H
  refine aw_ifF ?_ (nF c3)
  refine aw_skip<|ac_next<|aw_grp1<|aw_grp1<|wk_start<|kv g0 (faB 1 1)<|kv g0 ldB<|kv g0 (faB 1 1)<|kv g0 ldB ?_
  obtain ⟨t4,A5,H⟩:=of_bind H
  refine kcS0 15 (.lit (.bool t4)) [] g0 (cal (laws_eqIntS.ok A5) [] 9999 .n (hf:=Tryz.func34)) rfl rfl<|kv g0 not_<|wk_end<|ac_next ?_
  by_cases c6 : t4 = true
  ·rw [if_pos c6] at H
   refine aw_ifF ?_ (nF c6)
   refine aw_skip<|ac_next<|aw_grp1<|aw_grp1<|wk_start<|kv g0 (faB 2 2)<|kv g0 ldB<|kv g0 (faB 2 2)<|kv g0 ldB ?_
   obtain ⟨t7,A8,H⟩:=of_bind H
   refine kcS0 21 (.lit (.bool t7)) [] g0 (cal (laws_eqEarlyS.ok A8) [] 9999 .n (hf:=Tryz.func165)) rfl rfl<|kv g0 not_<|wk_end<|ac_next ?_
   by_cases c9 : t7 = true
   ·rw [if_pos c9] at H
    refine aw_ifF ?_ (nF c9)
    refine aw_skip<|ac_next<|aw_grp1<|aw_grp1<|wk_start<|kv g0 (faB 3 3)<|kv g0 ldB<|kv g0 (faB 3 3)<|kv g0 ldB<|kv g0 neq<|wk_end<|ac_next ?_
    by_cases c10 : a0_3 = a1_3
    ·rw [if_pos c10] at H
     refine aw_ifF ?_ (eM c10)
     refine aw_skip<|ac_next<|aw_grp1<|aw_grp1<|wk_start<|kv g0 (faB 4 4)<|kv g0 ldB<|kv g0 (faB 4 4)<|kv g0 ldB ?_
     obtain ⟨t11,A12,H⟩:=of_bind H
     refine kcS0 32 (.lit (.bool t11)) [] g0 (cal (laws_eqIntS.ok A12) [] 9999 .n (hf:=Tryz.func34)) rfl rfl<|kv g0 not_<|wk_end<|ac_next ?_
     by_cases c13 : t11 = true
     ·rw [if_pos c13] at H
      refine aw_ifF ?_ (nF c13)
      refine aw_skip<|ac_next<|aw_grp1<|wk_start<|kv g0 asg<|wk_end<|ac_next<|aw_ret ?_
      obtain rfl:=Option.some.inj H
      exact acr hE [.tmp 4] (.tmp .nil) (.one _) [] 9999
     rw [if_neg c13] at H
     refine aw_ifT ?_ (nT (bF c13))
     refine aw_grp1<|wk_start<|kv g0 asg<|wk_end<|ac_next<|aw_ret<|ac_thenR ?_
     obtain rfl:=Option.some.inj H
     exact acr hE [.tmp 4] (.tmp .nil) (.one _) [] 9999
    rw [if_neg c10] at H
    refine aw_ifT ?_ (eN c10)
    refine aw_grp1<|wk_start<|kv g0 asg<|wk_end<|ac_next<|aw_ret<|ac_thenR ?_
    obtain rfl:=Option.some.inj H
    exact acr hE [.tmp 4] (.tmp .nil) (.one _) [] 9999
   rw [if_neg c9] at H
   refine aw_ifT ?_ (nT (bF c9))
   refine aw_grp1<|wk_start<|kv g0 asg<|wk_end<|ac_next<|aw_ret<|ac_thenR ?_
   obtain rfl:=Option.some.inj H
   exact acr hE [.tmp 4] (.tmp .nil) (.one _) [] 9999
  rw [if_neg c6] at H
  refine aw_ifT ?_ (nT (bF c6))
  refine aw_grp1<|wk_start<|kv g0 asg<|wk_end<|ac_next<|aw_ret<|ac_thenR ?_
  obtain rfl:=Option.some.inj H
  exact acr hE [.tmp 4] (.tmp .nil) (.one _) [] 9999
 rw [if_neg c3] at H
 refine aw_ifT ?_ (nT (bF c3))
 refine aw_grp1<|wk_start<|kv g0 asg<|wk_end<|ac_next<|aw_ret<|ac_thenR ?_
 obtain rfl:=Option.some.inj H
 exact acr hE [.tmp 4] (.tmp .nil) (.one _) [] 9999
/-! laws_eqLetter -/
def laws_eqLetter.f (a0_0 : Bool) (a0_1 : ByteArray) (a0_2 : Bool) (a1_0 : Bool) (a1_1 : ByteArray) (a1_2 : Bool) : Option (Bool):=if a0_0 = a1_0 then if (a0_1.toList == a1_1.toList) = true then if a0_2 = a1_2 then some true else some false else some false else some false
theorem laws_eqLetter.ok {a0_0 : Bool} {a0_1 : ByteArray} {a0_2 : Bool} {a1_0 : Bool} {a1_1 : ByteArray} {a1_2 : Bool} {r : Bool} (H : laws_eqLetter.f a0_0 a0_1 a0_2 a1_0 a1_1 a1_2 = some r) : ACalls Tryz.prog 166 [] [.agg [.lit (.bool a0_0),.lit (.string a0_1),.lit (.bool a0_2)],.agg [.lit (.bool a1_0),.lit (.string a1_1),.lit (.bool a1_2)]] [] (.lit (.bool r)):=by
 refine acalls (fn:=Tryz.f166) (nt:=20) Tryz.func166 rfl rfl (Nat.le_of_ble_eq_true rfl) fun E hE=>?_
 rw [laws_eqLetter.f] at H
 refine aw_grp1<|wk_start<|kb g0 (bxA 0)<|kb g0 (bxA 1)<|kv g0 asg<|wk_end<|ac_next<|aw_grp1<|aw_grp1<|wk_start<|kv g0 (faB 0 0)<|kv g0 ldB<|kv g0 (faB 0 0)<|kv g0 ldB<|kv g0 bne<|wk_end<|ac_next ?_
 by_cases c1 : a0_0 = a1_0
 ·rw [if_pos c1] at H
  refine aw_ifF ?_ (nF (eTb c1))
  refine aw_skip<|ac_next<|aw_grp1<|aw_grp1<|wk_start<|kv g0 (faB 1 1)<|kv g0 ldB<|kv g0 (faB 1 1)<|kv g0 ldB<|kv g0 sne<|wk_end<|ac_next ?_
  by_cases c2 : (a0_1.toList == a1_1.toList) = true
  ·rw [if_pos c2] at H
   refine aw_ifF ?_ (nF c2)
   refine aw_skip<|ac_next<|aw_grp1<|aw_grp1<|wk_start<|kv g0 (faB 2 2)<|kv g0 ldB<|kv g0 (faB 2 2)<|kv g0 ldB<|kv g0 bne<|wk_end<|ac_next ?_
   by_cases c3 : a0_2 = a1_2
   ·rw [if_pos c3] at H
    refine aw_ifF ?_ (nF (eTb c3))
    refine aw_skip<|ac_next<|aw_grp1<|wk_start<|kv g0 asg<|wk_end<|ac_next<|aw_ret ?_
    obtain rfl:=Option.some.inj H
    exact acr hE [.tmp 4] (.tmp .nil) (.one _) [] 9999
   rw [if_neg c3] at H
   refine aw_ifT ?_ (nT (eFb c3))
   refine aw_grp1<|wk_start<|kv g0 asg<|wk_end<|ac_next<|aw_ret<|ac_thenR ?_
   obtain rfl:=Option.some.inj H
   exact acr hE [.tmp 4] (.tmp .nil) (.one _) [] 9999
  rw [if_neg c2] at H
  refine aw_ifT ?_ (nT (bF c2))
  refine aw_grp1<|wk_start<|kv g0 asg<|wk_end<|ac_next<|aw_ret<|ac_thenR ?_
  obtain rfl:=Option.some.inj H
  exact acr hE [.tmp 4] (.tmp .nil) (.one _) [] 9999
 rw [if_neg c1] at H
 refine aw_ifT ?_ (nT (eFb c1))
 refine aw_grp1<|wk_start<|kv g0 asg<|wk_end<|ac_next<|aw_ret<|ac_thenR ?_
 obtain rfl:=Option.some.inj H
 exact acr hE [.tmp 4] (.tmp .nil) (.one _) [] 9999
/-! laws_eqLetterS -/
def laws_eqLetterS.l0 : Nat→(List S151)→(List S151)→Int→Option (Bool)
 | 0,_,_,_=>none
 | k9 + 1,l0,l1,p8=>if p8 < (l0.length : Int) then if 0 ≤ p8 then (if p8 < (l1.length : Int) then ((laws_eqLetter.f ((rd_T151 l0 p8).f0) ((rd_T151 l0 p8).f1) ((rd_T151 l0 p8).f2) ((rd_T151 l1 p8).f0) ((rd_T151 l1 p8).f1) ((rd_T151 l1 p8).f2)).bind fun t13=>if t13 = true then laws_eqLetterS.l0 k9 l0 l1 (wrap64 (p8 + 1)) else some false) else none) else none else some true
def laws_eqLetterS.f (k : Nat) (l0 : List S151) (l1 : List S151) : Option (Bool):=if (l0.length : Int) = (l1.length : Int) then laws_eqLetterS.l0 k l0 l1 0 else some false
theorem laws_eqLetterS.ok {k : Nat} {l0 : List S151} {l1 : List S151} {r : Bool} (H : laws_eqLetterS.f k l0 l1 = some r) : ACalls Tryz.prog 78 [] [.sl .o 3 (l0.map e151),.sl .o 3 (l1.map e151)] [] (.lit (.bool r)):=by
 refine acalls (fn:=Tryz.f78) (nt:=27) Tryz.func78 rfl rfl (Nat.le_of_ble_eq_true rfl) fun E hE=>?_
 rw [laws_eqLetterS.f] at H
 refine aw_grp1<|wk_start<|kv g0 asg<|wk_end<|ac_next<|aw_grp1<|aw_grp1<|wk_start<|kv g0 mv<|kv g0 (lnS lenE)<|kv g0 mv<|kv g0 (lnS lenE)<|kv g0 neq<|wk_end<|ac_next ?_
 by_cases c1 : (l0.length : Int) = (l1.length : Int)
 ·rw [if_pos c1] at H
  refine aw_ifF ?_ (eM c1)
  refine aw_skip<|ac_next<|aw_grp1<|aw_grp1<|wk_start<|kv g0 asg<|wk_end<|ac_next<|aw_block ?_
  refine aw_loop1 (fun (k_ : Nat) (p8 : Int)=>k_ ≤ k∧laws_eqLetterS.l0 k_ l0 l1 p8 = some r) (fun (p8 : Int)=>⟨[(0,.sl .o 3 (l0.map e151)),(1,.sl .o 3 (l1.map e151)),(5,.lit (.int .i64 p8))],[]⟩) k 0 ⟨Nat.le_refl _,H⟩ (fun K_ h_=>acw hE [] 9999 h_) (fun _=>by intro h_;have h_:=h_.2;rw [laws_eqLetterS.l0.eq_1] at h_;cases h_) ?_
  intro k9 p8 hq_ K16 hK17
  have hk9:=hq_.1
  have H:=hq_.2
  clear hq_
  rw [laws_eqLetterS.l0.eq_2] at H
  refine aw_grp1<|aw_grp1<|wk_start<|kv g0 mv<|kv g0 mv<|kv g0 (lnS lenE)<|kv g0 lss<|wk_end<|ac_next ?_
  by_cases c10 : p8 < (l0.length : Int)
  ·rw [if_pos c10] at H
   refine aw_ifT ?_ (decide_eq_true c10)
   refine aw_skip<|ac_next<|aw_grp1<|aw_block<|aw_grp1<|wk_start<|kv g0 mv<|kv g0 mv ?_
   obtain ⟨c11,H⟩:=of_if H
   refine kv g0 (ixS 151 (e151 (rd_T151 l0 p8)) c11 (getE (z:=z151) c11 c10))<|kv g0 (ldRA 3 [.lit (.bool ((rd_T151 l0 p8).f0)),.lit (.string ((rd_T151 l0 p8).f1)),.lit (.bool ((rd_T151 l0 p8).f2))])<|kv g0 mv<|kv g0 mv ?_
   obtain ⟨c12,H⟩:=of_if H
   refine kv g0 (ixS 151 (e151 (rd_T151 l1 p8)) c11 (getE (z:=z151) c11 c12))<|kv g0 (ldRA 3 [.lit (.bool ((rd_T151 l1 p8).f0)),.lit (.string ((rd_T151 l1 p8).f1)),.lit (.bool ((rd_T151 l1 p8).f2))]) ?_
   obtain ⟨t13,A14,H⟩:=of_bind H
   refine kcS0 25 (.lit (.bool t13)) [] g0 (cal (laws_eqLetter.ok A14) [] 9999 .n (hf:=Tryz.func166)) rfl rfl<|kv g0 not_<|wk_end_draw hM (by kernel_rfl)<|ac_next ?_
   by_cases c15 : t13 = true
   ·rw [if_pos c15] at H
    refine aw_ifF ?_ (nF c15)
    refine aw_skip<|ac_blkN<|ac_next<|wk_start<|kv g0 mv<|kv g0 add6<|kv g0 asg<|wk_end<|ac_k ?_
    exact acw hE [] 9999 (hK17 k9 (wrap64 (p8 + 1)) (Nat.le_refl _) ⟨by omega,H⟩)
   rw [if_neg c15] at H
   refine aw_ifT ?_ (nT (bF c15))
   refine aw_grp1<|wk_start<|kv g0 asg<|wk_end<|ac_next<|aw_ret<|ac_blkR<|ac_thenR<|ac_thenR<|ac_blkR<|ac_thenR ?_
   obtain rfl:=Option.some.inj H
   exact acr hE [.tmp 4] (.tmp .nil) (.one _) [] 9999
  rw [if_neg c10] at H
  refine aw_ifF ?_ (decide_eq_false c10)
  refine aw_exit<|ac_then<|ac_then<|ac_hit rfl<|ac_next<|aw_grp1<|wk_start<|kv g0 asg<|wk_end<|ac_next<|aw_ret ?_
  obtain rfl:=Option.some.inj H
  exact acr hE [.tmp 4] (.tmp .nil) (.one _) [] 9999
 rw [if_neg c1] at H
 refine aw_ifT ?_ (eN c1)
 refine aw_grp1<|wk_start<|kv g0 asg<|wk_end<|ac_next<|aw_ret<|ac_thenR ?_
 obtain rfl:=Option.some.inj H
 exact acr hE [.tmp 4] (.tmp .nil) (.one _) [] 9999
/-! laws_eqSeen -/
def laws_eqSeen.f (a0_0 : Int) (a0_1 : Int) (a0_2 : Int) (a0_3 : Bool) (a1_0 : Int) (a1_1 : Int) (a1_2 : Int) (a1_3 : Bool) : Option (Bool):=if a0_0 = a1_0 then if a0_1 = a1_1 then if a0_2 = a1_2 then if a0_3 = a1_3 then some true else some false else some false else some false else some false
theorem laws_eqSeen.ok {a0_0 : Int} {a0_1 : Int} {a0_2 : Int} {a0_3 : Bool} {a1_0 : Int} {a1_1 : Int} {a1_2 : Int} {a1_3 : Bool} {r : Bool} (H : laws_eqSeen.f a0_0 a0_1 a0_2 a0_3 a1_0 a1_1 a1_2 a1_3 = some r) : ACalls Tryz.prog 167 [] [.agg [.lit (.int .i64 a0_0),.lit (.int .i64 a0_1),.lit (.int .i64 a0_2),.lit (.bool a0_3)],.agg [.lit (.int .i64 a1_0),.lit (.int .i64 a1_1),.lit (.int .i64 a1_2),.lit (.bool a1_3)]] [] (.lit (.bool r)):=by
 refine acalls (fn:=Tryz.f167) (nt:=25) Tryz.func167 rfl rfl (Nat.le_of_ble_eq_true rfl) fun E hE=>?_
 rw [laws_eqSeen.f] at H
 refine aw_grp1<|wk_start<|kb g0 (bxA 0)<|kb g0 (bxA 1)<|kv g0 asg<|wk_end<|ac_next<|aw_grp1<|aw_grp1<|wk_start<|kv g0 (faB 0 0)<|kv g0 ldB<|kv g0 (faB 0 0)<|kv g0 ldB<|kv g0 neq<|wk_end<|ac_next ?_
 by_cases c1 : a0_0 = a1_0
 ·rw [if_pos c1] at H
  refine aw_ifF ?_ (eM c1)
  refine aw_skip<|ac_next<|aw_grp1<|aw_grp1<|wk_start<|kv g0 (faB 1 1)<|kv g0 ldB<|kv g0 (faB 1 1)<|kv g0 ldB<|kv g0 neq<|wk_end<|ac_next ?_
  by_cases c2 : a0_1 = a1_1
  ·rw [if_pos c2] at H
   refine aw_ifF ?_ (eM c2)
   refine aw_skip<|ac_next<|aw_grp1<|aw_grp1<|wk_start<|kv g0 (faB 2 2)<|kv g0 ldB<|kv g0 (faB 2 2)<|kv g0 ldB<|kv g0 neq<|wk_end<|ac_next ?_
   by_cases c3 : a0_2 = a1_2
   ·rw [if_pos c3] at H
    refine aw_ifF ?_ (eM c3)
    refine aw_skip<|ac_next<|aw_grp1<|aw_grp1<|wk_start<|kv g0 (faB 3 3)<|kv g0 ldB<|kv g0 (faB 3 3)<|kv g0 ldB<|kv g0 bne<|wk_end<|ac_next ?_
    by_cases c4 : a0_3 = a1_3
    ·rw [if_pos c4] at H
     refine aw_ifF ?_ (nF (eTb c4))
     refine aw_skip<|ac_next<|aw_grp1<|wk_start<|kv g0 asg<|wk_end<|ac_next<|aw_ret ?_
     obtain rfl:=Option.some.inj H
     exact acr hE [.tmp 4] (.tmp .nil) (.one _) [] 9999
    rw [if_neg c4] at H
    refine aw_ifT ?_ (nT (eFb c4))
    refine aw_grp1<|wk_start<|kv g0 asg<|wk_end<|ac_next<|aw_ret<|ac_thenR ?_
    obtain rfl:=Option.some.inj H
    exact acr hE [.tmp 4] (.tmp .nil) (.one _) [] 9999
   rw [if_neg c3] at H
   refine aw_ifT ?_ (eN c3)
   refine aw_grp1<|wk_start<|kv g0 asg<|wk_end<|ac_next<|aw_ret<|ac_thenR ?_
   obtain rfl:=Option.some.inj H
   exact acr hE [.tmp 4] (.tmp .nil) (.one _) [] 9999
  rw [if_neg c2] at H
  refine aw_ifT ?_ (eN c2)
  refine aw_grp1<|wk_start<|kv g0 asg<|wk_end<|ac_next<|aw_ret<|ac_thenR ?_
  obtain rfl:=Option.some.inj H
  exact acr hE [.tmp 4] (.tmp .nil) (.one _) [] 9999
 rw [if_neg c1] at H
 refine aw_ifT ?_ (eN c1)
 refine aw_grp1<|wk_start<|kv g0 asg<|wk_end<|ac_next<|aw_ret<|ac_thenR ?_
 obtain rfl:=Option.some.inj H
 exact acr hE [.tmp 4] (.tmp .nil) (.one _) [] 9999
/-! laws_eqSeenS -/
def laws_eqSeenS.l0 : Nat→(List S59)→(List S59)→Int→Option (Bool)
 | 0,_,_,_=>none
 | k9 + 1,l0,l1,p8=>if p8 < (l0.length : Int) then if 0 ≤ p8 then (if p8 < (l1.length : Int) then ((laws_eqSeen.f ((rd_T59 l0 p8).f0) ((rd_T59 l0 p8).f1) ((rd_T59 l0 p8).f2) ((rd_T59 l0 p8).f3) ((rd_T59 l1 p8).f0) ((rd_T59 l1 p8).f1) ((rd_T59 l1 p8).f2) ((rd_T59 l1 p8).f3)).bind fun t13=>if t13 = true then laws_eqSeenS.l0 k9 l0 l1 (wrap64 (p8 + 1)) else some false) else none) else none else some true
def laws_eqSeenS.f (k : Nat) (l0 : List S59) (l1 : List S59) : Option (Bool):=if (l0.length : Int) = (l1.length : Int) then laws_eqSeenS.l0 k l0 l1 0 else some false
theorem laws_eqSeenS.ok {k : Nat} {l0 : List S59} {l1 : List S59} {r : Bool} (H : laws_eqSeenS.f k l0 l1 = some r) : ACalls Tryz.prog 79 [] [.sl .o 4 (l0.map e59),.sl .o 4 (l1.map e59)] [] (.lit (.bool r)):=by
 refine acalls (fn:=Tryz.f79) (nt:=27) Tryz.func79 rfl rfl (Nat.le_of_ble_eq_true rfl) fun E hE=>?_
 rw [laws_eqSeenS.f] at H
 refine aw_grp1<|wk_start<|kv g0 asg<|wk_end<|ac_next<|aw_grp1<|aw_grp1<|wk_start<|kv g0 mv<|kv g0 (lnS lenE)<|kv g0 mv<|kv g0 (lnS lenE)<|kv g0 neq<|wk_end<|ac_next ?_
 by_cases c1 : (l0.length : Int) = (l1.length : Int)
 ·rw [if_pos c1] at H
  refine aw_ifF ?_ (eM c1)
  refine aw_skip<|ac_next<|aw_grp1<|aw_grp1<|wk_start<|kv g0 asg<|wk_end<|ac_next<|aw_block ?_
  refine aw_loop1 (fun (k_ : Nat) (p8 : Int)=>k_ ≤ k∧laws_eqSeenS.l0 k_ l0 l1 p8 = some r) (fun (p8 : Int)=>⟨[(0,.sl .o 4 (l0.map e59)),(1,.sl .o 4 (l1.map e59)),(5,.lit (.int .i64 p8))],[]⟩) k 0 ⟨Nat.le_refl _,H⟩ (fun K_ h_=>acw hE [] 9999 h_) (fun _=>by intro h_;have h_:=h_.2;rw [laws_eqSeenS.l0.eq_1] at h_;cases h_) ?_
  intro k9 p8 hq_ K16 hK17
  have hk9:=hq_.1
  have H:=hq_.2
  clear hq_
  rw [laws_eqSeenS.l0.eq_2] at H
  refine aw_grp1<|aw_grp1<|wk_start<|kv g0 mv<|kv g0 mv<|kv g0 (lnS lenE)<|kv g0 lss<|wk_end<|ac_next ?_
  by_cases c10 : p8 < (l0.length : Int)
  ·rw [if_pos c10] at H
   refine aw_ifT ?_ (decide_eq_true c10)
   refine aw_skip<|ac_next<|aw_grp1<|aw_block<|aw_grp1<|wk_start<|kv g0 mv<|kv g0 mv ?_
   obtain ⟨c11,H⟩:=of_if H
   refine kv g0 (ixS 59 (e59 (rd_T59 l0 p8)) c11 (getE (z:=z59) c11 c10))<|kv g0 (ldRA 4 [.lit (.int .i64 ((rd_T59 l0 p8).f0)),.lit (.int .i64 ((rd_T59 l0 p8).f1)),.lit (.int .i64 ((rd_T59 l0 p8).f2)),.lit (.bool ((rd_T59 l0 p8).f3))])<|kv g0 mv<|kv g0 mv ?_
   obtain ⟨c12,H⟩:=of_if H
   refine kv g0 (ixS 59 (e59 (rd_T59 l1 p8)) c11 (getE (z:=z59) c11 c12))<|kv g0 (ldRA 4 [.lit (.int .i64 ((rd_T59 l1 p8).f0)),.lit (.int .i64 ((rd_T59 l1 p8).f1)),.lit (.int .i64 ((rd_T59 l1 p8).f2)),.lit (.bool ((rd_T59 l1 p8).f3))]) ?_
   obtain ⟨t13,A14,H⟩:=of_bind H
   refine kcS0 25 (.lit (.bool t13)) [] g0 (cal (laws_eqSeen.ok A14) [] 9999 .n (hf:=Tryz.func167)) rfl rfl<|kv g0 not_<|wk_end_draw hM (by kernel_rfl)<|ac_next ?_
   by_cases c15 : t13 = true
   ·rw [if_pos c15] at H
    refine aw_ifF ?_ (nF c15)
    refine aw_skip<|ac_blkN<|ac_next<|wk_start<|kv g0 mv<|kv g0 add6<|kv g0 asg<|wk_end<|ac_k ?_
    exact acw hE [] 9999 (hK17 k9 (wrap64 (p8 + 1)) (Nat.le_refl _) ⟨by omega,H⟩)
   rw [if_neg c15] at H
   refine aw_ifT ?_ (nT (bF c15))
   refine aw_grp1<|wk_start<|kv g0 asg<|wk_end<|ac_next<|aw_ret<|ac_blkR<|ac_thenR<|ac_thenR<|ac_blkR<|ac_thenR ?_
   obtain rfl:=Option.some.inj H
   exact acr hE [.tmp 4] (.tmp .nil) (.one _) [] 9999
  rw [if_neg c10] at H
  refine aw_ifF ?_ (decide_eq_false c10)
  refine aw_exit<|ac_then<|ac_then<|ac_hit rfl<|ac_next<|aw_grp1<|wk_start<|kv g0 asg<|wk_end<|ac_next<|aw_ret ?_
  obtain rfl:=Option.some.inj H
  exact acr hE [.tmp 4] (.tmp .nil) (.one _) [] 9999
 rw [if_neg c1] at H
 refine aw_ifT ?_ (eN c1)
 refine aw_grp1<|wk_start<|kv g0 asg<|wk_end<|ac_next<|aw_ret<|ac_thenR ?_
 obtain rfl:=Option.some.inj H
 exact acr hE [.tmp 4] (.tmp .nil) (.one _) [] 9999
/-! laws_eqWorld -/
def laws_eqWorld.f (k : Nat) (l0_0 : List (List (List S234))) (l0_1 : List S67) (l0_2 : List S65) (l0_3 : List S139) (l0_4 : List Int) (l0_5 : List S154) (a0_6 : Int) (l0_7 : List Int) (l0_8 : List S151) (a0_9 : Int) (l0_10 : List Int) (l0_11 : List S59) (l1_0 : List (List (List S234))) (l1_1 : List S67) (l1_2 : List S65) (l1_3 : List S139) (l1_4 : List Int) (l1_5 : List S154) (a1_6 : Int) (l1_7 : List Int) (l1_8 : List S151) (a1_9 : Int) (l1_10 : List Int) (l1_11 : List S59) : Option (Bool):=(laws_eqInsSSS.f k l0_0 l1_0).bind fun t1=>if t1 = true then (laws_eqRingS.f k l0_1 l1_1).bind fun t4=>if t4 = true then (laws_eqSenderS.f k l0_2 l1_2).bind fun t7=>if t7 = true then (laws_eqKeeper.f k l0_3 l0_4 l0_5 a0_6 l0_7 l1_3 l1_4 l1_5 a1_6 l1_7).bind fun t10=>if t10 = true then (laws_eqLetterS.f k l0_8 l1_8).bind fun t13=>if t13 = true then if a0_9 = a1_9 then (laws_eqIntS.f k l0_10 l1_10).bind fun t17=>if t17 = true then (laws_eqSeenS.f k l0_11 l1_11).bind fun t20=>if t20 = true then some true else some false else some false else some false else some false else some false else some false else some false else some false
theorem laws_eqWorld.ok {k : Nat} {l0_0 : List (List (List S234))} {l0_1 : List S67} {l0_2 : List S65} {l0_3 : List S139} {l0_4 : List Int} {l0_5 : List S154} {a0_6 : Int} {l0_7 : List Int} {l0_8 : List S151} {a0_9 : Int} {l0_10 : List Int} {l0_11 : List S59} {l1_0 : List (List (List S234))} {l1_1 : List S67} {l1_2 : List S65} {l1_3 : List S139} {l1_4 : List Int} {l1_5 : List S154} {a1_6 : Int} {l1_7 : List Int} {l1_8 : List S151} {a1_9 : Int} {l1_10 : List Int} {l1_11 : List S59} {r : Bool} (H : laws_eqWorld.f k l0_0 l0_1 l0_2 l0_3 l0_4 l0_5 a0_6 l0_7 l0_8 a0_9 l0_10 l0_11 l1_0 l1_1 l1_2 l1_3 l1_4 l1_5 a1_6 l1_7 l1_8 a1_9 l1_10 l1_11 = some r) : ACalls Tryz.prog 12 [] [.agg [.sl .o 1 (l0_0.map (eL 1 (eL 4 (e234)))),.sl .o 4 (l0_1.map e67),.sl .o 5 (l0_2.map e65),.sl .o 6 (l0_3.map e139),.sl .o 1 (l0_4.map (eI .i64)),.sl .o 6 (l0_5.map e154),.lit (.int .i64 a0_6),.sl .o 1 (l0_7.map (eI .i64)),.sl .o 3 (l0_8.map e151),.lit (.int .i64 a0_9),.sl .o 1 (l0_10.map (eI .i64)),.sl .o 4 (l0_11.map e59)],.agg [.sl .o 1 (l1_0.map (eL 1 (eL 4 (e234)))),.sl .o 4 (l1_1.map e67),.sl .o 5 (l1_2.map e65),.sl .o 6 (l1_3.map e139),.sl .o 1 (l1_4.map (eI .i64)),.sl .o 6 (l1_5.map e154),.lit (.int .i64 a1_6),.sl .o 1 (l1_7.map (eI .i64)),.sl .o 3 (l1_8.map e151),.lit (.int .i64 a1_9),.sl .o 1 (l1_10.map (eI .i64)),.sl .o 4 (l1_11.map e59)]] [] (.lit (.bool r)):=by
 refine acalls (fn:=Tryz.f12) (nt:=52) Tryz.func12 rfl rfl (Nat.le_of_ble_eq_true rfl) fun E hE=>?_
 rw [laws_eqWorld.f] at H
 refine aw_grp1<|wk_start<|kb g0 (bxA 0)<|kb g0 (bxA 1)<|kv g0 asg<|wk_end<|ac_next<|aw_grp1<|aw_grp1<|wk_start<|kv g0 (faB 0 0)<|kv g0 ldB<|kv g0 (faB 0 0)<|kv g0 ldB ?_
 obtain ⟨t1,A2,H⟩:=of_bind H
 refine kcS0 9 (.lit (.bool t1)) [] g0 (cal (laws_eqInsSSS.ok A2) [] 9999 .n (hf:=Tryz.func74)) rfl rfl<|kv g0 not_<|wk_end<|ac_next ?_
 by_cases c3 : t1 = true
 ·rw [if_pos c3] at H
  refine aw_ifF ?_ (nF c3)
  refine aw_skip<|ac_next<|aw_grp1<|aw_grp1<|wk_start<|kv g0 (faB 1 1)<|kv g0 ldB<|kv g0 (faB 1 1)<|kv g0 ldB ?_
  obtain ⟨t4,A5,H⟩:=of_bind H
  refine kcS0 15 (.lit (.bool t4)) [] g0 (cal (laws_eqRingS.ok A5) [] 9999 .n (hf:=Tryz.func75)) rfl rfl<|kv g0 not_<|wk_end<|ac_next ?_
  by_cases c6 : t4 = true
  ·rw [if_pos c6] at H
   refine aw_ifF ?_ (nF c6)
   refine aw_skip<|ac_next<|aw_grp1<|aw_grp1<|wk_start<|kv g0 (faB 2 2)<|kv g0 ldB<|kv g0 (faB 2 2)<|kv g0 ldB ?_
   obtain ⟨t7,A8,H⟩:=of_bind H
   refine kcS0 21 (.lit (.bool t7)) [] g0 (cal (laws_eqSenderS.ok A8) [] 9999 .n (hf:=Tryz.func76)) rfl rfl<|kv g0 not_<|wk_end<|ac_next ?_
   by_cases c9 : t7 = true
   ·rw [if_pos c9] at H
    refine aw_ifF ?_ (nF c9)
    refine aw_skip<|ac_next<|aw_grp1<|aw_grp1<|wk_start<|kv g0 (faB 3 3)<|kv g0 (ldBA 5 [.sl .o 6 (l0_3.map e139),.sl .o 1 (l0_4.map (eI .i64)),.sl .o 6 (l0_5.map e154),.lit (.int .i64 a0_6),.sl .o 1 (l0_7.map (eI .i64))])<|kv g0 (faB 3 3)<|kv g0 (ldBA 5 [.sl .o 6 (l1_3.map e139),.sl .o 1 (l1_4.map (eI .i64)),.sl .o 6 (l1_5.map e154),.lit (.int .i64 a1_6),.sl .o 1 (l1_7.map (eI .i64))]) ?_
    obtain ⟨t10,A11,H⟩:=of_bind H
    refine kcS0 27 (.lit (.bool t10)) [] g0 (cal (laws_eqKeeper.ok A11) [] 9999 .n (hf:=Tryz.func77)) rfl rfl<|kv g0 not_<|wk_end<|ac_next ?_
    by_cases c12 : t10 = true
    ·rw [if_pos c12] at H
     refine aw_ifF ?_ (nF c12)
     refine aw_skip<|ac_next<|aw_grp1<|aw_grp1<|wk_start<|kv g0 (faB 8 8)<|kv g0 ldB<|kv g0 (faB 8 8)<|kv g0 ldB ?_
     obtain ⟨t13,A14,H⟩:=of_bind H
     refine kcS0 33 (.lit (.bool t13)) [] g0 (cal (laws_eqLetterS.ok A14) [] 9999 .n (hf:=Tryz.func78)) rfl rfl<|kv g0 not_<|wk_end<|ac_next ?_
     by_cases c15 : t13 = true
     ·rw [if_pos c15] at H
      refine aw_ifF ?_ (nF c15)
      refine aw_skip<|ac_next<|aw_grp1<|aw_grp1<|wk_start<|kv g0 (faB 9 9)<|kv g0 ldB<|kv g0 (faB 9 9)<|kv g0 ldB<|kv g0 neq<|wk_end<|ac_next ?_
      by_cases c16 : a0_9 = a1_9
      ·rw [if_pos c16] at H
       refine aw_ifF ?_ (eM c16)
       refine aw_skip<|ac_next<|aw_grp1<|aw_grp1<|wk_start<|kv g0 (faB 10 10)<|kv g0 ldB<|kv g0 (faB 10 10)<|kv g0 ldB ?_
       obtain ⟨t17,A18,H⟩:=of_bind H
       refine kcS0 44 (.lit (.bool t17)) [] g0 (cal (laws_eqIntS.ok A18) [] 9999 .n (hf:=Tryz.func34)) rfl rfl<|kv g0 not_<|wk_end<|ac_next ?_
       by_cases c19 : t17 = true
       ·rw [if_pos c19] at H
        refine aw_ifF ?_ (nF c19)
        refine aw_skip<|ac_next<|aw_grp1<|aw_grp1<|wk_start<|kv g0 (faB 11 11)<|kv g0 ldB<|kv g0 (faB 11 11)<|kv g0 ldB ?_
        obtain ⟨t20,A21,H⟩:=of_bind H
        refine kcS0 50 (.lit (.bool t20)) [] g0 (cal (laws_eqSeenS.ok A21) [] 9999 .n (hf:=Tryz.func79)) rfl rfl<|kv g0 not_<|wk_end<|ac_next ?_
        by_cases c22 : t20 = true
        ·rw [if_pos c22] at H
         refine aw_ifF ?_ (nF c22)
         refine aw_skip<|ac_next<|aw_grp1<|wk_start<|kv g0 asg<|wk_end<|ac_next<|aw_ret ?_
         obtain rfl:=Option.some.inj H
         exact acr hE [.tmp 4] (.tmp .nil) (.one _) [] 9999
        rw [if_neg c22] at H
        refine aw_ifT ?_ (nT (bF c22))
        refine aw_grp1<|wk_start<|kv g0 asg<|wk_end<|ac_next<|aw_ret<|ac_thenR ?_
        obtain rfl:=Option.some.inj H
        exact acr hE [.tmp 4] (.tmp .nil) (.one _) [] 9999
       rw [if_neg c19] at H
       refine aw_ifT ?_ (nT (bF c19))
       refine aw_grp1<|wk_start<|kv g0 asg<|wk_end<|ac_next<|aw_ret<|ac_thenR ?_
       obtain rfl:=Option.some.inj H
       exact acr hE [.tmp 4] (.tmp .nil) (.one _) [] 9999
      rw [if_neg c16] at H
      refine aw_ifT ?_ (eN c16)
      refine aw_grp1<|wk_start<|kv g0 asg<|wk_end<|ac_next<|aw_ret<|ac_thenR ?_
      obtain rfl:=Option.some.inj H
      exact acr hE [.tmp 4] (.tmp .nil) (.one _) [] 9999
     rw [if_neg c15] at H
     refine aw_ifT ?_ (nT (bF c15))
     refine aw_grp1<|wk_start<|kv g0 asg<|wk_end<|ac_next<|aw_ret<|ac_thenR ?_
     obtain rfl:=Option.some.inj H
     exact acr hE [.tmp 4] (.tmp .nil) (.one _) [] 9999
    rw [if_neg c12] at H
    refine aw_ifT ?_ (nT (bF c12))
    refine aw_grp1<|wk_start<|kv g0 asg<|wk_end<|ac_next<|aw_ret<|ac_thenR ?_
    obtain rfl:=Option.some.inj H
    exact acr hE [.tmp 4] (.tmp .nil) (.one _) [] 9999
   rw [if_neg c9] at H
   refine aw_ifT ?_ (nT (bF c9))
   refine aw_grp1<|wk_start<|kv g0 asg<|wk_end<|ac_next<|aw_ret<|ac_thenR ?_
   obtain rfl:=Option.some.inj H
   exact acr hE [.tmp 4] (.tmp .nil) (.one _) [] 9999
  rw [if_neg c6] at H
  refine aw_ifT ?_ (nT (bF c6))
  refine aw_grp1<|wk_start<|kv g0 asg<|wk_end<|ac_next<|aw_ret<|ac_thenR ?_
  obtain rfl:=Option.some.inj H
  exact acr hE [.tmp 4] (.tmp .nil) (.one _) [] 9999
 rw [if_neg c3] at H
 refine aw_ifT ?_ (nT (bF c3))
 refine aw_grp1<|wk_start<|kv g0 asg<|wk_end<|ac_next<|aw_ret<|ac_thenR ?_
 obtain rfl:=Option.some.inj H
 exact acr hE [.tmp 4] (.tmp .nil) (.one _) [] 9999
/-! laws_markInsS -/
def laws_markInsS.l0 : Nat→(List S234)→Int→Int→Option (Int × (List S234))
 | 0,_,_,_=>none
 | k6 + 1,q3,p4,p5=>if p5 < (q3.length : Int) then if 0 ≤ p5 then laws_markInsS.l0 k6 (q3.set p5.toNat (⟨p4,wrap64 (p4 + 1),wrap64 ((wrap64 (p4 + 1)) + 1),wrap64 ((wrap64 ((wrap64 (p4 + 1)) + 1)) + 1)⟩ : S234)) (wrap64 ((wrap64 ((wrap64 ((wrap64 (p4 + 1)) + 1)) + 1)) + 1)) (wrap64 (p5 + 1)) else none else some (p4,q3)
def laws_markInsS.f (k : Nat) (l0 : List S234) (a1 : Int) : Option (Int × (List S234)):=laws_markInsS.l0 k l0 a1 0
theorem laws_markInsS.ok {k : Nat} {l0 : List S234} {a1 : Int} {r : Int × (List S234)} (H : laws_markInsS.f k l0 a1 = some r) : ACalls Tryz.prog 228 [(0,.row 234 4 (l0.map e234))] [.row 0,.lit (.int .i64 a1)] [(0,.row 234 4 (r.2.map e234))] (.lit (.int .i64 r.1)):=by
 refine acalls (fn:=Tryz.f228) (nt:=41) Tryz.func228 rfl rfl (Nat.le_of_ble_eq_true rfl) fun E hE=>?_
 rw [laws_markInsS.f] at H
 refine aw_grp1<|wk_start<|kv g0 asg<|wk_end<|ac_next<|aw_grp1<|aw_grp1<|wk_start<|kv g0 asg<|wk_end<|ac_next<|aw_block ?_
 refine aw_loop3 (fun (k_ : Nat) (q3 : List S234) (p4 : Int) (p5 : Int)=>k_ ≤ k∧laws_markInsS.l0 k_ q3 p4 p5 = some r) (fun (q3 : List S234) (p4 : Int) (p5 : Int)=>⟨[(0,.row 0),(1,.lit (.int .i64 p4)),(5,.lit (.int .i64 p5))],[(0,.row 234 4 (q3.map e234))]⟩) k l0 a1 0 ⟨Nat.le_refl _,H⟩ (fun K_ h_=>acw hE [(0,0)] 9999 h_) (fun _ _ _=>by intro h_;have h_:=h_.2;rw [laws_markInsS.l0.eq_1] at h_;cases h_) ?_
 intro k6 q3 p4 p5 hq_ K9 hK10
 have hk6:=hq_.1
 have H:=hq_.2
 clear hq_
 rw [laws_markInsS.l0.eq_2] at H
 refine aw_grp1<|aw_grp1<|wk_start<|kv g0 mv<|kv g0 mv<|kv g0 (lnR lenE)<|kv g0 lss<|wk_end<|ac_next ?_
 by_cases c7 : p5 < (q3.length : Int)
 ·rw [if_pos c7] at H
  refine aw_ifT ?_ (decide_eq_true c7)
  refine aw_skip<|ac_next<|aw_grp1<|aw_block<|aw_grp1<|wk_start<|kv g0 mv<|kv g0 mv<|kv g0 mv ?_
  obtain ⟨c8,H⟩:=of_if H
  refine kv g0 (ixR 234 c8 (ltE c7))<|kv g0 (faE 0 0)<|ks g0 (stE 1 (e234 (⟨p4,(rd_T234 q3 p5).f1,(rd_T234 q3 p5).f2,(rd_T234 q3 p5).f3⟩ : S234)) ((q3.set p5.toNat (⟨p4,(rd_T234 q3 p5).f1,(rd_T234 q3 p5).f2,(rd_T234 q3 p5).f3⟩ : S234)).map e234) (getE (z:=z234) c8 c7) setE)<|wk_end<|ac_next<|aw_grp1<|wk_start<|kv g0 mv<|kv g0 add6<|kv g0 asg<|wk_end<|ac_next<|aw_grp1<|wk_start<|kv g0 mv<|kv g0 mv<|kv g0 mv<|kv g0 (ixR 234 c8 (ltE (ls c7)))<|kv g0 (faE 1 1)<|ks g0 (stE 1 (e234 (⟨p4,wrap64 (p4 + 1),(rd_T234 q3 p5).f2,(rd_T234 q3 p5).f3⟩ : S234)) ((q3.set p5.toNat (⟨p4,wrap64 (p4 + 1),(rd_T234 q3 p5).f2,(rd_T234 q3 p5).f3⟩ : S234)).map e234) (setG c8 (ls c7)) setE2)<|wk_end<|ac_next<|aw_grp1<|wk_start<|kv g0 mv<|kv g0 add6<|kv g0 asg<|wk_end<|ac_next<|aw_grp1<|wk_start<|kv g0 mv<|kv g0 mv<|kv g0 mv<|kv g0 (ixR 234 c8 (ltE (ls c7)))<|kv g0 (faE 2 2)<|ks g0 (stE 1 (e234 (⟨p4,wrap64 (p4 + 1),wrap64 ((wrap64 (p4 + 1)) + 1),(rd_T234 q3 p5).f3⟩ : S234)) ((q3.set p5.toNat (⟨p4,wrap64 (p4 + 1),wrap64 ((wrap64 (p4 + 1)) + 1),(rd_T234 q3 p5).f3⟩ : S234)).map e234) (setG c8 (ls c7)) setE2)<|wk_end<|ac_next<|aw_grp1 ?_
  refine wk_start<|kv g0 mv<|kv g0 add6<|kv g0 asg<|wk_end<|ac_next<|aw_grp1<|wk_start<|kv g0 mv<|kv g0 mv<|kv g0 mv<|kv g0 (ixR 234 c8 (ltE (ls c7)))<|kv g0 (faE 3 3)<|ks g0 (stE 1 (e234 (⟨p4,wrap64 (p4 + 1),wrap64 ((wrap64 (p4 + 1)) + 1),wrap64 ((wrap64 ((wrap64 (p4 + 1)) + 1)) + 1)⟩ : S234)) ((q3.set p5.toNat (⟨p4,wrap64 (p4 + 1),wrap64 ((wrap64 (p4 + 1)) + 1),wrap64 ((wrap64 ((wrap64 (p4 + 1)) + 1)) + 1)⟩ : S234)).map e234) (setG c8 (ls c7)) setE2)<|wk_end<|ac_next<|wk_start<|kv g0 mv<|kv g0 add6<|kv g0 asg<|wk_end<|ac_blkN<|ac_next<|wk_start<|kv g0 mv<|kv g0 add6<|kv g0 asg<|wk_end<|ac_k ?_
  exact acw hE [(0,0)] 9999 (hK10 k6 (q3.set p5.toNat (⟨p4,wrap64 (p4 + 1),wrap64 ((wrap64 (p4 + 1)) + 1),wrap64 ((wrap64 ((wrap64 (p4 + 1)) + 1)) + 1)⟩ : S234)) (wrap64 ((wrap64 ((wrap64 ((wrap64 (p4 + 1)) + 1)) + 1)) + 1)) (wrap64 (p5 + 1)) (Nat.le_refl _) ⟨by omega,H⟩)
 rw [if_neg c7] at H
 refine aw_ifF ?_ (decide_eq_false c7)
 refine aw_exit<|ac_then<|ac_then<|ac_hit rfl<|ac_next<|aw_grp1<|wk_start<|kv g0 mv<|kv g0 asg<|wk_end<|ac_next<|aw_ret ?_
 obtain rfl:=Option.some.inj H
 exact acr hE [.tmp 4] (.tmp .nil) (.one _) [(0,0)] 9999
/-! laws_markInsSS -/
def laws_markInsSS.l0 : Nat→(List (List S234))→Int→Int→Option (Int × (List (List S234)))
 | 0,_,_,_=>none
 | k8 + 1,q5,p6,p7=>if p7 < (q5.length : Int) then if 0 ≤ p7 then ((laws_markInsS.f k8 (rdOf ([] : List S234) q5 p7) p6).bind fun t11=>laws_markInsSS.l0 k8 (q5.set p7.toNat t11.2) t11.1 (wrap64 (p7 + 1))) else none else some (p6,q5)
def laws_markInsSS.f (k : Nat) (l0 : List (List S234)) (a1 : Int) : Option (Int × (List (List S234))):=laws_markInsSS.l0 k l0 a1 0
theorem laws_markInsSS.ok {k : Nat} {l0 : List (List S234)} {a1 : Int} {r : Int × (List (List S234))} (H : laws_markInsSS.f k l0 a1 = some r) : ACalls Tryz.prog 168 [(0,.drow false [.own 234 []] 147 1 (l0.map (eL 4 (e234))))] [.row 0,.lit (.int .i64 a1)] [(0,.drow false [.own 234 []] 147 1 (r.2.map (eL 4 (e234))))] (.lit (.int .i64 r.1)):=by
 refine acalls (fn:=Tryz.f168) (nt:=19) Tryz.func168 rfl rfl (Nat.le_of_ble_eq_true rfl) fun E hE=>?_
 rw [laws_markInsSS.f] at H
 refine aw_grp1<|wk_start<|kv g0 asg<|wk_end<|ac_next<|aw_grp1<|aw_grp1<|wk_start<|kv g0 asg<|wk_end<|ac_next<|aw_block ?_
 refine aw_loop3 (fun (k_ : Nat) (q5 : List (List S234)) (p6 : Int) (p7 : Int)=>k_ ≤ k∧laws_markInsSS.l0 k_ q5 p6 p7 = some r) (fun (q5 : List (List S234)) (p6 : Int) (p7 : Int)=>⟨[(0,.row 0),(1,.lit (.int .i64 p6)),(5,.lit (.int .i64 p7))],[(0,.drow false [.own 234 []] 147 1 (q5.map (eL 4 (e234))))]⟩) k l0 a1 0 ⟨Nat.le_refl _,H⟩ (fun K_ h_=>acw hE [(0,0)] 9999 h_) (fun _ _ _=>by intro h_;have h_:=h_.2;rw [laws_markInsSS.l0.eq_1] at h_;cases h_) ?_
 intro k8 q5 p6 p7 hq_ K13 hK14
 have hk8:=hq_.1
 have H:=hq_.2
 clear hq_
 rw [laws_markInsSS.l0.eq_2] at H
 refine aw_grp1<|aw_grp1<|wk_start<|kv g0 mv<|kv g0 mv<|kv g0 (lnD lenE)<|kv g0 lss<|wk_end<|ac_next ?_
 by_cases c9 : p7 < (q5.length : Int)
 ·rw [if_pos c9] at H
  refine aw_ifT ?_ (decide_eq_true c9)
  refine aw_skip<|ac_next<|aw_grp1<|aw_block<|wk_start<|kv g0 mv<|kv g0 mv ?_
  obtain ⟨c10,H⟩:=of_if H
  refine kv g0 (ixD 147 c10 (ltE c9))<|kcS2 15 (.row 1) [(0,.drow true [.own 234 []] 147 1 ((q5.map (eL 4 e234)).set p7.toNat (.row 1))),(1,.row 234 4 ((rdOf ([] : List S234) q5 p7).map e234))] g0 (okv_gh (tk 0 1 0 (.row 1) (getE (f:=eL 4 e234) (z:=([] : List S234)) c10 c9) rfl rfl) (ldD (.row 1) (setXG (f:=eL 4 e234) (X:=.row 1) c10 c9) rfl)).owp rfl rfl<|kv g0 mv ?_
  obtain ⟨t11,A12,H⟩:=of_bind H
  refine kcS1 17 (.lit (.int .i64 t11.1)) [(1,.row 234 4 (t11.2.map e234))] g0 (cal (laws_markInsS.ok A12) [1] 9999 .n (hf:=Tryz.func228)) rfl rfl<|kv g0 asg<|wk_end<|ac_blkN<|ac_next<|wk_start<|kv g0 mv<|kv g0 add6<|kv g0 asg<|wk_end<|ac_g2 (pk 0 1 0 (.sl .n 4 (t11.2.map e234)) (setXG (f:=eL 4 e234) (X:=.row 1) c10 c9) setXX rfl)<|ac_g1 (sealD 0 (setSeal (f:=eL 4 e234) p7.toNat t11.2) clL)<|ac_k ?_
  exact acw hE [(0,0)] 9999 (hK14 k8 (q5.set p7.toNat t11.2) t11.1 (wrap64 (p7 + 1)) (Nat.le_refl _) ⟨by omega,H⟩)
 rw [if_neg c9] at H
 refine aw_ifF ?_ (decide_eq_false c9)
 refine aw_exit<|ac_then<|ac_then<|ac_hit rfl<|ac_next<|aw_grp1<|wk_start<|kv g0 mv<|kv g0 asg<|wk_end<|ac_next<|aw_ret ?_
 obtain rfl:=Option.some.inj H
 exact acr hE [.tmp 4] (.tmp .nil) (.one _) [(0,0)] 9999
/-! laws_markInsSSS -/
def laws_markInsSSS.l0 : Nat→(List (List (List S234)))→Int→Int→Option (Int × (List (List (List S234))))
 | 0,_,_,_=>none
 | k8 + 1,q5,p6,p7=>if p7 < (q5.length : Int) then if 0 ≤ p7 then ((laws_markInsSS.f k8 (rdOf ([] : List (List S234)) q5 p7) p6).bind fun t11=>laws_markInsSSS.l0 k8 (q5.set p7.toNat t11.2) t11.1 (wrap64 (p7 + 1))) else none else some (p6,q5)
def laws_markInsSSS.f (k : Nat) (l0 : List (List (List S234))) (a1 : Int) : Option (Int × (List (List (List S234)))):=laws_markInsSSS.l0 k l0 a1 0
theorem laws_markInsSSS.ok {k : Nat} {l0 : List (List (List S234))} {a1 : Int} {r : Int × (List (List (List S234)))} (H : laws_markInsSSS.f k l0 a1 = some r) : ACalls Tryz.prog 80 [(0,.drow false [.own 147 [.own 234 []]] 145 1 (l0.map (eL 1 (eL 4 (e234)))))] [.row 0,.lit (.int .i64 a1)] [(0,.drow false [.own 147 [.own 234 []]] 145 1 (r.2.map (eL 1 (eL 4 (e234)))))] (.lit (.int .i64 r.1)):=by
 refine acalls (fn:=Tryz.f80) (nt:=19) Tryz.func80 rfl rfl (Nat.le_of_ble_eq_true rfl) fun E hE=>?_
 rw [laws_markInsSSS.f] at H
 refine aw_grp1<|wk_start<|kv g0 asg<|wk_end<|ac_next<|aw_grp1<|aw_grp1<|wk_start<|kv g0 asg<|wk_end<|ac_next<|aw_block ?_
 refine aw_loop3 (fun (k_ : Nat) (q5 : List (List (List S234))) (p6 : Int) (p7 : Int)=>k_ ≤ k∧laws_markInsSSS.l0 k_ q5 p6 p7 = some r) (fun (q5 : List (List (List S234))) (p6 : Int) (p7 : Int)=>⟨[(0,.row 0),(1,.lit (.int .i64 p6)),(5,.lit (.int .i64 p7))],[(0,.drow false [.own 147 [.own 234 []]] 145 1 (q5.map (eL 1 (eL 4 (e234)))))]⟩) k l0 a1 0 ⟨Nat.le_refl _,H⟩ (fun K_ h_=>acw hE [(0,0)] 9999 h_) (fun _ _ _=>by intro h_;have h_:=h_.2;rw [laws_markInsSSS.l0.eq_1] at h_;cases h_) ?_
 intro k8 q5 p6 p7 hq_ K13 hK14
 have hk8:=hq_.1
 have H:=hq_.2
 clear hq_
 rw [laws_markInsSSS.l0.eq_2] at H
 refine aw_grp1<|aw_grp1<|wk_start<|kv g0 mv<|kv g0 mv<|kv g0 (lnD lenE)<|kv g0 lss<|wk_end<|ac_next ?_
 by_cases c9 : p7 < (q5.length : Int)
 ·rw [if_pos c9] at H
  refine aw_ifT ?_ (decide_eq_true c9)
  refine aw_skip<|ac_next<|aw_grp1<|aw_block<|wk_start<|kv g0 mv<|kv g0 mv ?_
  obtain ⟨c10,H⟩:=of_if H
  refine kv g0 (ixD 145 c10 (ltE c9))<|kcS2 15 (.row 1) [(0,.drow true [.own 147 [.own 234 []]] 145 1 ((q5.map (eL 1 (eL 4 e234))).set p7.toNat (.row 1))),(1,.drow false [.own 234 []] 147 1 ((rdOf ([] : List (List S234)) q5 p7).map (eL 4 e234)))] g0 (okv_gh (tk 0 1 0 (.row 1) (getE (f:=eL 1 (eL 4 e234)) (z:=([] : List (List S234))) c10 c9) rfl rfl) (ldD (.row 1) (setXG (f:=eL 1 (eL 4 e234)) (X:=.row 1) c10 c9) rfl)).owp rfl rfl<|kv g0 mv ?_
  obtain ⟨t11,A12,H⟩:=of_bind H
  refine kcS1 17 (.lit (.int .i64 t11.1)) [(1,.drow false [.own 234 []] 147 1 (t11.2.map (eL 4 e234)))] g0 (cal (laws_markInsSS.ok A12) [1] 9999 .n (hf:=Tryz.func168)) rfl rfl<|kv g0 asg<|wk_end<|ac_blkN<|ac_next<|wk_start<|kv g0 mv<|kv g0 add6<|kv g0 asg<|wk_end<|ac_g2 (pk 0 1 0 (.sl .n 1 (t11.2.map (eL 4 e234))) (setXG (f:=eL 1 (eL 4 e234)) (X:=.row 1) c10 c9) setXX rfl)<|ac_g1 (sealD 0 (setSeal (f:=eL 1 (eL 4 e234)) p7.toNat t11.2) clL)<|ac_k ?_
  exact acw hE [(0,0)] 9999 (hK14 k8 (q5.set p7.toNat t11.2) t11.1 (wrap64 (p7 + 1)) (Nat.le_refl _) ⟨by omega,H⟩)
 rw [if_neg c9] at H
 refine aw_ifF ?_ (decide_eq_false c9)
 refine aw_exit<|ac_then<|ac_then<|ac_hit rfl<|ac_next<|aw_grp1<|wk_start<|kv g0 mv<|kv g0 asg<|wk_end<|ac_next<|aw_ret ?_
 obtain rfl:=Option.some.inj H
 exact acr hE [.tmp 4] (.tmp .nil) (.one _) [(0,0)] 9999
/-! laws_markItemS -/
def laws_markItemS.l0 : Nat→(List S63)→Int→Int→Option (Int × (List S63))
 | 0,_,_,_=>none
 | k6 + 1,q3,p4,p5=>if p5 < (q3.length : Int) then if 0 ≤ p5 then laws_markItemS.l0 k6 (q3.set p5.toNat (⟨p4,wrap64 (p4 + 1),wrap64 ((wrap64 (p4 + 1)) + 1),wrap64 ((wrap64 ((wrap64 (p4 + 1)) + 1)) + 1)⟩ : S63)) (wrap64 ((wrap64 ((wrap64 ((wrap64 (p4 + 1)) + 1)) + 1)) + 1)) (wrap64 (p5 + 1)) else none else some (p4,q3)
def laws_markItemS.f (k : Nat) (l0 : List S63) (a1 : Int) : Option (Int × (List S63)):=laws_markItemS.l0 k l0 a1 0
theorem laws_markItemS.ok {k : Nat} {l0 : List S63} {a1 : Int} {r : Int × (List S63)} (H : laws_markItemS.f k l0 a1 = some r) : ACalls Tryz.prog 169 [(0,.row 63 4 (l0.map e63))] [.row 0,.lit (.int .i64 a1)] [(0,.row 63 4 (r.2.map e63))] (.lit (.int .i64 r.1)):=by
 refine acalls (fn:=Tryz.f169) (nt:=41) Tryz.func169 rfl rfl (Nat.le_of_ble_eq_true rfl) fun E hE=>?_
 rw [laws_markItemS.f] at H
 refine aw_grp1<|wk_start<|kv g0 asg<|wk_end<|ac_next<|aw_grp1<|aw_grp1<|wk_start<|kv g0 asg<|wk_end<|ac_next<|aw_block ?_
 refine aw_loop3 (fun (k_ : Nat) (q3 : List S63) (p4 : Int) (p5 : Int)=>k_ ≤ k∧laws_markItemS.l0 k_ q3 p4 p5 = some r) (fun (q3 : List S63) (p4 : Int) (p5 : Int)=>⟨[(0,.row 0),(1,.lit (.int .i64 p4)),(5,.lit (.int .i64 p5))],[(0,.row 63 4 (q3.map e63))]⟩) k l0 a1 0 ⟨Nat.le_refl _,H⟩ (fun K_ h_=>acw hE [(0,0)] 9999 h_) (fun _ _ _=>by intro h_;have h_:=h_.2;rw [laws_markItemS.l0.eq_1] at h_;cases h_) ?_
 intro k6 q3 p4 p5 hq_ K9 hK10
 have hk6:=hq_.1
 have H:=hq_.2
 clear hq_
 rw [laws_markItemS.l0.eq_2] at H
 refine aw_grp1<|aw_grp1<|wk_start<|kv g0 mv<|kv g0 mv<|kv g0 (lnR lenE)<|kv g0 lss<|wk_end<|ac_next ?_
 by_cases c7 : p5 < (q3.length : Int)
 ·rw [if_pos c7] at H
  refine aw_ifT ?_ (decide_eq_true c7)
  refine aw_skip<|ac_next<|aw_grp1<|aw_block<|aw_grp1<|wk_start<|kv g0 mv<|kv g0 mv<|kv g0 mv ?_
  obtain ⟨c8,H⟩:=of_if H
  refine kv g0 (ixR 63 c8 (ltE c7))<|kv g0 (faE 0 0)<|ks g0 (stE 1 (e63 (⟨p4,(rd_T63 q3 p5).f1,(rd_T63 q3 p5).f2,(rd_T63 q3 p5).f3⟩ : S63)) ((q3.set p5.toNat (⟨p4,(rd_T63 q3 p5).f1,(rd_T63 q3 p5).f2,(rd_T63 q3 p5).f3⟩ : S63)).map e63) (getE (z:=z63) c8 c7) setE)<|wk_end<|ac_next<|aw_grp1<|wk_start<|kv g0 mv<|kv g0 add6<|kv g0 asg<|wk_end<|ac_next<|aw_grp1<|wk_start<|kv g0 mv<|kv g0 mv<|kv g0 mv<|kv g0 (ixR 63 c8 (ltE (ls c7)))<|kv g0 (faE 1 1)<|ks g0 (stE 1 (e63 (⟨p4,wrap64 (p4 + 1),(rd_T63 q3 p5).f2,(rd_T63 q3 p5).f3⟩ : S63)) ((q3.set p5.toNat (⟨p4,wrap64 (p4 + 1),(rd_T63 q3 p5).f2,(rd_T63 q3 p5).f3⟩ : S63)).map e63) (setG c8 (ls c7)) setE2)<|wk_end<|ac_next<|aw_grp1<|wk_start<|kv g0 mv<|kv g0 add6<|kv g0 asg<|wk_end<|ac_next<|aw_grp1<|wk_start<|kv g0 mv<|kv g0 mv<|kv g0 mv<|kv g0 (ixR 63 c8 (ltE (ls c7)))<|kv g0 (faE 2 2)<|ks g0 (stE 1 (e63 (⟨p4,wrap64 (p4 + 1),wrap64 ((wrap64 (p4 + 1)) + 1),(rd_T63 q3 p5).f3⟩ : S63)) ((q3.set p5.toNat (⟨p4,wrap64 (p4 + 1),wrap64 ((wrap64 (p4 + 1)) + 1),(rd_T63 q3 p5).f3⟩ : S63)).map e63) (setG c8 (ls c7)) setE2)<|wk_end<|ac_next<|aw_grp1 ?_
  refine wk_start<|kv g0 mv<|kv g0 add6<|kv g0 asg<|wk_end<|ac_next<|aw_grp1<|wk_start<|kv g0 mv<|kv g0 mv<|kv g0 mv<|kv g0 (ixR 63 c8 (ltE (ls c7)))<|kv g0 (faE 3 3)<|ks g0 (stE 1 (e63 (⟨p4,wrap64 (p4 + 1),wrap64 ((wrap64 (p4 + 1)) + 1),wrap64 ((wrap64 ((wrap64 (p4 + 1)) + 1)) + 1)⟩ : S63)) ((q3.set p5.toNat (⟨p4,wrap64 (p4 + 1),wrap64 ((wrap64 (p4 + 1)) + 1),wrap64 ((wrap64 ((wrap64 (p4 + 1)) + 1)) + 1)⟩ : S63)).map e63) (setG c8 (ls c7)) setE2)<|wk_end<|ac_next<|wk_start<|kv g0 mv<|kv g0 add6<|kv g0 asg<|wk_end<|ac_blkN<|ac_next<|wk_start<|kv g0 mv<|kv g0 add6<|kv g0 asg<|wk_end<|ac_k ?_
  exact acw hE [(0,0)] 9999 (hK10 k6 (q3.set p5.toNat (⟨p4,wrap64 (p4 + 1),wrap64 ((wrap64 (p4 + 1)) + 1),wrap64 ((wrap64 ((wrap64 (p4 + 1)) + 1)) + 1)⟩ : S63)) (wrap64 ((wrap64 ((wrap64 ((wrap64 (p4 + 1)) + 1)) + 1)) + 1)) (wrap64 (p5 + 1)) (Nat.le_refl _) ⟨by omega,H⟩)
 rw [if_neg c7] at H
 refine aw_ifF ?_ (decide_eq_false c7)
 refine aw_exit<|ac_then<|ac_then<|ac_hit rfl<|ac_next<|aw_grp1<|wk_start<|kv g0 mv<|kv g0 asg<|wk_end<|ac_next<|aw_ret ?_
 obtain rfl:=Option.some.inj H
 exact acr hE [.tmp 4] (.tmp .nil) (.one _) [(0,0)] 9999
/-! laws_markRingS -/
def laws_markRingS.l0 : Nat→(List S67)→Int→Int→Option (Int × (List S67))
 | 0,_,_,_=>none
 | k8 + 1,q5,p6,p7=>if p7 < (q5.length : Int) then if 0 ≤ p7 then ((laws_markItemS.f k8 ((rd_T67 q5 p7).f0) p6).bind fun t11=>laws_markRingS.l0 k8 (q5.set p7.toNat (⟨t11.2,t11.1,wrap64 (t11.1 + 1),wrap64 ((wrap64 (t11.1 + 1)) + 1)⟩ : S67)) (wrap64 ((wrap64 ((wrap64 (t11.1 + 1)) + 1)) + 1)) (wrap64 (p7 + 1))) else none else some (p6,q5)
def laws_markRingS.f (k : Nat) (l0 : List S67) (a1 : Int) : Option (Int × (List S67)):=laws_markRingS.l0 k l0 a1 0
theorem laws_markRingS.ok {k : Nat} {l0 : List S67} {a1 : Int} {r : Int × (List S67)} (H : laws_markRingS.f k l0 a1 = some r) : ACalls Tryz.prog 81 [(0,.drow false ds67 67 4 (l0.map e67))] [.row 0,.lit (.int .i64 a1)] [(0,.drow false ds67 67 4 (r.2.map e67))] (.lit (.int .i64 r.1)):=by
 refine acalls (fn:=Tryz.f81) (nt:=41) Tryz.func81 rfl rfl (Nat.le_of_ble_eq_true rfl) fun E hE=>?_
 rw [laws_markRingS.f] at H
 refine aw_grp1<|wk_start<|kv g0 asg<|wk_end<|ac_next<|aw_grp1<|aw_grp1<|wk_start<|kv g0 asg<|wk_end<|ac_next<|aw_block ?_
 refine aw_loop3 (fun (k_ : Nat) (q5 : List S67) (p6 : Int) (p7 : Int)=>k_ ≤ k∧laws_markRingS.l0 k_ q5 p6 p7 = some r) (fun (q5 : List S67) (p6 : Int) (p7 : Int)=>⟨[(0,.row 0),(1,.lit (.int .i64 p6)),(5,.lit (.int .i64 p7))],[(0,.drow false ds67 67 4 (q5.map e67))]⟩) k l0 a1 0 ⟨Nat.le_refl _,H⟩ (fun K_ h_=>acw hE [(0,0)] 9999 h_) (fun _ _ _=>by intro h_;have h_:=h_.2;rw [laws_markRingS.l0.eq_1] at h_;cases h_) ?_
 intro k8 q5 p6 p7 hq_ K13 hK14
 have hk8:=hq_.1
 have H:=hq_.2
 clear hq_
 rw [laws_markRingS.l0.eq_2] at H
 refine aw_grp1<|aw_grp1<|wk_start<|kv g0 mv<|kv g0 mv<|kv g0 (lnD lenE)<|kv g0 lss<|wk_end<|ac_next ?_
 by_cases c9 : p7 < (q5.length : Int)
 ·rw [if_pos c9] at H
  refine aw_ifT ?_ (decide_eq_true c9)
  refine aw_skip<|ac_next<|aw_grp1<|aw_block<|aw_grp1<|wk_start<|kv g0 mv<|kv g0 mv ?_
  obtain ⟨c10,H⟩:=of_if H
  refine kv g0 (ixD 67 c10 (ltE c9))<|kv g0 (faE 0 0)<|kcS2 16 (.row 1) [(0,.drow true ds67 67 4 ((q5.map e67).set p7.toNat (.agg [.row 1,.lit (.int .i64 ((rd_T67 q5 p7).f1)),.lit (.int .i64 ((rd_T67 q5 p7).f2)),.lit (.int .i64 ((rd_T67 q5 p7).f3))]))),(1,.row 63 4 (((rd_T67 q5 p7).f0).map e63))] g0 (okv_gh (tk 0 1 0 (.agg [.row 1,.lit (.int .i64 ((rd_T67 q5 p7).f1)),.lit (.int .i64 ((rd_T67 q5 p7).f2)),.lit (.int .i64 ((rd_T67 q5 p7).f3))]) (getE (f:=e67) (z:=z67) c10 c9) rfl rfl) (ldD (.row 1) (setXG (f:=e67) (X:=.agg [.row 1,.lit (.int .i64 ((rd_T67 q5 p7).f1)),.lit (.int .i64 ((rd_T67 q5 p7).f2)),.lit (.int .i64 ((rd_T67 q5 p7).f3))]) c10 c9) rfl)).owp rfl rfl<|kv g0 mv ?_
  obtain ⟨t11,A12,H⟩:=of_bind H
  refine kcS1 18 (.lit (.int .i64 t11.1)) [(1,.row 63 4 (t11.2.map e63))] g0 (cal (laws_markItemS.ok A12) [1] 9999 .n (hf:=Tryz.func169)) rfl rfl<|kv g0 asg<|wk_end<|ac_next<|aw_grp1<|wk_start<|kv g0 mv<|kv g0 mv<|kv g0 mv<|kv g0 (ixD 67 c10 (ltS (ltE c9)))<|kv g0 (faE 1 1)<|ks g0 (stD 4 ds67 1 1 [.lit (.int .i64 t11.1)] (.agg [.row 1,.lit (.int .i64 t11.1),.lit (.int .i64 ((rd_T67 q5 p7).f2)),.lit (.int .i64 ((rd_T67 q5 p7).f3))]) (setXG (f:=e67) (X:=.agg [.row 1,.lit (.int .i64 ((rd_T67 q5 p7).f1)),.lit (.int .i64 ((rd_T67 q5 p7).f2)),.lit (.int .i64 ((rd_T67 q5 p7).f3))]) c10 c9) setXX)<|wk_end<|ac_next<|aw_grp1<|wk_start<|kv g0 mv<|kv g0 add6<|kv g0 asg<|wk_end<|ac_next<|aw_grp1<|wk_start<|kv g0 mv<|kv g0 mv<|kv g0 mv<|kv g0 (ixD 67 c10 (ltS (ltE c9)))<|kv g0 (faE 2 2)<|ks g0 (stD 4 ds67 2 1 [.lit (.int .i64 (wrap64 (t11.1 + 1)))] (.agg [.row 1,.lit (.int .i64 t11.1),.lit (.int .i64 (wrap64 (t11.1 + 1))),.lit (.int .i64 ((rd_T67 q5 p7).f3))]) (setXG (f:=e67) (X:=.agg [.row 1,.lit (.int .i64 t11.1),.lit (.int .i64 ((rd_T67 q5 p7).f2)),.lit (.int .i64 ((rd_T67 q5 p7).f3))]) c10 c9) setXX)<|wk_end<|ac_next<|aw_grp1<|wk_start<|kv g0 mv<|kv g0 add6<|kv g0 asg<|wk_end<|ac_next<|aw_grp1<|wk_start ?_
  refine kv g0 mv<|kv g0 mv<|kv g0 mv<|kv g0 (ixD 67 c10 (ltS (ltE c9)))<|kv g0 (faE 3 3)<|ks g0 (stD 4 ds67 3 1 [.lit (.int .i64 (wrap64 ((wrap64 (t11.1 + 1)) + 1)))] (.agg [.row 1,.lit (.int .i64 t11.1),.lit (.int .i64 (wrap64 (t11.1 + 1))),.lit (.int .i64 (wrap64 ((wrap64 (t11.1 + 1)) + 1)))]) (setXG (f:=e67) (X:=.agg [.row 1,.lit (.int .i64 t11.1),.lit (.int .i64 (wrap64 (t11.1 + 1))),.lit (.int .i64 ((rd_T67 q5 p7).f3))]) c10 c9) setXX)<|wk_end<|ac_next<|wk_start<|kv g0 mv<|kv g0 add6<|kv g0 asg<|wk_end<|ac_blkN<|ac_next<|wk_start<|kv g0 mv<|kv g0 add6<|kv g0 asg<|wk_end<|ac_g2 (pk 0 1 0 (.agg [.sl .n 4 (t11.2.map e63),.lit (.int .i64 t11.1),.lit (.int .i64 (wrap64 (t11.1 + 1))),.lit (.int .i64 (wrap64 ((wrap64 (t11.1 + 1)) + 1)))]) (setXG (f:=e67) (X:=.agg [.row 1,.lit (.int .i64 t11.1),.lit (.int .i64 (wrap64 (t11.1 + 1))),.lit (.int .i64 (wrap64 ((wrap64 (t11.1 + 1)) + 1)))]) c10 c9) setXX rfl)<|ac_g1 (sealD 0 (setSeal (f:=e67) p7.toNat (⟨t11.2,t11.1,wrap64 (t11.1 + 1),wrap64 ((wrap64 (t11.1 + 1)) + 1)⟩ : S67)) cl67)<|ac_k ?_
  exact acw hE [(0,0)] 9999 (hK14 k8 (q5.set p7.toNat (⟨t11.2,t11.1,wrap64 (t11.1 + 1),wrap64 ((wrap64 (t11.1 + 1)) + 1)⟩ : S67)) (wrap64 ((wrap64 ((wrap64 (t11.1 + 1)) + 1)) + 1)) (wrap64 (p7 + 1)) (Nat.le_refl _) ⟨by omega,H⟩)
 rw [if_neg c9] at H
 refine aw_ifF ?_ (decide_eq_false c9)
 refine aw_exit<|ac_then<|ac_then<|ac_hit rfl<|ac_next<|aw_grp1<|wk_start<|kv g0 mv<|kv g0 asg<|wk_end<|ac_next<|aw_ret ?_
 obtain rfl:=Option.some.inj H
 exact acr hE [.tmp 4] (.tmp .nil) (.one _) [(0,0)] 9999
/-! laws_markSenderS -/
def laws_markSenderS.l0 : Nat→(List S65)→Int→Int→Option (Int × (List S65))
 | 0,_,_,_=>none
 | k8 + 1,q5,p6,p7=>if p7 < (q5.length : Int) then if 0 ≤ p7 then (laws_markItemS.f k8 ((rd_T65 q5 p7).f2) (wrap64 ((wrap64 (p6 + 1)) + 1))).bind fun t11=>laws_markSenderS.l0 k8 (q5.set p7.toNat (⟨p6,wrap64 (p6 + 1),t11.2,t11.1,wrap64 (t11.1 + 1)⟩ : S65)) (wrap64 ((wrap64 (t11.1 + 1)) + 1)) (wrap64 (p7 + 1)) else none else some (p6,q5)
def laws_markSenderS.f (k : Nat) (l0 : List S65) (a1 : Int) : Option (Int × (List S65)):=laws_markSenderS.l0 k l0 a1 0
theorem laws_markSenderS.ok {k : Nat} {l0 : List S65} {a1 : Int} {r : Int × (List S65)} (H : laws_markSenderS.f k l0 a1 = some r) : ACalls Tryz.prog 82 [(0,.drow false ds65 65 5 (l0.map e65))] [.row 0,.lit (.int .i64 a1)] [(0,.drow false ds65 65 5 (r.2.map e65))] (.lit (.int .i64 r.1)):=by
 refine acalls (fn:=Tryz.f82) (nt:=48) Tryz.func82 rfl rfl (Nat.le_of_ble_eq_true rfl) fun E hE=>?_
 rw [laws_markSenderS.f] at H
 refine aw_grp1<|wk_start<|kv g0 asg<|wk_end<|ac_next<|aw_grp1<|aw_grp1<|wk_start<|kv g0 asg<|wk_end<|ac_next<|aw_block ?_
 refine aw_loop3 (fun (k_ : Nat) (q5 : List S65) (p6 : Int) (p7 : Int)=>k_ ≤ k∧laws_markSenderS.l0 k_ q5 p6 p7 = some r) (fun (q5 : List S65) (p6 : Int) (p7 : Int)=>⟨[(0,.row 0),(1,.lit (.int .i64 p6)),(5,.lit (.int .i64 p7))],[(0,.drow false ds65 65 5 (q5.map e65))]⟩) k l0 a1 0 ⟨Nat.le_refl _,H⟩ (fun K_ h_=>acw hE [(0,0)] 9999 h_) (fun _ _ _=>by intro h_;have h_:=h_.2;rw [laws_markSenderS.l0.eq_1] at h_;cases h_) ?_
 intro k8 q5 p6 p7 hq_ K13 hK14
 have hk8:=hq_.1
 have H:=hq_.2
 clear hq_
 rw [laws_markSenderS.l0.eq_2] at H
 refine aw_grp1<|aw_grp1<|wk_start<|kv g0 mv<|kv g0 mv<|kv g0 (lnD lenE)<|kv g0 lss<|wk_end<|ac_next ?_
 by_cases c9 : p7 < (q5.length : Int)
 ·rw [if_pos c9] at H
  refine aw_ifT ?_ (decide_eq_true c9)
  refine aw_skip<|ac_next<|aw_grp1<|aw_block<|aw_grp1<|wk_start<|kv g0 mv<|kv g0 mv<|kv g0 mv ?_
  obtain ⟨c10,H⟩:=of_if H
  refine kv g0 (ixD 65 c10 (ltE c9))<|kv g0 (faE 0 0)<|ks g0 (stD 5 ds65 0 1 [.lit (.int .i64 p6)] (.agg [.lit (.int .i64 p6),.lit (.int .i64 ((rd_T65 q5 p7).f1)),.sl .n 4 (((rd_T65 q5 p7).f2).map e63),.lit (.int .i64 ((rd_T65 q5 p7).f3)),.lit (.int .i64 ((rd_T65 q5 p7).f4))]) (getE (f:=e65) (z:=z65) c10 c9) rfl)<|wk_end<|ac_next<|aw_grp1<|wk_start<|kv g0 mv<|kv g0 add6<|kv g0 asg<|wk_end<|ac_next<|aw_grp1<|wk_start<|kv g0 mv<|kv g0 mv<|kv g0 mv<|kv g0 (ixD 65 c10 (ltS (ltE c9)))<|kv g0 (faE 1 1)<|ks g0 (stD 5 ds65 1 1 [.lit (.int .i64 (wrap64 (p6 + 1)))] (.agg [.lit (.int .i64 p6),.lit (.int .i64 (wrap64 (p6 + 1))),.sl .n 4 (((rd_T65 q5 p7).f2).map e63),.lit (.int .i64 ((rd_T65 q5 p7).f3)),.lit (.int .i64 ((rd_T65 q5 p7).f4))]) (setXG (f:=e65) (X:=.agg [.lit (.int .i64 p6),.lit (.int .i64 ((rd_T65 q5 p7).f1)),.sl .n 4 (((rd_T65 q5 p7).f2).map e63),.lit (.int .i64 ((rd_T65 q5 p7).f3)),.lit (.int .i64 ((rd_T65 q5 p7).f4))]) c10 c9) setXX)<|wk_end<|ac_next<|aw_grp1<|wk_start<|kv g0 mv<|kv g0 add6<|kv g0 asg<|wk_end<|ac_next<|aw_grp1<|wk_start<|kv g0 mv<|kv g0 mv<|kv g0 (ixD 65 c10 (ltS (ltE c9)))<|kv g0 (faE 2 2)<|kcS2 30 (.row 1) [(0,.drow true ds65 65 5 ((q5.map e65).set p7.toNat (.agg [.lit (.int .i64 p6),.lit (.int .i64 (wrap64 (p6 + 1))),.row 1,.lit (.int .i64 ((rd_T65 q5 p7).f3)),.lit (.int .i64 ((rd_T65 q5 p7).f4))]))),(1,.row 63 4 (((rd_T65 q5 p7).f2).map e63))] g0 (okv_gh (tk 0 1 2 (.agg [.lit (.int .i64 p6),.lit (.int .i64 (wrap64 (p6 + 1))),.row 1,.lit (.int .i64 ((rd_T65 q5 p7).f3)),.lit (.int .i64 ((rd_T65 q5 p7).f4))]) (setXG (f:=e65) (X:=.agg [.lit (.int .i64 p6),.lit (.int .i64 (wrap64 (p6 + 1))),.sl .n 4 (((rd_T65 q5 p7).f2).map e63),.lit (.int .i64 ((rd_T65 q5 p7).f3)),.lit (.int .i64 ((rd_T65 q5 p7).f4))]) c10 c9) setXX rfl) (ldD (.row 1) (setXG (f:=e65) (X:=.agg [.lit (.int .i64 p6),.lit (.int .i64 (wrap64 (p6 + 1))),.row 1,.lit (.int .i64 ((rd_T65 q5 p7).f3)),.lit (.int .i64 ((rd_T65 q5 p7).f4))]) c10 c9) rfl)).owp rfl rfl<|kv g0 mv ?_
  obtain ⟨t11,A12,H⟩:=of_bind H
  refine kcS1 32 (.lit (.int .i64 t11.1)) [(1,.row 63 4 (t11.2.map e63))] g0 (cal (laws_markItemS.ok A12) [1] 9999 .n (hf:=Tryz.func169)) rfl rfl<|kv g0 asg<|wk_end<|ac_next<|aw_grp1<|wk_start<|kv g0 mv<|kv g0 mv<|kv g0 mv<|kv g0 (ixD 65 c10 (ltS (ltE c9)))<|kv g0 (faE 3 3)<|ks g0 (stD 5 ds65 3 1 [.lit (.int .i64 t11.1)] (.agg [.lit (.int .i64 p6),.lit (.int .i64 (wrap64 (p6 + 1))),.row 1,.lit (.int .i64 t11.1),.lit (.int .i64 ((rd_T65 q5 p7).f4))]) (setXG (f:=e65) (X:=.agg [.lit (.int .i64 p6),.lit (.int .i64 (wrap64 (p6 + 1))),.row 1,.lit (.int .i64 ((rd_T65 q5 p7).f3)),.lit (.int .i64 ((rd_T65 q5 p7).f4))]) c10 c9) setXX)<|wk_end<|ac_next<|aw_grp1<|wk_start<|kv g0 mv<|kv g0 add6<|kv g0 asg<|wk_end<|ac_next<|aw_grp1<|wk_start<|kv g0 mv<|kv g0 mv<|kv g0 mv<|kv g0 (ixD 65 c10 (ltS (ltE c9)))<|kv g0 (faE 4 4)<|ks g0 (stD 5 ds65 4 1 [.lit (.int .i64 (wrap64 (t11.1 + 1)))] (.agg [.lit (.int .i64 p6),.lit (.int .i64 (wrap64 (p6 + 1))),.row 1,.lit (.int .i64 t11.1),.lit (.int .i64 (wrap64 (t11.1 + 1)))]) (setXG (f:=e65) (X:=.agg [.lit (.int .i64 p6),.lit (.int .i64 (wrap64 (p6 + 1))),.row 1,.lit (.int .i64 t11.1),.lit (.int .i64 ((rd_T65 q5 p7).f4))]) c10 c9) setXX)<|wk_end<|ac_next<|wk_start<|kv g0 mv<|kv g0 add6<|kv g0 asg<|wk_end<|ac_blkN<|ac_next<|wk_start<|kv g0 mv ?_
  refine kv g0 add6<|kv g0 asg<|wk_end<|ac_g2 (pk 0 1 2 (.agg [.lit (.int .i64 p6),.lit (.int .i64 (wrap64 (p6 + 1))),.sl .n 4 (t11.2.map e63),.lit (.int .i64 t11.1),.lit (.int .i64 (wrap64 (t11.1 + 1)))]) (setXG (f:=e65) (X:=.agg [.lit (.int .i64 p6),.lit (.int .i64 (wrap64 (p6 + 1))),.row 1,.lit (.int .i64 t11.1),.lit (.int .i64 (wrap64 (t11.1 + 1)))]) c10 c9) setXX rfl)<|ac_g1 (sealD 0 (setSeal (f:=e65) p7.toNat (⟨p6,wrap64 (p6 + 1),t11.2,t11.1,wrap64 (t11.1 + 1)⟩ : S65)) cl65)<|ac_k ?_
  exact acw hE [(0,0)] 9999 (hK14 k8 (q5.set p7.toNat (⟨p6,wrap64 (p6 + 1),t11.2,t11.1,wrap64 (t11.1 + 1)⟩ : S65)) (wrap64 ((wrap64 (t11.1 + 1)) + 1)) (wrap64 (p7 + 1)) (Nat.le_refl _) ⟨by omega,H⟩)
 rw [if_neg c9] at H
 refine aw_ifF ?_ (decide_eq_false c9)
 refine aw_exit<|ac_then<|ac_then<|ac_hit rfl<|ac_next<|aw_grp1<|wk_start<|kv g0 mv<|kv g0 asg<|wk_end<|ac_next<|aw_ret ?_
 obtain rfl:=Option.some.inj H
 exact acr hE [.tmp 4] (.tmp .nil) (.one _) [(0,0)] 9999
/-! laws_markEntryS -/
def laws_markEntryS.l0 : Nat→(List S139)→Int→Int→Option (Int × (List S139))
 | 0,_,_,_=>none
 | k6 + 1,q3,p4,p5=>if p5 < (q3.length : Int) then if 0 ≤ p5 then laws_markEntryS.l0 k6 (q3.set p5.toNat (⟨p4,wrap64 (p4 + 1),(⟨wrap64 ((wrap64 (p4 + 1)) + 1),wrap64 ((wrap64 ((wrap64 (p4 + 1)) + 1)) + 1),wrap64 ((wrap64 ((wrap64 ((wrap64 (p4 + 1)) + 1)) + 1)) + 1),wrap64 ((wrap64 ((wrap64 ((wrap64 ((wrap64 (p4 + 1)) + 1)) + 1)) + 1)) + 1)⟩ : S63)⟩ : S139)) (wrap64 ((wrap64 ((wrap64 ((wrap64 ((wrap64 ((wrap64 (p4 + 1)) + 1)) + 1)) + 1)) + 1)) + 1)) (wrap64 (p5 + 1)) else none else some (p4,q3)
def laws_markEntryS.f (k : Nat) (l0 : List S139) (a1 : Int) : Option (Int × (List S139)):=laws_markEntryS.l0 k l0 a1 0
theorem laws_markEntryS.ok {k : Nat} {l0 : List S139} {a1 : Int} {r : Int × (List S139)} (H : laws_markEntryS.f k l0 a1 = some r) : ACalls Tryz.prog 170 [(0,.row 139 6 (l0.map e139))] [.row 0,.lit (.int .i64 a1)] [(0,.row 139 6 (r.2.map e139))] (.lit (.int .i64 r.1)):=by
 refine acalls (fn:=Tryz.f170) (nt:=59) Tryz.func170 rfl rfl (Nat.le_of_ble_eq_true rfl) fun E hE=>?_
 rw [laws_markEntryS.f] at H
 refine aw_grp1<|wk_start<|kv g0 asg<|wk_end<|ac_next<|aw_grp1<|aw_grp1<|wk_start<|kv g0 asg<|wk_end<|ac_next<|aw_block ?_
 refine aw_loop3 (fun (k_ : Nat) (q3 : List S139) (p4 : Int) (p5 : Int)=>k_ ≤ k∧laws_markEntryS.l0 k_ q3 p4 p5 = some r) (fun (q3 : List S139) (p4 : Int) (p5 : Int)=>⟨[(0,.row 0),(1,.lit (.int .i64 p4)),(5,.lit (.int .i64 p5))],[(0,.row 139 6 (q3.map e139))]⟩) k l0 a1 0 ⟨Nat.le_refl _,H⟩ (fun K_ h_=>acw hE [(0,0)] 9999 h_) (fun _ _ _=>by intro h_;have h_:=h_.2;rw [laws_markEntryS.l0.eq_1] at h_;cases h_) ?_
 intro k6 q3 p4 p5 hq_ K9 hK10
 have hk6:=hq_.1
 have H:=hq_.2
 clear hq_
 rw [laws_markEntryS.l0.eq_2] at H
 refine aw_grp1<|aw_grp1<|wk_start<|kv g0 mv<|kv g0 mv<|kv g0 (lnR lenE)<|kv g0 lss<|wk_end<|ac_next ?_
 by_cases c7 : p5 < (q3.length : Int)
 ·rw [if_pos c7] at H
  refine aw_ifT ?_ (decide_eq_true c7)
  refine aw_skip<|ac_next<|aw_grp1<|aw_block<|aw_grp1<|wk_start<|kv g0 mv<|kv g0 mv<|kv g0 mv ?_
  obtain ⟨c8,H⟩:=of_if H
  refine kv g0 (ixR 139 c8 (ltE c7))<|kv g0 (faE 0 0)<|ks g0 (stE 1 (e139 (⟨p4,(rd_T139 q3 p5).f1,(⟨(rd_T139 q3 p5).f2.f0,(rd_T139 q3 p5).f2.f1,(rd_T139 q3 p5).f2.f2,(rd_T139 q3 p5).f2.f3⟩ : S63)⟩ : S139)) ((q3.set p5.toNat (⟨p4,(rd_T139 q3 p5).f1,(⟨(rd_T139 q3 p5).f2.f0,(rd_T139 q3 p5).f2.f1,(rd_T139 q3 p5).f2.f2,(rd_T139 q3 p5).f2.f3⟩ : S63)⟩ : S139)).map e139) (getE (z:=z139) c8 c7) setE)<|wk_end<|ac_next<|aw_grp1<|wk_start<|kv g0 mv<|kv g0 add6<|kv g0 asg<|wk_end<|ac_next<|aw_grp1<|wk_start<|kv g0 mv<|kv g0 mv<|kv g0 mv<|kv g0 (ixR 139 c8 (ltE (ls c7)))<|kv g0 (faE 1 1)<|ks g0 (stE 1 (e139 (⟨p4,wrap64 (p4 + 1),(⟨(rd_T139 q3 p5).f2.f0,(rd_T139 q3 p5).f2.f1,(rd_T139 q3 p5).f2.f2,(rd_T139 q3 p5).f2.f3⟩ : S63)⟩ : S139)) ((q3.set p5.toNat (⟨p4,wrap64 (p4 + 1),(⟨(rd_T139 q3 p5).f2.f0,(rd_T139 q3 p5).f2.f1,(rd_T139 q3 p5).f2.f2,(rd_T139 q3 p5).f2.f3⟩ : S63)⟩ : S139)).map e139) (setG c8 (ls c7)) setE2)<|wk_end<|ac_next<|aw_grp1<|wk_start<|kv g0 mv<|kv g0 add6<|kv g0 asg<|wk_end<|ac_next<|aw_grp1<|wk_start<|kv g0 mv<|kv g0 mv<|kv g0 mv<|kv g0 (ixR 139 c8 (ltE (ls c7)))<|kv g0 (faE 2 2)<|kv g0 (faE 0 2)<|ks g0 (stE 1 (e139 (⟨p4,wrap64 (p4 + 1),(⟨wrap64 ((wrap64 (p4 + 1)) + 1),(rd_T139 q3 p5).f2.f1,(rd_T139 q3 p5).f2.f2,(rd_T139 q3 p5).f2.f3⟩ : S63)⟩ : S139)) ((q3.set p5.toNat (⟨p4,wrap64 (p4 + 1),(⟨wrap64 ((wrap64 (p4 + 1)) + 1),(rd_T139 q3 p5).f2.f1,(rd_T139 q3 p5).f2.f2,(rd_T139 q3 p5).f2.f3⟩ : S63)⟩ : S139)).map e139) (setG c8 (ls c7)) setE2)<|wk_end<|ac_next ?_
  refine aw_grp1<|wk_start<|kv g0 mv<|kv g0 add6<|kv g0 asg<|wk_end<|ac_next<|aw_grp1<|wk_start<|kv g0 mv<|kv g0 mv<|kv g0 mv<|kv g0 (ixR 139 c8 (ltE (ls c7)))<|kv g0 (faE 2 2)<|kv g0 (faE 1 3)<|ks g0 (stE 1 (e139 (⟨p4,wrap64 (p4 + 1),(⟨wrap64 ((wrap64 (p4 + 1)) + 1),wrap64 ((wrap64 ((wrap64 (p4 + 1)) + 1)) + 1),(rd_T139 q3 p5).f2.f2,(rd_T139 q3 p5).f2.f3⟩ : S63)⟩ : S139)) ((q3.set p5.toNat (⟨p4,wrap64 (p4 + 1),(⟨wrap64 ((wrap64 (p4 + 1)) + 1),wrap64 ((wrap64 ((wrap64 (p4 + 1)) + 1)) + 1),(rd_T139 q3 p5).f2.f2,(rd_T139 q3 p5).f2.f3⟩ : S63)⟩ : S139)).map e139) (setG c8 (ls c7)) setE2)<|wk_end<|ac_next<|aw_grp1<|wk_start<|kv g0 mv<|kv g0 add6<|kv g0 asg<|wk_end<|ac_next<|aw_grp1<|wk_start<|kv g0 mv<|kv g0 mv<|kv g0 mv<|kv g0 (ixR 139 c8 (ltE (ls c7)))<|kv g0 (faE 2 2)<|kv g0 (faE 2 4)<|ks g0 (stE 1 (e139 (⟨p4,wrap64 (p4 + 1),(⟨wrap64 ((wrap64 (p4 + 1)) + 1),wrap64 ((wrap64 ((wrap64 (p4 + 1)) + 1)) + 1),wrap64 ((wrap64 ((wrap64 ((wrap64 (p4 + 1)) + 1)) + 1)) + 1),(rd_T139 q3 p5).f2.f3⟩ : S63)⟩ : S139)) ((q3.set p5.toNat (⟨p4,wrap64 (p4 + 1),(⟨wrap64 ((wrap64 (p4 + 1)) + 1),wrap64 ((wrap64 ((wrap64 (p4 + 1)) + 1)) + 1),wrap64 ((wrap64 ((wrap64 ((wrap64 (p4 + 1)) + 1)) + 1)) + 1),(rd_T139 q3 p5).f2.f3⟩ : S63)⟩ : S139)).map e139) (setG c8 (ls c7)) setE2)<|wk_end<|ac_next<|aw_grp1<|wk_start<|kv g0 mv<|kv g0 add6 ?_
  refine kv g0 asg<|wk_end<|ac_next<|aw_grp1<|wk_start<|kv g0 mv<|kv g0 mv<|kv g0 mv<|kv g0 (ixR 139 c8 (ltE (ls c7)))<|kv g0 (faE 2 2)<|kv g0 (faE 3 5)<|ks g0 (stE 1 (e139 (⟨p4,wrap64 (p4 + 1),(⟨wrap64 ((wrap64 (p4 + 1)) + 1),wrap64 ((wrap64 ((wrap64 (p4 + 1)) + 1)) + 1),wrap64 ((wrap64 ((wrap64 ((wrap64 (p4 + 1)) + 1)) + 1)) + 1),wrap64 ((wrap64 ((wrap64 ((wrap64 ((wrap64 (p4 + 1)) + 1)) + 1)) + 1)) + 1)⟩ : S63)⟩ : S139)) ((q3.set p5.toNat (⟨p4,wrap64 (p4 + 1),(⟨wrap64 ((wrap64 (p4 + 1)) + 1),wrap64 ((wrap64 ((wrap64 (p4 + 1)) + 1)) + 1),wrap64 ((wrap64 ((wrap64 ((wrap64 (p4 + 1)) + 1)) + 1)) + 1),wrap64 ((wrap64 ((wrap64 ((wrap64 ((wrap64 (p4 + 1)) + 1)) + 1)) + 1)) + 1)⟩ : S63)⟩ : S139)).map e139) (setG c8 (ls c7)) setE2)<|wk_end<|ac_next<|wk_start<|kv g0 mv<|kv g0 add6<|kv g0 asg<|wk_end<|ac_blkN<|ac_next<|wk_start<|kv g0 mv<|kv g0 add6<|kv g0 asg<|wk_end<|ac_k ?_
  exact acw hE [(0,0)] 9999 (hK10 k6 (q3.set p5.toNat (⟨p4,wrap64 (p4 + 1),(⟨wrap64 ((wrap64 (p4 + 1)) + 1),wrap64 ((wrap64 ((wrap64 (p4 + 1)) + 1)) + 1),wrap64 ((wrap64 ((wrap64 ((wrap64 (p4 + 1)) + 1)) + 1)) + 1),wrap64 ((wrap64 ((wrap64 ((wrap64 ((wrap64 (p4 + 1)) + 1)) + 1)) + 1)) + 1)⟩ : S63)⟩ : S139)) (wrap64 ((wrap64 ((wrap64 ((wrap64 ((wrap64 ((wrap64 (p4 + 1)) + 1)) + 1)) + 1)) + 1)) + 1)) (wrap64 (p5 + 1)) (Nat.le_refl _) ⟨by omega,H⟩)
 rw [if_neg c7] at H
 refine aw_ifF ?_ (decide_eq_false c7)
 refine aw_exit<|ac_then<|ac_then<|ac_hit rfl<|ac_next<|aw_grp1<|wk_start<|kv g0 mv<|kv g0 asg<|wk_end<|ac_next<|aw_ret ?_
 obtain rfl:=Option.some.inj H
 exact acr hE [.tmp 4] (.tmp .nil) (.one _) [(0,0)] 9999
/-! laws_markIntS -/
def laws_markIntS.l0 : Nat→(List Int)→Int→Int→Option (Int × (List Int))
 | 0,_,_,_=>none
 | k6 + 1,q3,p4,p5=>if p5 < (q3.length : Int) then if 0 ≤ p5 then laws_markIntS.l0 k6 (q3.set p5.toNat p4) (wrap64 (p4 + 1)) (wrap64 (p5 + 1)) else none else some (p4,q3)
def laws_markIntS.f (k : Nat) (l0 : List Int) (a1 : Int) : Option (Int × (List Int)):=laws_markIntS.l0 k l0 a1 0
theorem laws_markIntS.ok {k : Nat} {l0 : List Int} {a1 : Int} {r : Int × (List Int)} (H : laws_markIntS.f k l0 a1 = some r) : ACalls Tryz.prog 37 [(0,.row 3 1 (l0.map (eI .i64)))] [.row 0,.lit (.int .i64 a1)] [(0,.row 3 1 (r.2.map (eI .i64)))] (.lit (.int .i64 r.1)):=by
 refine acalls (fn:=Tryz.f37) (nt:=19) Tryz.func37 rfl rfl (Nat.le_of_ble_eq_true rfl) fun E hE=>?_
 rw [laws_markIntS.f] at H
 refine aw_grp1<|wk_start<|kv g0 asg<|wk_end<|ac_next<|aw_grp1<|aw_grp1<|wk_start<|kv g0 asg<|wk_end<|ac_next<|aw_block ?_
 refine aw_loop3 (fun (k_ : Nat) (q3 : List Int) (p4 : Int) (p5 : Int)=>k_ ≤ k∧laws_markIntS.l0 k_ q3 p4 p5 = some r) (fun (q3 : List Int) (p4 : Int) (p5 : Int)=>⟨[(0,.row 0),(1,.lit (.int .i64 p4)),(5,.lit (.int .i64 p5))],[(0,.row 3 1 (q3.map (eI .i64)))]⟩) k l0 a1 0 ⟨Nat.le_refl _,H⟩ (fun K_ h_=>acw hE [(0,0)] 9999 h_) (fun _ _ _=>by intro h_;have h_:=h_.2;rw [laws_markIntS.l0.eq_1] at h_;cases h_) ?_
 intro k6 q3 p4 p5 hq_ K9 hK10
 have hk6:=hq_.1
 have H:=hq_.2
 clear hq_
 rw [laws_markIntS.l0.eq_2] at H
 refine aw_grp1<|aw_grp1<|wk_start<|kv g0 mv<|kv g0 mv<|kv g0 (lnR lenE)<|kv g0 lss<|wk_end<|ac_next ?_
 by_cases c7 : p5 < (q3.length : Int)
 ·rw [if_pos c7] at H
  refine aw_ifT ?_ (decide_eq_true c7)
  refine aw_skip<|ac_next<|aw_grp1<|aw_block<|aw_grp1<|wk_start<|kv g0 mv<|kv g0 mv<|kv g0 mv ?_
  obtain ⟨c8,H⟩:=of_if H
  refine kv g0 (ixR 3 c8 (ltE c7))<|ks g0 (stE 1 (eI .i64 p4) ((q3.set p5.toNat p4).map (eI .i64)) (getE (z:=(0 : Int)) c8 c7) setE)<|wk_end<|ac_next<|wk_start<|kv g0 mv<|kv g0 add6<|kv g0 asg<|wk_end<|ac_blkN<|ac_next<|wk_start<|kv g0 mv<|kv g0 add6<|kv g0 asg<|wk_end<|ac_k ?_
  exact acw hE [(0,0)] 9999 (hK10 k6 (q3.set p5.toNat p4) (wrap64 (p4 + 1)) (wrap64 (p5 + 1)) (Nat.le_refl _) ⟨by omega,H⟩)
 rw [if_neg c7] at H
 refine aw_ifF ?_ (decide_eq_false c7)
 refine aw_exit<|ac_then<|ac_then<|ac_hit rfl<|ac_next<|aw_grp1<|wk_start<|kv g0 mv<|kv g0 asg<|wk_end<|ac_next<|aw_ret ?_
 obtain rfl:=Option.some.inj H
 exact acr hE [.tmp 4] (.tmp .nil) (.one _) [(0,0)] 9999
/-! laws_markEarlyS -/
def laws_markEarlyS.l0 : Nat→(List S154)→Int→Int→Option (Int × (List S154))
 | 0,_,_,_=>none
 | k6 + 1,q3,p4,p5=>if p5 < (q3.length : Int) then if 0 ≤ p5 then laws_markEarlyS.l0 k6 (q3.set p5.toNat (⟨p4,wrap64 (p4 + 1),(⟨wrap64 ((wrap64 (p4 + 1)) + 1),wrap64 ((wrap64 ((wrap64 (p4 + 1)) + 1)) + 1),wrap64 ((wrap64 ((wrap64 ((wrap64 (p4 + 1)) + 1)) + 1)) + 1),wrap64 ((wrap64 ((wrap64 ((wrap64 ((wrap64 (p4 + 1)) + 1)) + 1)) + 1)) + 1)⟩ : S63)⟩ : S154)) (wrap64 ((wrap64 ((wrap64 ((wrap64 ((wrap64 ((wrap64 (p4 + 1)) + 1)) + 1)) + 1)) + 1)) + 1)) (wrap64 (p5 + 1)) else none else some (p4,q3)
def laws_markEarlyS.f (k : Nat) (l0 : List S154) (a1 : Int) : Option (Int × (List S154)):=laws_markEarlyS.l0 k l0 a1 0
theorem laws_markEarlyS.ok {k : Nat} {l0 : List S154} {a1 : Int} {r : Int × (List S154)} (H : laws_markEarlyS.f k l0 a1 = some r) : ACalls Tryz.prog 171 [(0,.row 154 6 (l0.map e154))] [.row 0,.lit (.int .i64 a1)] [(0,.row 154 6 (r.2.map e154))] (.lit (.int .i64 r.1)):=by
 refine acalls (fn:=Tryz.f171) (nt:=59) Tryz.func171 rfl rfl (Nat.le_of_ble_eq_true rfl) fun E hE=>?_
 rw [laws_markEarlyS.f] at H
 refine aw_grp1<|wk_start<|kv g0 asg<|wk_end<|ac_next<|aw_grp1<|aw_grp1<|wk_start<|kv g0 asg<|wk_end<|ac_next<|aw_block ?_
 refine aw_loop3 (fun (k_ : Nat) (q3 : List S154) (p4 : Int) (p5 : Int)=>k_ ≤ k∧laws_markEarlyS.l0 k_ q3 p4 p5 = some r) (fun (q3 : List S154) (p4 : Int) (p5 : Int)=>⟨[(0,.row 0),(1,.lit (.int .i64 p4)),(5,.lit (.int .i64 p5))],[(0,.row 154 6 (q3.map e154))]⟩) k l0 a1 0 ⟨Nat.le_refl _,H⟩ (fun K_ h_=>acw hE [(0,0)] 9999 h_) (fun _ _ _=>by intro h_;have h_:=h_.2;rw [laws_markEarlyS.l0.eq_1] at h_;cases h_) ?_
 intro k6 q3 p4 p5 hq_ K9 hK10
 have hk6:=hq_.1
 have H:=hq_.2
 clear hq_
 rw [laws_markEarlyS.l0.eq_2] at H
 refine aw_grp1<|aw_grp1<|wk_start<|kv g0 mv<|kv g0 mv<|kv g0 (lnR lenE)<|kv g0 lss<|wk_end<|ac_next ?_
 by_cases c7 : p5 < (q3.length : Int)
 ·rw [if_pos c7] at H
  refine aw_ifT ?_ (decide_eq_true c7)
  refine aw_skip<|ac_next<|aw_grp1<|aw_block<|aw_grp1<|wk_start<|kv g0 mv<|kv g0 mv<|kv g0 mv ?_
  obtain ⟨c8,H⟩:=of_if H
  refine kv g0 (ixR 154 c8 (ltE c7))<|kv g0 (faE 0 0)<|ks g0 (stE 1 (e154 (⟨p4,(rd_T154 q3 p5).f1,(⟨(rd_T154 q3 p5).f2.f0,(rd_T154 q3 p5).f2.f1,(rd_T154 q3 p5).f2.f2,(rd_T154 q3 p5).f2.f3⟩ : S63)⟩ : S154)) ((q3.set p5.toNat (⟨p4,(rd_T154 q3 p5).f1,(⟨(rd_T154 q3 p5).f2.f0,(rd_T154 q3 p5).f2.f1,(rd_T154 q3 p5).f2.f2,(rd_T154 q3 p5).f2.f3⟩ : S63)⟩ : S154)).map e154) (getE (z:=z154) c8 c7) setE)<|wk_end<|ac_next<|aw_grp1<|wk_start<|kv g0 mv<|kv g0 add6<|kv g0 asg<|wk_end<|ac_next<|aw_grp1<|wk_start<|kv g0 mv<|kv g0 mv<|kv g0 mv<|kv g0 (ixR 154 c8 (ltE (ls c7)))<|kv g0 (faE 1 1)<|ks g0 (stE 1 (e154 (⟨p4,wrap64 (p4 + 1),(⟨(rd_T154 q3 p5).f2.f0,(rd_T154 q3 p5).f2.f1,(rd_T154 q3 p5).f2.f2,(rd_T154 q3 p5).f2.f3⟩ : S63)⟩ : S154)) ((q3.set p5.toNat (⟨p4,wrap64 (p4 + 1),(⟨(rd_T154 q3 p5).f2.f0,(rd_T154 q3 p5).f2.f1,(rd_T154 q3 p5).f2.f2,(rd_T154 q3 p5).f2.f3⟩ : S63)⟩ : S154)).map e154) (setG c8 (ls c7)) setE2)<|wk_end<|ac_next<|aw_grp1<|wk_start<|kv g0 mv<|kv g0 add6<|kv g0 asg<|wk_end<|ac_next<|aw_grp1<|wk_start<|kv g0 mv<|kv g0 mv<|kv g0 mv<|kv g0 (ixR 154 c8 (ltE (ls c7)))<|kv g0 (faE 2 2)<|kv g0 (faE 0 2)<|ks g0 (stE 1 (e154 (⟨p4,wrap64 (p4 + 1),(⟨wrap64 ((wrap64 (p4 + 1)) + 1),(rd_T154 q3 p5).f2.f1,(rd_T154 q3 p5).f2.f2,(rd_T154 q3 p5).f2.f3⟩ : S63)⟩ : S154)) ((q3.set p5.toNat (⟨p4,wrap64 (p4 + 1),(⟨wrap64 ((wrap64 (p4 + 1)) + 1),(rd_T154 q3 p5).f2.f1,(rd_T154 q3 p5).f2.f2,(rd_T154 q3 p5).f2.f3⟩ : S63)⟩ : S154)).map e154) (setG c8 (ls c7)) setE2)<|wk_end<|ac_next ?_
  refine aw_grp1<|wk_start<|kv g0 mv<|kv g0 add6<|kv g0 asg<|wk_end<|ac_next<|aw_grp1<|wk_start<|kv g0 mv<|kv g0 mv<|kv g0 mv<|kv g0 (ixR 154 c8 (ltE (ls c7)))<|kv g0 (faE 2 2)<|kv g0 (faE 1 3)<|ks g0 (stE 1 (e154 (⟨p4,wrap64 (p4 + 1),(⟨wrap64 ((wrap64 (p4 + 1)) + 1),wrap64 ((wrap64 ((wrap64 (p4 + 1)) + 1)) + 1),(rd_T154 q3 p5).f2.f2,(rd_T154 q3 p5).f2.f3⟩ : S63)⟩ : S154)) ((q3.set p5.toNat (⟨p4,wrap64 (p4 + 1),(⟨wrap64 ((wrap64 (p4 + 1)) + 1),wrap64 ((wrap64 ((wrap64 (p4 + 1)) + 1)) + 1),(rd_T154 q3 p5).f2.f2,(rd_T154 q3 p5).f2.f3⟩ : S63)⟩ : S154)).map e154) (setG c8 (ls c7)) setE2)<|wk_end<|ac_next<|aw_grp1<|wk_start<|kv g0 mv<|kv g0 add6<|kv g0 asg<|wk_end<|ac_next<|aw_grp1<|wk_start<|kv g0 mv<|kv g0 mv<|kv g0 mv<|kv g0 (ixR 154 c8 (ltE (ls c7)))<|kv g0 (faE 2 2)<|kv g0 (faE 2 4)<|ks g0 (stE 1 (e154 (⟨p4,wrap64 (p4 + 1),(⟨wrap64 ((wrap64 (p4 + 1)) + 1),wrap64 ((wrap64 ((wrap64 (p4 + 1)) + 1)) + 1),wrap64 ((wrap64 ((wrap64 ((wrap64 (p4 + 1)) + 1)) + 1)) + 1),(rd_T154 q3 p5).f2.f3⟩ : S63)⟩ : S154)) ((q3.set p5.toNat (⟨p4,wrap64 (p4 + 1),(⟨wrap64 ((wrap64 (p4 + 1)) + 1),wrap64 ((wrap64 ((wrap64 (p4 + 1)) + 1)) + 1),wrap64 ((wrap64 ((wrap64 ((wrap64 (p4 + 1)) + 1)) + 1)) + 1),(rd_T154 q3 p5).f2.f3⟩ : S63)⟩ : S154)).map e154) (setG c8 (ls c7)) setE2)<|wk_end<|ac_next<|aw_grp1<|wk_start<|kv g0 mv<|kv g0 add6 ?_
  refine kv g0 asg<|wk_end<|ac_next<|aw_grp1<|wk_start<|kv g0 mv<|kv g0 mv<|kv g0 mv<|kv g0 (ixR 154 c8 (ltE (ls c7)))<|kv g0 (faE 2 2)<|kv g0 (faE 3 5)<|ks g0 (stE 1 (e154 (⟨p4,wrap64 (p4 + 1),(⟨wrap64 ((wrap64 (p4 + 1)) + 1),wrap64 ((wrap64 ((wrap64 (p4 + 1)) + 1)) + 1),wrap64 ((wrap64 ((wrap64 ((wrap64 (p4 + 1)) + 1)) + 1)) + 1),wrap64 ((wrap64 ((wrap64 ((wrap64 ((wrap64 (p4 + 1)) + 1)) + 1)) + 1)) + 1)⟩ : S63)⟩ : S154)) ((q3.set p5.toNat (⟨p4,wrap64 (p4 + 1),(⟨wrap64 ((wrap64 (p4 + 1)) + 1),wrap64 ((wrap64 ((wrap64 (p4 + 1)) + 1)) + 1),wrap64 ((wrap64 ((wrap64 ((wrap64 (p4 + 1)) + 1)) + 1)) + 1),wrap64 ((wrap64 ((wrap64 ((wrap64 ((wrap64 (p4 + 1)) + 1)) + 1)) + 1)) + 1)⟩ : S63)⟩ : S154)).map e154) (setG c8 (ls c7)) setE2)<|wk_end<|ac_next<|wk_start<|kv g0 mv<|kv g0 add6<|kv g0 asg<|wk_end<|ac_blkN<|ac_next<|wk_start<|kv g0 mv<|kv g0 add6<|kv g0 asg<|wk_end<|ac_k ?_
  exact acw hE [(0,0)] 9999 (hK10 k6 (q3.set p5.toNat (⟨p4,wrap64 (p4 + 1),(⟨wrap64 ((wrap64 (p4 + 1)) + 1),wrap64 ((wrap64 ((wrap64 (p4 + 1)) + 1)) + 1),wrap64 ((wrap64 ((wrap64 ((wrap64 (p4 + 1)) + 1)) + 1)) + 1),wrap64 ((wrap64 ((wrap64 ((wrap64 ((wrap64 (p4 + 1)) + 1)) + 1)) + 1)) + 1)⟩ : S63)⟩ : S154)) (wrap64 ((wrap64 ((wrap64 ((wrap64 ((wrap64 ((wrap64 (p4 + 1)) + 1)) + 1)) + 1)) + 1)) + 1)) (wrap64 (p5 + 1)) (Nat.le_refl _) ⟨by omega,H⟩)
 rw [if_neg c7] at H
 refine aw_ifF ?_ (decide_eq_false c7)
 refine aw_exit<|ac_then<|ac_then<|ac_hit rfl<|ac_next<|aw_grp1<|wk_start<|kv g0 mv<|kv g0 asg<|wk_end<|ac_next<|aw_ret ?_
 obtain rfl:=Option.some.inj H
 exact acr hE [.tmp 4] (.tmp .nil) (.one _) [(0,0)] 9999
/-! laws_markKeeper -/
def laws_markKeeper.f (k : Nat) (l0_0 : List S139) (l0_1 : List Int) (l0_2 : List S154) (a0_3 : Int) (l0_4 : List Int) (a1 : Int) : Option (Int × (List S139) × (List Int) × (List S154) × (List Int)):=(laws_markEntryS.f k l0_0 a1).bind fun t1=>(laws_markIntS.f k l0_1 t1.1).bind fun t3=>(laws_markEarlyS.f k l0_2 t3.1).bind fun t5=>(laws_markIntS.f k l0_4 t5.1).bind fun t7=>some (t7.1,t1.2,t3.2,t5.2,t7.2)
theorem laws_markKeeper.ok {k : Nat} {l0_0 : List S139} {l0_1 : List Int} {l0_2 : List S154} {a0_3 : Int} {l0_4 : List Int} {a1 : Int} {r : Int × (List S139) × (List Int) × (List S154) × (List Int)} (H : laws_markKeeper.f k l0_0 l0_1 l0_2 a0_3 l0_4 a1 = some r) : ACalls Tryz.prog 83 [(0,.row 139 6 (l0_0.map e139)),(1,.row 3 1 (l0_1.map (eI .i64))),(2,.row 154 6 (l0_2.map e154)),(3,.row 3 1 (l0_4.map (eI .i64)))] [.agg [.row 0,.row 1,.row 2,.lit (.int .i64 a0_3),.row 3],.lit (.int .i64 a1)] [(0,.row 139 6 (r.2.1.map e139)),(1,.row 3 1 (r.2.2.1.map (eI .i64))),(2,.row 154 6 (r.2.2.2.1.map e154)),(3,.row 3 1 (r.2.2.2.2.map (eI .i64)))] (.lit (.int .i64 r.1)):=by
 refine acalls (fn:=Tryz.f83) (nt:=22) Tryz.func83 rfl rfl (Nat.le_of_ble_eq_true rfl) fun E hE=>?_
 rw [laws_markKeeper.f] at H
 refine aw_grp1<|wk_start<|kb g0 (bxA 4)<|kv g0 asg<|wk_end<|ac_next<|aw_grp1<|wk_start<|kv g0 (faB 0 0)<|kv g0 ldB<|kv g0 mv ?_
 obtain ⟨t1,A2,H⟩:=of_bind H
 refine kcS1 8 (.lit (.int .i64 t1.1)) [(0,.row 139 6 (t1.2.map e139))] g0 (cal (laws_markEntryS.ok A2) [0] 9999 .n (hf:=Tryz.func170)) rfl rfl<|kv g0 asg<|wk_end<|ac_next<|aw_grp1<|wk_start<|kv g0 (faB 1 1)<|kv g0 ldB<|kv g0 mv ?_
 obtain ⟨t3,A4,H⟩:=of_bind H
 refine kcS1 12 (.lit (.int .i64 t3.1)) [(1,.row 3 1 (t3.2.map (eI .i64)))] g0 (cal (laws_markIntS.ok A4) [1] 9999 .n (hf:=Tryz.func37)) rfl rfl<|kv g0 asg<|wk_end<|ac_next<|aw_grp1<|wk_start<|kv g0 (faB 2 2)<|kv g0 ldB<|kv g0 mv ?_
 obtain ⟨t5,A6,H⟩:=of_bind H
 refine kcS1 16 (.lit (.int .i64 t5.1)) [(2,.row 154 6 (t5.2.map e154))] g0 (cal (laws_markEarlyS.ok A6) [2] 9999 .n (hf:=Tryz.func171)) rfl rfl<|kv g0 asg<|wk_end<|ac_next<|aw_grp1<|wk_start<|kv g0 (faB 4 4)<|kv g0 ldB<|kv g0 mv ?_
 obtain ⟨t7,A8,H⟩:=of_bind H
 refine kcS1 20 (.lit (.int .i64 t7.1)) [(3,.row 3 1 (t7.2.map (eI .i64)))] g0 (cal (laws_markIntS.ok A8) [3] 9999 .n (hf:=Tryz.func37)) rfl rfl<|kv g0 asg<|wk_end<|ac_next<|aw_grp1<|wk_start<|kv g0 mv<|kv g0 asg<|wk_end<|ac_next<|aw_ret ?_
 obtain rfl:=Option.some.inj H
 exact acr hE [.tmp 4] (.tmp .nil) (.one _) [(0,0),(1,1),(2,2),(3,3)] 9999
/-! laws_markText -/
def laws_markText.l0 : Nat→Int→ByteArray→Option (ByteArray)
 | 0,_,_=>none
 | k7 + 1,p5,p6=>if p5 > 0 then if (strOfNums ([IntKind.u8.wrap (wrap64 (48 + (p5.tmod 10)))] : List Int)).size + p6.size ≤ 9223372036854775807 then laws_markText.l0 k7 (wrap64 (p5.tdiv 10)) ((strOfNums ([IntKind.u8.wrap (wrap64 (48 + (p5.tmod 10)))] : List Int)) ++ p6) else none else if (⟨#[109]⟩ : ByteArray).size + p6.size ≤ 9223372036854775807 then some ((⟨#[109]⟩ : ByteArray) ++ p6) else none
def laws_markText.f (k : Nat) (a0 : Int) : Option (ByteArray):=if a0 ≤ 0 then some (⟨#[109,48]⟩ : ByteArray) else laws_markText.l0 k a0 ByteArray.empty
theorem laws_markText.ok {k : Nat} {a0 : Int} {r : ByteArray} (H : laws_markText.f k a0 = some r) : ACalls Tryz.prog 126 [] [.lit (.int .i64 a0)] [] (.lit (.string r)):=by
 refine acalls (fn:=Tryz.f126) (nt:=20) Tryz.func126 rfl rfl (Nat.le_of_ble_eq_true rfl) fun E hE=>?_
 rw [laws_markText.f] at H
 refine aw_grp1<|wk_start<|kv g0 asg<|wk_end<|ac_next<|aw_grp1<|aw_grp1<|wk_start<|kv g0 mv<|kv g0 leq<|wk_end<|ac_next ?_
 by_cases c1 : a0 ≤ 0
 ·rw [if_pos c1] at H
  refine aw_ifT ?_ (decide_eq_true c1)
  refine aw_grp1<|wk_start<|kv g0 asg<|wk_end<|ac_next<|aw_ret<|ac_thenR ?_
  obtain rfl:=Option.some.inj H
  exact acr hE [.tmp 2] (.tmp .nil) (.one _) [] 9999
 rw [if_neg c1] at H
 refine aw_ifF ?_ (decide_eq_false c1)
 refine aw_skip<|ac_next<|aw_grp1<|wk_start<|kv g0 asg<|wk_end<|ac_next<|aw_grp1<|aw_block ?_
 refine aw_loop2 (fun (k_ : Nat) (p5 : Int) (p6 : ByteArray)=>k_ ≤ k∧laws_markText.l0 k_ p5 p6 = some r) (fun (p5 : Int) (p6 : ByteArray)=>⟨[(0,.lit (.int .i64 p5)),(3,.lit (.string p6))],[]⟩) k a0 ByteArray.empty ⟨Nat.le_refl _,H⟩ (fun K_ h_=>acw hE [] 9999 h_) (fun _ _=>by intro h_;have h_:=h_.2;rw [laws_markText.l0.eq_1] at h_;cases h_) ?_
 intro k7 p5 p6 hq_ K10 hK11
 have hk7:=hq_.1
 have H:=hq_.2
 clear hq_
 rw [laws_markText.l0.eq_2] at H
 refine aw_grp1<|aw_grp1<|wk_start<|kv g0 mv<|kv g0 gtr<|wk_end<|ac_next ?_
 by_cases c8 : p5 > 0
 ·rw [if_pos c8] at H
  refine aw_ifT ?_ (decide_eq_true c8)
  refine aw_skip<|ac_next<|aw_block<|aw_grp1<|wk_start<|kv g0 mv<|kv g0 (rem (by decide : (10 : Int) ≠ 0))<|kv g0 add6<|kv g0 (cnv .u8)<|kb g0 (bsl 0 5 1 [.int .u8 0] (([IntKind.u8.wrap (wrap64 (48 + (p5.tmod 10)))] : List Int).map (eI .u8)))<|kv g0 (cvB (.row rfl))<|kv g0 mv ?_
  obtain ⟨c9,H⟩:=of_if H
  refine kv g0 (cat c9)<|kv g0 asg<|wk_end<|ac_next<|wk_start<|kv g0 mv<|kv g0 (quo6 (by decide : (10 : Int) ≠ 0))<|kv g0 asg<|wk_end<|ac_blkN<|ac_k ?_
  exact acw hE [] 9999 (hK11 k7 (wrap64 (p5.tdiv 10)) ((strOfNums ([IntKind.u8.wrap (wrap64 (48 + (p5.tmod 10)))] : List Int)) ++ p6) (Nat.le_refl _) ⟨by omega,H⟩)
 rw [if_neg c8] at H
 refine aw_ifF ?_ (decide_eq_false c8)
 refine aw_exit<|ac_then<|ac_then<|ac_hit rfl<|ac_next<|aw_grp1<|wk_start<|kv g0 mv ?_
 obtain ⟨c12,H⟩:=of_if H
 refine kv g0 (cat c12)<|kv g0 asg<|wk_end<|ac_next<|aw_ret ?_
 obtain rfl:=Option.some.inj H
 exact acr hE [.tmp 2] (.tmp .nil) (.one _) [] 9999
/-! laws_markLetterS -/
def laws_markLetterS.l0 : Nat→(List S151)→Int→Int→Option (Int × (List S151))
 | 0,_,_,_=>none
 | k8 + 1,q5,p6,p7=>if p7 < (q5.length : Int) then if 0 ≤ p7 then (laws_markText.f k8 (wrap64 (p6 + 1))).bind fun t11=>laws_markLetterS.l0 k8 (q5.set p7.toNat (⟨(p6.tmod 3) == 0,t11,((wrap64 ((wrap64 (p6 + 1)) + 1)).tmod 3) == 0⟩ : S151)) (wrap64 ((wrap64 ((wrap64 (p6 + 1)) + 1)) + 1)) (wrap64 (p7 + 1)) else none else some (p6,q5)
def laws_markLetterS.f (k : Nat) (l0 : List S151) (a1 : Int) : Option (Int × (List S151)):=laws_markLetterS.l0 k l0 a1 0
theorem laws_markLetterS.ok {k : Nat} {l0 : List S151} {a1 : Int} {r : Int × (List S151)} (H : laws_markLetterS.f k l0 a1 = some r) : ACalls Tryz.prog 84 [(0,.row 151 3 (l0.map e151))] [.row 0,.lit (.int .i64 a1)] [(0,.row 151 3 (r.2.map e151))] (.lit (.int .i64 r.1)):=by
 refine acalls (fn:=Tryz.f84) (nt:=39) Tryz.func84 rfl rfl (Nat.le_of_ble_eq_true rfl) fun E hE=>?_
 rw [laws_markLetterS.f] at H
 refine aw_grp1<|wk_start<|kv g0 asg<|wk_end<|ac_next<|aw_grp1<|aw_grp1<|wk_start<|kv g0 asg<|wk_end<|ac_next<|aw_block ?_
 refine aw_loop3 (fun (k_ : Nat) (q5 : List S151) (p6 : Int) (p7 : Int)=>k_ ≤ k∧laws_markLetterS.l0 k_ q5 p6 p7 = some r) (fun (q5 : List S151) (p6 : Int) (p7 : Int)=>⟨[(0,.row 0),(1,.lit (.int .i64 p6)),(5,.lit (.int .i64 p7))],[(0,.row 151 3 (q5.map e151))]⟩) k l0 a1 0 ⟨Nat.le_refl _,H⟩ (fun K_ h_=>acw hE [(0,0)] 9999 h_) (fun _ _ _=>by intro h_;have h_:=h_.2;rw [laws_markLetterS.l0.eq_1] at h_;cases h_) ?_
 intro k8 q5 p6 p7 hq_ K13 hK14
 have hk8:=hq_.1
 have H:=hq_.2
 clear hq_
 rw [laws_markLetterS.l0.eq_2] at H
 refine aw_grp1<|aw_grp1<|wk_start<|kv g0 mv<|kv g0 mv<|kv g0 (lnR lenE)<|kv g0 lss<|wk_end<|ac_next ?_
 by_cases c9 : p7 < (q5.length : Int)
 ·rw [if_pos c9] at H
  refine aw_ifT ?_ (decide_eq_true c9)
  refine aw_skip<|ac_next<|aw_grp1<|aw_block<|aw_grp1<|wk_start<|kv g0 mv<|kv g0 mv<|kv g0 mv<|kv g0 (rem (by decide : (3 : Int) ≠ 0))<|kv g0 eql ?_
  obtain ⟨c10,H⟩:=of_if H
  refine kv g0 (ixR 151 c10 (ltE c9))<|kv g0 (faE 0 0)<|ks g0 (stE 1 (e151 (⟨(p6.tmod 3) == 0,(rd_T151 q5 p7).f1,(rd_T151 q5 p7).f2⟩ : S151)) ((q5.set p7.toNat (⟨(p6.tmod 3) == 0,(rd_T151 q5 p7).f1,(rd_T151 q5 p7).f2⟩ : S151)).map e151) (getE (z:=z151) c10 c9) setE)<|wk_end<|ac_next<|aw_grp1<|wk_start<|kv g0 mv<|kv g0 add6<|kv g0 asg<|wk_end<|ac_next<|aw_grp1<|wk_start<|kv g0 mv<|kv g0 mv<|kv g0 mv ?_
  obtain ⟨t11,A12,H⟩:=of_bind H
  refine kcS0 24 (.lit (.string t11)) [] g0 (cal (laws_markText.ok A12) [] 9999 .n (hf:=Tryz.func126)) rfl rfl<|kv g0 (ixR 151 c10 (ltE (ls c9)))<|kv g0 (faE 1 1)<|ks g0 (stE 1 (e151 (⟨(p6.tmod 3) == 0,t11,(rd_T151 q5 p7).f2⟩ : S151)) ((q5.set p7.toNat (⟨(p6.tmod 3) == 0,t11,(rd_T151 q5 p7).f2⟩ : S151)).map e151) (setG c10 (ls c9)) setE2)<|wk_end<|ac_next<|aw_grp1<|wk_start<|kv g0 mv<|kv g0 add6<|kv g0 asg<|wk_end<|ac_next<|aw_grp1<|wk_start<|kv g0 mv<|kv g0 mv<|kv g0 mv<|kv g0 (rem (by decide : (3 : Int) ≠ 0))<|kv g0 eql<|kv g0 (ixR 151 c10 (ltE (ls c9)))<|kv g0 (faE 2 2)<|ks g0 (stE 1 (e151 (⟨(p6.tmod 3) == 0,t11,((wrap64 ((wrap64 (p6 + 1)) + 1)).tmod 3) == 0⟩ : S151)) ((q5.set p7.toNat (⟨(p6.tmod 3) == 0,t11,((wrap64 ((wrap64 (p6 + 1)) + 1)).tmod 3) == 0⟩ : S151)).map e151) (setG c10 (ls c9)) setE2)<|wk_end<|ac_next<|wk_start<|kv g0 mv<|kv g0 add6<|kv g0 asg<|wk_end<|ac_blkN<|ac_next<|wk_start<|kv g0 mv<|kv g0 add6<|kv g0 asg<|wk_end<|ac_k ?_
  exact acw hE [(0,0)] 9999 (hK14 k8 (q5.set p7.toNat (⟨(p6.tmod 3) == 0,t11,((wrap64 ((wrap64 (p6 + 1)) + 1)).tmod 3) == 0⟩ : S151)) (wrap64 ((wrap64 ((wrap64 (p6 + 1)) + 1)) + 1)) (wrap64 (p7 + 1)) (Nat.le_refl _) ⟨by omega,H⟩)
 rw [if_neg c9] at H
 refine aw_ifF ?_ (decide_eq_false c9)
 refine aw_exit<|ac_then<|ac_then<|ac_hit rfl<|ac_next<|aw_grp1<|wk_start<|kv g0 mv<|kv g0 asg<|wk_end<|ac_next<|aw_ret ?_
 obtain rfl:=Option.some.inj H
 exact acr hE [.tmp 4] (.tmp .nil) (.one _) [(0,0)] 9999
/-! laws_markSeenS -/
def laws_markSeenS.l0 : Nat→(List S59)→Int→Int→Option (Int × (List S59))
 | 0,_,_,_=>none
 | k6 + 1,q3,p4,p5=>if p5 < (q3.length : Int) then if 0 ≤ p5 then laws_markSeenS.l0 k6 (q3.set p5.toNat (⟨p4,wrap64 (p4 + 1),wrap64 ((wrap64 (p4 + 1)) + 1),((wrap64 ((wrap64 ((wrap64 (p4 + 1)) + 1)) + 1)).tmod 3) == 0⟩ : S59)) (wrap64 ((wrap64 ((wrap64 ((wrap64 (p4 + 1)) + 1)) + 1)) + 1)) (wrap64 (p5 + 1)) else none else some (p4,q3)
def laws_markSeenS.f (k : Nat) (l0 : List S59) (a1 : Int) : Option (Int × (List S59)):=laws_markSeenS.l0 k l0 a1 0
theorem laws_markSeenS.ok {k : Nat} {l0 : List S59} {a1 : Int} {r : Int × (List S59)} (H : laws_markSeenS.f k l0 a1 = some r) : ACalls Tryz.prog 85 [(0,.row 59 4 (l0.map e59))] [.row 0,.lit (.int .i64 a1)] [(0,.row 59 4 (r.2.map e59))] (.lit (.int .i64 r.1)):=by
 refine acalls (fn:=Tryz.f85) (nt:=43) Tryz.func85 rfl rfl (Nat.le_of_ble_eq_true rfl) fun E hE=>?_
 rw [laws_markSeenS.f] at H
 refine aw_grp1<|wk_start<|kv g0 asg<|wk_end<|ac_next<|aw_grp1<|aw_grp1<|wk_start<|kv g0 asg<|wk_end<|ac_next<|aw_block ?_
 refine aw_loop3 (fun (k_ : Nat) (q3 : List S59) (p4 : Int) (p5 : Int)=>k_ ≤ k∧laws_markSeenS.l0 k_ q3 p4 p5 = some r) (fun (q3 : List S59) (p4 : Int) (p5 : Int)=>⟨[(0,.row 0),(1,.lit (.int .i64 p4)),(5,.lit (.int .i64 p5))],[(0,.row 59 4 (q3.map e59))]⟩) k l0 a1 0 ⟨Nat.le_refl _,H⟩ (fun K_ h_=>acw hE [(0,0)] 9999 h_) (fun _ _ _=>by intro h_;have h_:=h_.2;rw [laws_markSeenS.l0.eq_1] at h_;cases h_) ?_
 intro k6 q3 p4 p5 hq_ K9 hK10
 have hk6:=hq_.1
 have H:=hq_.2
 clear hq_
 rw [laws_markSeenS.l0.eq_2] at H
 refine aw_grp1<|aw_grp1<|wk_start<|kv g0 mv<|kv g0 mv<|kv g0 (lnR lenE)<|kv g0 lss<|wk_end<|ac_next ?_
 by_cases c7 : p5 < (q3.length : Int)
 ·rw [if_pos c7] at H
  refine aw_ifT ?_ (decide_eq_true c7)
  refine aw_skip<|ac_next<|aw_grp1<|aw_block<|aw_grp1<|wk_start<|kv g0 mv<|kv g0 mv<|kv g0 mv ?_
  obtain ⟨c8,H⟩:=of_if H
  refine kv g0 (ixR 59 c8 (ltE c7))<|kv g0 (faE 0 0)<|ks g0 (stE 1 (e59 (⟨p4,(rd_T59 q3 p5).f1,(rd_T59 q3 p5).f2,(rd_T59 q3 p5).f3⟩ : S59)) ((q3.set p5.toNat (⟨p4,(rd_T59 q3 p5).f1,(rd_T59 q3 p5).f2,(rd_T59 q3 p5).f3⟩ : S59)).map e59) (getE (z:=z59) c8 c7) setE)<|wk_end<|ac_next<|aw_grp1<|wk_start<|kv g0 mv<|kv g0 add6<|kv g0 asg<|wk_end<|ac_next<|aw_grp1<|wk_start<|kv g0 mv<|kv g0 mv<|kv g0 mv<|kv g0 (ixR 59 c8 (ltE (ls c7)))<|kv g0 (faE 1 1)<|ks g0 (stE 1 (e59 (⟨p4,wrap64 (p4 + 1),(rd_T59 q3 p5).f2,(rd_T59 q3 p5).f3⟩ : S59)) ((q3.set p5.toNat (⟨p4,wrap64 (p4 + 1),(rd_T59 q3 p5).f2,(rd_T59 q3 p5).f3⟩ : S59)).map e59) (setG c8 (ls c7)) setE2)<|wk_end<|ac_next<|aw_grp1<|wk_start<|kv g0 mv<|kv g0 add6<|kv g0 asg<|wk_end<|ac_next<|aw_grp1<|wk_start<|kv g0 mv<|kv g0 mv<|kv g0 mv<|kv g0 (ixR 59 c8 (ltE (ls c7)))<|kv g0 (faE 2 2)<|ks g0 (stE 1 (e59 (⟨p4,wrap64 (p4 + 1),wrap64 ((wrap64 (p4 + 1)) + 1),(rd_T59 q3 p5).f3⟩ : S59)) ((q3.set p5.toNat (⟨p4,wrap64 (p4 + 1),wrap64 ((wrap64 (p4 + 1)) + 1),(rd_T59 q3 p5).f3⟩ : S59)).map e59) (setG c8 (ls c7)) setE2)<|wk_end<|ac_next<|aw_grp1 ?_
  refine wk_start<|kv g0 mv<|kv g0 add6<|kv g0 asg<|wk_end<|ac_next<|aw_grp1<|wk_start<|kv g0 mv<|kv g0 mv<|kv g0 mv<|kv g0 (rem (by decide : (3 : Int) ≠ 0))<|kv g0 eql<|kv g0 (ixR 59 c8 (ltE (ls c7)))<|kv g0 (faE 3 3)<|ks g0 (stE 1 (e59 (⟨p4,wrap64 (p4 + 1),wrap64 ((wrap64 (p4 + 1)) + 1),((wrap64 ((wrap64 ((wrap64 (p4 + 1)) + 1)) + 1)).tmod 3) == 0⟩ : S59)) ((q3.set p5.toNat (⟨p4,wrap64 (p4 + 1),wrap64 ((wrap64 (p4 + 1)) + 1),((wrap64 ((wrap64 ((wrap64 (p4 + 1)) + 1)) + 1)).tmod 3) == 0⟩ : S59)).map e59) (setG c8 (ls c7)) setE2)<|wk_end<|ac_next<|wk_start<|kv g0 mv<|kv g0 add6<|kv g0 asg<|wk_end<|ac_blkN<|ac_next<|wk_start<|kv g0 mv<|kv g0 add6<|kv g0 asg<|wk_end<|ac_k ?_
  exact acw hE [(0,0)] 9999 (hK10 k6 (q3.set p5.toNat (⟨p4,wrap64 (p4 + 1),wrap64 ((wrap64 (p4 + 1)) + 1),((wrap64 ((wrap64 ((wrap64 (p4 + 1)) + 1)) + 1)).tmod 3) == 0⟩ : S59)) (wrap64 ((wrap64 ((wrap64 ((wrap64 (p4 + 1)) + 1)) + 1)) + 1)) (wrap64 (p5 + 1)) (Nat.le_refl _) ⟨by omega,H⟩)
 rw [if_neg c7] at H
 refine aw_ifF ?_ (decide_eq_false c7)
 refine aw_exit<|ac_then<|ac_then<|ac_hit rfl<|ac_next<|aw_grp1<|wk_start<|kv g0 mv<|kv g0 asg<|wk_end<|ac_next<|aw_ret ?_
 obtain rfl:=Option.some.inj H
 exact acr hE [.tmp 4] (.tmp .nil) (.one _) [(0,0)] 9999
/-! laws_markWorld -/
def laws_markWorld.f (k : Nat) (l0_0 : List (List (List S234))) (l0_1 : List S67) (l0_2 : List S65) (l0_3 : List S139) (l0_4 : List Int) (l0_5 : List S154) (a0_6 : Int) (l0_7 : List Int) (l0_8 : List S151) (a0_9 : Int) (l0_10 : List Int) (l0_11 : List S59) (a1 : Int) : Option (Int × (List (List (List S234))) × (List S67) × (List S65) × (List S139) × (List Int) × (List S154) × (List Int) × (List S151) × (List Int) × (List S59)):=(laws_markInsSSS.f k l0_0 a1).bind fun t1=>(laws_markRingS.f k l0_1 t1.1).bind fun t3=>(laws_markSenderS.f k l0_2 t3.1).bind fun t5=>(laws_markKeeper.f k l0_3 l0_4 l0_5 a0_6 l0_7 t5.1).bind fun t7=>(laws_markLetterS.f k l0_8 t7.1).bind fun t9=>(laws_markIntS.f k l0_10 t9.1).bind fun t11=>(laws_markSeenS.f k l0_11 t11.1).bind fun t13=>some (t13.1,t1.2,t3.2,t5.2,t7.2.1,t7.2.2.1,t7.2.2.2.1,t7.2.2.2.2,t9.2,t11.2,t13.2)
theorem laws_markWorld.ok {k : Nat} {l0_0 : List (List (List S234))} {l0_1 : List S67} {l0_2 : List S65} {l0_3 : List S139} {l0_4 : List Int} {l0_5 : List S154} {a0_6 : Int} {l0_7 : List Int} {l0_8 : List S151} {a0_9 : Int} {l0_10 : List Int} {l0_11 : List S59} {a1 : Int} {r : Int × (List (List (List S234))) × (List S67) × (List S65) × (List S139) × (List Int) × (List S154) × (List Int) × (List S151) × (List Int) × (List S59)} (H : laws_markWorld.f k l0_0 l0_1 l0_2 l0_3 l0_4 l0_5 a0_6 l0_7 l0_8 a0_9 l0_10 l0_11 a1 = some r) : ACalls Tryz.prog 13 [(0,.drow false [.own 147 [.own 234 []]] 145 1 (l0_0.map (eL 1 (eL 4 (e234))))),(1,.drow false ds67 67 4 (l0_1.map e67)),(2,.drow false ds65 65 5 (l0_2.map e65)),(3,.row 139 6 (l0_3.map e139)),(4,.row 3 1 (l0_4.map (eI .i64))),(5,.row 154 6 (l0_5.map e154)),(6,.row 3 1 (l0_7.map (eI .i64))),(7,.row 151 3 (l0_8.map e151)),(8,.row 3 1 (l0_10.map (eI .i64))),(9,.row 59 4 (l0_11.map e59))] [.agg [.row 0,.row 1,.row 2,.row 3,.row 4,.row 5,.lit (.int .i64 a0_6),.row 6,.row 7,.lit (.int .i64 a0_9),.row 8,.row 9],.lit (.int .i64 a1)] [(0,.drow false [.own 147 [.own 234 []]] 145 1 (r.2.1.map (eL 1 (eL 4 (e234))))),(1,.drow false ds67 67 4 (r.2.2.1.map e67)),(2,.drow false ds65 65 5 (r.2.2.2.1.map e65)),(3,.row 139 6 (r.2.2.2.2.1.map e139)),(4,.row 3 1 (r.2.2.2.2.2.1.map (eI .i64))),(5,.row 154 6 (r.2.2.2.2.2.2.1.map e154)),(6,.row 3 1 (r.2.2.2.2.2.2.2.1.map (eI .i64))),(7,.row 151 3 (r.2.2.2.2.2.2.2.2.1.map e151)),(8,.row 3 1 (r.2.2.2.2.2.2.2.2.2.1.map (eI .i64))),(9,.row 59 4 (r.2.2.2.2.2.2.2.2.2.2.map e59))] (.lit (.int .i64 r.1)):=by
 refine acalls (fn:=Tryz.f13) (nt:=34) Tryz.func13 rfl rfl (Nat.le_of_ble_eq_true rfl) fun E hE=>?_
 rw [laws_markWorld.f] at H
 refine aw_grp1<|wk_start<|kb g0 (bxA 10)<|kv g0 asg<|wk_end<|ac_next<|aw_grp1<|wk_start<|kv g0 (faB 0 0)<|kv g0 ldB<|kv g0 mv ?_
 obtain ⟨t1,A2,H⟩:=of_bind H
 refine kcS1 8 (.lit (.int .i64 t1.1)) [(0,.drow false [.own 147 [.own 234 []]] 145 1 (t1.2.map (eL 1 (eL 4 e234))))] g0 (cal (laws_markInsSSS.ok A2) [0] 9999 .n (hf:=Tryz.func80)) rfl rfl<|kv g0 asg<|wk_end<|ac_next<|aw_grp1<|wk_start<|kv g0 (faB 1 1)<|kv g0 ldB<|kv g0 mv ?_
 obtain ⟨t3,A4,H⟩:=of_bind H
 refine kcS1 12 (.lit (.int .i64 t3.1)) [(1,.drow false ds67 67 4 (t3.2.map e67))] g0 (cal (laws_markRingS.ok A4) [1] 9999 .n (hf:=Tryz.func81)) rfl rfl<|kv g0 asg<|wk_end<|ac_next<|aw_grp1<|wk_start<|kv g0 (faB 2 2)<|kv g0 ldB<|kv g0 mv ?_
 obtain ⟨t5,A6,H⟩:=of_bind H
 refine kcS1 16 (.lit (.int .i64 t5.1)) [(2,.drow false ds65 65 5 (t5.2.map e65))] g0 (cal (laws_markSenderS.ok A6) [2] 9999 .n (hf:=Tryz.func82)) rfl rfl<|kv g0 asg<|wk_end<|ac_next<|aw_grp1<|wk_start<|kv g0 (faB 3 3)<|kv g0 (ldBA 5 [.row 3,.row 4,.row 5,.lit (.int .i64 a0_6),.row 6])<|kv g0 mv ?_
 obtain ⟨t7,A8,H⟩:=of_bind H
 refine kcS4 20 (.lit (.int .i64 t7.1)) [(3,.row 139 6 (t7.2.1.map e139)),(4,.row 3 1 (t7.2.2.1.map (eI .i64))),(5,.row 154 6 (t7.2.2.2.1.map e154)),(6,.row 3 1 (t7.2.2.2.2.map (eI .i64)))] g0 (cal (laws_markKeeper.ok A8) [3,4,5,6] 9999 .n (hf:=Tryz.func83)) rfl rfl<|kv g0 asg<|wk_end<|ac_next<|aw_grp1<|wk_start<|kv g0 (faB 8 8)<|kv g0 ldB<|kv g0 mv ?_
 obtain ⟨t9,A10,H⟩:=of_bind H
 refine kcS1 24 (.lit (.int .i64 t9.1)) [(7,.row 151 3 (t9.2.map e151))] g0 (cal (laws_markLetterS.ok A10) [7] 9999 .n (hf:=Tryz.func84)) rfl rfl<|kv g0 asg<|wk_end<|ac_next<|aw_grp1<|wk_start<|kv g0 (faB 10 10)<|kv g0 ldB<|kv g0 mv ?_
 obtain ⟨t11,A12,H⟩:=of_bind H
 refine kcS1 28 (.lit (.int .i64 t11.1)) [(8,.row 3 1 (t11.2.map (eI .i64)))] g0 (cal (laws_markIntS.ok A12) [8] 9999 .n (hf:=Tryz.func37)) rfl rfl<|kv g0 asg<|wk_end<|ac_next<|aw_grp1<|wk_start<|kv g0 (faB 11 11)<|kv g0 ldB<|kv g0 mv ?_
 obtain ⟨t13,A14,H⟩:=of_bind H
 refine kcS1 32 (.lit (.int .i64 t13.1)) [(9,.row 59 4 (t13.2.map e59))] g0 (cal (laws_markSeenS.ok A14) [9] 9999 .n (hf:=Tryz.func85)) rfl rfl<|kv g0 asg<|wk_end<|ac_next<|aw_grp1<|wk_start<|kv g0 mv<|kv g0 asg<|wk_end<|ac_next<|aw_ret ?_
 obtain rfl:=Option.some.inj H
 exact acr hE [.tmp 4] (.tmp .nil) (.one _) [(0,0),(1,1),(2,2),(3,3),(4,4),(5,5),(6,6),(7,7),(8,8),(9,9)] 9999
/-! laws_heldInsS -/
def laws_heldInsS.l0 : Nat→(List S234)→Int→Int→Option (Int)
 | 0,_,_,_=>none
 | k9 + 1,l0,p7,p8=>if p8 < (l0.length : Int) then if 0 ≤ p8 then if ((rd_T234 l0 p8).f0) = p7 then if ((rd_T234 l0 p8).f1) = (wrap64 (p7 + 1)) then if ((rd_T234 l0 p8).f2) = (wrap64 ((wrap64 (p7 + 1)) + 1)) then if ((rd_T234 l0 p8).f3) = (wrap64 ((wrap64 ((wrap64 (p7 + 1)) + 1)) + 1)) then laws_heldInsS.l0 k9 l0 (wrap64 ((wrap64 ((wrap64 ((wrap64 (p7 + 1)) + 1)) + 1)) + 1)) (wrap64 (p8 + 1)) else some (-1) else some (-1) else some (-1) else some (-1) else none else some p7
def laws_heldInsS.f (k : Nat) (l0 : List S234) (a1 : Int) : Option (Int):=laws_heldInsS.l0 k l0 a1 0
theorem laws_heldInsS.ok {k : Nat} {l0 : List S234} {a1 : Int} {r : Int} (H : laws_heldInsS.f k l0 a1 = some r) : ACalls Tryz.prog 229 [] [.sl .o 4 (l0.map e234),.lit (.int .i64 a1)] [] (.lit (.int .i64 r)):=by
 refine acalls (fn:=Tryz.f229) (nt:=49) Tryz.func229 rfl rfl (Nat.le_of_ble_eq_true rfl) fun E hE=>?_
 rw [laws_heldInsS.f] at H
 refine aw_grp1<|wk_start<|kv g0 asg<|wk_end<|ac_next<|aw_grp1<|aw_grp1<|wk_start<|kv g0 asg<|wk_end<|ac_next<|aw_block ?_
 refine aw_loop2 (fun (k_ : Nat) (p7 : Int) (p8 : Int)=>k_ ≤ k∧laws_heldInsS.l0 k_ l0 p7 p8 = some r) (fun (p7 : Int) (p8 : Int)=>⟨[(0,.sl .o 4 (l0.map e234)),(1,.lit (.int .i64 p7)),(5,.lit (.int .i64 p8))],[]⟩) k a1 0 ⟨Nat.le_refl _,H⟩ (fun K_ h_=>acw hE [] 9999 h_) (fun _ _=>by intro h_;have h_:=h_.2;rw [laws_heldInsS.l0.eq_1] at h_;cases h_) ?_
 intro k9 p7 p8 hq_ K16 hK17
 have hk9:=hq_.1
 have H:=hq_.2
 clear hq_
 rw [laws_heldInsS.l0.eq_2] at H
 refine aw_grp1<|aw_grp1<|wk_start<|kv g0 mv<|kv g0 mv<|kv g0 (lnS lenE)<|kv g0 lss<|wk_end<|ac_next ?_
 by_cases c10 : p8 < (l0.length : Int)
 ·rw [if_pos c10] at H
  refine aw_ifT ?_ (decide_eq_true c10)
  refine aw_skip<|ac_next<|aw_grp1<|aw_block<|aw_grp1<|aw_grp1<|wk_start<|kv g0 mv<|kv g0 mv ?_
  obtain ⟨c11,H⟩:=of_if H
  refine kv g0 (ixS 234 (e234 (rd_T234 l0 p8)) c11 (getE (z:=z234) c11 c10))<|kv g0 (faR 0 0)<|kv g0 (ldR (.lit (.int .i64 ((rd_T234 l0 p8).f0))))<|kv g0 mv<|kv g0 neq<|wk_end<|ac_next ?_
  by_cases c12 : ((rd_T234 l0 p8).f0) = p7
  ·rw [if_pos c12] at H
   refine aw_ifF ?_ (eM c12)
   refine aw_skip<|ac_next<|aw_grp1<|wk_start<|kv g0 mv<|kv g0 add6<|kv g0 asg<|wk_end<|ac_next<|aw_grp1<|aw_grp1<|wk_start<|kv g0 mv<|kv g0 mv<|kv g0 (ixS 234 (e234 (rd_T234 l0 p8)) c11 (getE (z:=z234) c11 c10))<|kv g0 (faR 1 1)<|kv g0 (ldR (.lit (.int .i64 ((rd_T234 l0 p8).f1))))<|kv g0 mv<|kv g0 neq<|wk_end<|ac_next ?_
   by_cases c13 : ((rd_T234 l0 p8).f1) = (wrap64 (p7 + 1))
   ·rw [if_pos c13] at H
    refine aw_ifF ?_ (eM c13)
    refine aw_skip<|ac_next<|aw_grp1<|wk_start<|kv g0 mv<|kv g0 add6<|kv g0 asg<|wk_end<|ac_next<|aw_grp1<|aw_grp1<|wk_start<|kv g0 mv<|kv g0 mv<|kv g0 (ixS 234 (e234 (rd_T234 l0 p8)) c11 (getE (z:=z234) c11 c10))<|kv g0 (faR 2 2)<|kv g0 (ldR (.lit (.int .i64 ((rd_T234 l0 p8).f2))))<|kv g0 mv<|kv g0 neq<|wk_end<|ac_next ?_
    by_cases c14 : ((rd_T234 l0 p8).f2) = (wrap64 ((wrap64 (p7 + 1)) + 1))
    ·rw [if_pos c14] at H
     refine aw_ifF ?_ (eM c14)
     refine aw_skip<|ac_next<|aw_grp1<|wk_start<|kv g0 mv<|kv g0 add6<|kv g0 asg<|wk_end<|ac_next<|aw_grp1<|aw_grp1<|wk_start<|kv g0 mv<|kv g0 mv<|kv g0 (ixS 234 (e234 (rd_T234 l0 p8)) c11 (getE (z:=z234) c11 c10))<|kv g0 (faR 3 3)<|kv g0 (ldR (.lit (.int .i64 ((rd_T234 l0 p8).f3))))<|kv g0 mv<|kv g0 neq<|wk_end<|ac_next ?_
     by_cases c15 : ((rd_T234 l0 p8).f3) = (wrap64 ((wrap64 ((wrap64 (p7 + 1)) + 1)) + 1))
     ·rw [if_pos c15] at H
      refine aw_ifF ?_ (eM c15)
      refine aw_skip<|ac_next<|wk_start<|kv g0 mv<|kv g0 add6<|kv g0 asg<|wk_end<|ac_blkN<|ac_next<|wk_start<|kv g0 mv<|kv g0 add6<|kv g0 asg<|wk_end<|ac_k ?_
      exact acw hE [] 9999 (hK17 k9 (wrap64 ((wrap64 ((wrap64 ((wrap64 (p7 + 1)) + 1)) + 1)) + 1)) (wrap64 (p8 + 1)) (Nat.le_refl _) ⟨by omega,H⟩)
     rw [if_neg c15] at H
     refine aw_ifT ?_ (eN c15)
     refine aw_grp1<|wk_start<|kv g0 asg<|wk_end<|ac_next<|aw_ret<|ac_thenR<|ac_blkR<|ac_thenR<|ac_thenR<|ac_blkR<|ac_thenR ?_
     obtain rfl:=Option.some.inj H
     exact acr hE [.tmp 4] (.tmp .nil) (.one _) [] 9999
    rw [if_neg c14] at H
    refine aw_ifT ?_ (eN c14)
    refine aw_grp1<|wk_start<|kv g0 asg<|wk_end<|ac_next<|aw_ret<|ac_thenR<|ac_blkR<|ac_thenR<|ac_thenR<|ac_blkR<|ac_thenR ?_
    obtain rfl:=Option.some.inj H
    exact acr hE [.tmp 4] (.tmp .nil) (.one _) [] 9999
   rw [if_neg c13] at H
   refine aw_ifT ?_ (eN c13)
   refine aw_grp1<|wk_start<|kv g0 asg<|wk_end<|ac_next<|aw_ret<|ac_thenR<|ac_blkR<|ac_thenR<|ac_thenR<|ac_blkR<|ac_thenR ?_
   obtain rfl:=Option.some.inj H
   exact acr hE [.tmp 4] (.tmp .nil) (.one _) [] 9999
  rw [if_neg c12] at H
  refine aw_ifT ?_ (eN c12)
  refine aw_grp1<|wk_start<|kv g0 asg<|wk_end<|ac_next<|aw_ret<|ac_thenR<|ac_blkR<|ac_thenR<|ac_thenR<|ac_blkR<|ac_thenR ?_
  obtain rfl:=Option.some.inj H
  exact acr hE [.tmp 4] (.tmp .nil) (.one _) [] 9999
 rw [if_neg c10] at H
 refine aw_ifF ?_ (decide_eq_false c10)
 refine aw_exit<|ac_then<|ac_then<|ac_hit rfl<|ac_next<|aw_grp1<|wk_start<|kv g0 mv<|kv g0 asg<|wk_end<|ac_next<|aw_ret ?_
 obtain rfl:=Option.some.inj H
 exact acr hE [.tmp 4] (.tmp .nil) (.one _) [] 9999
end Go.Proofs.YtkkglhhkpihmgaaGreat.PFnExactCalmWorld
