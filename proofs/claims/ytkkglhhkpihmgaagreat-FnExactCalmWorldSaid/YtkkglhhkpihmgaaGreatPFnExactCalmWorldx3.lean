import Derived.Test.YtkkglhhkpihmgaaGreatPFnExactCalmWorldx2
set_option linter.unusedVariables false
set_option linter.unusedSimpArgs false
set_option maxRecDepth 100000
namespace Go.Proofs.YtkkglhhkpihmgaaGreat.PFnExactCalmWorld
open Go Go.RowKit Go.Proofs.YtkkglhhkpihmgaaGreatA
/-! spec_l20Early -/
def spec_l20Early.l0 : Nat→(List S154)→Int→Int→Int→Option (Int)
 | 0,_,_,_,_=>none
 | k6 + 1,l0,a1,a2,p5=>if p5 < (l0.length : Int) then if 0 ≤ p5 then (if ((rd_T154 l0 p5).f0) = a1 then if ((rd_T154 l0 p5).f1) = a2 then some p5 else spec_l20Early.l0 k6 l0 a1 a2 (wrap64 (p5 + 1)) else spec_l20Early.l0 k6 l0 a1 a2 (wrap64 (p5 + 1))) else none else some (-1)
def spec_l20Early.f (k : Nat) (l0 : List S154) (a1 : Int) (a2 : Int) : Option (Int):=spec_l20Early.l0 k l0 a1 a2 0
theorem spec_l20Early.ok {k : Nat} {l0 : List S154} {a1 : Int} {a2 : Int} {r : Int} (H : spec_l20Early.f k l0 a1 a2 = some r) : ACalls Tryz.prog 104 [] [.sl .o 6 (l0.map e154),.lit (.int .i64 a1),.lit (.int .i64 a2)] [] (.lit (.int .i64 r)):=by
 refine acalls (fn:=Tryz.f104) (nt:=31) Tryz.func104 rfl rfl (Nat.le_of_ble_eq_true rfl) fun E hE=>?_
 rw [spec_l20Early.f] at H
 refine aw_grp1<|wk_start<|kv g0 asg<|wk_end<|ac_next<|aw_grp1<|aw_grp1<|wk_start<|kv g0 asg<|wk_end<|ac_next<|aw_block ?_
 refine aw_loop1 (fun (k_ : Nat) (p5 : Int)=>k_ ≤ k∧spec_l20Early.l0 k_ l0 a1 a2 p5 = some r) (fun (p5 : Int)=>⟨[(0,.sl .o 6 (l0.map e154)),(1,.lit (.int .i64 a1)),(2,.lit (.int .i64 a2)),(7,.lit (.int .i64 p5))],[]⟩) k 0 ⟨Nat.le_refl _,H⟩ (fun K_ h_=>acw hE [] 9999 h_) (fun _=>by intro h_;have h_:=h_.2;rw [spec_l20Early.l0.eq_1] at h_;cases h_) ?_
 intro k6 p5 hq_ K11 hK12
 have hk6:=hq_.1
 have H:=hq_.2
 clear hq_
 rw [spec_l20Early.l0.eq_2] at H
 refine aw_grp1<|aw_grp1<|wk_start<|kv g0 mv<|kv g0 mv<|kv g0 (lnS lenE)<|kv g0 lss<|wk_end<|ac_next ?_
 by_cases c7 : p5 < (l0.length : Int)
 ·rw [if_pos c7] at H
  refine aw_ifT ?_ (decide_eq_true c7)
  refine aw_skip<|ac_next<|aw_grp1<|aw_block<|aw_grp1<|wk_start<|kv g0 mv<|kv g0 mv ?_
  obtain ⟨c8,H⟩:=of_if H
  refine kv g0 (ixS 154 (e154 (rd_T154 l0 p5)) c8 (getE (z:=z154) c8 c7))<|kv g0 (faR 0 0)<|kv g0 (ldR (.lit (.int .i64 ((rd_T154 l0 p5).f0))))<|kv g0 mv<|kv g0 eql<|kv g0 mv ?_
  by_cases c9 : ((rd_T154 l0 p5).f0) = a1
  ·rw [if_pos c9] at H
   refine kv (g1 (eT c9)) mv<|kv (g1 (eT c9)) mv<|kv (g1 (eT c9)) (ixS 154 (e154 (rd_T154 l0 p5)) c8 (getE (z:=z154) c8 c7))<|kv (g1 (eT c9)) (faR 1 1)<|kv (g1 (eT c9)) (ldR (.lit (.int .i64 ((rd_T154 l0 p5).f1))))<|kv (g1 (eT c9)) mv<|kv (g1 (eT c9)) eql ?_
   refine kv g0 (pkT (eT c9))<|wk_end<|ac_next ?_
   by_cases c10 : ((rd_T154 l0 p5).f1) = a2
   ·rw [if_pos c10] at H
    refine aw_ifT ?_ (eT c10)
    refine aw_grp1<|wk_start<|kv g0 mv<|kv g0 asg<|wk_end<|ac_next<|aw_ret<|ac_blkR<|ac_thenR<|ac_thenR<|ac_blkR<|ac_thenR ?_
    obtain rfl:=Option.some.inj H
    exact acr hE [.tmp 6] (.tmp .nil) (.one _) [] 9999
   rw [if_neg c10] at H
   refine aw_ifF ?_ (eF c10)
   refine aw_skip<|ac_blkN<|ac_next<|wk_start<|kv g0 mv<|kv g0 add6<|kv g0 asg<|wk_end<|ac_k ?_
   exact acw hE [] 9999 (hK12 k6 (wrap64 (p5 + 1)) (Nat.le_refl _) ⟨by omega,H⟩)
  rw [if_neg c9] at H
  refine kx (hT (eF c9)) ?_
  refine kx (hT (eF c9)) ?_
  refine kx (hT (eF c9)) ?_
  refine kx (hT (eF c9)) ?_
  refine kx (hT (eF c9)) ?_
  refine kx (hT (eF c9)) ?_
  refine kx (hT (eF c9)) ?_
  refine kv g0 (pkF (eF c9))<|wk_end<|ac_next ?_
  refine aw_ifF ?_ rfl
  refine aw_skip<|ac_blkN<|ac_next<|wk_start<|kv g0 mv<|kv g0 add6<|kv g0 asg<|wk_end<|ac_k ?_
  exact acw hE [] 9999 (hK12 k6 (wrap64 (p5 + 1)) (Nat.le_refl _) ⟨by omega,H⟩)
 rw [if_neg c7] at H
 refine aw_ifF ?_ (decide_eq_false c7)
 refine aw_exit<|ac_then<|ac_then<|ac_hit rfl<|ac_next<|aw_grp1<|wk_start<|kv g0 asg<|wk_end<|ac_next<|aw_ret ?_
 obtain rfl:=Option.some.inj H
 exact acr hE [.tmp 6] (.tmp .nil) (.one _) [] 9999
/-! spec_Kept -/
mutual
def spec_Kept.j0 : Nat→Int→Int→Int→Int→Int→Int→Int→((List S139) × (List Int) × (List S154) × Int × (List Int))→Bool→Option ((List S139) × (List Int) × (List S154) × Int × (List Int) × Bool)
 | 0,_,_,_,_,_,_,_,_,_=>none
 | k18 + 1,a1_0,a1_1,a1_2,a1_3,a1_4,a1_5,a1_6,t1,p17=>if p17 = true then (if t1.2.2.1.length + ([(⟨a1_1,a1_2,(⟨a1_3,a1_4,a1_5,a1_6⟩ : S63)⟩ : S154)] : List S154).length < 2932031007402 then some (t1.1,t1.2.1,t1.2.2.1 ++ ([(⟨a1_1,a1_2,(⟨a1_3,a1_4,a1_5,a1_6⟩ : S63)⟩ : S154)] : List S154),t1.2.2.2.1,t1.2.2.2.2,false) else none) else some (t1.1,t1.2.1,t1.2.2.1,t1.2.2.2.1,t1.2.2.2.2,false)
def spec_Kept.l0 : Nat→Int→Int→Int→Int→Int→Int→Int→((List S139) × (List Int) × (List S154) × Int × (List Int))→(List S139)→(List S154)→Int→Option ((List S139) × (List Int) × (List S154) × Int × (List Int) × Bool)
 | 0,_,_,_,_,_,_,_,_,_,_,_=>none
 | k39 + 1,a1_0,a1_1,a1_2,a1_3,a1_4,a1_5,a1_6,t1,q36,q37,p38=>if (q36.length : Int) < 200 then (spec_l20Early.f k39 q37 a1_1 p38).bind fun t41=>if t41 < 0 then spec_Kept.j1 k39 a1_0 a1_1 a1_2 a1_3 a1_4 a1_5 a1_6 t1 q36 q37 p38 else if 0 ≤ t41 then (if t41 < (q37.length : Int) then (if q36.length + ([(⟨a1_1,p38,(⟨(rd_T154 q37 t41).f2.f0,(rd_T154 q37 t41).f2.f1,(rd_T154 q37 t41).f2.f2,(rd_T154 q37 t41).f2.f3⟩ : S63)⟩ : S139)] : List S139).length < 2932031007402 then if t41 ≤ (q37.length : Int) then (if ([] : List S154).length + (q37.take t41.toNat).length < 2932031007402 then (if 0 ≤ (wrap64 (t41 + 1)) then (if (wrap64 (t41 + 1)) ≤ (q37.length : Int) then (if (([] : List S154) ++ (q37.take t41.toNat)).length + (q37.drop (wrap64 (t41 + 1)).toNat).length < 2932031007402 then spec_Kept.l0 k39 a1_0 a1_1 a1_2 a1_3 a1_4 a1_5 a1_6 t1 (q36 ++ ([(⟨a1_1,p38,(⟨(rd_T154 q37 t41).f2.f0,(rd_T154 q37 t41).f2.f1,(rd_T154 q37 t41).f2.f2,(rd_T154 q37 t41).f2.f3⟩ : S63)⟩ : S139)] : List S139)) ((([] : List S154) ++ (q37.take t41.toNat)) ++ (q37.drop (wrap64 (t41 + 1)).toNat)) (wrap64 (p38 + 1)) else none) else none) else none) else none) else none else none) else none) else none else spec_Kept.j1 k39 a1_0 a1_1 a1_2 a1_3 a1_4 a1_5 a1_6 t1 q36 q37 p38
def spec_Kept.j1 : Nat→Int→Int→Int→Int→Int→Int→Int→((List S139) × (List Int) × (List S154) × Int × (List Int))→(List S139)→(List S154)→Int→Option ((List S139) × (List Int) × (List S154) × Int × (List Int) × Bool)
 | 0,_,_,_,_,_,_,_,_,_,_,_=>none
 | k57 + 1,a1_0,a1_1,a1_2,a1_3,a1_4,a1_5,a1_6,t1,q54,q55,p56=>if a1_1 < (t1.2.1.length : Int) then some (q54,t1.2.1.set a1_1.toNat p56,q55,t1.2.2.2.1,t1.2.2.2.2,true) else none
end
def spec_Kept.f (k : Nat) (l0_0 : List S139) (l0_1 : List Int) (l0_2 : List S154) (a0_3 : Int) (l0_4 : List Int) (a1_0 : Int) (a1_1 : Int) (a1_2 : Int) (a1_3 : Int) (a1_4 : Int) (a1_5 : Int) (a1_6 : Int) : Option ((List S139) × (List Int) × (List S154) × Int × (List Int) × Bool):=(spec_l20Copy.f l0_0 l0_1 l0_2 a0_3 l0_4).bind fun t1=>(spec_FrameOk.f a1_0 a1_1 a1_2 a1_3 a1_4 a1_5 a1_6).bind fun t3=>(if t3 = true then (if a1_0 = 1 then (if a1_1 ≥ (l0_1.length : Int) then some (t1.1,t1.2.1,t1.2.2.1,t1.2.2.2.1,t1.2.2.2.2,false) else if (l0_0.length : Int) ≥ 200 then some (t1.1,t1.2.1,t1.2.2.1,t1.2.2.2.1,t1.2.2.2.2,false) else if 0 ≤ a1_1 then (if a1_1 < (l0_1.length : Int) then if a1_2 = (rd l0_1 a1_1) then if t1.1.length + ([(⟨a1_1,a1_2,(⟨a1_3,a1_4,a1_5,a1_6⟩ : S63)⟩ : S139)] : List S139).length < 2932031007402 then spec_Kept.l0 k a1_0 a1_1 a1_2 a1_3 a1_4 a1_5 a1_6 t1 (t1.1 ++ ([(⟨a1_1,a1_2,(⟨a1_3,a1_4,a1_5,a1_6⟩ : S63)⟩ : S139)] : List S139)) t1.2.2.1 (wrap64 ((rd l0_1 a1_1) + 1)) else none else (if a1_2 > (rd l0_1 a1_1) then (if (wrap64 (a1_2 - 3)) ≤ (rd l0_1 a1_1) then ((spec_l20Early.f k l0_2 a1_1 a1_2).bind fun t14=>(if t14 < 0 then spec_Kept.j0 k a1_0 a1_1 a1_2 a1_3 a1_4 a1_5 a1_6 t1 (decide ((l0_2.length : Int) < 3)) else spec_Kept.j0 k a1_0 a1_1 a1_2 a1_3 a1_4 a1_5 a1_6 t1 false)) else spec_Kept.j0 k a1_0 a1_1 a1_2 a1_3 a1_4 a1_5 a1_6 t1 false) else spec_Kept.j0 k a1_0 a1_1 a1_2 a1_3 a1_4 a1_5 a1_6 t1 false) else none) else none) else some (t1.1,t1.2.1,t1.2.2.1,t1.2.2.2.1,t1.2.2.2.2,false)) else some (t1.1,t1.2.1,t1.2.2.1,t1.2.2.2.1,t1.2.2.2.2,false))
theorem spec_Kept.ok {k : Nat} {l0_0 : List S139} {l0_1 : List Int} {l0_2 : List S154} {a0_3 : Int} {l0_4 : List Int} {a1_0 : Int} {a1_1 : Int} {a1_2 : Int} {a1_3 : Int} {a1_4 : Int} {a1_5 : Int} {a1_6 : Int} {r : (List S139) × (List Int) × (List S154) × Int × (List Int) × Bool} (H : spec_Kept.f k l0_0 l0_1 l0_2 a0_3 l0_4 a1_0 a1_1 a1_2 a1_3 a1_4 a1_5 a1_6 = some r) : ACalls Tryz.prog 142 [] [.agg [.sl .o 6 (l0_0.map e139),.sl .o 1 (l0_1.map (eI .i64)),.sl .o 6 (l0_2.map e154),.lit (.int .i64 a0_3),.sl .o 1 (l0_4.map (eI .i64))],.agg [.lit (.int .i64 a1_0),.lit (.int .i64 a1_1),.lit (.int .i64 a1_2),.lit (.int .i64 a1_3),.lit (.int .i64 a1_4),.lit (.int .i64 a1_5),.lit (.int .i64 a1_6)]] [(0,.row 139 6 (r.1.map e139)),(1,.row 3 1 (r.2.1.map (eI .i64))),(2,.row 154 6 (r.2.2.1.map e154)),(3,.row 3 1 (r.2.2.2.2.1.map (eI .i64)))] (.tup [.agg [.row 0,.row 1,.row 2,.lit (.int .i64 r.2.2.2.1),.row 3],.lit (.bool r.2.2.2.2.2)]):=by
 refine acalls (fn:=Tryz.f142) (nt:=147) Tryz.func142 rfl rfl (Nat.le_of_ble_eq_true rfl) fun E hE=>?_
 rw [spec_Kept.f] at H
 refine aw_grp1<|wk_start<|kb g0 (bxA 0)<|kb g0 (bxA 1)<|kb g0 (alc 2 [.slice none 0 0,.slice none 0 0,.slice none 0 0,.int .i64 0,.slice none 0 0] [.lit (.slice none 0 0),.lit (.slice none 0 0),.lit (.slice none 0 0),.lit (.int .i64 0),.lit (.slice none 0 0)])<|kv g0 asg<|wk_end<|ac_next<|aw_grp1<|wk_start<|kv g0 (ldBA 5 [.sl .o 6 (l0_0.map e139),.sl .o 1 (l0_1.map (eI .i64)),.sl .o 6 (l0_2.map e154),.lit (.int .i64 a0_3),.sl .o 1 (l0_4.map (eI .i64))]) ?_
 obtain ⟨t1,A2,H⟩:=of_bind H
 refine kcS4 10 (.agg [.row 3,.row 4,.row 5,.lit (.int .i64 t1.2.2.2.1),.row 6]) [(3,.row 139 6 (t1.1.map e139)),(4,.row 3 1 (t1.2.1.map (eI .i64))),(5,.row 154 6 (t1.2.2.1.map e154)),(6,.row 3 1 (t1.2.2.2.2.map (eI .i64)))] g0 (cal (spec_l20Copy.ok A2) [3,4,5,6] 9999 .n (hf:=Tryz.func133)) rfl rfl<|kb g0 (alc 7 [.slice none 0 0,.slice none 0 0,.slice none 0 0,.int .i64 0,.slice none 0 0] [.lit (.slice none 0 0),.lit (.slice none 0 0),.lit (.slice none 0 0),.lit (.int .i64 0),.lit (.slice none 0 0)])<|ks g0 (stB 5 [.row 3,.row 4,.row 5,.lit (.int .i64 t1.2.2.2.1),.row 6])<|wk_end<|ac_next<|aw_grp1<|aw_grp1<|wk_start<|kv g0 (ldBA 7 [.lit (.int .i64 a1_0),.lit (.int .i64 a1_1),.lit (.int .i64 a1_2),.lit (.int .i64 a1_3),.lit (.int .i64 a1_4),.lit (.int .i64 a1_5),.lit (.int .i64 a1_6)]) ?_
 obtain ⟨t3,A4,H⟩:=of_bind H
 refine kcS0 12 (.lit (.bool t3)) [] g0 (cal (spec_FrameOk.ok A4) [] 9999 .n (hf:=Tryz.func214)) rfl rfl<|kv g0 not_<|kv g0 mv ?_
 by_cases c5 : t3 = true
 ·rw [if_pos c5] at H
  refine kv (g1 (nF c5)) (faB 0 0)<|kv (g1 (nF c5)) ldB<|kv (g1 (nF c5)) neq ?_
  refine kv g0 (pkF (nF c5))<|kv g0 mv ?_
  by_cases c6 : a1_0 = 1
  ·rw [if_pos c6] at H
   refine kv (g1 (eM c6)) (faB 1 1)<|kv (g1 (eM c6)) ldB<|kv (g1 (eM c6)) (faB 1 1)<|kv (g1 (eM c6)) ldB<|kv (g1 (eM c6)) (lnS lenE)<|kv (g1 (eM c6)) geq ?_
   refine kv g0 (pkF (eM c6))<|kv g0 mv ?_
   by_cases c7 : a1_1 ≥ (l0_1.length : Int)
   ·rw [if_pos c7] at H
    refine kx (hF (decide_eq_true c7)) ?_
    refine kx (hF (decide_eq_true c7)) ?_
    refine kx (hF (decide_eq_true c7)) ?_
    refine kx (hF (decide_eq_true c7)) ?_
    refine kv g0 (pkT (decide_eq_true c7))<|wk_end<|ac_next ?_
    refine aw_ifT ?_ rfl
    refine aw_grp1<|wk_start<|kv g0 (ldBA 5 [.row 3,.row 4,.row 5,.lit (.int .i64 t1.2.2.2.1),.row 6])<|ks g0 (stB 5 [.row 3,.row 4,.row 5,.lit (.int .i64 t1.2.2.2.1),.row 6])<|kv g0 asg<|wk_end<|ac_next<|aw_ret<|ac_thenR ?_
    obtain rfl:=Option.some.inj H
    exact acr hE [.cell 4 41,.tmp 5] (rcA 5 (.tmp .nil)) (.many _ _ _) [(0,3),(1,4),(2,5),(3,6)] 9999
   rw [if_neg c7] at H
   refine kv (g1 (decide_eq_false c7)) (faB 0 0)<|kv (g1 (decide_eq_false c7)) ldB<|kv (g1 (decide_eq_false c7)) (lnS lenE)<|kv (g1 (decide_eq_false c7)) geq ?_
   refine kv g0 (pkF (decide_eq_false c7))<|wk_end<|ac_next ?_
   by_cases c8 : (l0_0.length : Int) ≥ 200
   ·rw [if_pos c8] at H
    refine aw_ifT ?_ (decide_eq_true c8)
    refine aw_grp1<|wk_start<|kv g0 (ldBA 5 [.row 3,.row 4,.row 5,.lit (.int .i64 t1.2.2.2.1),.row 6])<|ks g0 (stB 5 [.row 3,.row 4,.row 5,.lit (.int .i64 t1.2.2.2.1),.row 6])<|kv g0 asg<|wk_end<|ac_next<|aw_ret<|ac_thenR ?_
    obtain rfl:=Option.some.inj H
    exact acr hE [.cell 4 41,.tmp 5] (rcA 5 (.tmp .nil)) (.many _ _ _) [(0,3),(1,4),(2,5),(3,6)] 9999
   rw [if_neg c8] at H
   refine aw_ifF ?_ (decide_eq_false c8)
   refine aw_skip<|ac_next<|aw_grp1<|wk_start<|kv g0 (faB 1 1)<|kv g0 ldB<|kv g0 (faB 1 1)<|kv g0 ldB ?_
   obtain ⟨c9,H⟩:=of_if H
   obtain ⟨c10,H⟩:=of_if H
   refine kv g0 (ixS 3 (eI .i64 (rd l0_1 a1_1)) c9 (getE (z:=(0 : Int)) c9 c10))<|kv g0 (ldR (.lit (.int .i64 (rd l0_1 a1_1))))<|kv g0 asg<|wk_end<|ac_next<|aw_grp1<|aw_grp1<|wk_start<|kv g0 (faB 2 2)<|kv g0 ldB<|kv g0 mv<|kv g0 neq<|wk_end<|ac_next ?_
   by_cases c11 : a1_2 = (rd l0_1 a1_1)
   ·rw [if_pos c11] at H
    refine aw_ifF ?_ (eM c11)
    refine aw_skip<|ac_next<|aw_grp1<|wk_start<|kv g0 (faB 0 0)<|kv g0 ldB<|kv g0 (faB 1 1)<|kv g0 ldB<|kv g0 (faB 2 2)<|kv g0 ldB<|kv g0 (faB 3 3)<|kv g0 (ldBA 4 [.lit (.int .i64 a1_3),.lit (.int .i64 a1_4),.lit (.int .i64 a1_5),.lit (.int .i64 a1_6)])<|kv g0 (bld [(0,1),(1,1),(2,4)] [.int .i64 0,.int .i64 0,.int .i64 0,.int .i64 0,.int .i64 0,.int .i64 0] [.lit (.int .i64 a1_1),.lit (.int .i64 a1_2),.lit (.int .i64 a1_3),.lit (.int .i64 a1_4),.lit (.int .i64 a1_5),.lit (.int .i64 a1_6)])<|kb g0 (bsl 10 139 6 [.int .i64 0,.int .i64 0,.int .i64 0,.int .i64 0,.int .i64 0,.int .i64 0] (([(⟨a1_1,a1_2,(⟨a1_3,a1_4,a1_5,a1_6⟩ : S63)⟩ : S139)] : List S139).map e139)) ?_
    obtain ⟨c22,H⟩:=of_if H
    refine kc g0 (apR 11 139 6 48 [.int .i64 0,.int .i64 0,.int .i64 0,.int .i64 0,.int .i64 0,.int .i64 0] ((t1.1 ++ ([(⟨a1_1,a1_2,(⟨a1_3,a1_4,a1_5,a1_6⟩ : S63)⟩ : S139)] : List S139)).map e139) (.row rfl) (apb c22 rfl) appE)<|kv g0 (faB 0 0)<|ks g0 (stB 1 [.row 11,.row 4,.row 5,.lit (.int .i64 t1.2.2.2.1),.row 6])<|wk_end<|ac_next<|aw_grp1<|wk_start<|kv g0 mv<|kv g0 add6<|kv g0 asg<|wk_end<|ac_next ?_
    refine aw_cut1 (J:=fun K_=>∀ (k_ : Nat) (q54 : List S139) (q55 : List S154) (p56 : Int),k_ ≤ k→spec_Kept.j1 k_ a1_0 a1_1 a1_2 a1_3 a1_4 a1_5 a1_6 t1 q54 q55 p56 = some r→ACont E 147 ⟨[(3,.box 1 0),(4,.box 2 0),(6,.box 7 0),(7,.lit (.int .i64 p56))],[(1,.box 109 [.lit (.int .i64 a1_0),.lit (.int .i64 a1_1),.lit (.int .i64 a1_2),.lit (.int .i64 a1_3),.lit (.int .i64 a1_4),.lit (.int .i64 a1_5),.lit (.int .i64 a1_6)]),(2,.box 41 [.lit (.slice none 0 0),.lit (.slice none 0 0),.lit (.slice none 0 0),.lit (.int .i64 0),.lit (.slice none 0 0)]),(4,.row 3 1 (t1.2.1.map (eI .i64))),(5,.row 154 6 (q55.map e154)),(6,.row 3 1 (t1.2.2.2.2.map (eI .i64))),(7,.box 41 [.row 11,.row 4,.row 5,.lit (.int .i64 t1.2.2.2.1),.row 6]),(11,.row 139 6 (q54.map e139))]⟩ K_) ?_ ?_
    ·intro K_ hJ59
     refine aw_block ?_
     refine aw_loop3 (fun (k_ : Nat) (q36 : List S139) (q37 : List S154) (p38 : Int)=>k_ ≤ k∧spec_Kept.l0 k_ a1_0 a1_1 a1_2 a1_3 a1_4 a1_5 a1_6 t1 q36 q37 p38 = some r) (fun (q36 : List S139) (q37 : List S154) (p38 : Int)=>⟨[(3,.box 1 0),(4,.box 2 0),(6,.box 7 0),(7,.lit (.int .i64 p38))],[(1,.box 109 [.lit (.int .i64 a1_0),.lit (.int .i64 a1_1),.lit (.int .i64 a1_2),.lit (.int .i64 a1_3),.lit (.int .i64 a1_4),.lit (.int .i64 a1_5),.lit (.int .i64 a1_6)]),(2,.box 41 [.lit (.slice none 0 0),.lit (.slice none 0 0),.lit (.slice none 0 0),.lit (.int .i64 0),.lit (.slice none 0 0)]),(4,.row 3 1 (t1.2.1.map (eI .i64))),(5,.row 154 6 (q37.map e154)),(6,.row 3 1 (t1.2.2.2.2.map (eI .i64))),(7,.box 41 [.row 11,.row 4,.row 5,.lit (.int .i64 t1.2.2.2.1),.row 6]),(11,.row 139 6 (q36.map e139))]⟩) k (t1.1 ++ ([(⟨a1_1,a1_2,(⟨a1_3,a1_4,a1_5,a1_6⟩ : S63)⟩ : S139)] : List S139)) t1.2.2.1 (wrap64 ((rd l0_1 a1_1) + 1)) ⟨Nat.le_refl _,H⟩ (fun K_ h_=>acw hE [(1,1),(2,2),(4,4),(5,5),(6,6),(7,7),(11,11)] 9999 h_) (fun _ _ _=>by intro h_;have h_:=h_.2;rw [spec_Kept.l0.eq_1] at h_;cases h_) ?_
     intro k39 q36 q37 p38 hq_ K52 hK53
     have hk39:=hq_.1
     have H:=hq_.2
     clear hq_
     rw [spec_Kept.l0.eq_2] at H
     refine aw_grp1<|aw_grp1<|wk_start<|kv g0 (faB 0 0)<|kv g0 ldB<|kv g0 (lnR lenE)<|kv g0 lss<|wk_end<|ac_next ?_
     by_cases c40 : (q36.length : Int) < 200
     ·rw [if_pos c40] at H
      refine aw_ifT ?_ (decide_eq_true c40)
      refine aw_skip<|ac_next<|aw_block<|aw_grp1<|wk_start<|kv g0 (faB 2 2)<|kv g0 ldB<|kv g0 (faB 1 1)<|kv g0 ldB<|kv g0 mv ?_
      obtain ⟨t41,A42,H⟩:=of_bind H
      refine kcS0 107 (.lit (.int .i64 t41)) [] g0 (cal (spec_l20Early.ok A42) [] 9999 .n (hf:=Tryz.func104)) rfl rfl<|kv g0 asg<|wk_end<|ac_next<|aw_grp1<|aw_grp1<|wk_start<|kv g0 mv<|kv g0 lss<|wk_end<|ac_next ?_
      by_cases c43 : t41 < 0
      ·rw [if_pos c43] at H
       refine aw_ifT ?_ (decide_eq_true c43)
       refine aw_exit<|ac_then<|ac_miss rfl<|ac_then<|ac_hit rfl<|ac_k ?_
       exact acw hE [(1,1),(2,2),(4,4),(5,5),(6,6),(7,7),(11,11)] 9999 (hJ59 k39 q36 q37 p38 (by omega) H)
      rw [if_neg c43] at H
      refine aw_ifF ?_ (decide_eq_false c43)
      refine aw_skip<|ac_next<|aw_grp1<|wk_start<|kv g0 (faB 0 0)<|kv g0 ldB<|kv g0 (faB 1 1)<|kv g0 ldB<|kv g0 mv<|kv g0 (faB 2 2)<|kv g0 ldB<|kv g0 mv ?_
      obtain ⟨c44,H⟩:=of_if H
      obtain ⟨c45,H⟩:=of_if H
      refine kv g0 (ixR 154 c44 (ltE c45))<|kv g0 (faE 2 2)<|kv g0 (ldEA 4 (e154 (rd_T154 q37 t41)) [.lit (.int .i64 ((rd_T154 q37 t41).f2.f0)),.lit (.int .i64 ((rd_T154 q37 t41).f2.f1)),.lit (.int .i64 ((rd_T154 q37 t41).f2.f2)),.lit (.int .i64 ((rd_T154 q37 t41).f2.f3))] (getE (z:=z154) c44 c45))<|kv g0 (bld [(0,1),(1,1),(2,4)] [.int .i64 0,.int .i64 0,.int .i64 0,.int .i64 0,.int .i64 0,.int .i64 0] [.lit (.int .i64 a1_1),.lit (.int .i64 p38),.lit (.int .i64 ((rd_T154 q37 t41).f2.f0)),.lit (.int .i64 ((rd_T154 q37 t41).f2.f1)),.lit (.int .i64 ((rd_T154 q37 t41).f2.f2)),.lit (.int .i64 ((rd_T154 q37 t41).f2.f3))])<|kb g0 (bsl 12 139 6 [.int .i64 0,.int .i64 0,.int .i64 0,.int .i64 0,.int .i64 0,.int .i64 0] (([(⟨a1_1,p38,(⟨(rd_T154 q37 t41).f2.f0,(rd_T154 q37 t41).f2.f1,(rd_T154 q37 t41).f2.f2,(rd_T154 q37 t41).f2.f3⟩ : S63)⟩ : S139)] : List S139).map e139)) ?_
      obtain ⟨c46,H⟩:=of_if H
      refine kc g0 (apR 13 139 6 48 [.int .i64 0,.int .i64 0,.int .i64 0,.int .i64 0,.int .i64 0,.int .i64 0] ((q36 ++ ([(⟨a1_1,p38,(⟨(rd_T154 q37 t41).f2.f0,(rd_T154 q37 t41).f2.f1,(rd_T154 q37 t41).f2.f2,(rd_T154 q37 t41).f2.f3⟩ : S63)⟩ : S139)] : List S139)).map e139) (.row rfl) (apb c46 rfl) appE)<|kv g0 (faB 0 0)<|ks g0 (stB 1 [.row 13,.row 4,.row 5,.lit (.int .i64 t1.2.2.2.1),.row 6])<|wk_end_draw hM (by kernel_rfl)<|ac_next<|aw_grp1<|wk_start<|kb g0 (bsl 14 154 6 [.int .i64 0,.int .i64 0,.int .i64 0,.int .i64 0,.int .i64 0,.int .i64 0] (([] : List S154).map e154))<|kv g0 (faB 2 2)<|kv g0 ldB<|kv g0 mv ?_
      obtain ⟨c47,H⟩:=of_if H
      refine kv g0 (srH 154 c44 c47) ?_
      obtain ⟨c48,H⟩:=of_if H
      refine kc g0 (apR 15 154 6 48 [.int .i64 0,.int .i64 0,.int .i64 0,.int .i64 0,.int .i64 0,.int .i64 0] ((([] : List S154) ++ (q37.take t41.toNat)).map e154) (nwS rfl mapT) (apb c48 rfl) appE)<|kv g0 (faB 2 2)<|kv g0 ldB<|kv g0 mv<|kv g0 add6 ?_
      obtain ⟨c49,H⟩:=of_if H
      obtain ⟨c50,H⟩:=of_if H
      refine kv g0 (srL 154 c49 c50) ?_
      obtain ⟨c51,H⟩:=of_if H
      refine kc g0 (apR 16 154 6 48 [.int .i64 0,.int .i64 0,.int .i64 0,.int .i64 0,.int .i64 0,.int .i64 0] (((([] : List S154) ++ (q37.take t41.toNat)) ++ (q37.drop (wrap64 (t41 + 1)).toNat)).map e154) (nwS rfl mapD) (apb c51 rfl) appE)<|kv g0 (faB 2 2)<|ks g0 (stB 1 [.row 13,.row 4,.row 16,.lit (.int .i64 t1.2.2.2.1),.row 6])<|wk_end_draw hM (by kernel_rfl)<|ac_next<|wk_start<|kv g0 mv<|kv g0 add6<|kv g0 asg<|wk_end<|ac_blkN<|ac_k ?_
      exact acw hE [(1,1),(2,2),(4,4),(5,16),(6,6),(7,7),(11,13)] 9999 (hK53 k39 (q36 ++ ([(⟨a1_1,p38,(⟨(rd_T154 q37 t41).f2.f0,(rd_T154 q37 t41).f2.f1,(rd_T154 q37 t41).f2.f2,(rd_T154 q37 t41).f2.f3⟩ : S63)⟩ : S139)] : List S139)) ((([] : List S154) ++ (q37.take t41.toNat)) ++ (q37.drop (wrap64 (t41 + 1)).toNat)) (wrap64 (p38 + 1)) (Nat.le_refl _) ⟨by omega,H⟩)
     rw [if_neg c40] at H
     refine aw_ifF ?_ (decide_eq_false c40)
     refine aw_exit<|ac_then<|ac_then<|ac_hit rfl<|ac_k ?_
     exact acw hE [(1,1),(2,2),(4,4),(5,5),(6,6),(7,7),(11,11)] 9999 (hJ59 k39 q36 q37 p38 (by omega) H)
    intro k_ q54 q55 p56 hk_ H
    rcases k_ with _ | k57
    ·rw [spec_Kept.j1.eq_1] at H;cases H
    have hk57 : k57 ≤ k:=by omega
    clear hk_
    rw [spec_Kept.j1.eq_2] at H
    refine aw_grp1<|wk_start<|kv g0 (faB 1 1)<|kv g0 ldB<|kv g0 (faB 1 1)<|kv g0 ldB<|kv g0 mv ?_
    obtain ⟨c58,H⟩:=of_if H
    refine kv g0 (ixR 3 c9 (ltE c58))<|ks g0 (stE 1 (eI .i64 p56) ((t1.2.1.set a1_1.toNat p56).map (eI .i64)) (getE (z:=(0 : Int)) c9 c58) setE)<|wk_end<|ac_next<|aw_grp1<|wk_start<|kv g0 (ldBA 5 [.row 11,.row 4,.row 5,.lit (.int .i64 t1.2.2.2.1),.row 6])<|ks g0 (stB 5 [.row 11,.row 4,.row 5,.lit (.int .i64 t1.2.2.2.1),.row 6])<|kv g0 asg<|wk_end<|ac_next<|aw_ret ?_
    obtain rfl:=Option.some.inj H
    exact acr hE [.cell 4 41,.tmp 5] (rcA 5 (.tmp .nil)) (.many _ _ _) [(0,11),(1,4),(2,5),(3,6)] 9999
   rw [if_neg c11] at H
   refine aw_ifT ?_ (eN c11)
   refine aw_grp1 ?_
   refine aw_cut1 (J:=fun K_=>∀ (k_ : Nat) (p17 : Bool),k_ ≤ k→spec_Kept.j0 k_ a1_0 a1_1 a1_2 a1_3 a1_4 a1_5 a1_6 t1 p17 = some r→ACont E 147 ⟨[(3,.box 1 0),(4,.box 2 0),(6,.box 7 0),(70,.lit (.bool p17))],[(1,.box 109 [.lit (.int .i64 a1_0),.lit (.int .i64 a1_1),.lit (.int .i64 a1_2),.lit (.int .i64 a1_3),.lit (.int .i64 a1_4),.lit (.int .i64 a1_5),.lit (.int .i64 a1_6)]),(2,.box 41 [.lit (.slice none 0 0),.lit (.slice none 0 0),.lit (.slice none 0 0),.lit (.int .i64 0),.lit (.slice none 0 0)]),(3,.row 139 6 (t1.1.map e139)),(4,.row 3 1 (t1.2.1.map (eI .i64))),(5,.row 154 6 (t1.2.2.1.map e154)),(6,.row 3 1 (t1.2.2.2.2.map (eI .i64))),(7,.box 41 [.row 3,.row 4,.row 5,.lit (.int .i64 t1.2.2.2.1),.row 6])]⟩ K_) ?_ ?_
   ·intro K_ hJ21
    refine wk_start<|kv g0 (faB 2 2)<|kv g0 ldB<|kv g0 mv<|kv g0 gtr<|kv g0 mv ?_
    by_cases c12 : a1_2 > (rd l0_1 a1_1)
    ·rw [if_pos c12] at H
     refine kv (g1 (decide_eq_true c12)) (faB 2 2)<|kv (g1 (decide_eq_true c12)) ldB<|kv (g1 (decide_eq_true c12)) sub6<|kv (g1 (decide_eq_true c12)) mv<|kv (g1 (decide_eq_true c12)) leq ?_
     refine kv g0 (pkT (decide_eq_true c12))<|kv g0 mv ?_
     by_cases c13 : (wrap64 (a1_2 - 3)) ≤ (rd l0_1 a1_1)
     ·rw [if_pos c13] at H
      refine kv (g1 (decide_eq_true c13)) (faB 2 2)<|kv (g1 (decide_eq_true c13)) ldB<|kv (g1 (decide_eq_true c13)) (faB 1 1)<|kv (g1 (decide_eq_true c13)) ldB<|kv (g1 (decide_eq_true c13)) (faB 2 2)<|kv (g1 (decide_eq_true c13)) ldB ?_
      obtain ⟨t14,A15,H⟩:=of_bind H
      refine kcS0 62 (.lit (.int .i64 t14)) [] (g1 (decide_eq_true c13)) (cal (spec_l20Early.ok A15) [] 9999 .n (hf:=Tryz.func104)) rfl rfl<|kv (g1 (decide_eq_true c13)) lss ?_
      refine kv g0 (pkT (decide_eq_true c13))<|kv g0 mv ?_
      by_cases c16 : t14 < 0
      ·rw [if_pos c16] at H
       refine kv (g1 (decide_eq_true c16)) (faB 2 2)<|kv (g1 (decide_eq_true c16)) ldB<|kv (g1 (decide_eq_true c16)) (lnS lenE)<|kv (g1 (decide_eq_true c16)) lss ?_
       refine kv g0 (pkT (decide_eq_true c16))<|wk_end<|ac_k ?_
       exact acw hE [(1,1),(2,2),(3,3),(4,4),(5,5),(6,6),(7,7)] 9999 (hJ21 k (decide ((l0_2.length : Int) < 3)) (Nat.le_refl _) H)
      rw [if_neg c16] at H
      refine kx (hT (decide_eq_false c16)) ?_
      refine kx (hT (decide_eq_false c16)) ?_
      refine kx (hT (decide_eq_false c16)) ?_
      refine kx (hT (decide_eq_false c16)) ?_
      refine kv g0 (pkF (decide_eq_false c16))<|wk_end<|ac_k ?_
      exact acw hE [(1,1),(2,2),(3,3),(4,4),(5,5),(6,6),(7,7)] 9999 (hJ21 k false (Nat.le_refl _) H)
     rw [if_neg c13] at H
     refine kx (hT (decide_eq_false c13)) ?_
     refine kx (hT (decide_eq_false c13)) ?_
     refine kx (hT (decide_eq_false c13)) ?_
     refine kx (hT (decide_eq_false c13)) ?_
     refine kx (hT (decide_eq_false c13)) ?_
     refine kx (hT (decide_eq_false c13)) ?_
     refine kx (hT (decide_eq_false c13)) ?_
     refine kx (hT (decide_eq_false c13)) ?_
     refine kv g0 (pkF (decide_eq_false c13))<|kv g0 mv<|kx (hT rfl) ?_
     refine kx (hT rfl) ?_
     refine kx (hT rfl) ?_
     refine kx (hT rfl) ?_
     refine kv g0 (pkF rfl)<|wk_end<|ac_k ?_
     exact acw hE [(1,1),(2,2),(3,3),(4,4),(5,5),(6,6),(7,7)] 9999 (hJ21 k false (Nat.le_refl _) H)
    rw [if_neg c12] at H
    refine kx (hT (decide_eq_false c12)) ?_
    refine kx (hT (decide_eq_false c12)) ?_
    refine kx (hT (decide_eq_false c12)) ?_
    refine kx (hT (decide_eq_false c12)) ?_
    refine kx (hT (decide_eq_false c12)) ?_
    refine kv g0 (pkF (decide_eq_false c12))<|kv g0 mv<|kx (hT rfl) ?_
    refine kx (hT rfl) ?_
    refine kx (hT rfl) ?_
    refine kx (hT rfl) ?_
    refine kx (hT rfl) ?_
    refine kx (hT rfl) ?_
    refine kx (hT rfl) ?_
    refine kx (hT rfl) ?_
    refine kv g0 (pkF rfl)<|kv g0 mv<|kx (hT rfl) ?_
    refine kx (hT rfl) ?_
    refine kx (hT rfl) ?_
    refine kx (hT rfl) ?_
    refine kv g0 (pkF rfl)<|wk_end<|ac_k ?_
    exact acw hE [(1,1),(2,2),(3,3),(4,4),(5,5),(6,6),(7,7)] 9999 (hJ21 k false (Nat.le_refl _) H)
   intro k_ p17 hk_ H
   rcases k_ with _ | k18
   ·rw [spec_Kept.j0.eq_1] at H;cases H
   have hk18 : k18 ≤ k:=by omega
   clear hk_
   rw [spec_Kept.j0.eq_2] at H
   by_cases c19 : p17 = true
   ·rw [if_pos c19] at H
    refine aw_ifT ?_ c19
    refine wk_start<|kv g0 (faB 2 2)<|kv g0 ldB<|kv g0 (faB 1 1)<|kv g0 ldB<|kv g0 (faB 2 2)<|kv g0 ldB<|kv g0 (faB 3 3)<|kv g0 (ldBA 4 [.lit (.int .i64 a1_3),.lit (.int .i64 a1_4),.lit (.int .i64 a1_5),.lit (.int .i64 a1_6)])<|kv g0 (bld [(0,1),(1,1),(2,4)] [.int .i64 0,.int .i64 0,.int .i64 0,.int .i64 0,.int .i64 0,.int .i64 0] [.lit (.int .i64 a1_1),.lit (.int .i64 a1_2),.lit (.int .i64 a1_3),.lit (.int .i64 a1_4),.lit (.int .i64 a1_5),.lit (.int .i64 a1_6)])<|kb g0 (bsl 8 154 6 [.int .i64 0,.int .i64 0,.int .i64 0,.int .i64 0,.int .i64 0,.int .i64 0] (([(⟨a1_1,a1_2,(⟨a1_3,a1_4,a1_5,a1_6⟩ : S63)⟩ : S154)] : List S154).map e154)) ?_
    obtain ⟨c20,H⟩:=of_if H
    refine kc g0 (apR 9 154 6 48 [.int .i64 0,.int .i64 0,.int .i64 0,.int .i64 0,.int .i64 0,.int .i64 0] ((t1.2.2.1 ++ ([(⟨a1_1,a1_2,(⟨a1_3,a1_4,a1_5,a1_6⟩ : S63)⟩ : S154)] : List S154)).map e154) (.row rfl) (apb c20 rfl) appE)<|kv g0 (faB 2 2)<|ks g0 (stB 1 [.row 3,.row 4,.row 9,.lit (.int .i64 t1.2.2.2.1),.row 6])<|wk_end<|ac_next<|aw_grp1<|wk_start<|kv g0 (ldBA 5 [.row 3,.row 4,.row 9,.lit (.int .i64 t1.2.2.2.1),.row 6])<|ks g0 (stB 5 [.row 3,.row 4,.row 9,.lit (.int .i64 t1.2.2.2.1),.row 6])<|kv g0 asg<|wk_end<|ac_next<|aw_ret<|ac_thenR ?_
    obtain rfl:=Option.some.inj H
    exact acr hE [.cell 4 41,.tmp 5] (rcA 5 (.tmp .nil)) (.many _ _ _) [(0,3),(1,4),(2,9),(3,6)] 9999
   rw [if_neg c19] at H
   refine aw_ifF ?_ (bF c19)
   refine aw_skip<|ac_next<|aw_grp1<|wk_start<|kv g0 (ldBA 5 [.row 3,.row 4,.row 5,.lit (.int .i64 t1.2.2.2.1),.row 6])<|ks g0 (stB 5 [.row 3,.row 4,.row 5,.lit (.int .i64 t1.2.2.2.1),.row 6])<|kv g0 asg<|wk_end<|ac_next<|aw_ret<|ac_thenR ?_
   obtain rfl:=Option.some.inj H
   exact acr hE [.cell 4 41,.tmp 5] (rcA 5 (.tmp .nil)) (.many _ _ _) [(0,3),(1,4),(2,5),(3,6)] 9999
  rw [if_neg c6] at H
  refine kx (hF (eN c6)) ?_
  refine kx (hF (eN c6)) ?_
  refine kx (hF (eN c6)) ?_
  refine kx (hF (eN c6)) ?_
  refine kx (hF (eN c6)) ?_
  refine kx (hF (eN c6)) ?_
  refine kv g0 (pkT (eN c6))<|kv g0 mv<|kx (hF rfl) ?_
  refine kx (hF rfl) ?_
  refine kx (hF rfl) ?_
  refine kx (hF rfl) ?_
  refine kv g0 (pkT rfl)<|wk_end<|ac_next ?_
  refine aw_ifT ?_ rfl
  refine aw_grp1<|wk_start<|kv g0 (ldBA 5 [.row 3,.row 4,.row 5,.lit (.int .i64 t1.2.2.2.1),.row 6])<|ks g0 (stB 5 [.row 3,.row 4,.row 5,.lit (.int .i64 t1.2.2.2.1),.row 6])<|kv g0 asg<|wk_end<|ac_next<|aw_ret<|ac_thenR ?_
  obtain rfl:=Option.some.inj H
  exact acr hE [.cell 4 41,.tmp 5] (rcA 5 (.tmp .nil)) (.many _ _ _) [(0,3),(1,4),(2,5),(3,6)] 9999
 rw [if_neg c5] at H
 refine kx (hF (nT (bF c5))) ?_
 refine kx (hF (nT (bF c5))) ?_
 refine kx (hF (nT (bF c5))) ?_
 refine kv g0 (pkT (nT (bF c5)))<|kv g0 mv<|kx (hF rfl) ?_
 refine kx (hF rfl) ?_
 refine kx (hF rfl) ?_
 refine kx (hF rfl) ?_
 refine kx (hF rfl) ?_
 refine kx (hF rfl) ?_
 refine kv g0 (pkT rfl)<|kv g0 mv<|kx (hF rfl) ?_
 refine kx (hF rfl) ?_
 refine kx (hF rfl) ?_
 refine kx (hF rfl) ?_
 refine kv g0 (pkT rfl)<|wk_end<|ac_next ?_
 refine aw_ifT ?_ rfl
 refine aw_grp1<|wk_start<|kv g0 (ldBA 5 [.row 3,.row 4,.row 5,.lit (.int .i64 t1.2.2.2.1),.row 6])<|ks g0 (stB 5 [.row 3,.row 4,.row 5,.lit (.int .i64 t1.2.2.2.1),.row 6])<|kv g0 asg<|wk_end<|ac_next<|aw_ret<|ac_thenR ?_
 obtain rfl:=Option.some.inj H
 exact acr hE [.cell 4 41,.tmp 5] (rcA 5 (.tmp .nil)) (.many _ _ _) [(0,3),(1,4),(2,5),(3,6)] 9999
/-! spec_l21Hear -/
mutual
def spec_l21Hear.j0 : Nat→(List (List (List S234)))→(List S67)→(List S65)→(List S139)→(List Int)→(List S154)→Int→(List Int)→(List S151)→Int→(List Int)→(List S59)→Int→Int→Int→Int→Int→Int→Int→Bool→Bool→Option ((List (List (List S234))) × (List S67) × (List S65) × (List S139) × (List Int) × (List S154) × Int × (List Int) × (List S151) × Int × (List Int) × (List S59))
 | 0,_,_,_,_,_,_,_,_,_,_,_,_,_,_,_,_,_,_,_,_,_=>none
 | k3 + 1,l0_0,l0_1,l0_2,l0_3,l0_4,l0_5,a0_6,l0_7,l0_8,a0_9,l0_10,l0_11,a1_0,a1_1,a1_2,a1_3,a1_4,a1_5,a1_6,a2,p2=>if p2 = true then (if 0 ≤ a1_1 then (if a1_1 < (l0_2.length : Int) then ((spec_Acked.f k3 ((rd_T65 l0_2 a1_1).f0) ((rd_T65 l0_2 a1_1).f1) ((rd_T65 l0_2 a1_1).f2) ((rd_T65 l0_2 a1_1).f3) ((rd_T65 l0_2 a1_1).f4) a1_2).bind fun t7=>spec_l21Hear.j1 k3 l0_0 l0_1 l0_3 l0_4 l0_5 a0_6 l0_7 l0_8 a0_9 l0_10 l0_11 a1_0 a1_1 a1_2 a1_3 a1_4 a1_5 a1_6 a2 (l0_2.set a1_1.toNat (⟨t7.1,t7.2.1,t7.2.2.1,t7.2.2.2.1,t7.2.2.2.2⟩ : S65))) else none) else none) else spec_l21Hear.j1 k3 l0_0 l0_1 l0_3 l0_4 l0_5 a0_6 l0_7 l0_8 a0_9 l0_10 l0_11 a1_0 a1_1 a1_2 a1_3 a1_4 a1_5 a1_6 a2 l0_2
def spec_l21Hear.j1 : Nat→(List (List (List S234)))→(List S67)→(List S139)→(List Int)→(List S154)→Int→(List Int)→(List S151)→Int→(List Int)→(List S59)→Int→Int→Int→Int→Int→Int→Int→Bool→(List S65)→Option ((List (List (List S234))) × (List S67) × (List S65) × (List S139) × (List Int) × (List S154) × Int × (List Int) × (List S151) × Int × (List Int) × (List S59))
 | 0,_,_,_,_,_,_,_,_,_,_,_,_,_,_,_,_,_,_,_,_=>none
 | k11 + 1,l0_0,l0_1,l0_3,l0_4,l0_5,a0_6,l0_7,l0_8,a0_9,l0_10,l0_11,a1_0,a1_1,a1_2,a1_3,a1_4,a1_5,a1_6,a2,q10=>if a2 = true then some (l0_0,l0_1,q10,l0_3,l0_4,l0_5,a0_6,l0_7,l0_8,a0_9,l0_10,l0_11) else ((spec_Kept.f k11 l0_3 l0_4 l0_5 a0_6 l0_7 a1_0 a1_1 a1_2 a1_3 a1_4 a1_5 a1_6).bind fun t13=>some (l0_0,l0_1,q10,t13.1,t13.2.1,t13.2.2.1,t13.2.2.2.1,t13.2.2.2.2.1,l0_8,a0_9,l0_10,l0_11))
end
def spec_l21Hear.f (k : Nat) (l0_0 : List (List (List S234))) (l0_1 : List S67) (l0_2 : List S65) (l0_3 : List S139) (l0_4 : List Int) (l0_5 : List S154) (a0_6 : Int) (l0_7 : List Int) (l0_8 : List S151) (a0_9 : Int) (l0_10 : List Int) (l0_11 : List S59) (a1_0 : Int) (a1_1 : Int) (a1_2 : Int) (a1_3 : Int) (a1_4 : Int) (a1_5 : Int) (a1_6 : Int) (a2 : Bool) : Option ((List (List (List S234))) × (List S67) × (List S65) × (List S139) × (List Int) × (List S154) × Int × (List Int) × (List S151) × Int × (List Int) × (List S59)):=if a2 = true then spec_l21Hear.j0 k l0_0 l0_1 l0_2 l0_3 l0_4 l0_5 a0_6 l0_7 l0_8 a0_9 l0_10 l0_11 a1_0 a1_1 a1_2 a1_3 a1_4 a1_5 a1_6 a2 (a1_0 == 2) else spec_l21Hear.j0 k l0_0 l0_1 l0_2 l0_3 l0_4 l0_5 a0_6 l0_7 l0_8 a0_9 l0_10 l0_11 a1_0 a1_1 a1_2 a1_3 a1_4 a1_5 a1_6 a2 false
theorem spec_l21Hear.ok {k : Nat} {l0_0 : List (List (List S234))} {l0_1 : List S67} {l0_2 : List S65} {l0_3 : List S139} {l0_4 : List Int} {l0_5 : List S154} {a0_6 : Int} {l0_7 : List Int} {l0_8 : List S151} {a0_9 : Int} {l0_10 : List Int} {l0_11 : List S59} {a1_0 : Int} {a1_1 : Int} {a1_2 : Int} {a1_3 : Int} {a1_4 : Int} {a1_5 : Int} {a1_6 : Int} {a2 : Bool} {r : (List (List (List S234))) × (List S67) × (List S65) × (List S139) × (List Int) × (List S154) × Int × (List Int) × (List S151) × Int × (List Int) × (List S59)} (H : spec_l21Hear.f k l0_0 l0_1 l0_2 l0_3 l0_4 l0_5 a0_6 l0_7 l0_8 a0_9 l0_10 l0_11 a1_0 a1_1 a1_2 a1_3 a1_4 a1_5 a1_6 a2 = some r) : ACalls Tryz.prog 53 [(0,.box 45 [.row 1,.row 2,.row 3,.row 4,.row 5,.row 6,.lit (.int .i64 a0_6),.row 7,.row 8,.lit (.int .i64 a0_9),.row 9,.row 10]),(1,.row 145 1 (l0_0.map (eL 1 (eL 4 (e234))))),(2,.row 67 4 (l0_1.map e67)),(3,.row 65 5 (l0_2.map e65)),(4,.row 139 6 (l0_3.map e139)),(5,.row 3 1 (l0_4.map (eI .i64))),(6,.row 154 6 (l0_5.map e154)),(7,.row 3 1 (l0_7.map (eI .i64))),(8,.row 151 3 (l0_8.map e151)),(9,.row 3 1 (l0_10.map (eI .i64))),(10,.row 59 4 (l0_11.map e59))] [.box 0 0,.agg [.lit (.int .i64 a1_0),.lit (.int .i64 a1_1),.lit (.int .i64 a1_2),.lit (.int .i64 a1_3),.lit (.int .i64 a1_4),.lit (.int .i64 a1_5),.lit (.int .i64 a1_6)],.lit (.bool a2)] [(0,.box 45 [.row 1,.row 2,.row 3,.row 11,.row 12,.row 13,.lit (.int .i64 r.2.2.2.2.2.2.1),.row 14,.row 8,.lit (.int .i64 r.2.2.2.2.2.2.2.2.2.1),.row 9,.row 10]),(1,.row 145 1 (r.1.map (eL 1 (eL 4 (e234))))),(2,.row 67 4 (r.2.1.map e67)),(3,.row 65 5 (r.2.2.1.map e65)),(4,.gone),(5,.gone),(6,.gone),(7,.gone),(8,.row 151 3 (r.2.2.2.2.2.2.2.2.1.map e151)),(9,.row 3 1 (r.2.2.2.2.2.2.2.2.2.2.1.map (eI .i64))),(10,.row 59 4 (r.2.2.2.2.2.2.2.2.2.2.2.map e59)),(11,.row 139 6 (r.2.2.2.1.map e139)),(12,.row 3 1 (r.2.2.2.2.1.map (eI .i64))),(13,.row 154 6 (r.2.2.2.2.2.1.map e154)),(14,.row 3 1 (r.2.2.2.2.2.2.2.1.map (eI .i64)))] (.tup []):=by
 refine acalls (fn:=Tryz.f53) (nt:=44) Tryz.func53 rfl rfl (Nat.le_of_ble_eq_true rfl) fun E hE=>?_
 rw [spec_l21Hear.f] at H
 refine aw_grp1<|wk_start<|kb g0 (bxA 11)<|wk_end<|ac_next ?_
 refine aw_cut1 (J:=fun K_=>∀ (k_ : Nat) (q10 : List S65),k_ ≤ k→spec_l21Hear.j1 k_ l0_0 l0_1 l0_3 l0_4 l0_5 a0_6 l0_7 l0_8 a0_9 l0_10 l0_11 a1_0 a1_1 a1_2 a1_3 a1_4 a1_5 a1_6 a2 q10 = some r→ACont E 44 ⟨[(0,.box 0 0),(2,.lit (.bool a2)),(4,.box 11 0)],[(0,.box 45 [.row 1,.row 2,.row 3,.row 4,.row 5,.row 6,.lit (.int .i64 a0_6),.row 7,.row 8,.lit (.int .i64 a0_9),.row 9,.row 10]),(1,.row 145 1 (l0_0.map (eL 1 (eL 4 (e234))))),(2,.row 67 4 (l0_1.map e67)),(3,.row 65 5 (q10.map e65)),(4,.row 139 6 (l0_3.map e139)),(5,.row 3 1 (l0_4.map (eI .i64))),(6,.row 154 6 (l0_5.map e154)),(7,.row 3 1 (l0_7.map (eI .i64))),(8,.row 151 3 (l0_8.map e151)),(9,.row 3 1 (l0_10.map (eI .i64))),(10,.row 59 4 (l0_11.map e59)),(11,.box 109 [.lit (.int .i64 a1_0),.lit (.int .i64 a1_1),.lit (.int .i64 a1_2),.lit (.int .i64 a1_3),.lit (.int .i64 a1_4),.lit (.int .i64 a1_5),.lit (.int .i64 a1_6)])]⟩ K_) ?_ ?_
 ·intro K_ hJ15
  refine aw_cut1 (J:=fun K_=>∀ (k_ : Nat) (p2 : Bool),k_ ≤ k→spec_l21Hear.j0 k_ l0_0 l0_1 l0_2 l0_3 l0_4 l0_5 a0_6 l0_7 l0_8 a0_9 l0_10 l0_11 a1_0 a1_1 a1_2 a1_3 a1_4 a1_5 a1_6 a2 p2 = some r→ACont E 44 ⟨[(0,.box 0 0),(2,.lit (.bool a2)),(4,.box 11 0),(11,.lit (.bool p2))],[(0,.box 45 [.row 1,.row 2,.row 3,.row 4,.row 5,.row 6,.lit (.int .i64 a0_6),.row 7,.row 8,.lit (.int .i64 a0_9),.row 9,.row 10]),(1,.row 145 1 (l0_0.map (eL 1 (eL 4 (e234))))),(2,.row 67 4 (l0_1.map e67)),(3,.row 65 5 (l0_2.map e65)),(4,.row 139 6 (l0_3.map e139)),(5,.row 3 1 (l0_4.map (eI .i64))),(6,.row 154 6 (l0_5.map e154)),(7,.row 3 1 (l0_7.map (eI .i64))),(8,.row 151 3 (l0_8.map e151)),(9,.row 3 1 (l0_10.map (eI .i64))),(10,.row 59 4 (l0_11.map e59)),(11,.box 109 [.lit (.int .i64 a1_0),.lit (.int .i64 a1_1),.lit (.int .i64 a1_2),.lit (.int .i64 a1_3),.lit (.int .i64 a1_4),.lit (.int .i64 a1_5),.lit (.int .i64 a1_6)])]⟩ K_) ?_ ?_
  ·intro K_ hJ9
   refine wk_start<|kv g0 mv<|kv g0 mv ?_
   by_cases c1 : a2 = true
   ·rw [if_pos c1] at H
    refine kv (g1 c1) (faB 0 0)<|kv (g1 c1) ldB<|kv (g1 c1) eql ?_
    refine kv g0 (pkT c1)<|wk_end<|ac_k ?_
    exact acw hE [(0,0),(1,1),(2,2),(3,3),(4,4),(5,5),(6,6),(7,7),(8,8),(9,9),(10,10),(11,11)] 9999 (hJ9 k (a1_0 == 2) (Nat.le_refl _) H)
   rw [if_neg c1] at H
   refine kx (hT (bF c1)) ?_
   refine kx (hT (bF c1)) ?_
   refine kx (hT (bF c1)) ?_
   refine kv g0 (pkF (bF c1))<|wk_end<|ac_k ?_
   exact acw hE [(0,0),(1,1),(2,2),(3,3),(4,4),(5,5),(6,6),(7,7),(8,8),(9,9),(10,10),(11,11)] 9999 (hJ9 k false (Nat.le_refl _) H)
  intro k_ p2 hk_ H
  rcases k_ with _ | k3
  ·rw [spec_l21Hear.j0.eq_1] at H;cases H
  have hk3 : k3 ≤ k:=by omega
  clear hk_
  rw [spec_l21Hear.j0.eq_2] at H
  by_cases c4 : p2 = true
  ·rw [if_pos c4] at H
   refine aw_ifT ?_ c4
   refine wk_start<|kv g0 mv<|kv g0 nilB<|kv g0 (faB 2 2)<|kv g0 ldB<|kv g0 (faB 1 1)<|kv g0 ldB<|kv g0 mv<|kv g0 nilB<|kv g0 (faB 2 2)<|kv g0 ldB<|kv g0 (faB 1 1)<|kv g0 ldB ?_
   obtain ⟨c5,H⟩:=of_if H
   obtain ⟨c6,H⟩:=of_if H
   refine kv g0 (ixR 65 c5 (ltE c6))<|kv g0 (ldEA 5 (e65 (rd_T65 l0_2 a1_1)) [.lit (.int .i64 ((rd_T65 l0_2 a1_1).f0)),.lit (.int .i64 ((rd_T65 l0_2 a1_1).f1)),.sl .n 4 (((rd_T65 l0_2 a1_1).f2).map e63),.lit (.int .i64 ((rd_T65 l0_2 a1_1).f3)),.lit (.int .i64 ((rd_T65 l0_2 a1_1).f4))] (getE (z:=z65) c5 c6))<|kv g0 (faB 2 2)<|kv g0 ldB ?_
   obtain ⟨t7,A8,H⟩:=of_bind H
   refine kcS0 28 (.agg [.lit (.int .i64 t7.1),.lit (.int .i64 t7.2.1),.sl .n 4 (t7.2.2.1.map e63),.lit (.int .i64 t7.2.2.2.1),.lit (.int .i64 t7.2.2.2.2)]) [] g0 (cal ((spec_Acked.ok A8).frz (.agg [.lit (.int .i64 t7.1),.lit (.int .i64 t7.2.1),.sl .n 4 (t7.2.2.1.map e63),.lit (.int .i64 t7.2.2.2.1),.lit (.int .i64 t7.2.2.2.2)])) [] 9999 .n (hf:=Tryz.func141)) rfl rfl<|kv g0 (ixR 65 c5 (ltE c6))<|ks g0 (stE 5 (e65 (⟨t7.1,t7.2.1,t7.2.2.1,t7.2.2.2.1,t7.2.2.2.2⟩ : S65)) ((l0_2.set a1_1.toNat (⟨t7.1,t7.2.1,t7.2.2.1,t7.2.2.2.1,t7.2.2.2.2⟩ : S65)).map e65) (getE (z:=z65) c5 c6) setE)<|wk_end_draw hM (by kernel_rfl)<|ac_k ?_
   exact acw hE [(0,0),(1,1),(2,2),(3,3),(4,4),(5,5),(6,6),(7,7),(8,8),(9,9),(10,10),(11,11)] 9999 (hJ15 k3 (l0_2.set a1_1.toNat (⟨t7.1,t7.2.1,t7.2.2.1,t7.2.2.2.1,t7.2.2.2.2⟩ : S65)) (by omega) H)
  rw [if_neg c4] at H
  refine aw_ifF ?_ (bF c4)
  refine aw_skip<|ac_k ?_
  exact acw hE [(0,0),(1,1),(2,2),(3,3),(4,4),(5,5),(6,6),(7,7),(8,8),(9,9),(10,10),(11,11)] 9999 (hJ15 k3 l0_2 (by omega) H)
 intro k_ q10 hk_ H
 rcases k_ with _ | k11
 ·rw [spec_l21Hear.j1.eq_1] at H;cases H
 have hk11 : k11 ≤ k:=by omega
 clear hk_
 rw [spec_l21Hear.j1.eq_2] at H
 refine aw_grp1<|wk_start<|kv g0 mv<|kv g0 not_<|wk_end<|ac_next ?_
 by_cases c12 : a2 = true
 ·rw [if_pos c12] at H
  refine aw_ifF ?_ (nF c12)
  refine aw_skip ?_
  refine ac_mvB 0 3 16 [.row 1,.row 2,.row 3,.row 16,.row 5,.row 6,.lit (.int .i64 a0_6),.row 7,.row 8,.lit (.int .i64 a0_9),.row 9,.row 10] ?_
  refine ac_mvB 0 4 17 [.row 1,.row 2,.row 3,.row 16,.row 17,.row 6,.lit (.int .i64 a0_6),.row 7,.row 8,.lit (.int .i64 a0_9),.row 9,.row 10] ?_
  refine ac_mvB 0 5 18 [.row 1,.row 2,.row 3,.row 16,.row 17,.row 18,.lit (.int .i64 a0_6),.row 7,.row 8,.lit (.int .i64 a0_9),.row 9,.row 10] ?_
  refine ac_mvB 0 7 19 [.row 1,.row 2,.row 3,.row 16,.row 17,.row 18,.lit (.int .i64 a0_6),.row 19,.row 8,.lit (.int .i64 a0_9),.row 9,.row 10] ?_
  obtain rfl:=Option.some.inj H
  refine ac_end_n ?_
  exact acr hE [] .nil .none [(0,0),(1,1),(2,2),(3,3),(4,4),(5,5),(6,6),(7,7),(8,8),(9,9),(10,10),(11,16),(12,17),(13,18),(14,19)] 9999
 rw [if_neg c12] at H
 refine aw_ifT ?_ (nT (bF c12))
 refine wk_start<|kv g0 mv<|kv g0 mv<|kv g0 nilB<|kv g0 (faB 3 3)<|kv g0 (ldBA 5 [.row 4,.row 5,.row 6,.lit (.int .i64 a0_6),.row 7])<|kv g0 (ldBA 7 [.lit (.int .i64 a1_0),.lit (.int .i64 a1_1),.lit (.int .i64 a1_2),.lit (.int .i64 a1_3),.lit (.int .i64 a1_4),.lit (.int .i64 a1_5),.lit (.int .i64 a1_6)]) ?_
 obtain ⟨t13,A14,H⟩:=of_bind H
 refine kcS4 39 (.tup [.agg [.row 12,.row 13,.row 14,.lit (.int .i64 t13.2.2.2.1),.row 15],.lit (.bool t13.2.2.2.2.2)]) [(12,.row 139 6 (t13.1.map e139)),(13,.row 3 1 (t13.2.1.map (eI .i64))),(14,.row 154 6 (t13.2.2.1.map e154)),(15,.row 3 1 (t13.2.2.2.2.1.map (eI .i64)))] g0 (cal (spec_Kept.ok A14) [12,13,14,15] 9999 .n (hf:=Tryz.func142)) rfl rfl<|kv g0 mv<|kv g0 ext<|kv g0 ext<|kv g0 nilB<|kv g0 (faB 3 3)<|ks g0 (stB 5 [.row 1,.row 2,.row 3,.row 12,.row 13,.row 14,.lit (.int .i64 t13.2.2.2.1),.row 15,.row 8,.lit (.int .i64 a0_9),.row 9,.row 10])<|wk_end_draw hM (by kernel_rfl)<|ac_g1 (gh_drop 4)<|ac_g1 (gh_drop 5)<|ac_g1 (gh_drop 6)<|ac_g1 (gh_drop 7) ?_
 obtain rfl:=Option.some.inj H
 refine ac_end_n ?_
 exact acr hE [] .nil .none [(0,0),(1,1),(2,2),(3,3),(4,4),(5,5),(6,6),(7,7),(8,8),(9,9),(10,10),(11,12),(12,13),(13,14),(14,15)] 9999
/-! spec_SaveKeeper -/
def spec_SaveKeeper.f (l0_0 : List S139) (l0_1 : List Int) (l0_2 : List S154) (a0_3 : Int) (l0_4 : List Int) : Option ((List S139) × (List Int) × (List S154) × Int × (List Int)):=(spec_l20Copy.f l0_0 l0_1 l0_2 a0_3 l0_4).bind fun t1=>if ([] : List Int).length + l0_1.length < 17592186044416 then some (t1.1,t1.2.1,t1.2.2.1,(l0_0.length : Int),([] : List Int) ++ l0_1) else none
theorem spec_SaveKeeper.ok {l0_0 : List S139} {l0_1 : List Int} {l0_2 : List S154} {a0_3 : Int} {l0_4 : List Int} {r : (List S139) × (List Int) × (List S154) × Int × (List Int)} (H : spec_SaveKeeper.f l0_0 l0_1 l0_2 a0_3 l0_4 = some r) : ACalls Tryz.prog 54 [] [.agg [.sl .o 6 (l0_0.map e139),.sl .o 1 (l0_1.map (eI .i64)),.sl .o 6 (l0_2.map e154),.lit (.int .i64 a0_3),.sl .o 1 (l0_4.map (eI .i64))]] [(0,.row 139 6 (r.1.map e139)),(1,.row 3 1 (r.2.1.map (eI .i64))),(2,.row 154 6 (r.2.2.1.map e154)),(3,.row 3 1 (r.2.2.2.2.map (eI .i64)))] (.agg [.row 0,.row 1,.row 2,.lit (.int .i64 r.2.2.2.1),.row 3]):=by
 refine acalls (fn:=Tryz.f54) (nt:=16) Tryz.func54 rfl rfl (Nat.le_of_ble_eq_true rfl) fun E hE=>?_
 rw [spec_SaveKeeper.f] at H
 refine aw_grp1<|wk_start<|kb g0 (bxA 0)<|kb g0 (alc 1 [.slice none 0 0,.slice none 0 0,.slice none 0 0,.int .i64 0,.slice none 0 0] [.lit (.slice none 0 0),.lit (.slice none 0 0),.lit (.slice none 0 0),.lit (.int .i64 0),.lit (.slice none 0 0)])<|wk_end<|ac_next<|aw_grp1<|wk_start<|kv g0 (ldBA 5 [.sl .o 6 (l0_0.map e139),.sl .o 1 (l0_1.map (eI .i64)),.sl .o 6 (l0_2.map e154),.lit (.int .i64 a0_3),.sl .o 1 (l0_4.map (eI .i64))]) ?_
 obtain ⟨t1,A2,H⟩:=of_bind H
 refine kcS4 5 (.agg [.row 2,.row 3,.row 4,.lit (.int .i64 t1.2.2.2.1),.row 5]) [(2,.row 139 6 (t1.1.map e139)),(3,.row 3 1 (t1.2.1.map (eI .i64))),(4,.row 154 6 (t1.2.2.1.map e154)),(5,.row 3 1 (t1.2.2.2.2.map (eI .i64)))] g0 (cal (spec_l20Copy.ok A2) [2,3,4,5] 9999 .n (hf:=Tryz.func133)) rfl rfl<|kb g0 (alc 6 [.slice none 0 0,.slice none 0 0,.slice none 0 0,.int .i64 0,.slice none 0 0] [.lit (.slice none 0 0),.lit (.slice none 0 0),.lit (.slice none 0 0),.lit (.int .i64 0),.lit (.slice none 0 0)])<|ks g0 (stB 5 [.row 2,.row 3,.row 4,.lit (.int .i64 t1.2.2.2.1),.row 5])<|wk_end<|ac_next<|aw_grp1<|wk_start<|kv g0 (faB 0 0)<|kv g0 ldB<|kv g0 (lnS lenE)<|kv g0 (faB 3 3)<|ks g0 (stB 1 [.row 2,.row 3,.row 4,.lit (.int .i64 (l0_0.length : Int)),.row 5])<|wk_end<|ac_next<|aw_grp1<|wk_start<|kb g0 (bsl 7 3 1 [.int .i64 0] (([] : List Int).map (eI .i64)))<|kv g0 (faB 1 1)<|kv g0 ldB ?_
 obtain ⟨c3,H⟩:=of_if H
 refine kc g0 (apR 8 3 1 8 [.int .i64 0] ((([] : List Int) ++ l0_1).map (eI .i64)) (.slF flI) (apb c3 rfl) appE)<|kv g0 (faB 4 4)<|ks g0 (stB 1 [.row 2,.row 3,.row 4,.lit (.int .i64 (l0_0.length : Int)),.row 8])<|wk_end<|ac_next<|aw_grp1<|wk_start<|kv g0 (ldBA 5 [.row 2,.row 3,.row 4,.lit (.int .i64 (l0_0.length : Int)),.row 8])<|ks g0 (stB 5 [.row 2,.row 3,.row 4,.lit (.int .i64 (l0_0.length : Int)),.row 8])<|wk_end<|ac_next<|aw_ret ?_
 obtain rfl:=Option.some.inj H
 exact acr hE [.cell 2 41] (rcA 5 .nil) (.one _) [(0,2),(1,3),(2,4),(3,8)] 9999
/-! spec_AckOf -/
def spec_AckOf.f (l0_0 : List S139) (l0_1 : List Int) (l0_2 : List S154) (a0_3 : Int) (l0_4 : List Int) (a1 : Int) : Option (Int × Int × Int × Int × Int × Int × Int × Bool):=(spec_l01In.f a1 0 (wrap64 ((l0_4.length : Int) - 1))).bind fun t1=>if t1 = true then if 0 ≤ a1 then (if a1 < (l0_4.length : Int) then some (2,a1,(rd l0_4 a1),0,0,0,0,true) else none) else none else some (0,0,0,0,0,0,0,false)
theorem spec_AckOf.ok {l0_0 : List S139} {l0_1 : List Int} {l0_2 : List S154} {a0_3 : Int} {l0_4 : List Int} {a1 : Int} {r : Int × Int × Int × Int × Int × Int × Int × Bool} (H : spec_AckOf.f l0_0 l0_1 l0_2 a0_3 l0_4 a1 = some r) : ACalls Tryz.prog 55 [] [.agg [.sl .o 6 (l0_0.map e139),.sl .o 1 (l0_1.map (eI .i64)),.sl .o 6 (l0_2.map e154),.lit (.int .i64 a0_3),.sl .o 1 (l0_4.map (eI .i64))],.lit (.int .i64 a1)] [] (.tup [.agg [.lit (.int .i64 r.1),.lit (.int .i64 r.2.1),.lit (.int .i64 r.2.2.1),.lit (.int .i64 r.2.2.2.1),.lit (.int .i64 r.2.2.2.2.1),.lit (.int .i64 r.2.2.2.2.2.1),.lit (.int .i64 r.2.2.2.2.2.2.1)],.lit (.bool r.2.2.2.2.2.2.2)]):=by
 refine acalls (fn:=Tryz.f55) (nt:=21) Tryz.func55 rfl rfl (Nat.le_of_ble_eq_true rfl) fun E hE=>?_
 rw [spec_AckOf.f] at H
 refine aw_grp1<|wk_start<|kb g0 (bxA 0)<|kb g0 (alc 1 [.int .i64 0,.int .i64 0,.int .i64 0,.int .i64 0,.int .i64 0,.int .i64 0,.int .i64 0] [.lit (.int .i64 0),.lit (.int .i64 0),.lit (.int .i64 0),.lit (.int .i64 0),.lit (.int .i64 0),.lit (.int .i64 0),.lit (.int .i64 0)])<|kv g0 asg<|wk_end<|ac_next<|aw_grp1<|aw_grp1<|wk_start<|kv g0 mv<|kv g0 (faB 4 4)<|kv g0 ldB<|kv g0 (lnS lenE)<|kv g0 sub6 ?_
 obtain ⟨t1,A2,H⟩:=of_bind H
 refine kcS0 11 (.lit (.bool t1)) [] g0 (cal (spec_l01In.ok A2) [] 9999 .n (hf:=Tryz.func48)) rfl rfl<|kv g0 not_<|wk_end<|ac_next ?_
 by_cases c3 : t1 = true
 ·rw [if_pos c3] at H
  refine aw_ifF ?_ (nF c3)
  refine aw_skip<|ac_next<|aw_grp1<|wk_start<|kv g0 mv<|kv g0 (faB 4 4)<|kv g0 ldB<|kv g0 mv ?_
  obtain ⟨c4,H⟩:=of_if H
  obtain ⟨c5,H⟩:=of_if H
  refine kv g0 (ixS 3 (eI .i64 (rd l0_4 a1)) c4 (getE (z:=(0 : Int)) c4 c5))<|kv g0 (ldR (.lit (.int .i64 (rd l0_4 a1))))<|kv g0 (bld [(0,1),(1,1),(2,1),(3,4)] [.int .i64 0,.int .i64 0,.int .i64 0,.int .i64 0,.int .i64 0,.int .i64 0,.int .i64 0] [.lit (.int .i64 2),.lit (.int .i64 a1),.lit (.int .i64 (rd l0_4 a1)),.lit (.int .i64 0),.lit (.int .i64 0),.lit (.int .i64 0),.lit (.int .i64 0)])<|ks g0 (stB 7 [.lit (.int .i64 2),.lit (.int .i64 a1),.lit (.int .i64 (rd l0_4 a1)),.lit (.int .i64 0),.lit (.int .i64 0),.lit (.int .i64 0),.lit (.int .i64 0)])<|kv g0 asg<|wk_end<|ac_next<|aw_ret ?_
  obtain rfl:=Option.some.inj H
  exact acr hE [.cell 4 109,.tmp 5] (rcA 7 (.tmp .nil)) (.many _ _ _) [] 9999
 rw [if_neg c3] at H
 refine aw_ifT ?_ (nT (bF c3))
 refine aw_grp1<|wk_start<|kv g0 (bld [(0,1),(1,1),(2,1),(3,4)] [.int .i64 0,.int .i64 0,.int .i64 0,.int .i64 0,.int .i64 0,.int .i64 0,.int .i64 0] [.lit (.int .i64 0),.lit (.int .i64 0),.lit (.int .i64 0),.lit (.int .i64 0),.lit (.int .i64 0),.lit (.int .i64 0),.lit (.int .i64 0)])<|ks g0 (stB 7 [.lit (.int .i64 0),.lit (.int .i64 0),.lit (.int .i64 0),.lit (.int .i64 0),.lit (.int .i64 0),.lit (.int .i64 0),.lit (.int .i64 0)])<|kv g0 asg<|wk_end<|ac_next<|aw_ret<|ac_thenR ?_
 obtain rfl:=Option.some.inj H
 exact acr hE [.cell 4 109,.tmp 5] (rcA 7 (.tmp .nil)) (.many _ _ _) [] 9999
/-! spec_CalmWorld -/
mutual
def spec_CalmWorld.l0 : Nat→Int→Int→(List (List (List S234)))→(List S139)→(List Int)→(List S154)→Int→(List Int)→(List S151)→Int→(List Int)→(List S59)→Int→(List S67)→(List S65)→Int→Option ((List (List (List S234))) × (List S67) × (List S65) × (List S139) × (List Int) × (List S154) × Int × (List Int) × (List S151) × Int × (List Int) × (List S59))
 | 0,_,_,_,_,_,_,_,_,_,_,_,_,_,_,_,_=>none
 | k233 + 1,a1,p150,q209,q212,q213,q214,p215,q216,q217,p218,q219,q220,p221,q230,q231,p232=>if p232 < 3 then if 0 ≤ p221 then (if p221 < (q231.length : Int) then (if p221 < (q230.length : Int) then ((spec_Taken.f k233 ((rd_T65 q231 p221).f0) ((rd_T65 q231 p221).f1) ((rd_T65 q231 p221).f2) ((rd_T65 q231 p221).f3) ((rd_T65 q231 p221).f4) ((rd_T67 q230 p221).f0) ((rd_T67 q230 p221).f1) ((rd_T67 q230 p221).f2) ((rd_T67 q230 p221).f3) p218).bind fun t238=>spec_CalmWorld.l0 k233 a1 p150 q209 q212 q213 q214 p215 q216 q217 p218 q219 q220 p221 (q230.set p221.toNat (⟨t238.2.2.2.2.2.1,t238.2.2.2.2.2.2.1,t238.2.2.2.2.2.2.2.1,t238.2.2.2.2.2.2.2.2.1⟩ : S67)) (q231.set p221.toNat (⟨t238.1,t238.2.1,t238.2.2.1,t238.2.2.2.1,t238.2.2.2.2.1⟩ : S65)) (wrap64 (p232 + 1))) else none) else none) else none else if 0 ≤ p221 then (if p221 < (q231.length : Int) then ((spec_Again.f k233 ((rd_T65 q231 p221).f0) ((rd_T65 q231 p221).f1) ((rd_T65 q231 p221).f2) ((rd_T65 q231 p221).f3) ((rd_T65 q231 p221).f4) p218).bind fun t244=>(spec_Says.f k233 t244.1 t244.2.1 t244.2.2.1 t244.2.2.2.1 t244.2.2.2.2.1).bind fun t246=>spec_CalmWorld.l1 k233 a1 p150 p221 t246 q209 q230 (q231.set p221.toNat (⟨t244.1,t244.2.1,t244.2.2.1,t244.2.2.2.1,t244.2.2.2.2.1⟩ : S65)) q212 q213 q214 p215 q216 q217 p218 q219 q220 0) else none) else none
def spec_CalmWorld.l1 : Nat→Int→Int→Int→((List S109))→(List (List (List S234)))→(List S67)→(List S65)→(List S139)→(List Int)→(List S154)→Int→(List Int)→(List S151)→Int→(List Int)→(List S59)→Int→Option ((List (List (List S234))) × (List S67) × (List S65) × (List S139) × (List Int) × (List S154) × Int × (List Int) × (List S151) × Int × (List Int) × (List S59))
 | 0,_,_,_,_,_,_,_,_,_,_,_,_,_,_,_,_,_=>none
 | k265 + 1,a1,p150,p221,t246,q252,q253,q254,q255,q256,q257,p258,q259,q260,p261,q262,q263,p264=>if p264 < (t246.length : Int) then if 0 ≤ p264 then ((spec_l21Hear.f k265 q252 q253 q254 q255 q256 q257 p258 q259 q260 p261 q262 q263 ((rd_T109 t246 p264).f0) ((rd_T109 t246 p264).f1) ((rd_T109 t246 p264).f2) ((rd_T109 t246 p264).f3.f0) ((rd_T109 t246 p264).f3.f1) ((rd_T109 t246 p264).f3.f2) ((rd_T109 t246 p264).f3.f3) false).bind fun t268=>spec_CalmWorld.l1 k265 a1 p150 p221 t246 t268.1 t268.2.1 t268.2.2.1 t268.2.2.2.1 t268.2.2.2.2.1 t268.2.2.2.2.2.1 t268.2.2.2.2.2.2.1 t268.2.2.2.2.2.2.2.1 t268.2.2.2.2.2.2.2.2.1 t268.2.2.2.2.2.2.2.2.2.1 t268.2.2.2.2.2.2.2.2.2.2.1 t268.2.2.2.2.2.2.2.2.2.2.2 (wrap64 (p264 + 1))) else none else (spec_SaveKeeper.f q255 q256 q257 p258 q259).bind fun t272=>(spec_AckOf.f t272.1 t272.2.1 t272.2.2.1 t272.2.2.2.1 t272.2.2.2.2 p221).bind fun t274=>if t274.2.2.2.2.2.2.2 = true then ((spec_l21Hear.f k265 q252 q253 q254 t272.1 t272.2.1 t272.2.2.1 t272.2.2.2.1 t272.2.2.2.2 q260 p261 q262 q263 t274.1 t274.2.1 t274.2.2.1 t274.2.2.2.1 t274.2.2.2.2.1 t274.2.2.2.2.2.1 t274.2.2.2.2.2.2.1 true).bind fun t277=>spec_CalmWorld.l2 k265 a1 p150 t277.1 t277.2.1 t277.2.2.1 t277.2.2.2.1 t277.2.2.2.2.1 t277.2.2.2.2.2.1 t277.2.2.2.2.2.2.1 t277.2.2.2.2.2.2.2.1 t277.2.2.2.2.2.2.2.2.1 t277.2.2.2.2.2.2.2.2.2.1 t277.2.2.2.2.2.2.2.2.2.2.1 t277.2.2.2.2.2.2.2.2.2.2.2 (wrap64 (p221 + 1))) else spec_CalmWorld.l2 k265 a1 p150 q252 q253 q254 t272.1 t272.2.1 t272.2.2.1 t272.2.2.2.1 t272.2.2.2.2 q260 p261 q262 q263 (wrap64 (p221 + 1))
def spec_CalmWorld.l2 : Nat→Int→Int→(List (List (List S234)))→(List S67)→(List S65)→(List S139)→(List Int)→(List S154)→Int→(List Int)→(List S151)→Int→(List Int)→(List S59)→Int→Option ((List (List (List S234))) × (List S67) × (List S65) × (List S139) × (List Int) × (List S154) × Int × (List Int) × (List S151) × Int × (List Int) × (List S59))
 | 0,_,_,_,_,_,_,_,_,_,_,_,_,_,_,_=>none
 | k222 + 1,a1,p150,q209,q210,q211,q212,q213,q214,p215,q216,q217,p218,q219,q220,p221=>if p221 < 3 then spec_CalmWorld.l0 k222 a1 p150 q209 q212 q213 q214 p215 q216 q217 p218 q219 q220 p221 q210 q211 0 else spec_CalmWorld.l3 k222 a1 q209 q210 q211 q212 q213 q214 p215 q216 q217 p218 q219 q220 (wrap64 (p150 + 1))
def spec_CalmWorld.l3 : Nat→Int→(List (List (List S234)))→(List S67)→(List S65)→(List S139)→(List Int)→(List S154)→Int→(List Int)→(List S151)→Int→(List Int)→(List S59)→Int→Option ((List (List (List S234))) × (List S67) × (List S65) × (List S139) × (List Int) × (List S154) × Int × (List Int) × (List S151) × Int × (List Int) × (List S59))
 | 0,_,_,_,_,_,_,_,_,_,_,_,_,_,_=>none
 | k151 + 1,a1,q138,q139,q140,q141,q142,q143,p144,q145,q146,p147,q148,q149,p150=>if p150 < a1 then if p150 < 40 then (spec_l21Refill.f k151 q138 q139 q140 q141 q142 q143 p144 q145 q146 p147 q148 q149 5).bind fun t154=>spec_CalmWorld.l2 k151 a1 p150 t154.1 t154.2.1 t154.2.2.1 t154.2.2.2.1 t154.2.2.2.2.1 t154.2.2.2.2.2.1 t154.2.2.2.2.2.2.1 t154.2.2.2.2.2.2.2.1 t154.2.2.2.2.2.2.2.2.1 t154.2.2.2.2.2.2.2.2.2.1 t154.2.2.2.2.2.2.2.2.2.2.1 t154.2.2.2.2.2.2.2.2.2.2.2 0 else some (q138,q139,q140,q141,q142,q143,p144,q145,q146,p147,q148,q149) else some (q138,q139,q140,q141,q142,q143,p144,q145,q146,p147,q148,q149)
end
def spec_CalmWorld.f (k : Nat) (l0_0 : List (List (List S234))) (l0_1 : List S67) (l0_2 : List S65) (l0_3 : List S139) (l0_4 : List Int) (l0_5 : List S154) (a0_6 : Int) (l0_7 : List Int) (l0_8 : List S151) (a0_9 : Int) (l0_10 : List Int) (l0_11 : List S59) (a1 : Int) : Option ((List (List (List S234))) × (List S67) × (List S65) × (List S139) × (List Int) × (List S154) × Int × (List Int) × (List S151) × Int × (List Int) × (List S59)):=(spec_l21Copy.f k l0_0 l0_1 l0_2 l0_3 l0_4 l0_5 a0_6 l0_7 l0_8 a0_9 l0_10 l0_11).bind fun t1=>(spec_l21Whole.f l0_0 l0_1 l0_2 l0_3 l0_4 l0_5 a0_6 l0_7 l0_8 a0_9 l0_10 l0_11).bind fun t3=>(if t3 = true then ((spec_l01In.f a0_9 0 100000).bind fun t6=>if t6 = true then spec_CalmWorld.l3 k a1 t1.1 t1.2.1 t1.2.2.1 t1.2.2.2.1 t1.2.2.2.2.1 t1.2.2.2.2.2.1 t1.2.2.2.2.2.2.1 t1.2.2.2.2.2.2.2.1 ([] : List S151) t1.2.2.2.2.2.2.2.2.2.1 t1.2.2.2.2.2.2.2.2.2.2.1 t1.2.2.2.2.2.2.2.2.2.2.2 0 else some (t1.1,t1.2.1,t1.2.2.1,t1.2.2.2.1,t1.2.2.2.2.1,t1.2.2.2.2.2.1,t1.2.2.2.2.2.2.1,t1.2.2.2.2.2.2.2.1,t1.2.2.2.2.2.2.2.2.1,t1.2.2.2.2.2.2.2.2.2.1,t1.2.2.2.2.2.2.2.2.2.2.1,t1.2.2.2.2.2.2.2.2.2.2.2)) else some (t1.1,t1.2.1,t1.2.2.1,t1.2.2.2.1,t1.2.2.2.2.1,t1.2.2.2.2.2.1,t1.2.2.2.2.2.2.1,t1.2.2.2.2.2.2.2.1,t1.2.2.2.2.2.2.2.2.1,t1.2.2.2.2.2.2.2.2.2.1,t1.2.2.2.2.2.2.2.2.2.2.1,t1.2.2.2.2.2.2.2.2.2.2.2))
theorem spec_CalmWorld.ok {k : Nat} {l0_0 : List (List (List S234))} {l0_1 : List S67} {l0_2 : List S65} {l0_3 : List S139} {l0_4 : List Int} {l0_5 : List S154} {a0_6 : Int} {l0_7 : List Int} {l0_8 : List S151} {a0_9 : Int} {l0_10 : List Int} {l0_11 : List S59} {a1 : Int} {r : (List (List (List S234))) × (List S67) × (List S65) × (List S139) × (List Int) × (List S154) × Int × (List Int) × (List S151) × Int × (List Int) × (List S59)} (H : spec_CalmWorld.f k l0_0 l0_1 l0_2 l0_3 l0_4 l0_5 a0_6 l0_7 l0_8 a0_9 l0_10 l0_11 a1 = some r) : ACalls Tryz.prog 9 [] [.agg [.sl .o 1 (l0_0.map (eL 1 (eL 4 (e234)))),.sl .o 4 (l0_1.map e67),.sl .o 5 (l0_2.map e65),.sl .o 6 (l0_3.map e139),.sl .o 1 (l0_4.map (eI .i64)),.sl .o 6 (l0_5.map e154),.lit (.int .i64 a0_6),.sl .o 1 (l0_7.map (eI .i64)),.sl .o 3 (l0_8.map e151),.lit (.int .i64 a0_9),.sl .o 1 (l0_10.map (eI .i64)),.sl .o 4 (l0_11.map e59)],.lit (.int .i64 a1)] [(0,.row 145 1 (r.1.map (eL 1 (eL 4 (e234))))),(1,.row 67 4 (r.2.1.map e67)),(2,.row 65 5 (r.2.2.1.map e65)),(3,.row 139 6 (r.2.2.2.1.map e139)),(4,.row 3 1 (r.2.2.2.2.1.map (eI .i64))),(5,.row 154 6 (r.2.2.2.2.2.1.map e154)),(6,.row 3 1 (r.2.2.2.2.2.2.2.1.map (eI .i64))),(7,.row 151 3 (r.2.2.2.2.2.2.2.2.1.map e151)),(8,.row 3 1 (r.2.2.2.2.2.2.2.2.2.2.1.map (eI .i64))),(9,.row 59 4 (r.2.2.2.2.2.2.2.2.2.2.2.map e59))] (.agg [.row 0,.row 1,.row 2,.row 3,.row 4,.row 5,.lit (.int .i64 r.2.2.2.2.2.2.1),.row 6,.row 7,.lit (.int .i64 r.2.2.2.2.2.2.2.2.2.1),.row 8,.row 9]):=by
 refine acalls (fn:=Tryz.f9) (nt:=122) Tryz.func9 rfl rfl (Nat.le_of_ble_eq_true rfl) fun E hE=>?_
 rw [spec_CalmWorld.f] at H
 refine aw_grp1<|wk_start<|kb g0 (bxA 0)<|kb g0 (alc 1 [.slice none 0 0,.slice none 0 0,.slice none 0 0,.slice none 0 0,.slice none 0 0,.slice none 0 0,.int .i64 0,.slice none 0 0,.slice none 0 0,.int .i64 0,.slice none 0 0,.slice none 0 0] [.lit (.slice none 0 0),.lit (.slice none 0 0),.lit (.slice none 0 0),.lit (.slice none 0 0),.lit (.slice none 0 0),.lit (.slice none 0 0),.lit (.int .i64 0),.lit (.slice none 0 0),.lit (.slice none 0 0),.lit (.int .i64 0),.lit (.slice none 0 0),.lit (.slice none 0 0)])<|wk_end<|ac_next<|aw_grp1<|wk_start<|kv g0 (ldBA 12 [.sl .o 1 (l0_0.map (eL 1 (eL 4 e234))),.sl .o 4 (l0_1.map e67),.sl .o 5 (l0_2.map e65),.sl .o 6 (l0_3.map e139),.sl .o 1 (l0_4.map (eI .i64)),.sl .o 6 (l0_5.map e154),.lit (.int .i64 a0_6),.sl .o 1 (l0_7.map (eI .i64)),.sl .o 3 (l0_8.map e151),.lit (.int .i64 a0_9),.sl .o 1 (l0_10.map (eI .i64)),.sl .o 4 (l0_11.map e59)]) ?_
 obtain ⟨t1,A2,H⟩:=of_bind H
 refine kcS10 17 (.agg [.row 2,.row 3,.row 4,.row 5,.row 6,.row 7,.lit (.int .i64 t1.2.2.2.2.2.2.1),.row 8,.row 9,.lit (.int .i64 t1.2.2.2.2.2.2.2.2.2.1),.row 10,.row 11]) [(2,.row 145 1 (t1.1.map (eL 1 (eL 4 e234)))),(3,.row 67 4 (t1.2.1.map e67)),(4,.row 65 5 (t1.2.2.1.map e65)),(5,.row 139 6 (t1.2.2.2.1.map e139)),(6,.row 3 1 (t1.2.2.2.2.1.map (eI .i64))),(7,.row 154 6 (t1.2.2.2.2.2.1.map e154)),(8,.row 3 1 (t1.2.2.2.2.2.2.2.1.map (eI .i64))),(9,.row 151 3 (t1.2.2.2.2.2.2.2.2.1.map e151)),(10,.row 3 1 (t1.2.2.2.2.2.2.2.2.2.2.1.map (eI .i64))),(11,.row 59 4 (t1.2.2.2.2.2.2.2.2.2.2.2.map e59))] g0 (cal (spec_l21Copy.ok A2) [2,3,4,5,6,7,8,9,10,11] 9999 .n (hf:=Tryz.func46)) rfl rfl<|kb g0 (alc 12 [.slice none 0 0,.slice none 0 0,.slice none 0 0,.slice none 0 0,.slice none 0 0,.slice none 0 0,.int .i64 0,.slice none 0 0,.slice none 0 0,.int .i64 0,.slice none 0 0,.slice none 0 0] [.lit (.slice none 0 0),.lit (.slice none 0 0),.lit (.slice none 0 0),.lit (.slice none 0 0),.lit (.slice none 0 0),.lit (.slice none 0 0),.lit (.int .i64 0),.lit (.slice none 0 0),.lit (.slice none 0 0),.lit (.int .i64 0),.lit (.slice none 0 0),.lit (.slice none 0 0)])<|ks g0 (stB 12 [.row 2,.row 3,.row 4,.row 5,.row 6,.row 7,.lit (.int .i64 t1.2.2.2.2.2.2.1),.row 8,.row 9,.lit (.int .i64 t1.2.2.2.2.2.2.2.2.2.1),.row 10,.row 11])<|wk_end<|ac_next<|aw_grp1<|aw_grp1<|wk_start<|kv g0 (ldBA 12 [.sl .o 1 (l0_0.map (eL 1 (eL 4 e234))),.sl .o 4 (l0_1.map e67),.sl .o 5 (l0_2.map e65),.sl .o 6 (l0_3.map e139),.sl .o 1 (l0_4.map (eI .i64)),.sl .o 6 (l0_5.map e154),.lit (.int .i64 a0_6),.sl .o 1 (l0_7.map (eI .i64)),.sl .o 3 (l0_8.map e151),.lit (.int .i64 a0_9),.sl .o 1 (l0_10.map (eI .i64)),.sl .o 4 (l0_11.map e59)]) ?_
 obtain ⟨t3,A4,H⟩:=of_bind H
 refine kcS0 19 (.lit (.bool t3)) [] g0 (cal (spec_l21Whole.ok A4) [] 9999 .n (hf:=Tryz.func47)) rfl rfl<|kv g0 not_<|kv g0 mv ?_
 by_cases c5 : t3 = true
 ·rw [if_pos c5] at H
  refine kv (g1 (nF c5)) (faB 9 9)<|kv (g1 (nF c5)) ldB ?_
  obtain ⟨t6,A7,H⟩:=of_bind H
  refine kcS0 24 (.lit (.bool t6)) [] (g1 (nF c5)) (cal (spec_l01In.ok A7) [] 9999 .n (hf:=Tryz.func48)) rfl rfl<|kv (g1 (nF c5)) not_ ?_
  refine kv g0 (pkF (nF c5))<|wk_end<|ac_next ?_
  by_cases c8 : t6 = true
  ·rw [if_pos c8] at H
   refine aw_ifF ?_ (nF c8)
   refine aw_skip<|ac_next<|aw_grp1<|wk_start<|kb g0 (bsl 13 151 3 [.bool false,.string .empty,.bool false] (([] : List S151).map e151))<|kv g0 (faB 8 8)<|ks g0 (stB 1 [.row 2,.row 3,.row 4,.row 5,.row 6,.row 7,.lit (.int .i64 t1.2.2.2.2.2.2.1),.row 8,.row 13,.lit (.int .i64 t1.2.2.2.2.2.2.2.2.2.1),.row 10,.row 11])<|wk_end<|ac_next<|aw_grp1<|aw_grp1<|wk_start<|kv g0 asg<|wk_end<|ac_next<|aw_block ?_
   refine aw_loop13 (fun (k_ : Nat) (q138 : List (List (List S234))) (q139 : List S67) (q140 : List S65) (q141 : List S139) (q142 : List Int) (q143 : List S154) (p144 : Int) (q145 : List Int) (q146 : List S151) (p147 : Int) (q148 : List Int) (q149 : List S59) (p150 : Int)=>k_ ≤ k∧spec_CalmWorld.l3 k_ a1 q138 q139 q140 q141 q142 q143 p144 q145 q146 p147 q148 q149 p150 = some r) (fun (q138 : List (List (List S234))) (q139 : List S67) (q140 : List S65) (q141 : List S139) (q142 : List Int) (q143 : List S154) (p144 : Int) (q145 : List Int) (q146 : List S151) (p147 : Int) (q148 : List Int) (q149 : List S59) (p150 : Int)=>⟨[(1,.lit (.int .i64 a1)),(4,.box 1 0),(5,.box 12 0),(6,.lit (.int .i64 p150))],[(1,.box 45 [.lit (.slice none 0 0),.lit (.slice none 0 0),.lit (.slice none 0 0),.lit (.slice none 0 0),.lit (.slice none 0 0),.lit (.slice none 0 0),.lit (.int .i64 0),.lit (.slice none 0 0),.lit (.slice none 0 0),.lit (.int .i64 0),.lit (.slice none 0 0),.lit (.slice none 0 0)]),(2,.row 145 1 (q138.map (eL 1 (eL 4 (e234))))),(3,.row 67 4 (q139.map e67)),(4,.row 65 5 (q140.map e65)),(5,.row 139 6 (q141.map e139)),(6,.row 3 1 (q142.map (eI .i64))),(7,.row 154 6 (q143.map e154)),(8,.row 3 1 (q145.map (eI .i64))),(10,.row 3 1 (q148.map (eI .i64))),(11,.row 59 4 (q149.map e59)),(12,.box 45 [.row 2,.row 3,.row 4,.row 5,.row 6,.row 7,.lit (.int .i64 p144),.row 8,.row 13,.lit (.int .i64 p147),.row 10,.row 11]),(13,.row 151 3 (q146.map e151))]⟩) k t1.1 t1.2.1 t1.2.2.1 t1.2.2.2.1 t1.2.2.2.2.1 t1.2.2.2.2.2.1 t1.2.2.2.2.2.2.1 t1.2.2.2.2.2.2.2.1 ([] : List S151) t1.2.2.2.2.2.2.2.2.2.1 t1.2.2.2.2.2.2.2.2.2.2.1 t1.2.2.2.2.2.2.2.2.2.2.2 0 ⟨Nat.le_refl _,H⟩ (fun K_ h_=>acw hE [(1,1),(2,2),(3,3),(4,4),(5,5),(6,6),(7,7),(8,8),(10,10),(11,11),(12,12),(13,13)] 9999 h_) (fun _ _ _ _ _ _ _ _ _ _ _ _ _=>by intro h_;have h_:=h_.2;rw [spec_CalmWorld.l3.eq_1] at h_;cases h_) ?_
   intro k151 q138 q139 q140 q141 q142 q143 p144 q145 q146 p147 q148 q149 p150 hq_ K281 hK282
   have hk151:=hq_.1
   have H:=hq_.2
   clear hq_
   rw [spec_CalmWorld.l3.eq_2] at H
   refine aw_grp1<|aw_grp1<|wk_start<|kv g0 mv<|kv g0 mv<|kv g0 lss<|kv g0 mv ?_
   by_cases c152 : p150 < a1
   ·rw [if_pos c152] at H
    refine kv (g1 (decide_eq_true c152)) mv<|kv (g1 (decide_eq_true c152)) lss ?_
    refine kv g0 (pkT (decide_eq_true c152))<|wk_end<|ac_next ?_
    by_cases c153 : p150 < 40
    ·rw [if_pos c153] at H
     refine aw_ifT ?_ (decide_eq_true c153)
     refine aw_skip<|ac_next<|aw_grp1<|aw_block<|aw_grp1<|wk_start ?_
     obtain ⟨t154,A155,H⟩:=of_bind H
     refine kcS11 39 (.tup []) [(12,.box 45 [.row 2,.row 3,.row 4,.row 5,.row 6,.row 7,.lit (.int .i64 t154.2.2.2.2.2.2.1),.row 8,.row 13,.lit (.int .i64 t154.2.2.2.2.2.2.2.2.2.1),.row 10,.row 11]),(2,.row 145 1 (t154.1.map (eL 1 (eL 4 e234)))),(3,.row 67 4 (t154.2.1.map e67)),(4,.row 65 5 (t154.2.2.1.map e65)),(5,.row 139 6 (t154.2.2.2.1.map e139)),(6,.row 3 1 (t154.2.2.2.2.1.map (eI .i64))),(7,.row 154 6 (t154.2.2.2.2.2.1.map e154)),(8,.row 3 1 (t154.2.2.2.2.2.2.2.1.map (eI .i64))),(13,.row 151 3 (t154.2.2.2.2.2.2.2.2.1.map e151)),(10,.row 3 1 (t154.2.2.2.2.2.2.2.2.2.2.1.map (eI .i64))),(11,.row 59 4 (t154.2.2.2.2.2.2.2.2.2.2.2.map e59))] g0 (cal (spec_l21Refill.ok A155) [12,2,3,4,5,6,7,8,13,10,11] 9999 .n (hf:=Tryz.func49)) rfl rfl<|wk_end<|ac_next<|aw_grp1<|wk_start<|kv g0 asg<|wk_end<|ac_next<|aw_block ?_
     refine aw_loop13 (fun (k_ : Nat) (q209 : List (List (List S234))) (q210 : List S67) (q211 : List S65) (q212 : List S139) (q213 : List Int) (q214 : List S154) (p215 : Int) (q216 : List Int) (q217 : List S151) (p218 : Int) (q219 : List Int) (q220 : List S59) (p221 : Int)=>k_ ≤ k151∧spec_CalmWorld.l2 k_ a1 p150 q209 q210 q211 q212 q213 q214 p215 q216 q217 p218 q219 q220 p221 = some r) (fun (q209 : List (List (List S234))) (q210 : List S67) (q211 : List S65) (q212 : List S139) (q213 : List Int) (q214 : List S154) (p215 : Int) (q216 : List Int) (q217 : List S151) (p218 : Int) (q219 : List Int) (q220 : List S59) (p221 : Int)=>⟨[(1,.lit (.int .i64 a1)),(4,.box 1 0),(5,.box 12 0),(6,.lit (.int .i64 p150)),(7,.lit (.int .i64 p221))],[(1,.box 45 [.lit (.slice none 0 0),.lit (.slice none 0 0),.lit (.slice none 0 0),.lit (.slice none 0 0),.lit (.slice none 0 0),.lit (.slice none 0 0),.lit (.int .i64 0),.lit (.slice none 0 0),.lit (.slice none 0 0),.lit (.int .i64 0),.lit (.slice none 0 0),.lit (.slice none 0 0)]),(2,.row 145 1 (q209.map (eL 1 (eL 4 (e234))))),(3,.row 67 4 (q210.map e67)),(4,.row 65 5 (q211.map e65)),(5,.row 139 6 (q212.map e139)),(6,.row 3 1 (q213.map (eI .i64))),(7,.row 154 6 (q214.map e154)),(8,.row 3 1 (q216.map (eI .i64))),(10,.row 3 1 (q219.map (eI .i64))),(11,.row 59 4 (q220.map e59)),(12,.box 45 [.row 2,.row 3,.row 4,.row 5,.row 6,.row 7,.lit (.int .i64 p215),.row 8,.row 13,.lit (.int .i64 p218),.row 10,.row 11]),(13,.row 151 3 (q217.map e151))]⟩) k151 t154.1 t154.2.1 t154.2.2.1 t154.2.2.2.1 t154.2.2.2.2.1 t154.2.2.2.2.2.1 t154.2.2.2.2.2.2.1 t154.2.2.2.2.2.2.2.1 t154.2.2.2.2.2.2.2.2.1 t154.2.2.2.2.2.2.2.2.2.1 t154.2.2.2.2.2.2.2.2.2.2.1 t154.2.2.2.2.2.2.2.2.2.2.2 0 ⟨Nat.le_refl _,H⟩ (fun K_ h_=>acw hE [(1,1),(2,2),(3,3),(4,4),(5,5),(6,6),(7,7),(8,8),(10,10),(11,11),(12,12),(13,13)] 9999 h_) (fun _ _ _ _ _ _ _ _ _ _ _ _ _=>by intro h_;have h_:=h_.2;rw [spec_CalmWorld.l2.eq_1] at h_;cases h_) ?_
     intro k222 q209 q210 q211 q212 q213 q214 p215 q216 q217 p218 q219 q220 p221 hq_ K279 hK280
     have hk222:=hq_.1
     have H:=hq_.2
     clear hq_
     rw [spec_CalmWorld.l2.eq_2] at H
     refine aw_grp1<|aw_grp1<|wk_start<|kv g0 mv<|kv g0 lss<|wk_end<|ac_next ?_
     by_cases c223 : p221 < 3
     ·rw [if_pos c223] at H
      refine aw_ifT ?_ (decide_eq_true c223)
      refine aw_skip<|ac_next<|aw_grp1<|aw_block<|aw_grp1<|aw_grp1<|wk_start<|kv g0 asg<|wk_end<|ac_next<|aw_block ?_
      refine aw_loop3 (fun (k_ : Nat) (q230 : List S67) (q231 : List S65) (p232 : Int)=>k_ ≤ k222∧spec_CalmWorld.l0 k_ a1 p150 q209 q212 q213 q214 p215 q216 q217 p218 q219 q220 p221 q230 q231 p232 = some r) (fun (q230 : List S67) (q231 : List S65) (p232 : Int)=>⟨[(1,.lit (.int .i64 a1)),(4,.box 1 0),(5,.box 12 0),(6,.lit (.int .i64 p150)),(7,.lit (.int .i64 p221)),(8,.lit (.int .i64 p232))],[(1,.box 45 [.lit (.slice none 0 0),.lit (.slice none 0 0),.lit (.slice none 0 0),.lit (.slice none 0 0),.lit (.slice none 0 0),.lit (.slice none 0 0),.lit (.int .i64 0),.lit (.slice none 0 0),.lit (.slice none 0 0),.lit (.int .i64 0),.lit (.slice none 0 0),.lit (.slice none 0 0)]),(2,.row 145 1 (q209.map (eL 1 (eL 4 (e234))))),(3,.row 67 4 (q230.map e67)),(4,.row 65 5 (q231.map e65)),(5,.row 139 6 (q212.map e139)),(6,.row 3 1 (q213.map (eI .i64))),(7,.row 154 6 (q214.map e154)),(8,.row 3 1 (q216.map (eI .i64))),(10,.row 3 1 (q219.map (eI .i64))),(11,.row 59 4 (q220.map e59)),(12,.box 45 [.row 2,.row 3,.row 4,.row 5,.row 6,.row 7,.lit (.int .i64 p215),.row 8,.row 13,.lit (.int .i64 p218),.row 10,.row 11]),(13,.row 151 3 (q217.map e151))]⟩) k222 q210 q211 0 ⟨Nat.le_refl _,H⟩ (fun K_ h_=>acw hE [(1,1),(2,2),(3,3),(4,4),(5,5),(6,6),(7,7),(8,8),(10,10),(11,11),(12,12),(13,13)] 9999 h_) (fun _ _ _=>by intro h_;have h_:=h_.2;rw [spec_CalmWorld.l0.eq_1] at h_;cases h_) ?_
      intro k233 q230 q231 p232 hq_ K240 hK241
      have hk233:=hq_.1
      have H:=hq_.2
      clear hq_
      rw [spec_CalmWorld.l0.eq_2] at H
      refine aw_grp1<|aw_grp1<|wk_start<|kv g0 mv<|kv g0 lss<|wk_end<|ac_next ?_
      by_cases c234 : p232 < 3
      ·rw [if_pos c234] at H
       refine aw_ifT ?_ (decide_eq_true c234)
       refine aw_skip<|ac_next<|aw_grp1<|aw_block<|aw_grp1<|wk_start<|kv g0 (faB 2 2)<|kv g0 ldB<|kv g0 mv ?_
       obtain ⟨c235,H⟩:=of_if H
       obtain ⟨c236,H⟩:=of_if H
       refine kv g0 (ixR 65 c235 (ltE c236))<|kv g0 (ldEA 5 (e65 (rd_T65 q231 p221)) [.lit (.int .i64 ((rd_T65 q231 p221).f0)),.lit (.int .i64 ((rd_T65 q231 p221).f1)),.sl .n 4 (((rd_T65 q231 p221).f2).map e63),.lit (.int .i64 ((rd_T65 q231 p221).f3)),.lit (.int .i64 ((rd_T65 q231 p221).f4))] (getE (z:=z65) c235 c236))<|kv g0 (faB 1 1)<|kv g0 ldB<|kv g0 mv ?_
       obtain ⟨c237,H⟩:=of_if H
       refine kv g0 (ixR 67 c235 (ltE c237))<|kv g0 (ldEA 4 (e67 (rd_T67 q230 p221)) [.sl .n 4 (((rd_T67 q230 p221).f0).map e63),.lit (.int .i64 ((rd_T67 q230 p221).f1)),.lit (.int .i64 ((rd_T67 q230 p221).f2)),.lit (.int .i64 ((rd_T67 q230 p221).f3))] (getE (z:=z67) c235 c237))<|kv g0 (faB 9 9)<|kv g0 ldB ?_
       obtain ⟨t238,A239,H⟩:=of_bind H
       refine kcS2 61 (.tup [.agg [.lit (.int .i64 t238.1),.lit (.int .i64 t238.2.1),.row 14,.lit (.int .i64 t238.2.2.2.1),.lit (.int .i64 t238.2.2.2.2.1)],.agg [.row 15,.lit (.int .i64 t238.2.2.2.2.2.2.1),.lit (.int .i64 t238.2.2.2.2.2.2.2.1),.lit (.int .i64 t238.2.2.2.2.2.2.2.2.1)],.lit (.bool t238.2.2.2.2.2.2.2.2.2)]) [(14,.row 63 4 (t238.2.2.1.map e63)),(15,.row 63 4 (t238.2.2.2.2.2.1.map e63))] g0 (cal (spec_Taken.ok A239) [14,15] 9999 .n (hf:=Tryz.func50)) rfl rfl<|kv g0 mv<|kv g0 ext<|kv g0 ext<|kv g0 ext<|kb g0 (alc 16 [.int .i64 0,.int .i64 0,.slice none 0 0,.int .i64 0,.int .i64 0] [.lit (.int .i64 0),.lit (.int .i64 0),.lit (.slice none 0 0),.lit (.int .i64 0),.lit (.int .i64 0)])<|kb g0 (alc 17 [.slice none 0 0,.int .i64 0,.int .i64 0,.int .i64 0] [.lit (.slice none 0 0),.lit (.int .i64 0),.lit (.int .i64 0),.lit (.int .i64 0)])<|ks g0 (stB 5 [.lit (.int .i64 t238.1),.lit (.int .i64 t238.2.1),.row 14,.lit (.int .i64 t238.2.2.2.1),.lit (.int .i64 t238.2.2.2.2.1)])<|ks g0 (stB 4 [.row 15,.lit (.int .i64 t238.2.2.2.2.2.2.1),.lit (.int .i64 t238.2.2.2.2.2.2.2.1),.lit (.int .i64 t238.2.2.2.2.2.2.2.2.1)])<|kv g0 asg<|wk_end_draw hM (by kernel_rfl)<|ac_next<|aw_grp1<|ac_frz 14<|wk_start<|kv g0 (faB 2 2)<|kv g0 ldB<|kv g0 mv<|kv g0 (ldBA 5 [.lit (.int .i64 t238.1),.lit (.int .i64 t238.2.1),.sl .n 4 (t238.2.2.1.map e63),.lit (.int .i64 t238.2.2.2.1),.lit (.int .i64 t238.2.2.2.2.1)])<|kv g0 (ixR 65 c235 (ltE c236))<|ks g0 (stE 5 (e65 (⟨t238.1,t238.2.1,t238.2.2.1,t238.2.2.2.1,t238.2.2.2.2.1⟩ : S65)) ((q231.set p221.toNat (⟨t238.1,t238.2.1,t238.2.2.1,t238.2.2.2.1,t238.2.2.2.2.1⟩ : S65)).map e65) (getE (z:=z65) c235 c236) setE)<|wk_end<|ac_next<|ac_frz 15<|wk_start<|kv g0 (faB 1 1)<|kv g0 ldB<|kv g0 mv<|kv g0 (ldBA 4 [.sl .n 4 (t238.2.2.2.2.2.1.map e63),.lit (.int .i64 t238.2.2.2.2.2.2.1),.lit (.int .i64 t238.2.2.2.2.2.2.2.1),.lit (.int .i64 t238.2.2.2.2.2.2.2.2.1)])<|kv g0 (ixR 67 c235 (ltE c237))<|ks g0 (stE 4 (e67 (⟨t238.2.2.2.2.2.1,t238.2.2.2.2.2.2.1,t238.2.2.2.2.2.2.2.1,t238.2.2.2.2.2.2.2.2.1⟩ : S67)) ((q230.set p221.toNat (⟨t238.2.2.2.2.2.1,t238.2.2.2.2.2.2.1,t238.2.2.2.2.2.2.2.1,t238.2.2.2.2.2.2.2.2.1⟩ : S67)).map e67) (getE (z:=z67) c235 c237) setE)<|wk_end<|ac_blkN<|ac_next<|wk_start<|kv g0 mv<|kv g0 add6<|kv g0 asg<|wk_end<|ac_k ?_
       exact acw hE [(1,1),(2,2),(3,3),(4,4),(5,5),(6,6),(7,7),(8,8),(10,10),(11,11),(12,12),(13,13)] 9999 (hK241 k233 (q230.set p221.toNat (⟨t238.2.2.2.2.2.1,t238.2.2.2.2.2.2.1,t238.2.2.2.2.2.2.2.1,t238.2.2.2.2.2.2.2.2.1⟩ : S67)) (q231.set p221.toNat (⟨t238.1,t238.2.1,t238.2.2.1,t238.2.2.2.1,t238.2.2.2.2.1⟩ : S65)) (wrap64 (p232 + 1)) (Nat.le_refl _) ⟨by omega,H⟩)
      rw [if_neg c234] at H
      refine aw_ifF ?_ (decide_eq_false c234)
      refine aw_exit<|ac_then<|ac_then<|ac_hit rfl<|ac_next<|aw_grp1<|wk_start<|kv g0 (faB 2 2)<|kv g0 ldB<|kv g0 mv<|kv g0 (faB 2 2)<|kv g0 ldB<|kv g0 mv ?_
      obtain ⟨c242,H⟩:=of_if H
      obtain ⟨c243,H⟩:=of_if H
      refine kv g0 (ixR 65 c242 (ltE c243))<|kv g0 (ldEA 5 (e65 (rd_T65 q231 p221)) [.lit (.int .i64 ((rd_T65 q231 p221).f0)),.lit (.int .i64 ((rd_T65 q231 p221).f1)),.sl .n 4 (((rd_T65 q231 p221).f2).map e63),.lit (.int .i64 ((rd_T65 q231 p221).f3)),.lit (.int .i64 ((rd_T65 q231 p221).f4))] (getE (z:=z65) c242 c243))<|kv g0 (faB 9 9)<|kv g0 ldB ?_
      obtain ⟨t244,A245,H⟩:=of_bind H
      refine kcS0 86 (.tup [.agg [.lit (.int .i64 t244.1),.lit (.int .i64 t244.2.1),.sl .n 4 (t244.2.2.1.map e63),.lit (.int .i64 t244.2.2.2.1),.lit (.int .i64 t244.2.2.2.2.1)],.lit (.bool t244.2.2.2.2.2)]) [] g0 (cal ((spec_Again.ok A245).frz (.tup [.agg [.lit (.int .i64 t244.1),.lit (.int .i64 t244.2.1),.sl .n 4 (t244.2.2.1.map e63),.lit (.int .i64 t244.2.2.2.1),.lit (.int .i64 t244.2.2.2.2.1)],.lit (.bool t244.2.2.2.2.2)])) [] 9999 .n (hf:=Tryz.func51)) rfl rfl<|kv g0 mv<|kv g0 ext<|kv g0 ext<|kv g0 (ixR 65 c242 (ltE c243))<|ks g0 (stE 5 (e65 (⟨t244.1,t244.2.1,t244.2.2.1,t244.2.2.2.1,t244.2.2.2.2.1⟩ : S65)) ((q231.set p221.toNat (⟨t244.1,t244.2.1,t244.2.2.1,t244.2.2.2.1,t244.2.2.2.2.1⟩ : S65)).map e65) (getE (z:=z65) c242 c243) setE)<|wk_end_draw hM (by kernel_rfl)<|ac_next<|aw_grp1<|wk_start<|kv g0 (faB 2 2)<|kv g0 ldB<|kv g0 mv<|kv g0 (ixR 65 c242 (ltE (ls c243)))<|kv g0 (ldEA 5 (e65 (⟨t244.1,t244.2.1,t244.2.2.1,t244.2.2.2.1,t244.2.2.2.2.1⟩ : S65)) [.lit (.int .i64 t244.1),.lit (.int .i64 t244.2.1),.sl .n 4 (t244.2.2.1.map e63),.lit (.int .i64 t244.2.2.2.1),.lit (.int .i64 t244.2.2.2.2.1)] (setG c242 (ls c243))) ?_
      obtain ⟨t246,A247,H⟩:=of_bind H
      refine kcS1 95 (.row 18) [(18,.row 109 7 (t246.map e109))] g0 (cal (spec_Says.ok A247) [18] 9999 .n (hf:=Tryz.func52)) rfl rfl<|kv g0 asg<|wk_end<|ac_next<|aw_grp1<|aw_grp1<|wk_start<|kv g0 asg<|wk_end<|ac_next<|aw_block ?_
      refine aw_loop13 (fun (k_ : Nat) (q252 : List (List (List S234))) (q253 : List S67) (q254 : List S65) (q255 : List S139) (q256 : List Int) (q257 : List S154) (p258 : Int) (q259 : List Int) (q260 : List S151) (p261 : Int) (q262 : List Int) (q263 : List S59) (p264 : Int)=>k_ ≤ k233∧spec_CalmWorld.l1 k_ a1 p150 p221 t246 q252 q253 q254 q255 q256 q257 p258 q259 q260 p261 q262 q263 p264 = some r) (fun (q252 : List (List (List S234))) (q253 : List S67) (q254 : List S65) (q255 : List S139) (q256 : List Int) (q257 : List S154) (p258 : Int) (q259 : List Int) (q260 : List S151) (p261 : Int) (q262 : List Int) (q263 : List S59) (p264 : Int)=>⟨[(1,.lit (.int .i64 a1)),(4,.box 1 0),(5,.box 12 0),(6,.lit (.int .i64 p150)),(7,.lit (.int .i64 p221)),(12,.row 18),(13,.lit (.int .i64 p264))],[(1,.box 45 [.lit (.slice none 0 0),.lit (.slice none 0 0),.lit (.slice none 0 0),.lit (.slice none 0 0),.lit (.slice none 0 0),.lit (.slice none 0 0),.lit (.int .i64 0),.lit (.slice none 0 0),.lit (.slice none 0 0),.lit (.int .i64 0),.lit (.slice none 0 0),.lit (.slice none 0 0)]),(2,.row 145 1 (q252.map (eL 1 (eL 4 (e234))))),(3,.row 67 4 (q253.map e67)),(4,.row 65 5 (q254.map e65)),(5,.row 139 6 (q255.map e139)),(6,.row 3 1 (q256.map (eI .i64))),(7,.row 154 6 (q257.map e154)),(8,.row 3 1 (q259.map (eI .i64))),(10,.row 3 1 (q262.map (eI .i64))),(11,.row 59 4 (q263.map e59)),(12,.box 45 [.row 2,.row 3,.row 4,.row 5,.row 6,.row 7,.lit (.int .i64 p258),.row 8,.row 13,.lit (.int .i64 p261),.row 10,.row 11]),(13,.row 151 3 (q260.map e151)),(18,.row 109 7 (t246.map e109))]⟩) k233 q209 q230 (q231.set p221.toNat (⟨t244.1,t244.2.1,t244.2.2.1,t244.2.2.2.1,t244.2.2.2.2.1⟩ : S65)) q212 q213 q214 p215 q216 q217 p218 q219 q220 0 ⟨Nat.le_refl _,H⟩ (fun K_ h_=>acw hE [(1,1),(2,2),(3,3),(4,4),(5,5),(6,6),(7,7),(8,8),(10,10),(11,11),(12,12),(13,13),(18,18)] 9999 h_) (fun _ _ _ _ _ _ _ _ _ _ _ _ _=>by intro h_;have h_:=h_.2;rw [spec_CalmWorld.l1.eq_1] at h_;cases h_) ?_
      intro k265 q252 q253 q254 q255 q256 q257 p258 q259 q260 p261 q262 q263 p264 hq_ K270 hK271
      have hk265:=hq_.1
      have H:=hq_.2
      clear hq_
      rw [spec_CalmWorld.l1.eq_2] at H
      refine aw_grp1<|aw_grp1<|wk_start<|kv g0 mv<|kv g0 mv<|kv g0 (lnR lenE)<|kv g0 lss<|wk_end<|ac_next ?_
      by_cases c266 : p264 < (t246.length : Int)
      ·rw [if_pos c266] at H
       refine aw_ifT ?_ (decide_eq_true c266)
       refine aw_skip<|ac_next<|aw_grp1<|aw_block<|wk_start<|kv g0 mv<|kv g0 mv ?_
       obtain ⟨c267,H⟩:=of_if H
       refine kv g0 (ixR 109 c267 (ltE c266))<|kv g0 (ldEA 7 (e109 (rd_T109 t246 p264)) [.lit (.int .i64 ((rd_T109 t246 p264).f0)),.lit (.int .i64 ((rd_T109 t246 p264).f1)),.lit (.int .i64 ((rd_T109 t246 p264).f2)),.lit (.int .i64 ((rd_T109 t246 p264).f3.f0)),.lit (.int .i64 ((rd_T109 t246 p264).f3.f1)),.lit (.int .i64 ((rd_T109 t246 p264).f3.f2)),.lit (.int .i64 ((rd_T109 t246 p264).f3.f3))] (getE (z:=z109) c267 c266)) ?_
       obtain ⟨t268,A269,H⟩:=of_bind H
       refine kcS15 106 (.tup []) [(12,.box 45 [.row 2,.row 3,.row 4,.row 19,.row 20,.row 21,.lit (.int .i64 t268.2.2.2.2.2.2.1),.row 22,.row 13,.lit (.int .i64 t268.2.2.2.2.2.2.2.2.2.1),.row 10,.row 11]),(2,.row 145 1 (t268.1.map (eL 1 (eL 4 e234)))),(3,.row 67 4 (t268.2.1.map e67)),(4,.row 65 5 (t268.2.2.1.map e65)),(5,.gone),(6,.gone),(7,.gone),(8,.gone),(13,.row 151 3 (t268.2.2.2.2.2.2.2.2.1.map e151)),(10,.row 3 1 (t268.2.2.2.2.2.2.2.2.2.2.1.map (eI .i64))),(11,.row 59 4 (t268.2.2.2.2.2.2.2.2.2.2.2.map e59)),(19,.row 139 6 (t268.2.2.2.1.map e139)),(20,.row 3 1 (t268.2.2.2.2.1.map (eI .i64))),(21,.row 154 6 (t268.2.2.2.2.2.1.map e154)),(22,.row 3 1 (t268.2.2.2.2.2.2.2.1.map (eI .i64)))] g0 (cal (spec_l21Hear.ok A269) [12,2,3,4,5,6,7,8,13,10,11,19,20,21,22] 9999 .n (hf:=Tryz.func53)) rfl rfl<|wk_end<|ac_blkN<|ac_next<|wk_start<|kv g0 mv<|kv g0 add6<|kv g0 asg<|wk_end<|ac_k ?_
       exact acw hE [(1,1),(2,2),(3,3),(4,4),(5,19),(6,20),(7,21),(8,22),(10,10),(11,11),(12,12),(13,13),(18,18)] 9999 (hK271 k265 t268.1 t268.2.1 t268.2.2.1 t268.2.2.2.1 t268.2.2.2.2.1 t268.2.2.2.2.2.1 t268.2.2.2.2.2.2.1 t268.2.2.2.2.2.2.2.1 t268.2.2.2.2.2.2.2.2.1 t268.2.2.2.2.2.2.2.2.2.1 t268.2.2.2.2.2.2.2.2.2.2.1 t268.2.2.2.2.2.2.2.2.2.2.2 (wrap64 (p264 + 1)) (Nat.le_refl _) ⟨by omega,H⟩)
      rw [if_neg c266] at H
      refine aw_ifF ?_ (decide_eq_false c266)
      refine aw_exit<|ac_then<|ac_then<|ac_hit rfl<|ac_next<|aw_grp1<|wk_start<|kv g0 (faB 3 3)<|kv g0 (ldBA 5 [.row 5,.row 6,.row 7,.lit (.int .i64 p258),.row 8]) ?_
      obtain ⟨t272,A273,H⟩:=of_bind H
      refine kcS4 109 (.agg [.row 23,.row 24,.row 25,.lit (.int .i64 t272.2.2.2.1),.row 26]) [(23,.row 139 6 (t272.1.map e139)),(24,.row 3 1 (t272.2.1.map (eI .i64))),(25,.row 154 6 (t272.2.2.1.map e154)),(26,.row 3 1 (t272.2.2.2.2.map (eI .i64)))] g0 (cal (spec_SaveKeeper.ok A273) [23,24,25,26] 9999 .n (hf:=Tryz.func54)) rfl rfl<|kv g0 (faB 3 3)<|ks g0 (stB 5 [.row 2,.row 3,.row 4,.row 23,.row 24,.row 25,.lit (.int .i64 t272.2.2.2.1),.row 26,.row 13,.lit (.int .i64 p261),.row 10,.row 11])<|wk_end<|ac_next<|aw_grp1<|wk_start<|kv g0 (faB 3 3)<|kv g0 (ldBA 5 [.row 23,.row 24,.row 25,.lit (.int .i64 t272.2.2.2.1),.row 26])<|kv g0 mv ?_
      obtain ⟨t274,A275,H⟩:=of_bind H
      refine kcS0 115 (.tup [.agg [.lit (.int .i64 t274.1),.lit (.int .i64 t274.2.1),.lit (.int .i64 t274.2.2.1),.lit (.int .i64 t274.2.2.2.1),.lit (.int .i64 t274.2.2.2.2.1),.lit (.int .i64 t274.2.2.2.2.2.1),.lit (.int .i64 t274.2.2.2.2.2.2.1)],.lit (.bool t274.2.2.2.2.2.2.2)]) [] g0 (cal (spec_AckOf.ok A275) [] 9999 .n (hf:=Tryz.func55)) rfl rfl<|kv g0 mv<|kv g0 ext<|kv g0 ext<|kb g0 (alc 27 [.int .i64 0,.int .i64 0,.int .i64 0,.int .i64 0,.int .i64 0,.int .i64 0,.int .i64 0] [.lit (.int .i64 0),.lit (.int .i64 0),.lit (.int .i64 0),.lit (.int .i64 0),.lit (.int .i64 0),.lit (.int .i64 0),.lit (.int .i64 0)])<|ks g0 (stB 7 [.lit (.int .i64 t274.1),.lit (.int .i64 t274.2.1),.lit (.int .i64 t274.2.2.1),.lit (.int .i64 t274.2.2.2.1),.lit (.int .i64 t274.2.2.2.2.1),.lit (.int .i64 t274.2.2.2.2.2.1),.lit (.int .i64 t274.2.2.2.2.2.2.1)])<|kv g0 asg<|wk_end<|ac_next<|aw_grp1<|wk_start<|kv g0 mv<|wk_end<|ac_next ?_
      by_cases c276 : t274.2.2.2.2.2.2.2 = true
      ·rw [if_pos c276] at H
       refine aw_ifT ?_ c276
       refine wk_start<|kv g0 (ldBA 7 [.lit (.int .i64 t274.1),.lit (.int .i64 t274.2.1),.lit (.int .i64 t274.2.2.1),.lit (.int .i64 t274.2.2.2.1),.lit (.int .i64 t274.2.2.2.2.1),.lit (.int .i64 t274.2.2.2.2.2.1),.lit (.int .i64 t274.2.2.2.2.2.2.1)]) ?_
       obtain ⟨t277,A278,H⟩:=of_bind H
       refine kcS15 120 (.tup []) [(12,.box 45 [.row 2,.row 3,.row 4,.row 28,.row 29,.row 30,.lit (.int .i64 t277.2.2.2.2.2.2.1),.row 31,.row 13,.lit (.int .i64 t277.2.2.2.2.2.2.2.2.2.1),.row 10,.row 11]),(2,.row 145 1 (t277.1.map (eL 1 (eL 4 e234)))),(3,.row 67 4 (t277.2.1.map e67)),(4,.row 65 5 (t277.2.2.1.map e65)),(23,.gone),(24,.gone),(25,.gone),(26,.gone),(13,.row 151 3 (t277.2.2.2.2.2.2.2.2.1.map e151)),(10,.row 3 1 (t277.2.2.2.2.2.2.2.2.2.2.1.map (eI .i64))),(11,.row 59 4 (t277.2.2.2.2.2.2.2.2.2.2.2.map e59)),(28,.row 139 6 (t277.2.2.2.1.map e139)),(29,.row 3 1 (t277.2.2.2.2.1.map (eI .i64))),(30,.row 154 6 (t277.2.2.2.2.2.1.map e154)),(31,.row 3 1 (t277.2.2.2.2.2.2.2.1.map (eI .i64)))] g0 (cal (spec_l21Hear.ok A278) [12,2,3,4,23,24,25,26,13,10,11,28,29,30,31] 9999 .n (hf:=Tryz.func53)) rfl rfl<|wk_end<|ac_blkN<|ac_next<|wk_start<|kv g0 mv<|kv g0 add6<|kv g0 asg<|wk_end<|ac_k ?_
       exact acw hE [(1,1),(2,2),(3,3),(4,4),(5,28),(6,29),(7,30),(8,31),(10,10),(11,11),(12,12),(13,13)] 9999 (hK280 k265 t277.1 t277.2.1 t277.2.2.1 t277.2.2.2.1 t277.2.2.2.2.1 t277.2.2.2.2.2.1 t277.2.2.2.2.2.2.1 t277.2.2.2.2.2.2.2.1 t277.2.2.2.2.2.2.2.2.1 t277.2.2.2.2.2.2.2.2.2.1 t277.2.2.2.2.2.2.2.2.2.2.1 t277.2.2.2.2.2.2.2.2.2.2.2 (wrap64 (p221 + 1)) (by omega) ⟨by omega,H⟩)
      rw [if_neg c276] at H
      refine aw_ifF ?_ (bF c276)
      refine aw_skip<|ac_blkN<|ac_next<|wk_start<|kv g0 mv<|kv g0 add6<|kv g0 asg<|wk_end<|ac_k ?_
      exact acw hE [(1,1),(2,2),(3,3),(4,4),(5,23),(6,24),(7,25),(8,26),(10,10),(11,11),(12,12),(13,13)] 9999 (hK280 k265 q252 q253 q254 t272.1 t272.2.1 t272.2.2.1 t272.2.2.2.1 t272.2.2.2.2 q260 p261 q262 q263 (wrap64 (p221 + 1)) (by omega) ⟨by omega,H⟩)
     rw [if_neg c223] at H
     refine aw_ifF ?_ (decide_eq_false c223)
     refine aw_exit<|ac_then<|ac_then<|ac_hit rfl<|ac_blkN<|ac_next<|wk_start<|kv g0 mv<|kv g0 add6<|kv g0 asg<|wk_end<|ac_k ?_
     exact acw hE [(1,1),(2,2),(3,3),(4,4),(5,5),(6,6),(7,7),(8,8),(10,10),(11,11),(12,12),(13,13)] 9999 (hK282 k222 q209 q210 q211 q212 q213 q214 p215 q216 q217 p218 q219 q220 (wrap64 (p150 + 1)) (by omega) ⟨by omega,H⟩)
    rw [if_neg c153] at H
    refine aw_ifF ?_ (decide_eq_false c153)
    refine aw_exit<|ac_then<|ac_then<|ac_hit rfl<|ac_next<|aw_grp1<|wk_start<|kv g0 (ldBA 12 [.row 2,.row 3,.row 4,.row 5,.row 6,.row 7,.lit (.int .i64 p144),.row 8,.row 13,.lit (.int .i64 p147),.row 10,.row 11])<|ks g0 (stB 12 [.row 2,.row 3,.row 4,.row 5,.row 6,.row 7,.lit (.int .i64 p144),.row 8,.row 13,.lit (.int .i64 p147),.row 10,.row 11])<|wk_end<|ac_next<|aw_ret ?_
    obtain rfl:=Option.some.inj H
    exact acr hE [.cell 4 45] (rcA 12 .nil) (.one _) [(0,2),(1,3),(2,4),(3,5),(4,6),(5,7),(6,8),(7,13),(8,10),(9,11)] 9999
   rw [if_neg c152] at H
   refine kx (hT (decide_eq_false c152)) ?_
   refine kx (hT (decide_eq_false c152)) ?_
   refine kv g0 (pkF (decide_eq_false c152))<|wk_end<|ac_next ?_
   refine aw_ifF ?_ rfl
   refine aw_exit<|ac_then<|ac_then<|ac_hit rfl<|ac_next<|aw_grp1<|wk_start<|kv g0 (ldBA 12 [.row 2,.row 3,.row 4,.row 5,.row 6,.row 7,.lit (.int .i64 p144),.row 8,.row 13,.lit (.int .i64 p147),.row 10,.row 11])<|ks g0 (stB 12 [.row 2,.row 3,.row 4,.row 5,.row 6,.row 7,.lit (.int .i64 p144),.row 8,.row 13,.lit (.int .i64 p147),.row 10,.row 11])<|wk_end<|ac_next<|aw_ret ?_
   obtain rfl:=Option.some.inj H
   exact acr hE [.cell 4 45] (rcA 12 .nil) (.one _) [(0,2),(1,3),(2,4),(3,5),(4,6),(5,7),(6,8),(7,13),(8,10),(9,11)] 9999
  rw [if_neg c8] at H
  refine aw_ifT ?_ (nT (bF c8))
  refine aw_grp1<|wk_start<|kv g0 (ldBA 12 [.row 2,.row 3,.row 4,.row 5,.row 6,.row 7,.lit (.int .i64 t1.2.2.2.2.2.2.1),.row 8,.row 9,.lit (.int .i64 t1.2.2.2.2.2.2.2.2.2.1),.row 10,.row 11])<|ks g0 (stB 12 [.row 2,.row 3,.row 4,.row 5,.row 6,.row 7,.lit (.int .i64 t1.2.2.2.2.2.2.1),.row 8,.row 9,.lit (.int .i64 t1.2.2.2.2.2.2.2.2.2.1),.row 10,.row 11])<|wk_end<|ac_next<|aw_ret<|ac_thenR ?_
  obtain rfl:=Option.some.inj H
  exact acr hE [.cell 4 45] (rcA 12 .nil) (.one _) [(0,2),(1,3),(2,4),(3,5),(4,6),(5,7),(6,8),(7,9),(8,10),(9,11)] 9999
 rw [if_neg c5] at H
 refine kx (hF (nT (bF c5))) ?_
 refine kx (hF (nT (bF c5))) ?_
 refine kx (hF (nT (bF c5))) ?_
 refine kx (hF (nT (bF c5))) ?_
 refine kv g0 (pkT (nT (bF c5)))<|wk_end<|ac_next ?_
 refine aw_ifT ?_ rfl
 refine aw_grp1<|wk_start<|kv g0 (ldBA 12 [.row 2,.row 3,.row 4,.row 5,.row 6,.row 7,.lit (.int .i64 t1.2.2.2.2.2.2.1),.row 8,.row 9,.lit (.int .i64 t1.2.2.2.2.2.2.2.2.2.1),.row 10,.row 11])<|ks g0 (stB 12 [.row 2,.row 3,.row 4,.row 5,.row 6,.row 7,.lit (.int .i64 t1.2.2.2.2.2.2.1),.row 8,.row 9,.lit (.int .i64 t1.2.2.2.2.2.2.2.2.2.1),.row 10,.row 11])<|wk_end<|ac_next<|aw_ret<|ac_thenR ?_
 obtain rfl:=Option.some.inj H
 exact acr hE [.cell 4 45] (rcA 12 .nil) (.one _) [(0,2),(1,3),(2,4),(3,5),(4,6),(5,7),(6,8),(7,9),(8,10),(9,11)] 9999
/-! impl_copyInts -/
def impl_copyInts.f (l0 : List Int) : Option ((List Int)):=if ([] : List Int).length + l0.length < 17592186044416 then some (([] : List Int) ++ l0) else none
theorem impl_copyInts.ok {l0 : List Int} {r : (List Int)} (H : impl_copyInts.f l0 = some r) : ACalls Tryz.prog 151 [] [.sl .o 1 (l0.map (eI .i64))] [(0,.row 3 1 (r.map (eI .i64)))] (.row 0):=by
 refine acalls (fn:=Tryz.f151) (nt:=6) Tryz.func151 rfl rfl (Nat.le_of_ble_eq_true rfl) fun E hE=>?_
 rw [impl_copyInts.f] at H
 refine aw_grp1<|wk_start<|kv g0 asg<|wk_end<|ac_next<|aw_grp1<|wk_start<|kb g0 (bsl 0 3 1 [.int .i64 0] (([] : List Int).map (eI .i64)))<|kv g0 mv ?_
 obtain ⟨c1,H⟩:=of_if H
 refine kc g0 (apR 1 3 1 8 [.int .i64 0] ((([] : List Int) ++ l0).map (eI .i64)) (.slF flI) (apb c1 rfl) appE)<|kv g0 asg<|wk_end<|ac_next<|aw_ret ?_
 obtain rfl:=Option.some.inj H
 exact acr hE [.tmp 2] (.tmp .nil) (.one _) [(0,1)] 9999
/-! impl_copyKeeper -/
def impl_copyKeeper.f (l0_0 : List S139) (l0_1 : List Int) (l0_2 : List S154) (a0_3 : Int) (l0_4 : List Int) : Option ((List S139) × (List Int) × (List S154) × Int × (List Int)):=if ([] : List S139).length + l0_0.length < 2932031007402 then ((impl_copyInts.f l0_1).bind fun t2=>(if ([] : List S154).length + l0_2.length < 2932031007402 then ((impl_copyInts.f l0_4).bind fun t5=>some (([] : List S139) ++ l0_0,t2,([] : List S154) ++ l0_2,a0_3,t5)) else none)) else none
theorem impl_copyKeeper.ok {l0_0 : List S139} {l0_1 : List Int} {l0_2 : List S154} {a0_3 : Int} {l0_4 : List Int} {r : (List S139) × (List Int) × (List S154) × Int × (List Int)} (H : impl_copyKeeper.f l0_0 l0_1 l0_2 a0_3 l0_4 = some r) : ACalls Tryz.prog 150 [] [.agg [.sl .o 6 (l0_0.map e139),.sl .o 1 (l0_1.map (eI .i64)),.sl .o 6 (l0_2.map e154),.lit (.int .i64 a0_3),.sl .o 1 (l0_4.map (eI .i64))]] [(0,.row 139 6 (r.1.map e139)),(1,.row 3 1 (r.2.1.map (eI .i64))),(2,.row 154 6 (r.2.2.1.map e154)),(3,.row 3 1 (r.2.2.2.2.map (eI .i64)))] (.agg [.row 0,.row 1,.row 2,.lit (.int .i64 r.2.2.2.1),.row 3]):=by
 refine acalls (fn:=Tryz.f150) (nt:=20) Tryz.func150 rfl rfl (Nat.le_of_ble_eq_true rfl) fun E hE=>?_
 rw [impl_copyKeeper.f] at H
 refine aw_grp1<|wk_start<|kb g0 (bxA 0)<|kb g0 (alc 1 [.slice none 0 0,.slice none 0 0,.slice none 0 0,.int .i64 0,.slice none 0 0] [.lit (.slice none 0 0),.lit (.slice none 0 0),.lit (.slice none 0 0),.lit (.int .i64 0),.lit (.slice none 0 0)])<|wk_end<|ac_next<|aw_grp1<|wk_start<|kb g0 (bsl 2 139 6 [.int .i64 0,.int .i64 0,.int .i64 0,.int .i64 0,.int .i64 0,.int .i64 0] (([] : List S139).map e139))<|kv g0 (faB 0 0)<|kv g0 ldB ?_
 obtain ⟨c1,H⟩:=of_if H
 refine kc g0 (apR 3 139 6 48 [.int .i64 0,.int .i64 0,.int .i64 0,.int .i64 0,.int .i64 0,.int .i64 0] ((([] : List S139) ++ l0_0).map e139) (.slF fl139) (apb c1 rfl) appE)<|kv g0 (faB 1 1)<|kv g0 ldB ?_
 obtain ⟨t2,A3,H⟩:=of_bind H
 refine kcS1 9 (.row 4) [(4,.row 3 1 (t2.map (eI .i64)))] g0 (cal (impl_copyInts.ok A3) [4] 9999 .n (hf:=Tryz.func151)) rfl rfl<|kb g0 (bsl 5 154 6 [.int .i64 0,.int .i64 0,.int .i64 0,.int .i64 0,.int .i64 0,.int .i64 0] (([] : List S154).map e154))<|kv g0 (faB 2 2)<|kv g0 ldB ?_
 obtain ⟨c4,H⟩:=of_if H
 refine kc g0 (apR 6 154 6 48 [.int .i64 0,.int .i64 0,.int .i64 0,.int .i64 0,.int .i64 0,.int .i64 0] ((([] : List S154) ++ l0_2).map e154) (.slF fl154) (apb c4 rfl) appE)<|kv g0 (faB 3 3)<|kv g0 ldB<|kv g0 (faB 4 4)<|kv g0 ldB ?_
 obtain ⟨t5,A6,H⟩:=of_bind H
 refine kcS1 18 (.row 7) [(7,.row 3 1 (t5.map (eI .i64)))] g0 (cal (impl_copyInts.ok A6) [7] 9999 .n (hf:=Tryz.func151)) rfl rfl<|kv g0 (bld [(0,1),(1,1),(2,1),(3,1),(4,1)] [.slice none 0 0,.slice none 0 0,.slice none 0 0,.int .i64 0,.slice none 0 0] [.row 3,.row 4,.row 6,.lit (.int .i64 a0_3),.row 7])<|ks g0 (stB 5 [.row 3,.row 4,.row 6,.lit (.int .i64 a0_3),.row 7])<|wk_end_draw hM (by kernel_rfl)<|ac_next<|aw_ret ?_
 obtain rfl:=Option.some.inj H
 exact acr hE [.cell 2 41] (rcA 5 .nil) (.one _) [(0,3),(1,4),(2,6),(3,7)] 9999
/-! impl_copyStack -/
def impl_copyStack.l0 : Nat→(List (List S234))→(List (List S234))→Int→Option ((List (List S234)))
 | 0,_,_,_=>none
 | k7 + 1,l0,q5,p6=>if p6 < (l0.length : Int) then if 0 ≤ p6 then if ([] : List S234).length + (rdOf ([] : List S234) l0 p6).length < 4398046511104 then (if q5.length + 1 < 5864062014805 then impl_copyStack.l0 k7 l0 (q5 ++ [([] : List S234) ++ (rdOf ([] : List S234) l0 p6)]) (wrap64 (p6 + 1)) else none) else none else none else some q5
def impl_copyStack.f (k : Nat) (l0 : List (List S234)) : Option ((List (List S234))):=impl_copyStack.l0 k l0 ([] : List (List S234)) 0
theorem impl_copyStack.ok {k : Nat} {l0 : List (List S234)} {r : (List (List S234))} (H : impl_copyStack.f k l0 = some r) : ACalls Tryz.prog 152 [] [.sl .o 1 (l0.map (eL 4 (e234)))] [(0,.drow false [.own 234 []] 147 1 (r.map (eL 4 (e234))))] (.row 0):=by
 refine acalls (fn:=Tryz.f152) (nt:=21) Tryz.func152 rfl rfl (Nat.le_of_ble_eq_true rfl) fun E hE=>?_
 rw [impl_copyStack.f] at H
 refine aw_grp1<|wk_start<|kv g0 asg<|wk_end<|ac_next<|aw_grp1<|wk_start<|kb g0 (bsl 0 147 1 [.slice none 0 0] (([] : List (List S234)).map (eL 4 e234)))<|kv g0 asg<|wk_end<|ac_next<|aw_grp1<|aw_grp1<|wk_start<|kv g0 mv<|kv g0 (lnS lenE)<|kv g0 mv<|wk_end<|ac_next<|aw_block<|ac_g1 (liftD 0 [.own 234 []]) ?_
 refine aw_loop2 (fun (k_ : Nat) (q5 : List (List S234)) (p6 : Int)=>k_ ≤ k∧impl_copyStack.l0 k_ l0 q5 p6 = some r) (fun (q5 : List (List S234)) (p6 : Int)=>⟨[(3,.row 0),(7,.sl .o 1 (l0.map (eL 4 (e234)))),(8,.lit (.int .i64 (l0.length : Int))),(9,.lit (.int .i64 p6))],[(0,.drow false [.own 234 []] 147 1 (q5.map (eL 4 (e234))))]⟩) k ([] : List (List S234)) 0 ⟨Nat.le_refl _,H⟩ (fun K_ h_=>acw hE [(0,0)] 9999 h_) (fun _ _=>by intro h_;have h_:=h_.2;rw [impl_copyStack.l0.eq_1] at h_;cases h_) ?_
 intro k7 q5 p6 hq_ K12 hK13
 have hk7:=hq_.1
 have H:=hq_.2
 clear hq_
 rw [impl_copyStack.l0.eq_2] at H
 refine aw_grp1<|wk_start<|kv g0 lss<|wk_end<|ac_next<|aw_grp1 ?_
 by_cases c8 : p6 < (l0.length : Int)
 ·rw [if_pos c8] at H
  refine aw_ifT ?_ (decide_eq_true c8)
  refine aw_skip<|ac_next<|aw_grp1<|aw_block<|aw_grp1<|wk_start ?_
  obtain ⟨c9,H⟩:=of_if H
  refine kv g0 (ixS 147 (eL 4 e234 (rdOf ([] : List S234) l0 p6)) c9 (getE (z:=([] : List S234)) c9 c8))<|kv g0 (ldR (.sl .o 4 ((rdOf ([] : List S234) l0 p6).map e234)))<|kv g0 asg<|wk_end<|ac_next<|wk_start<|kv g0 mv<|kb g0 (bsl 1 234 4 [.int .i64 0,.int .i64 0,.int .i64 0,.int .i64 0] (([] : List S234).map e234))<|kv g0 mv ?_
  obtain ⟨c10,H⟩:=of_if H
  refine kc g0 (apR 2 234 4 32 [.int .i64 0,.int .i64 0,.int .i64 0,.int .i64 0] ((([] : List S234) ++ (rdOf ([] : List S234) l0 p6)).map e234) (.slF fl234) (apb c10 rfl) appE)<|kb g0 (bslD 3 147 1 [.own 234 []] [.slice none 0 0] [.row 2]) ?_
  obtain ⟨c11,H⟩:=of_if H
  refine kcS3 18 (.row 4) [(0,.gone),(3,.gone),(4,.drow true [.own 234 []] 147 1 (q5.map (eL 4 e234) ++ [.row 2]))] g0 (apD 4 147 1 24 [.slice none 0 0] (q5.map (eL 4 e234) ++ [.row 2]) (apbD (m:=q5.length) (n:=1) (List.length_map ..) rfl c11 rfl) rfl).owp rfl rfl<|kv g0 asg<|wk_end<|ac_blkN<|ac_next<|wk_start<|kv g0 add6<|kv g0 mv<|wk_end<|ac_g2 (pk 4 2 0 (.sl .n 4 ((([] : List S234) ++ (rdOf ([] : List S234) l0 p6)).map e234)) (appX (f:=eL 4 e234) (X:=.row 2)) (appXX (f:=eL 4 e234)) rfl)<|ac_g1 (sealD 4 (appSeal (f:=eL 4 e234) (([] : List S234) ++ (rdOf ([] : List S234) l0 p6))) clL)<|ac_k ?_
  exact acw hE [(0,4)] 9999 (hK13 k7 (q5 ++ [([] : List S234) ++ (rdOf ([] : List S234) l0 p6)]) (wrap64 (p6 + 1)) (Nat.le_refl _) ⟨by omega,H⟩)
 rw [if_neg c8] at H
 refine aw_ifF ?_ (decide_eq_false c8)
 refine aw_exit<|ac_then<|ac_then<|ac_hit rfl<|ac_next<|aw_grp1<|wk_start<|kv g0 mv<|kv g0 asg<|wk_end<|ac_next<|aw_ret ?_
 obtain rfl:=Option.some.inj H
 exact acr hE [.tmp 2] (.tmp .nil) (.one _) [(0,0)] 9999
/-! impl_copyItems -/
def impl_copyItems.f (l0 : List S63) : Option ((List S63)):=if ([] : List S63).length + l0.length < 4398046511104 then some (([] : List S63) ++ l0) else none
theorem impl_copyItems.ok {l0 : List S63} {r : (List S63)} (H : impl_copyItems.f l0 = some r) : ACalls Tryz.prog 160 [] [.sl .o 4 (l0.map e63)] [(0,.row 63 4 (r.map e63))] (.row 0):=by
 refine acalls (fn:=Tryz.f160) (nt:=6) Tryz.func160 rfl rfl (Nat.le_of_ble_eq_true rfl) fun E hE=>?_
 rw [impl_copyItems.f] at H
 refine aw_grp1<|wk_start<|kv g0 asg<|wk_end<|ac_next<|aw_grp1<|wk_start<|kb g0 (bsl 0 63 4 [.int .i64 0,.int .i64 0,.int .i64 0,.int .i64 0] (([] : List S63).map e63))<|kv g0 mv ?_
 obtain ⟨c1,H⟩:=of_if H
 refine kc g0 (apR 1 63 4 32 [.int .i64 0,.int .i64 0,.int .i64 0,.int .i64 0] ((([] : List S63) ++ l0).map e63) (.slF fl63) (apb c1 rfl) appE)<|kv g0 asg<|wk_end<|ac_next<|aw_ret ?_
 obtain rfl:=Option.some.inj H
 exact acr hE [.tmp 2] (.tmp .nil) (.one _) [(0,1)] 9999
/-! impl_copyRing -/
def impl_copyRing.f (l0_0 : List S63) (a0_1 : Int) (a0_2 : Int) (a0_3 : Int) : Option ((List S63) × Int × Int × Int):=(impl_copyItems.f l0_0).bind fun t1=>some (t1,a0_1,a0_2,a0_3)
theorem impl_copyRing.ok {l0_0 : List S63} {a0_1 : Int} {a0_2 : Int} {a0_3 : Int} {r : (List S63) × Int × Int × Int} (H : impl_copyRing.f l0_0 a0_1 a0_2 a0_3 = some r) : ACalls Tryz.prog 153 [] [.agg [.sl .o 4 (l0_0.map e63),.lit (.int .i64 a0_1),.lit (.int .i64 a0_2),.lit (.int .i64 a0_3)]] [(0,.row 63 4 (r.1.map e63))] (.agg [.row 0,.lit (.int .i64 r.2.1),.lit (.int .i64 r.2.2.1),.lit (.int .i64 r.2.2.2)]):=by
 refine acalls (fn:=Tryz.f153) (nt:=8) Tryz.func153 rfl rfl (Nat.le_of_ble_eq_true rfl) fun E hE=>?_
 rw [impl_copyRing.f] at H
 refine aw_grp1<|wk_start<|kb g0 (bxA 0)<|kb g0 (alc 1 [.slice none 0 0,.int .i64 0,.int .i64 0,.int .i64 0] [.lit (.slice none 0 0),.lit (.int .i64 0),.lit (.int .i64 0),.lit (.int .i64 0)])<|wk_end<|ac_next<|aw_grp1<|wk_start<|kv g0 (faB 0 0)<|kv g0 ldB ?_
 obtain ⟨t1,A2,H⟩:=of_bind H
 refine kcS1 5 (.row 2) [(2,.row 63 4 (t1.map e63))] g0 (cal (impl_copyItems.ok A2) [2] 9999 .n (hf:=Tryz.func160)) rfl rfl<|kv g0 (faB 0 0)<|ks g0 (stB 1 [.row 2,.lit (.int .i64 a0_1),.lit (.int .i64 a0_2),.lit (.int .i64 a0_3)])<|wk_end<|ac_next<|aw_grp1<|wk_start<|kv g0 (ldBA 4 [.row 2,.lit (.int .i64 a0_1),.lit (.int .i64 a0_2),.lit (.int .i64 a0_3)])<|ks g0 (stB 4 [.row 2,.lit (.int .i64 a0_1),.lit (.int .i64 a0_2),.lit (.int .i64 a0_3)])<|wk_end<|ac_next<|aw_ret ?_
 obtain rfl:=Option.some.inj H
 exact acr hE [.cell 2 67] (rcA 4 .nil) (.one _) [(0,2)] 9999
/-! impl_copySender -/
def impl_copySender.f (a0_0 : Int) (a0_1 : Int) (l0_2 : List S63) (a0_3 : Int) (a0_4 : Int) : Option (Int × Int × (List S63) × Int × Int):=(impl_copyItems.f l0_2).bind fun t1=>some (a0_0,a0_1,t1,a0_3,a0_4)
theorem impl_copySender.ok {a0_0 : Int} {a0_1 : Int} {l0_2 : List S63} {a0_3 : Int} {a0_4 : Int} {r : Int × Int × (List S63) × Int × Int} (H : impl_copySender.f a0_0 a0_1 l0_2 a0_3 a0_4 = some r) : ACalls Tryz.prog 154 [] [.agg [.lit (.int .i64 a0_0),.lit (.int .i64 a0_1),.sl .o 4 (l0_2.map e63),.lit (.int .i64 a0_3),.lit (.int .i64 a0_4)]] [(0,.row 63 4 (r.2.2.1.map e63))] (.agg [.lit (.int .i64 r.1),.lit (.int .i64 r.2.1),.row 0,.lit (.int .i64 r.2.2.2.1),.lit (.int .i64 r.2.2.2.2)]):=by
 refine acalls (fn:=Tryz.f154) (nt:=8) Tryz.func154 rfl rfl (Nat.le_of_ble_eq_true rfl) fun E hE=>?_
 rw [impl_copySender.f] at H
 refine aw_grp1<|wk_start<|kb g0 (bxA 0)<|kb g0 (alc 1 [.int .i64 0,.int .i64 0,.slice none 0 0,.int .i64 0,.int .i64 0] [.lit (.int .i64 0),.lit (.int .i64 0),.lit (.slice none 0 0),.lit (.int .i64 0),.lit (.int .i64 0)])<|wk_end<|ac_next<|aw_grp1<|wk_start<|kv g0 (faB 2 2)<|kv g0 ldB ?_
 obtain ⟨t1,A2,H⟩:=of_bind H
 refine kcS1 5 (.row 2) [(2,.row 63 4 (t1.map e63))] g0 (cal (impl_copyItems.ok A2) [2] 9999 .n (hf:=Tryz.func160)) rfl rfl<|kv g0 (faB 2 2)<|ks g0 (stB 1 [.lit (.int .i64 a0_0),.lit (.int .i64 a0_1),.row 2,.lit (.int .i64 a0_3),.lit (.int .i64 a0_4)])<|wk_end<|ac_next<|aw_grp1<|wk_start<|kv g0 (ldBA 5 [.lit (.int .i64 a0_0),.lit (.int .i64 a0_1),.row 2,.lit (.int .i64 a0_3),.lit (.int .i64 a0_4)])<|ks g0 (stB 5 [.lit (.int .i64 a0_0),.lit (.int .i64 a0_1),.row 2,.lit (.int .i64 a0_3),.lit (.int .i64 a0_4)])<|wk_end<|ac_next<|aw_ret ?_
 obtain rfl:=Option.some.inj H
 exact acr hE [.cell 2 65] (rcA 5 .nil) (.one _) [(0,2)] 9999
/-! impl_copyWorld -/
mutual
def impl_copyWorld.l0 : Nat→(List (List (List S234)))→(List S67)→(List S65)→(List S139)→(List Int)→(List S154)→Int→(List Int)→(List S151)→Int→(List Int)→(List S59)→((List S139) × (List Int) × (List S154) × Int × (List Int))→((List Int))→(List (List (List S234)))→Int→Option ((List (List (List S234))) × (List S67) × (List S65) × (List S139) × (List Int) × (List S154) × Int × (List Int) × (List S151) × Int × (List Int) × (List S59))
 | 0,_,_,_,_,_,_,_,_,_,_,_,_,_,_,_,_=>none
 | k14 + 1,l0_0,l0_1,l0_2,l0_3,l0_4,l0_5,a0_6,l0_7,l0_8,a0_9,l0_10,l0_11,t1,t4,q12,p13=>if p13 < (l0_0.length : Int) then if 0 ≤ p13 then (impl_copyStack.f k14 (rdOf ([] : List (List S234)) l0_0 p13)).bind fun t17=>(if q12.length + 1 < 5864062014805 then impl_copyWorld.l0 k14 l0_0 l0_1 l0_2 l0_3 l0_4 l0_5 a0_6 l0_7 l0_8 a0_9 l0_10 l0_11 t1 t4 (q12 ++ [t17]) (wrap64 (p13 + 1)) else none) else none else impl_copyWorld.l1 k14 l0_0 l0_1 l0_2 l0_3 l0_4 l0_5 a0_6 l0_7 l0_8 a0_9 l0_10 l0_11 t1 t4 q12 ([]) 0
def impl_copyWorld.l1 : Nat→(List (List (List S234)))→(List S67)→(List S65)→(List S139)→(List Int)→(List S154)→Int→(List Int)→(List S151)→Int→(List Int)→(List S59)→((List S139) × (List Int) × (List S154) × Int × (List Int))→((List Int))→(List (List (List S234)))→(List S67)→Int→Option ((List (List (List S234))) × (List S67) × (List S65) × (List S139) × (List Int) × (List S154) × Int × (List Int) × (List S151) × Int × (List Int) × (List S59))
 | 0,_,_,_,_,_,_,_,_,_,_,_,_,_,_,_,_,_=>none
 | k29 + 1,l0_0,l0_1,l0_2,l0_3,l0_4,l0_5,a0_6,l0_7,l0_8,a0_9,l0_10,l0_11,t1,t4,q12,q27,p28=>if p28 < (l0_1.length : Int) then if 0 ≤ p28 then (impl_copyRing.f ((rd_T67 l0_1 p28).f0) ((rd_T67 l0_1 p28).f1) ((rd_T67 l0_1 p28).f2) ((rd_T67 l0_1 p28).f3)).bind fun t32=>(if q27.length + 1 < 2932031007402 then impl_copyWorld.l1 k29 l0_0 l0_1 l0_2 l0_3 l0_4 l0_5 a0_6 l0_7 l0_8 a0_9 l0_10 l0_11 t1 t4 q12 (q27 ++ [(⟨t32.1,t32.2.1,t32.2.2.1,t32.2.2.2⟩ : S67)]) (wrap64 (p28 + 1)) else none) else none else impl_copyWorld.l2 k29 l0_2 l0_8 a0_9 l0_11 t1 t4 q12 q27 ([]) 0
def impl_copyWorld.l2 : Nat→(List S65)→(List S151)→Int→(List S59)→((List S139) × (List Int) × (List S154) × Int × (List Int))→((List Int))→(List (List (List S234)))→(List S67)→(List S65)→Int→Option ((List (List (List S234))) × (List S67) × (List S65) × (List S139) × (List Int) × (List S154) × Int × (List Int) × (List S151) × Int × (List Int) × (List S59))
 | 0,_,_,_,_,_,_,_,_,_,_=>none
 | k44 + 1,l0_2,l0_8,a0_9,l0_11,t1,t4,q12,q27,q42,p43=>if p43 < (l0_2.length : Int) then if 0 ≤ p43 then (impl_copySender.f ((rd_T65 l0_2 p43).f0) ((rd_T65 l0_2 p43).f1) ((rd_T65 l0_2 p43).f2) ((rd_T65 l0_2 p43).f3) ((rd_T65 l0_2 p43).f4)).bind fun t47=>(if q42.length + 1 < 2513169434916 then impl_copyWorld.l2 k44 l0_2 l0_8 a0_9 l0_11 t1 t4 q12 q27 (q42 ++ [(⟨t47.1,t47.2.1,t47.2.2.1,t47.2.2.2.1,t47.2.2.2.2⟩ : S65)]) (wrap64 (p43 + 1)) else none) else none else some (q12,q27,q42,t1.1,t1.2.1,t1.2.2.1,t1.2.2.2.1,t1.2.2.2.2,([] : List S151) ++ l0_8,a0_9,t4,([] : List S59) ++ l0_11)
end
def impl_copyWorld.f (k : Nat) (l0_0 : List (List (List S234))) (l0_1 : List S67) (l0_2 : List S65) (l0_3 : List S139) (l0_4 : List Int) (l0_5 : List S154) (a0_6 : Int) (l0_7 : List Int) (l0_8 : List S151) (a0_9 : Int) (l0_10 : List Int) (l0_11 : List S59) : Option ((List (List (List S234))) × (List S67) × (List S65) × (List S139) × (List Int) × (List S154) × Int × (List Int) × (List S151) × Int × (List Int) × (List S59)):=(impl_copyKeeper.f l0_3 l0_4 l0_5 a0_6 l0_7).bind fun t1=>(if ([] : List S151).length + l0_8.length < 4398046511104 then ((impl_copyInts.f l0_10).bind fun t4=>(if ([] : List S59).length + l0_11.length < 4398046511104 then impl_copyWorld.l0 k l0_0 l0_1 l0_2 l0_3 l0_4 l0_5 a0_6 l0_7 l0_8 a0_9 l0_10 l0_11 t1 t4 ([]) 0 else none)) else none)
theorem impl_copyWorld.ok {k : Nat} {l0_0 : List (List (List S234))} {l0_1 : List S67} {l0_2 : List S65} {l0_3 : List S139} {l0_4 : List Int} {l0_5 : List S154} {a0_6 : Int} {l0_7 : List Int} {l0_8 : List S151} {a0_9 : Int} {l0_10 : List Int} {l0_11 : List S59} {r : (List (List (List S234))) × (List S67) × (List S65) × (List S139) × (List Int) × (List S154) × Int × (List Int) × (List S151) × Int × (List Int) × (List S59)} (H : impl_copyWorld.f k l0_0 l0_1 l0_2 l0_3 l0_4 l0_5 a0_6 l0_7 l0_8 a0_9 l0_10 l0_11 = some r) : ACalls Tryz.prog 63 [] [.agg [.sl .o 1 (l0_0.map (eL 1 (eL 4 (e234)))),.sl .o 4 (l0_1.map e67),.sl .o 5 (l0_2.map e65),.sl .o 6 (l0_3.map e139),.sl .o 1 (l0_4.map (eI .i64)),.sl .o 6 (l0_5.map e154),.lit (.int .i64 a0_6),.sl .o 1 (l0_7.map (eI .i64)),.sl .o 3 (l0_8.map e151),.lit (.int .i64 a0_9),.sl .o 1 (l0_10.map (eI .i64)),.sl .o 4 (l0_11.map e59)]] [(0,.drow false [.own 147 [.own 234 []]] 145 1 (r.1.map (eL 1 (eL 4 (e234))))),(1,.drow false ds67 67 4 (r.2.1.map e67)),(2,.drow false ds65 65 5 (r.2.2.1.map e65)),(3,.row 139 6 (r.2.2.2.1.map e139)),(4,.row 3 1 (r.2.2.2.2.1.map (eI .i64))),(5,.row 154 6 (r.2.2.2.2.2.1.map e154)),(6,.row 3 1 (r.2.2.2.2.2.2.2.1.map (eI .i64))),(7,.row 151 3 (r.2.2.2.2.2.2.2.2.1.map e151)),(8,.row 3 1 (r.2.2.2.2.2.2.2.2.2.2.1.map (eI .i64))),(9,.row 59 4 (r.2.2.2.2.2.2.2.2.2.2.2.map e59))] (.agg [.row 0,.row 1,.row 2,.row 3,.row 4,.row 5,.lit (.int .i64 r.2.2.2.2.2.2.1),.row 6,.row 7,.lit (.int .i64 r.2.2.2.2.2.2.2.2.2.1),.row 8,.row 9]):=by
 refine acalls (fn:=Tryz.f63) (nt:=73) Tryz.func63 rfl rfl (Nat.le_of_ble_eq_true rfl) fun E hE=>?_
 rw [impl_copyWorld.f] at H
 refine aw_grp1<|wk_start<|kb g0 (bxA 0)<|kb g0 (alc 1 [.slice none 0 0,.slice none 0 0,.slice none 0 0,.slice none 0 0,.slice none 0 0,.slice none 0 0,.int .i64 0,.slice none 0 0,.slice none 0 0,.int .i64 0,.slice none 0 0,.slice none 0 0] [.lit (.slice none 0 0),.lit (.slice none 0 0),.lit (.slice none 0 0),.lit (.slice none 0 0),.lit (.slice none 0 0),.lit (.slice none 0 0),.lit (.int .i64 0),.lit (.slice none 0 0),.lit (.slice none 0 0),.lit (.int .i64 0),.lit (.slice none 0 0),.lit (.slice none 0 0)])<|wk_end<|ac_next<|aw_grp1<|wk_start<|kv g0 (faB 3 3)<|kv g0 (ldBA 5 [.sl .o 6 (l0_3.map e139),.sl .o 1 (l0_4.map (eI .i64)),.sl .o 6 (l0_5.map e154),.lit (.int .i64 a0_6),.sl .o 1 (l0_7.map (eI .i64))]) ?_
 obtain ⟨t1,A2,H⟩:=of_bind H
 refine kcS4 12 (.agg [.row 2,.row 3,.row 4,.lit (.int .i64 t1.2.2.2.1),.row 5]) [(2,.row 139 6 (t1.1.map e139)),(3,.row 3 1 (t1.2.1.map (eI .i64))),(4,.row 154 6 (t1.2.2.1.map e154)),(5,.row 3 1 (t1.2.2.2.2.map (eI .i64)))] g0 (cal (impl_copyKeeper.ok A2) [2,3,4,5] 9999 .n (hf:=Tryz.func150)) rfl rfl<|kb g0 (bsl 6 151 3 [.bool false,.string .empty,.bool false] (([] : List S151).map e151))<|kv g0 (faB 8 8)<|kv g0 ldB ?_
 obtain ⟨c3,H⟩:=of_if H
 refine kc g0 (apR 7 151 3 32 [.bool false,.string .empty,.bool false] ((([] : List S151) ++ l0_8).map e151) (.slF fl151) (apb c3 rfl) appE)<|kv g0 (faB 9 9)<|kv g0 ldB<|kv g0 (faB 10 10)<|kv g0 ldB ?_
 obtain ⟨t4,A5,H⟩:=of_bind H
 refine kcS1 21 (.row 8) [(8,.row 3 1 (t4.map (eI .i64)))] g0 (cal (impl_copyInts.ok A5) [8] 9999 .n (hf:=Tryz.func151)) rfl rfl<|kb g0 (bsl 9 59 4 [.int .i64 0,.int .i64 0,.int .i64 0,.bool false] (([] : List S59).map e59))<|kv g0 (faB 11 11)<|kv g0 ldB ?_
 obtain ⟨c6,H⟩:=of_if H
 refine kc g0 (apR 10 59 4 32 [.int .i64 0,.int .i64 0,.int .i64 0,.bool false] ((([] : List S59) ++ l0_11).map e59) (.slF fl59) (apb c6 rfl) appE)<|kv g0 (bld [(0,1),(1,1),(2,1),(3,5),(8,1),(9,1),(10,1),(11,1)] [.slice none 0 0,.slice none 0 0,.slice none 0 0,.slice none 0 0,.slice none 0 0,.slice none 0 0,.int .i64 0,.slice none 0 0,.slice none 0 0,.int .i64 0,.slice none 0 0,.slice none 0 0] [.lit (.slice none 0 0),.lit (.slice none 0 0),.lit (.slice none 0 0),.row 2,.row 3,.row 4,.lit (.int .i64 t1.2.2.2.1),.row 5,.row 7,.lit (.int .i64 a0_9),.row 8,.row 10])<|kb g0 (alc 11 [.slice none 0 0,.slice none 0 0,.slice none 0 0,.slice none 0 0,.slice none 0 0,.slice none 0 0,.int .i64 0,.slice none 0 0,.slice none 0 0,.int .i64 0,.slice none 0 0,.slice none 0 0] [.lit (.slice none 0 0),.lit (.slice none 0 0),.lit (.slice none 0 0),.lit (.slice none 0 0),.lit (.slice none 0 0),.lit (.slice none 0 0),.lit (.int .i64 0),.lit (.slice none 0 0),.lit (.slice none 0 0),.lit (.int .i64 0),.lit (.slice none 0 0),.lit (.slice none 0 0)])<|ks g0 (stB 12 [.lit (.slice none 0 0),.lit (.slice none 0 0),.lit (.slice none 0 0),.row 2,.row 3,.row 4,.lit (.int .i64 t1.2.2.2.1),.row 5,.row 7,.lit (.int .i64 a0_9),.row 8,.row 10])<|wk_end_draw hM (by kernel_rfl)<|ac_next<|aw_grp1<|aw_grp1<|wk_start<|kv g0 (faB 0 0)<|kv g0 ldB<|kv g0 (lnS lenE)<|kv g0 mv<|wk_end<|ac_next<|aw_block<|ac_nilB 11 0 15 145 1 [.row 15,.lit (.slice none 0 0),.lit (.slice none 0 0),.row 2,.row 3,.row 4,.lit (.int .i64 t1.2.2.2.1),.row 5,.row 7,.lit (.int .i64 a0_9),.row 8,.row 10]<|ac_g1 (liftD 15 [.own 147 [.own 234 []]]) ?_
 refine aw_loop2 (fun (k_ : Nat) (q12 : List (List (List S234))) (p13 : Int)=>k_ ≤ k∧impl_copyWorld.l0 k_ l0_0 l0_1 l0_2 l0_3 l0_4 l0_5 a0_6 l0_7 l0_8 a0_9 l0_10 l0_11 t1 t4 q12 p13 = some r) (fun (q12 : List (List (List S234))) (p13 : Int)=>⟨[(1,.box 0 0),(2,.box 1 0),(3,.box 11 0),(28,.sl .o 1 (l0_0.map (eL 1 (eL 4 (e234))))),(29,.lit (.int .i64 (l0_0.length : Int))),(30,.lit (.int .i64 p13))],[(0,.box 45 [.sl .o 1 (l0_0.map (eL 1 (eL 4 (e234)))),.sl .o 4 (l0_1.map e67),.sl .o 5 (l0_2.map e65),.sl .o 6 (l0_3.map e139),.sl .o 1 (l0_4.map (eI .i64)),.sl .o 6 (l0_5.map e154),.lit (.int .i64 a0_6),.sl .o 1 (l0_7.map (eI .i64)),.sl .o 3 (l0_8.map e151),.lit (.int .i64 a0_9),.sl .o 1 (l0_10.map (eI .i64)),.sl .o 4 (l0_11.map e59)]),(1,.box 45 [.lit (.slice none 0 0),.lit (.slice none 0 0),.lit (.slice none 0 0),.lit (.slice none 0 0),.lit (.slice none 0 0),.lit (.slice none 0 0),.lit (.int .i64 0),.lit (.slice none 0 0),.lit (.slice none 0 0),.lit (.int .i64 0),.lit (.slice none 0 0),.lit (.slice none 0 0)]),(2,.row 139 6 (t1.1.map e139)),(3,.row 3 1 (t1.2.1.map (eI .i64))),(4,.row 154 6 (t1.2.2.1.map e154)),(5,.row 3 1 (t1.2.2.2.2.map (eI .i64))),(7,.row 151 3 ((([] : List S151) ++ l0_8).map e151)),(8,.row 3 1 (t4.map (eI .i64))),(10,.row 59 4 ((([] : List S59) ++ l0_11).map e59)),(11,.box 45 [.row 15,.lit (.slice none 0 0),.lit (.slice none 0 0),.row 2,.row 3,.row 4,.lit (.int .i64 t1.2.2.2.1),.row 5,.row 7,.lit (.int .i64 a0_9),.row 8,.row 10]),(15,.drow false [.own 147 [.own 234 []]] 145 1 (q12.map (eL 1 (eL 4 (e234)))))]⟩) k ([]) 0 ⟨Nat.le_refl _,H⟩ (fun K_ h_=>acw hE [(0,0),(1,1),(2,2),(3,3),(4,4),(5,5),(7,7),(8,8),(10,10),(11,11),(15,15)] 9999 h_) (fun _ _=>by intro h_;have h_:=h_.2;rw [impl_copyWorld.l0.eq_1] at h_;cases h_) ?_
 intro k14 q12 p13 hq_ K20 hK21
 have hk14:=hq_.1
 have H:=hq_.2
 clear hq_
 rw [impl_copyWorld.l0.eq_2] at H
 refine aw_grp1<|wk_start<|kv g0 lss<|wk_end<|ac_next<|aw_grp1 ?_
 by_cases c15 : p13 < (l0_0.length : Int)
 ·rw [if_pos c15] at H
  refine aw_ifT ?_ (decide_eq_true c15)
  refine aw_skip<|ac_next<|aw_grp1<|aw_block<|aw_grp1<|wk_start ?_
  obtain ⟨c16,H⟩:=of_if H
  refine kv g0 (ixS 145 (eL 1 (eL 4 e234) (rdOf ([] : List (List S234)) l0_0 p13)) c16 (getE (z:=([] : List (List S234))) c16 c15))<|kv g0 (ldR (.sl .o 1 ((rdOf ([] : List (List S234)) l0_0 p13).map (eL 4 e234))))<|kv g0 asg<|wk_end<|ac_next<|wk_start<|kv g0 (faB 0 0)<|kv g0 ldB<|kv g0 mv ?_
  obtain ⟨t17,A18,H⟩:=of_bind H
  refine kcS1 37 (.row 16) [(16,.drow false [.own 234 []] 147 1 (t17.map (eL 4 e234)))] g0 (cal (impl_copyStack.ok A18) [16] 9999 .n (hf:=Tryz.func152)) rfl rfl<|kb g0 (bslD 17 145 1 [.own 147 [.own 234 []]] [.slice none 0 0] [.row 16]) ?_
  obtain ⟨c19,H⟩:=of_if H
  refine kcS3 39 (.row 18) [(15,.gone),(17,.gone),(18,.drow true [.own 147 [.own 234 []]] 145 1 (q12.map (eL 1 (eL 4 e234)) ++ [.row 16]))] g0 (apD 18 145 1 24 [.slice none 0 0] (q12.map (eL 1 (eL 4 e234)) ++ [.row 16]) (apbD (m:=q12.length) (n:=1) (List.length_map ..) rfl c19 rfl) rfl).owp rfl rfl<|kv g0 (faB 0 0)<|ks g0 (stB 1 [.row 18,.lit (.slice none 0 0),.lit (.slice none 0 0),.row 2,.row 3,.row 4,.lit (.int .i64 t1.2.2.2.1),.row 5,.row 7,.lit (.int .i64 a0_9),.row 8,.row 10])<|wk_end_draw hM (by kernel_rfl)<|ac_blkN<|ac_next<|wk_start<|kv g0 add6<|kv g0 mv<|wk_end<|ac_g2 (pk 18 16 0 (.sl .n 1 (t17.map (eL 4 e234))) (appX (f:=eL 1 (eL 4 e234)) (X:=.row 16)) (appXX (f:=eL 1 (eL 4 e234))) rfl)<|ac_g1 (sealD 18 (appSeal (f:=eL 1 (eL 4 e234)) t17) clL)<|ac_k ?_
  exact acw hE [(0,0),(1,1),(2,2),(3,3),(4,4),(5,5),(7,7),(8,8),(10,10),(11,11),(15,18)] 9999 (hK21 k14 (q12 ++ [t17]) (wrap64 (p13 + 1)) (Nat.le_refl _) ⟨by omega,H⟩)
 rw [if_neg c15] at H
 refine aw_ifF ?_ (decide_eq_false c15)
 refine aw_exit<|ac_then<|ac_then<|ac_hit rfl<|ac_next<|aw_grp1<|aw_grp1<|wk_start<|kv g0 (faB 1 1)<|kv g0 ldB<|kv g0 (lnS lenE)<|kv g0 mv<|wk_end<|ac_next<|aw_block<|ac_nilB 11 1 23 67 4 [.row 15,.row 23,.lit (.slice none 0 0),.row 2,.row 3,.row 4,.lit (.int .i64 t1.2.2.2.1),.row 5,.row 7,.lit (.int .i64 a0_9),.row 8,.row 10]<|ac_g1 (liftD 23 ds67) ?_
 refine aw_loop2 (fun (k_ : Nat) (q27 : List S67) (p28 : Int)=>k_ ≤ k14∧impl_copyWorld.l1 k_ l0_0 l0_1 l0_2 l0_3 l0_4 l0_5 a0_6 l0_7 l0_8 a0_9 l0_10 l0_11 t1 t4 q12 q27 p28 = some r) (fun (q27 : List S67) (p28 : Int)=>⟨[(1,.box 0 0),(2,.box 1 0),(3,.box 11 0),(43,.sl .o 4 (l0_1.map e67)),(44,.lit (.int .i64 (l0_1.length : Int))),(45,.lit (.int .i64 p28))],[(0,.box 45 [.sl .o 1 (l0_0.map (eL 1 (eL 4 (e234)))),.sl .o 4 (l0_1.map e67),.sl .o 5 (l0_2.map e65),.sl .o 6 (l0_3.map e139),.sl .o 1 (l0_4.map (eI .i64)),.sl .o 6 (l0_5.map e154),.lit (.int .i64 a0_6),.sl .o 1 (l0_7.map (eI .i64)),.sl .o 3 (l0_8.map e151),.lit (.int .i64 a0_9),.sl .o 1 (l0_10.map (eI .i64)),.sl .o 4 (l0_11.map e59)]),(1,.box 45 [.lit (.slice none 0 0),.lit (.slice none 0 0),.lit (.slice none 0 0),.lit (.slice none 0 0),.lit (.slice none 0 0),.lit (.slice none 0 0),.lit (.int .i64 0),.lit (.slice none 0 0),.lit (.slice none 0 0),.lit (.int .i64 0),.lit (.slice none 0 0),.lit (.slice none 0 0)]),(2,.row 139 6 (t1.1.map e139)),(3,.row 3 1 (t1.2.1.map (eI .i64))),(4,.row 154 6 (t1.2.2.1.map e154)),(5,.row 3 1 (t1.2.2.2.2.map (eI .i64))),(7,.row 151 3 ((([] : List S151) ++ l0_8).map e151)),(8,.row 3 1 (t4.map (eI .i64))),(10,.row 59 4 ((([] : List S59) ++ l0_11).map e59)),(11,.box 45 [.row 15,.row 23,.lit (.slice none 0 0),.row 2,.row 3,.row 4,.lit (.int .i64 t1.2.2.2.1),.row 5,.row 7,.lit (.int .i64 a0_9),.row 8,.row 10]),(15,.drow false [.own 147 [.own 234 []]] 145 1 (q12.map (eL 1 (eL 4 (e234))))),(23,.drow false ds67 67 4 (q27.map e67))]⟩) k14 ([]) 0 ⟨Nat.le_refl _,H⟩ (fun K_ h_=>acw hE [(0,0),(1,1),(2,2),(3,3),(4,4),(5,5),(7,7),(8,8),(10,10),(11,11),(15,15),(23,23)] 9999 h_) (fun _ _=>by intro h_;have h_:=h_.2;rw [impl_copyWorld.l1.eq_1] at h_;cases h_) ?_
 intro k29 q27 p28 hq_ K35 hK36
 have hk29:=hq_.1
 have H:=hq_.2
 clear hq_
 rw [impl_copyWorld.l1.eq_2] at H
 refine aw_grp1<|wk_start<|kv g0 lss<|wk_end<|ac_next<|aw_grp1 ?_
 by_cases c30 : p28 < (l0_1.length : Int)
 ·rw [if_pos c30] at H
  refine aw_ifT ?_ (decide_eq_true c30)
  refine aw_skip<|ac_next<|aw_grp1<|aw_block<|aw_grp1<|wk_start ?_
  obtain ⟨c31,H⟩:=of_if H
  refine kv g0 (ixS 67 (e67 (rd_T67 l0_1 p28)) c31 (getE (z:=z67) c31 c30))<|kv g0 (ldRA 4 [.sl .o 4 (((rd_T67 l0_1 p28).f0).map e63),.lit (.int .i64 ((rd_T67 l0_1 p28).f1)),.lit (.int .i64 ((rd_T67 l0_1 p28).f2)),.lit (.int .i64 ((rd_T67 l0_1 p28).f3))])<|kb g0 (alc 24 [.slice none 0 0,.int .i64 0,.int .i64 0,.int .i64 0] [.lit (.slice none 0 0),.lit (.int .i64 0),.lit (.int .i64 0),.lit (.int .i64 0)])<|ks g0 (stB 4 [.sl .o 4 (((rd_T67 l0_1 p28).f0).map e63),.lit (.int .i64 ((rd_T67 l0_1 p28).f1)),.lit (.int .i64 ((rd_T67 l0_1 p28).f2)),.lit (.int .i64 ((rd_T67 l0_1 p28).f3))])<|wk_end<|ac_next<|wk_start<|kv g0 (faB 1 1)<|kv g0 ldB<|kv g0 (ldBA 4 [.sl .o 4 (((rd_T67 l0_1 p28).f0).map e63),.lit (.int .i64 ((rd_T67 l0_1 p28).f1)),.lit (.int .i64 ((rd_T67 l0_1 p28).f2)),.lit (.int .i64 ((rd_T67 l0_1 p28).f3))]) ?_
  obtain ⟨t32,A33,H⟩:=of_bind H
  refine kcS1 52 (.agg [.row 25,.lit (.int .i64 t32.2.1),.lit (.int .i64 t32.2.2.1),.lit (.int .i64 t32.2.2.2)]) [(25,.row 63 4 (t32.1.map e63))] g0 (cal (impl_copyRing.ok A33) [25] 9999 .n (hf:=Tryz.func153)) rfl rfl<|kb g0 (bslD 26 67 4 ds67 [.slice none 0 0,.int .i64 0,.int .i64 0,.int .i64 0] [.agg [.row 25,.lit (.int .i64 t32.2.1),.lit (.int .i64 t32.2.2.1),.lit (.int .i64 t32.2.2.2)]]) ?_
  obtain ⟨c34,H⟩:=of_if H
  refine kcS3 54 (.row 27) [(23,.gone),(26,.gone),(27,.drow true ds67 67 4 (q27.map e67 ++ [.agg [.row 25,.lit (.int .i64 t32.2.1),.lit (.int .i64 t32.2.2.1),.lit (.int .i64 t32.2.2.2)]]))] g0 (apD 27 67 4 48 [.slice none 0 0,.int .i64 0,.int .i64 0,.int .i64 0] (q27.map e67 ++ [.agg [.row 25,.lit (.int .i64 t32.2.1),.lit (.int .i64 t32.2.2.1),.lit (.int .i64 t32.2.2.2)]]) (apbD (m:=q27.length) (n:=1) (List.length_map ..) rfl c34 rfl) rfl).owp rfl rfl<|kv g0 (faB 1 1)<|ks g0 (stB 1 [.row 15,.row 27,.lit (.slice none 0 0),.row 2,.row 3,.row 4,.lit (.int .i64 t1.2.2.2.1),.row 5,.row 7,.lit (.int .i64 a0_9),.row 8,.row 10])<|wk_end_draw hM (by kernel_rfl)<|ac_blkN<|ac_next<|wk_start<|kv g0 add6<|kv g0 mv<|wk_end<|ac_g2 (pk 27 25 0 (.agg [.sl .n 4 (t32.1.map e63),.lit (.int .i64 t32.2.1),.lit (.int .i64 t32.2.2.1),.lit (.int .i64 t32.2.2.2)]) (appX (f:=e67) (X:=.agg [.row 25,.lit (.int .i64 t32.2.1),.lit (.int .i64 t32.2.2.1),.lit (.int .i64 t32.2.2.2)])) (appXX (f:=e67)) rfl)<|ac_g1 (sealD 27 (appSeal (f:=e67) (⟨t32.1,t32.2.1,t32.2.2.1,t32.2.2.2⟩ : S67)) cl67)<|ac_k ?_
  exact acw hE [(0,0),(1,1),(2,2),(3,3),(4,4),(5,5),(7,7),(8,8),(10,10),(11,11),(15,15),(23,27)] 9999 (hK36 k29 (q27 ++ [(⟨t32.1,t32.2.1,t32.2.2.1,t32.2.2.2⟩ : S67)]) (wrap64 (p28 + 1)) (Nat.le_refl _) ⟨by omega,H⟩)
 rw [if_neg c30] at H
 refine aw_ifF ?_ (decide_eq_false c30)
 refine aw_exit<|ac_then<|ac_then<|ac_hit rfl<|ac_next<|aw_grp1<|aw_grp1<|wk_start<|kv g0 (faB 2 2)<|kv g0 ldB<|kv g0 (lnS lenE)<|kv g0 mv<|wk_end<|ac_next<|aw_block<|ac_nilB 11 2 32 65 5 [.row 15,.row 23,.row 32,.row 2,.row 3,.row 4,.lit (.int .i64 t1.2.2.2.1),.row 5,.row 7,.lit (.int .i64 a0_9),.row 8,.row 10]<|ac_g1 (liftD 32 ds65) ?_
 refine aw_loop2 (fun (k_ : Nat) (q42 : List S65) (p43 : Int)=>k_ ≤ k29∧impl_copyWorld.l2 k_ l0_2 l0_8 a0_9 l0_11 t1 t4 q12 q27 q42 p43 = some r) (fun (q42 : List S65) (p43 : Int)=>⟨[(2,.box 1 0),(3,.box 11 0),(58,.sl .o 5 (l0_2.map e65)),(59,.lit (.int .i64 (l0_2.length : Int))),(60,.lit (.int .i64 p43))],[(1,.box 45 [.lit (.slice none 0 0),.lit (.slice none 0 0),.lit (.slice none 0 0),.lit (.slice none 0 0),.lit (.slice none 0 0),.lit (.slice none 0 0),.lit (.int .i64 0),.lit (.slice none 0 0),.lit (.slice none 0 0),.lit (.int .i64 0),.lit (.slice none 0 0),.lit (.slice none 0 0)]),(2,.row 139 6 (t1.1.map e139)),(3,.row 3 1 (t1.2.1.map (eI .i64))),(4,.row 154 6 (t1.2.2.1.map e154)),(5,.row 3 1 (t1.2.2.2.2.map (eI .i64))),(7,.row 151 3 ((([] : List S151) ++ l0_8).map e151)),(8,.row 3 1 (t4.map (eI .i64))),(10,.row 59 4 ((([] : List S59) ++ l0_11).map e59)),(11,.box 45 [.row 15,.row 23,.row 32,.row 2,.row 3,.row 4,.lit (.int .i64 t1.2.2.2.1),.row 5,.row 7,.lit (.int .i64 a0_9),.row 8,.row 10]),(15,.drow false [.own 147 [.own 234 []]] 145 1 (q12.map (eL 1 (eL 4 (e234))))),(23,.drow false ds67 67 4 (q27.map e67)),(32,.drow false ds65 65 5 (q42.map e65))]⟩) k29 ([]) 0 ⟨Nat.le_refl _,H⟩ (fun K_ h_=>acw hE [(1,1),(2,2),(3,3),(4,4),(5,5),(7,7),(8,8),(10,10),(11,11),(15,15),(23,23),(32,32)] 9999 h_) (fun _ _=>by intro h_;have h_:=h_.2;rw [impl_copyWorld.l2.eq_1] at h_;cases h_) ?_
 intro k44 q42 p43 hq_ K50 hK51
 have hk44:=hq_.1
 have H:=hq_.2
 clear hq_
 rw [impl_copyWorld.l2.eq_2] at H
 refine aw_grp1<|wk_start<|kv g0 lss<|wk_end<|ac_next<|aw_grp1 ?_
 by_cases c45 : p43 < (l0_2.length : Int)
 ·rw [if_pos c45] at H
  refine aw_ifT ?_ (decide_eq_true c45)
  refine aw_skip<|ac_next<|aw_grp1<|aw_block<|aw_grp1<|wk_start ?_
  obtain ⟨c46,H⟩:=of_if H
  refine kv g0 (ixS 65 (e65 (rd_T65 l0_2 p43)) c46 (getE (z:=z65) c46 c45))<|kv g0 (ldRA 5 [.lit (.int .i64 ((rd_T65 l0_2 p43).f0)),.lit (.int .i64 ((rd_T65 l0_2 p43).f1)),.sl .o 4 (((rd_T65 l0_2 p43).f2).map e63),.lit (.int .i64 ((rd_T65 l0_2 p43).f3)),.lit (.int .i64 ((rd_T65 l0_2 p43).f4))])<|kb g0 (alc 33 [.int .i64 0,.int .i64 0,.slice none 0 0,.int .i64 0,.int .i64 0] [.lit (.int .i64 0),.lit (.int .i64 0),.lit (.slice none 0 0),.lit (.int .i64 0),.lit (.int .i64 0)])<|ks g0 (stB 5 [.lit (.int .i64 ((rd_T65 l0_2 p43).f0)),.lit (.int .i64 ((rd_T65 l0_2 p43).f1)),.sl .o 4 (((rd_T65 l0_2 p43).f2).map e63),.lit (.int .i64 ((rd_T65 l0_2 p43).f3)),.lit (.int .i64 ((rd_T65 l0_2 p43).f4))])<|wk_end<|ac_next<|wk_start<|kv g0 (faB 2 2)<|kv g0 ldB<|kv g0 (ldBA 5 [.lit (.int .i64 ((rd_T65 l0_2 p43).f0)),.lit (.int .i64 ((rd_T65 l0_2 p43).f1)),.sl .o 4 (((rd_T65 l0_2 p43).f2).map e63),.lit (.int .i64 ((rd_T65 l0_2 p43).f3)),.lit (.int .i64 ((rd_T65 l0_2 p43).f4))]) ?_
  obtain ⟨t47,A48,H⟩:=of_bind H
  refine kcS1 67 (.agg [.lit (.int .i64 t47.1),.lit (.int .i64 t47.2.1),.row 34,.lit (.int .i64 t47.2.2.2.1),.lit (.int .i64 t47.2.2.2.2)]) [(34,.row 63 4 (t47.2.2.1.map e63))] g0 (cal (impl_copySender.ok A48) [34] 9999 .n (hf:=Tryz.func154)) rfl rfl<|kb g0 (bslD 35 65 5 ds65 [.int .i64 0,.int .i64 0,.slice none 0 0,.int .i64 0,.int .i64 0] [.agg [.lit (.int .i64 t47.1),.lit (.int .i64 t47.2.1),.row 34,.lit (.int .i64 t47.2.2.2.1),.lit (.int .i64 t47.2.2.2.2)]]) ?_
  obtain ⟨c49,H⟩:=of_if H
  refine kcS3 69 (.row 36) [(32,.gone),(35,.gone),(36,.drow true ds65 65 5 (q42.map e65 ++ [.agg [.lit (.int .i64 t47.1),.lit (.int .i64 t47.2.1),.row 34,.lit (.int .i64 t47.2.2.2.1),.lit (.int .i64 t47.2.2.2.2)]]))] g0 (apD 36 65 5 56 [.int .i64 0,.int .i64 0,.slice none 0 0,.int .i64 0,.int .i64 0] (q42.map e65 ++ [.agg [.lit (.int .i64 t47.1),.lit (.int .i64 t47.2.1),.row 34,.lit (.int .i64 t47.2.2.2.1),.lit (.int .i64 t47.2.2.2.2)]]) (apbD (m:=q42.length) (n:=1) (List.length_map ..) rfl c49 rfl) rfl).owp rfl rfl<|kv g0 (faB 2 2)<|ks g0 (stB 1 [.row 15,.row 23,.row 36,.row 2,.row 3,.row 4,.lit (.int .i64 t1.2.2.2.1),.row 5,.row 7,.lit (.int .i64 a0_9),.row 8,.row 10])<|wk_end_draw hM (by kernel_rfl)<|ac_blkN<|ac_next<|wk_start<|kv g0 add6<|kv g0 mv<|wk_end<|ac_g2 (pk 36 34 2 (.agg [.lit (.int .i64 t47.1),.lit (.int .i64 t47.2.1),.sl .n 4 (t47.2.2.1.map e63),.lit (.int .i64 t47.2.2.2.1),.lit (.int .i64 t47.2.2.2.2)]) (appX (f:=e65) (X:=.agg [.lit (.int .i64 t47.1),.lit (.int .i64 t47.2.1),.row 34,.lit (.int .i64 t47.2.2.2.1),.lit (.int .i64 t47.2.2.2.2)])) (appXX (f:=e65)) rfl)<|ac_g1 (sealD 36 (appSeal (f:=e65) (⟨t47.1,t47.2.1,t47.2.2.1,t47.2.2.2.1,t47.2.2.2.2⟩ : S65)) cl65)<|ac_k ?_
  exact acw hE [(1,1),(2,2),(3,3),(4,4),(5,5),(7,7),(8,8),(10,10),(11,11),(15,15),(23,23),(32,36)] 9999 (hK51 k44 (q42 ++ [(⟨t47.1,t47.2.1,t47.2.2.1,t47.2.2.2.1,t47.2.2.2.2⟩ : S65)]) (wrap64 (p43 + 1)) (Nat.le_refl _) ⟨by omega,H⟩)
 rw [if_neg c45] at H
 refine aw_ifF ?_ (decide_eq_false c45)
 refine aw_exit<|ac_then<|ac_then<|ac_hit rfl<|ac_next<|aw_grp1<|wk_start<|kv g0 (ldBA 12 [.row 15,.row 23,.row 32,.row 2,.row 3,.row 4,.lit (.int .i64 t1.2.2.2.1),.row 5,.row 7,.lit (.int .i64 a0_9),.row 8,.row 10])<|ks g0 (stB 12 [.row 15,.row 23,.row 32,.row 2,.row 3,.row 4,.lit (.int .i64 t1.2.2.2.1),.row 5,.row 7,.lit (.int .i64 a0_9),.row 8,.row 10])<|wk_end<|ac_next<|aw_ret ?_
 obtain rfl:=Option.some.inj H
 exact acr hE [.cell 2 45] (rcA 12 .nil) (.one _) [(0,15),(1,23),(2,32),(3,2),(4,3),(5,4),(6,5),(7,7),(8,8),(9,10)] 9999
end Go.Proofs.YtkkglhhkpihmgaaGreat.PFnExactCalmWorld
