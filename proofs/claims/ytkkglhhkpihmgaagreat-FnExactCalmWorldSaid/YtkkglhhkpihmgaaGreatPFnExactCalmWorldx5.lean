import Derived.Test.YtkkglhhkpihmgaaGreatPFnExactCalmWorldx4
set_option linter.unusedVariables false
set_option linter.unusedSimpArgs false
set_option maxRecDepth 100000
namespace Go.Proofs.YtkkglhhkpihmgaaGreat.PFnExactCalmWorld
open Go Go.RowKit Go.Proofs.YtkkglhhkpihmgaaGreatA
/-! impl_Kept -/
mutual
def impl_Kept.j0 : Nat→Int→Int→Int→Int→Int→Int→Int→((List S139) × (List Int) × (List S154) × Int × (List Int))→Bool→Option ((List S139) × (List Int) × (List S154) × Int × (List Int) × Bool)
 | 0,_,_,_,_,_,_,_,_,_=>none
 | k18 + 1,a1_0,a1_1,a1_2,a1_3,a1_4,a1_5,a1_6,t1,p17=>if p17 = true then (if t1.2.2.1.length + ([(⟨a1_1,a1_2,(⟨a1_3,a1_4,a1_5,a1_6⟩ : S63)⟩ : S154)] : List S154).length < 2932031007402 then some (t1.1,t1.2.1,t1.2.2.1 ++ ([(⟨a1_1,a1_2,(⟨a1_3,a1_4,a1_5,a1_6⟩ : S63)⟩ : S154)] : List S154),t1.2.2.2.1,t1.2.2.2.2,false) else none) else some (t1.1,t1.2.1,t1.2.2.1,t1.2.2.2.1,t1.2.2.2.2,false)
def impl_Kept.l0 : Nat→Int→Int→Int→Int→Int→Int→Int→((List S139) × (List Int) × (List S154) × Int × (List Int))→(List S139)→(List Int)→(List S154)→Option ((List S139) × (List Int) × (List S154) × Int × (List Int) × Bool)
 | 0,_,_,_,_,_,_,_,_,_,_,_=>none
 | k40 + 1,a1_0,a1_1,a1_2,a1_3,a1_4,a1_5,a1_6,t1,q37,q38,q39=>if (q37.length : Int) < 200 then if a1_1 < (q38.length : Int) then ((impl_earlyAt.f k40 q39 a1_1 (rd q38 a1_1)).bind fun t43=>if t43 < 0 then some (q37,q38,q39,t1.2.2.2.1,t1.2.2.2.2,true) else if 0 ≤ t43 then (if t43 < (q39.length : Int) then if t43 ≤ (q39.length : Int) then (if 0 ≤ (wrap64 (t43 + 1)) then (if (wrap64 (t43 + 1)) ≤ (q39.length : Int) then (if (q39.take t43.toNat).length + (q39.drop (wrap64 (t43 + 1)).toNat).length < 2932031007402 then if q37.length + ([(⟨(rd_T154 q39 t43).f0,(rd_T154 q39 t43).f1,(⟨(rd_T154 q39 t43).f2.f0,(rd_T154 q39 t43).f2.f1,(rd_T154 q39 t43).f2.f2,(rd_T154 q39 t43).f2.f3⟩ : S63)⟩ : S139)] : List S139).length < 2932031007402 then impl_Kept.l0 k40 a1_0 a1_1 a1_2 a1_3 a1_4 a1_5 a1_6 t1 (q37 ++ ([(⟨(rd_T154 q39 t43).f0,(rd_T154 q39 t43).f1,(⟨(rd_T154 q39 t43).f2.f0,(rd_T154 q39 t43).f2.f1,(rd_T154 q39 t43).f2.f2,(rd_T154 q39 t43).f2.f3⟩ : S63)⟩ : S139)] : List S139)) (q38.set a1_1.toNat (wrap64 ((rd q38 a1_1) + 1))) ((q39.take t43.toNat) ++ (q39.drop (wrap64 (t43 + 1)).toNat)) else none else none) else none) else none) else none else none) else none) else none else some (q37,q38,q39,t1.2.2.2.1,t1.2.2.2.2,true)
end
def impl_Kept.f (k : Nat) (l0_0 : List S139) (l0_1 : List Int) (l0_2 : List S154) (a0_3 : Int) (l0_4 : List Int) (a1_0 : Int) (a1_1 : Int) (a1_2 : Int) (a1_3 : Int) (a1_4 : Int) (a1_5 : Int) (a1_6 : Int) : Option ((List S139) × (List Int) × (List S154) × Int × (List Int) × Bool):=(impl_copyKeeper.f l0_0 l0_1 l0_2 a0_3 l0_4).bind fun t1=>(impl_FrameOk.f a1_0 a1_1 a1_2 a1_3 a1_4 a1_5 a1_6).bind fun t3=>(if t3 = true then (if a1_0 = 1 then (if a1_1 ≥ (l0_1.length : Int) then some (t1.1,t1.2.1,t1.2.2.1,t1.2.2.2.1,t1.2.2.2.2,false) else if (l0_0.length : Int) ≥ 200 then some (t1.1,t1.2.1,t1.2.2.1,t1.2.2.2.1,t1.2.2.2.2,false) else if 0 ≤ a1_1 then (if a1_1 < (l0_1.length : Int) then if a1_2 = (rd l0_1 a1_1) then if t1.1.length + ([(⟨a1_1,a1_2,(⟨a1_3,a1_4,a1_5,a1_6⟩ : S63)⟩ : S139)] : List S139).length < 2932031007402 then if a1_1 < (t1.2.1.length : Int) then impl_Kept.l0 k a1_0 a1_1 a1_2 a1_3 a1_4 a1_5 a1_6 t1 (t1.1 ++ ([(⟨a1_1,a1_2,(⟨a1_3,a1_4,a1_5,a1_6⟩ : S63)⟩ : S139)] : List S139)) (t1.2.1.set a1_1.toNat (wrap64 ((rd t1.2.1 a1_1) + 1))) t1.2.2.1 else none else none else (if a1_2 > (rd l0_1 a1_1) then (if a1_2 ≤ (wrap64 ((rd l0_1 a1_1) + 3)) then ((impl_earlyAt.f k l0_2 a1_1 a1_2).bind fun t14=>(if t14 < 0 then impl_Kept.j0 k a1_0 a1_1 a1_2 a1_3 a1_4 a1_5 a1_6 t1 (decide ((l0_2.length : Int) < 3)) else impl_Kept.j0 k a1_0 a1_1 a1_2 a1_3 a1_4 a1_5 a1_6 t1 false)) else impl_Kept.j0 k a1_0 a1_1 a1_2 a1_3 a1_4 a1_5 a1_6 t1 false) else impl_Kept.j0 k a1_0 a1_1 a1_2 a1_3 a1_4 a1_5 a1_6 t1 false) else none) else none) else some (t1.1,t1.2.1,t1.2.2.1,t1.2.2.2.1,t1.2.2.2.2,false)) else some (t1.1,t1.2.1,t1.2.2.1,t1.2.2.2.1,t1.2.2.2.2,false))
theorem impl_Kept.ok {k : Nat} {l0_0 : List S139} {l0_1 : List Int} {l0_2 : List S154} {a0_3 : Int} {l0_4 : List Int} {a1_0 : Int} {a1_1 : Int} {a1_2 : Int} {a1_3 : Int} {a1_4 : Int} {a1_5 : Int} {a1_6 : Int} {r : (List S139) × (List Int) × (List S154) × Int × (List Int) × Bool} (H : impl_Kept.f k l0_0 l0_1 l0_2 a0_3 l0_4 a1_0 a1_1 a1_2 a1_3 a1_4 a1_5 a1_6 = some r) : ACalls Tryz.prog 70 [] [.agg [.sl .o 6 (l0_0.map e139),.sl .o 1 (l0_1.map (eI .i64)),.sl .o 6 (l0_2.map e154),.lit (.int .i64 a0_3),.sl .o 1 (l0_4.map (eI .i64))],.agg [.lit (.int .i64 a1_0),.lit (.int .i64 a1_1),.lit (.int .i64 a1_2),.lit (.int .i64 a1_3),.lit (.int .i64 a1_4),.lit (.int .i64 a1_5),.lit (.int .i64 a1_6)]] [(0,.row 139 6 (r.1.map e139)),(1,.row 3 1 (r.2.1.map (eI .i64))),(2,.row 154 6 (r.2.2.1.map e154)),(3,.row 3 1 (r.2.2.2.2.1.map (eI .i64)))] (.tup [.agg [.row 0,.row 1,.row 2,.lit (.int .i64 r.2.2.2.1),.row 3],.lit (.bool r.2.2.2.2.2)]):=by
 refine acalls (fn:=Tryz.f70) (nt:=159) Tryz.func70 rfl rfl (Nat.le_of_ble_eq_true rfl) fun E hE=>?_
 rw [impl_Kept.f] at H
 refine aw_grp1<|wk_start<|kb g0 (bxA 0)<|kb g0 (bxA 1)<|kb g0 (alc 2 [.slice none 0 0,.slice none 0 0,.slice none 0 0,.int .i64 0,.slice none 0 0] [.lit (.slice none 0 0),.lit (.slice none 0 0),.lit (.slice none 0 0),.lit (.int .i64 0),.lit (.slice none 0 0)])<|kv g0 asg<|wk_end<|ac_next<|aw_grp1<|wk_start<|kv g0 (ldBA 5 [.sl .o 6 (l0_0.map e139),.sl .o 1 (l0_1.map (eI .i64)),.sl .o 6 (l0_2.map e154),.lit (.int .i64 a0_3),.sl .o 1 (l0_4.map (eI .i64))]) ?_
 obtain ⟨t1,A2,H⟩:=of_bind H
 refine kcS4 11 (.agg [.row 3,.row 4,.row 5,.lit (.int .i64 t1.2.2.2.1),.row 6]) [(3,.row 139 6 (t1.1.map e139)),(4,.row 3 1 (t1.2.1.map (eI .i64))),(5,.row 154 6 (t1.2.2.1.map e154)),(6,.row 3 1 (t1.2.2.2.2.map (eI .i64)))] g0 (cal (impl_copyKeeper.ok A2) [3,4,5,6] 9999 .n (hf:=Tryz.func150)) rfl rfl<|kb g0 (alc 7 [.slice none 0 0,.slice none 0 0,.slice none 0 0,.int .i64 0,.slice none 0 0] [.lit (.slice none 0 0),.lit (.slice none 0 0),.lit (.slice none 0 0),.lit (.int .i64 0),.lit (.slice none 0 0)])<|ks g0 (stB 5 [.row 3,.row 4,.row 5,.lit (.int .i64 t1.2.2.2.1),.row 6])<|wk_end<|ac_next<|aw_grp1<|aw_grp1<|wk_start<|kv g0 (ldBA 7 [.lit (.int .i64 a1_0),.lit (.int .i64 a1_1),.lit (.int .i64 a1_2),.lit (.int .i64 a1_3),.lit (.int .i64 a1_4),.lit (.int .i64 a1_5),.lit (.int .i64 a1_6)]) ?_
 obtain ⟨t3,A4,H⟩:=of_bind H
 refine kcS0 13 (.lit (.bool t3)) [] g0 (cal (impl_FrameOk.ok A4) [] 9999 .n (hf:=Tryz.func158)) rfl rfl<|kv g0 not_<|kv g0 mv ?_
 by_cases c5 : t3 = true
 ·rw [if_pos c5] at H
  refine kv (g1 (nF c5)) (faB 0 0)<|kv (g1 (nF c5)) ldB<|kv (g1 (nF c5)) neq ?_
  refine kv g0 (pkF (nF c5))<|kv g0 mv ?_
  by_cases c6 : a1_0 = 1
  ·rw [if_pos c6] at H
   refine kv (g1 (eM c6)) (faB 1 1)<|kv (g1 (eM c6)) ldB<|kv (g1 (eM c6)) (faB 1 1)<|kv (g1 (eM c6)) ldB<|kv (g1 (eM c6)) (lnS lenE)<|kv (g1 (eM c6)) geq ?_
   refine kv g0 (pkF (eM c6))<|kv g0 mv ?_
   by_cases c7 : a1_1 ≥ (l0_1.length : Int)
   ·rw [if_pos c7] at H
    refine kx (hF (decide_eq_true c7)) ?_
    refine kx (hF (decide_eq_true c7)) ?_
    refine kx (hF (decide_eq_true c7)) ?_
    refine kx (hF (decide_eq_true c7)) ?_
    refine kv g0 (pkT (decide_eq_true c7))<|wk_end<|ac_next ?_
    refine aw_ifT ?_ rfl
    refine aw_grp1<|wk_start<|kv g0 (ldBA 5 [.row 3,.row 4,.row 5,.lit (.int .i64 t1.2.2.2.1),.row 6])<|ks g0 (stB 5 [.row 3,.row 4,.row 5,.lit (.int .i64 t1.2.2.2.1),.row 6])<|kv g0 asg<|wk_end<|ac_next<|aw_ret<|ac_thenR ?_
    obtain rfl:=Option.some.inj H
    exact acr hE [.cell 4 41,.tmp 5] (rcA 5 (.tmp .nil)) (.many _ _ _) [(0,3),(1,4),(2,5),(3,6)] 9999
   rw [if_neg c7] at H
   refine kv (g1 (decide_eq_false c7)) (faB 0 0)<|kv (g1 (decide_eq_false c7)) ldB<|kv (g1 (decide_eq_false c7)) (lnS lenE)<|kv (g1 (decide_eq_false c7)) geq ?_
   refine kv g0 (pkF (decide_eq_false c7))<|wk_end<|ac_next ?_
   by_cases c8 : (l0_0.length : Int) ≥ 200
   ·rw [if_pos c8] at H
    refine aw_ifT ?_ (decide_eq_true c8)
    refine aw_grp1<|wk_start<|kv g0 (ldBA 5 [.row 3,.row 4,.row 5,.lit (.int .i64 t1.2.2.2.1),.row 6])<|ks g0 (stB 5 [.row 3,.row 4,.row 5,.lit (.int .i64 t1.2.2.2.1),.row 6])<|kv g0 asg<|wk_end<|ac_next<|aw_ret<|ac_thenR ?_
    obtain rfl:=Option.some.inj H
    exact acr hE [.cell 4 41,.tmp 5] (rcA 5 (.tmp .nil)) (.many _ _ _) [(0,3),(1,4),(2,5),(3,6)] 9999
   rw [if_neg c8] at H
   refine aw_ifF ?_ (decide_eq_false c8)
   refine aw_skip<|ac_next<|aw_grp1<|wk_start<|kv g0 (faB 1 1)<|kv g0 ldB<|kv g0 (faB 1 1)<|kv g0 ldB ?_
   obtain ⟨c9,H⟩:=of_if H
   obtain ⟨c10,H⟩:=of_if H
   refine kv g0 (ixS 3 (eI .i64 (rd l0_1 a1_1)) c9 (getE (z:=(0 : Int)) c9 c10))<|kv g0 (ldR (.lit (.int .i64 (rd l0_1 a1_1))))<|kv g0 asg<|wk_end<|ac_next<|aw_grp1<|aw_grp1<|wk_start<|kv g0 (faB 2 2)<|kv g0 ldB<|kv g0 mv<|kv g0 neq<|wk_end<|ac_next ?_
   by_cases c11 : a1_2 = (rd l0_1 a1_1)
   ·rw [if_pos c11] at H
    refine aw_ifF ?_ (eM c11)
    refine aw_skip<|ac_next<|aw_grp1<|wk_start<|kv g0 (faB 0 0)<|kv g0 ldB<|kv g0 (faB 1 1)<|kv g0 ldB<|kv g0 (faB 2 2)<|kv g0 ldB<|kv g0 (faB 3 3)<|kv g0 (ldBA 4 [.lit (.int .i64 a1_3),.lit (.int .i64 a1_4),.lit (.int .i64 a1_5),.lit (.int .i64 a1_6)])<|kv g0 (bld [(0,1),(1,1),(2,4)] [.int .i64 0,.int .i64 0,.int .i64 0,.int .i64 0,.int .i64 0,.int .i64 0] [.lit (.int .i64 a1_1),.lit (.int .i64 a1_2),.lit (.int .i64 a1_3),.lit (.int .i64 a1_4),.lit (.int .i64 a1_5),.lit (.int .i64 a1_6)])<|kb g0 (bsl 10 139 6 [.int .i64 0,.int .i64 0,.int .i64 0,.int .i64 0,.int .i64 0,.int .i64 0] (([(⟨a1_1,a1_2,(⟨a1_3,a1_4,a1_5,a1_6⟩ : S63)⟩ : S139)] : List S139).map e139)) ?_
    obtain ⟨c22,H⟩:=of_if H
    refine kc g0 (apR 11 139 6 48 [.int .i64 0,.int .i64 0,.int .i64 0,.int .i64 0,.int .i64 0,.int .i64 0] ((t1.1 ++ ([(⟨a1_1,a1_2,(⟨a1_3,a1_4,a1_5,a1_6⟩ : S63)⟩ : S139)] : List S139)).map e139) (.row rfl) (apb c22 rfl) appE)<|kv g0 (faB 0 0)<|ks g0 (stB 1 [.row 11,.row 4,.row 5,.lit (.int .i64 t1.2.2.2.1),.row 6])<|wk_end<|ac_next<|aw_grp1<|wk_start<|kv g0 (faB 1 1)<|kv g0 ldB<|kv g0 (faB 1 1)<|kv g0 ldB ?_
    obtain ⟨c23,H⟩:=of_if H
    refine kv g0 (ixR 3 c9 (ltE c23))<|kv g0 (ldE (eI .i64 (rd t1.2.1 a1_1)) (.lit (.int .i64 (rd t1.2.1 a1_1))) (getE (z:=(0 : Int)) c9 c23))<|kv g0 add6<|kv g0 (ixR 3 c9 (ltE c23))<|ks g0 (stE 1 (eI .i64 (wrap64 ((rd t1.2.1 a1_1) + 1))) ((t1.2.1.set a1_1.toNat (wrap64 ((rd t1.2.1 a1_1) + 1))).map (eI .i64)) (getE (z:=(0 : Int)) c9 c23) setE)<|wk_end<|ac_next<|aw_grp1<|aw_block ?_
    refine aw_loop3 (fun (k_ : Nat) (q37 : List S139) (q38 : List Int) (q39 : List S154)=>k_ ≤ k∧impl_Kept.l0 k_ a1_0 a1_1 a1_2 a1_3 a1_4 a1_5 a1_6 t1 q37 q38 q39 = some r) (fun (q37 : List S139) (q38 : List Int) (q39 : List S154)=>⟨[(3,.box 1 0),(4,.box 2 0),(6,.box 7 0)],[(1,.box 109 [.lit (.int .i64 a1_0),.lit (.int .i64 a1_1),.lit (.int .i64 a1_2),.lit (.int .i64 a1_3),.lit (.int .i64 a1_4),.lit (.int .i64 a1_5),.lit (.int .i64 a1_6)]),(2,.box 41 [.lit (.slice none 0 0),.lit (.slice none 0 0),.lit (.slice none 0 0),.lit (.int .i64 0),.lit (.slice none 0 0)]),(4,.row 3 1 (q38.map (eI .i64))),(5,.row 154 6 (q39.map e154)),(6,.row 3 1 (t1.2.2.2.2.map (eI .i64))),(7,.box 41 [.row 11,.row 4,.row 5,.lit (.int .i64 t1.2.2.2.1),.row 6]),(11,.row 139 6 (q37.map e139))]⟩) k (t1.1 ++ ([(⟨a1_1,a1_2,(⟨a1_3,a1_4,a1_5,a1_6⟩ : S63)⟩ : S139)] : List S139)) (t1.2.1.set a1_1.toNat (wrap64 ((rd t1.2.1 a1_1) + 1))) t1.2.2.1 ⟨Nat.le_refl _,H⟩ (fun K_ h_=>acw hE [(1,1),(2,2),(4,4),(5,5),(6,6),(7,7),(11,11)] 9999 h_) (fun _ _ _=>by intro h_;have h_:=h_.2;rw [impl_Kept.l0.eq_1] at h_;cases h_) ?_
    intro k40 q37 q38 q39 hq_ K53 hK54
    have hk40:=hq_.1
    have H:=hq_.2
    clear hq_
    rw [impl_Kept.l0.eq_2] at H
    refine aw_grp1<|aw_grp1<|wk_start<|kv g0 (faB 0 0)<|kv g0 ldB<|kv g0 (lnR lenE)<|kv g0 lss<|wk_end<|ac_next ?_
    by_cases c41 : (q37.length : Int) < 200
    ·rw [if_pos c41] at H
     refine aw_ifT ?_ (decide_eq_true c41)
     refine aw_skip<|ac_next<|aw_block<|aw_grp1<|wk_start<|kv g0 (faB 2 2)<|kv g0 ldB<|kv g0 (faB 1 1)<|kv g0 ldB<|kv g0 (faB 1 1)<|kv g0 ldB<|kv g0 (faB 1 1)<|kv g0 ldB ?_
     obtain ⟨c42,H⟩:=of_if H
     refine kv g0 (ixR 3 c9 (ltE c42))<|kv g0 (ldE (eI .i64 (rd q38 a1_1)) (.lit (.int .i64 (rd q38 a1_1))) (getE (z:=(0 : Int)) c9 c42)) ?_
     obtain ⟨t43,A44,H⟩:=of_bind H
     refine kcS0 119 (.lit (.int .i64 t43)) [] g0 (cal (impl_earlyAt.ok A44) [] 9999 .n (hf:=Tryz.func159)) rfl rfl<|kv g0 asg<|wk_end_draw hM (by kernel_rfl)<|ac_next<|aw_grp1<|aw_grp1<|wk_start<|kv g0 mv<|kv g0 lss<|wk_end<|ac_next ?_
     by_cases c45 : t43 < 0
     ·rw [if_pos c45] at H
      refine aw_ifT ?_ (decide_eq_true c45)
      refine aw_exit<|ac_then<|ac_miss rfl<|ac_then<|ac_hit rfl<|ac_next<|aw_grp1<|wk_start<|kv g0 (ldBA 5 [.row 11,.row 4,.row 5,.lit (.int .i64 t1.2.2.2.1),.row 6])<|ks g0 (stB 5 [.row 11,.row 4,.row 5,.lit (.int .i64 t1.2.2.2.1),.row 6])<|kv g0 asg<|wk_end<|ac_next<|aw_ret ?_
      obtain rfl:=Option.some.inj H
      exact acr hE [.cell 4 41,.tmp 5] (rcA 5 (.tmp .nil)) (.many _ _ _) [(0,11),(1,4),(2,5),(3,6)] 9999
     rw [if_neg c45] at H
     refine aw_ifF ?_ (decide_eq_false c45)
     refine aw_skip<|ac_next<|aw_grp1<|wk_start<|kv g0 (faB 2 2)<|kv g0 ldB<|kv g0 mv ?_
     obtain ⟨c46,H⟩:=of_if H
     obtain ⟨c47,H⟩:=of_if H
     refine kv g0 (ixR 154 c46 (ltE c47))<|kv g0 (ldEA 6 (e154 (rd_T154 q39 t43)) [.lit (.int .i64 ((rd_T154 q39 t43).f0)),.lit (.int .i64 ((rd_T154 q39 t43).f1)),.lit (.int .i64 ((rd_T154 q39 t43).f2.f0)),.lit (.int .i64 ((rd_T154 q39 t43).f2.f1)),.lit (.int .i64 ((rd_T154 q39 t43).f2.f2)),.lit (.int .i64 ((rd_T154 q39 t43).f2.f3))] (getE (z:=z154) c46 c47))<|kb g0 (alc 12 [.int .i64 0,.int .i64 0,.int .i64 0,.int .i64 0,.int .i64 0,.int .i64 0] [.lit (.int .i64 0),.lit (.int .i64 0),.lit (.int .i64 0),.lit (.int .i64 0),.lit (.int .i64 0),.lit (.int .i64 0)])<|ks g0 (stB 6 [.lit (.int .i64 ((rd_T154 q39 t43).f0)),.lit (.int .i64 ((rd_T154 q39 t43).f1)),.lit (.int .i64 ((rd_T154 q39 t43).f2.f0)),.lit (.int .i64 ((rd_T154 q39 t43).f2.f1)),.lit (.int .i64 ((rd_T154 q39 t43).f2.f2)),.lit (.int .i64 ((rd_T154 q39 t43).f2.f3))])<|wk_end<|ac_next<|aw_grp1<|wk_start<|kv g0 (faB 2 2)<|kv g0 ldB<|kv g0 mv ?_
     obtain ⟨c48,H⟩:=of_if H
     refine kv g0 (srH 154 c46 c48)<|kv g0 (faB 2 2)<|kv g0 ldB<|kv g0 mv<|kv g0 add6 ?_
     obtain ⟨c49,H⟩:=of_if H
     obtain ⟨c50,H⟩:=of_if H
     refine kv g0 (srL 154 c49 c50) ?_
     obtain ⟨c51,H⟩:=of_if H
     refine kc g0 (apS 13 154 6 48 [.int .i64 0,.int .i64 0,.int .i64 0,.int .i64 0,.int .i64 0,.int .i64 0] (((q39.take t43.toNat) ++ (q39.drop (wrap64 (t43 + 1)).toNat)).map e154) (frl c48) (nwS rfl mapD) (apbS c51 (frl' c48) rfl) appS)<|kv g0 (faB 2 2)<|ks g0 (stB 1 [.row 11,.row 4,.row 13,.lit (.int .i64 t1.2.2.2.1),.row 6])<|wk_end_draw hM (by kernel_rfl)<|ac_next<|aw_grp1<|wk_start<|kv g0 (faB 0 0)<|kv g0 ldB<|kv g0 (faB 0 0)<|kv g0 ldB<|kv g0 (faB 1 1)<|kv g0 ldB<|kv g0 (faB 2 2)<|kv g0 (ldBA 4 [.lit (.int .i64 ((rd_T154 q39 t43).f2.f0)),.lit (.int .i64 ((rd_T154 q39 t43).f2.f1)),.lit (.int .i64 ((rd_T154 q39 t43).f2.f2)),.lit (.int .i64 ((rd_T154 q39 t43).f2.f3))])<|kv g0 (bld [(0,1),(1,1),(2,4)] [.int .i64 0,.int .i64 0,.int .i64 0,.int .i64 0,.int .i64 0,.int .i64 0] [.lit (.int .i64 ((rd_T154 q39 t43).f0)),.lit (.int .i64 ((rd_T154 q39 t43).f1)),.lit (.int .i64 ((rd_T154 q39 t43).f2.f0)),.lit (.int .i64 ((rd_T154 q39 t43).f2.f1)),.lit (.int .i64 ((rd_T154 q39 t43).f2.f2)),.lit (.int .i64 ((rd_T154 q39 t43).f2.f3))])<|kb g0 (bsl 14 139 6 [.int .i64 0,.int .i64 0,.int .i64 0,.int .i64 0,.int .i64 0,.int .i64 0] (([(⟨(rd_T154 q39 t43).f0,(rd_T154 q39 t43).f1,(⟨(rd_T154 q39 t43).f2.f0,(rd_T154 q39 t43).f2.f1,(rd_T154 q39 t43).f2.f2,(rd_T154 q39 t43).f2.f3⟩ : S63)⟩ : S139)] : List S139).map e139)) ?_
     obtain ⟨c52,H⟩:=of_if H
     refine kc g0 (apR 15 139 6 48 [.int .i64 0,.int .i64 0,.int .i64 0,.int .i64 0,.int .i64 0,.int .i64 0] ((q37 ++ ([(⟨(rd_T154 q39 t43).f0,(rd_T154 q39 t43).f1,(⟨(rd_T154 q39 t43).f2.f0,(rd_T154 q39 t43).f2.f1,(rd_T154 q39 t43).f2.f2,(rd_T154 q39 t43).f2.f3⟩ : S63)⟩ : S139)] : List S139)).map e139) (.row rfl) (apb c52 rfl) appE)<|kv g0 (faB 0 0)<|ks g0 (stB 1 [.row 15,.row 4,.row 13,.lit (.int .i64 t1.2.2.2.1),.row 6])<|wk_end<|ac_next<|wk_start<|kv g0 (faB 1 1)<|kv g0 ldB<|kv g0 (faB 1 1)<|kv g0 ldB<|kv g0 (ixR 3 c9 (ltE c42))<|kv g0 (ldE (eI .i64 (rd q38 a1_1)) (.lit (.int .i64 (rd q38 a1_1))) (getE (z:=(0 : Int)) c9 c42))<|kv g0 add6<|kv g0 (ixR 3 c9 (ltE c42))<|ks g0 (stE 1 (eI .i64 (wrap64 ((rd q38 a1_1) + 1))) ((q38.set a1_1.toNat (wrap64 ((rd q38 a1_1) + 1))).map (eI .i64)) (getE (z:=(0 : Int)) c9 c42) setE)<|wk_end<|ac_blkN<|ac_k ?_
     exact acw hE [(1,1),(2,2),(4,4),(5,13),(6,6),(7,7),(11,15)] 9999 (hK54 k40 (q37 ++ ([(⟨(rd_T154 q39 t43).f0,(rd_T154 q39 t43).f1,(⟨(rd_T154 q39 t43).f2.f0,(rd_T154 q39 t43).f2.f1,(rd_T154 q39 t43).f2.f2,(rd_T154 q39 t43).f2.f3⟩ : S63)⟩ : S139)] : List S139)) (q38.set a1_1.toNat (wrap64 ((rd q38 a1_1) + 1))) ((q39.take t43.toNat) ++ (q39.drop (wrap64 (t43 + 1)).toNat)) (Nat.le_refl _) ⟨by omega,H⟩)
    rw [if_neg c41] at H
    refine aw_ifF ?_ (decide_eq_false c41)
    refine aw_exit<|ac_then<|ac_then<|ac_hit rfl<|ac_next<|aw_grp1<|wk_start<|kv g0 (ldBA 5 [.row 11,.row 4,.row 5,.lit (.int .i64 t1.2.2.2.1),.row 6])<|ks g0 (stB 5 [.row 11,.row 4,.row 5,.lit (.int .i64 t1.2.2.2.1),.row 6])<|kv g0 asg<|wk_end<|ac_next<|aw_ret ?_
    obtain rfl:=Option.some.inj H
    exact acr hE [.cell 4 41,.tmp 5] (rcA 5 (.tmp .nil)) (.many _ _ _) [(0,11),(1,4),(2,5),(3,6)] 9999
   rw [if_neg c11] at H
   refine aw_ifT ?_ (eN c11)
   refine aw_grp1 ?_
   refine aw_cut1 (J:=fun K_=>∀ (k_ : Nat) (p17 : Bool),k_ ≤ k→impl_Kept.j0 k_ a1_0 a1_1 a1_2 a1_3 a1_4 a1_5 a1_6 t1 p17 = some r→ACont E 159 ⟨[(3,.box 1 0),(4,.box 2 0),(6,.box 7 0),(71,.lit (.bool p17))],[(1,.box 109 [.lit (.int .i64 a1_0),.lit (.int .i64 a1_1),.lit (.int .i64 a1_2),.lit (.int .i64 a1_3),.lit (.int .i64 a1_4),.lit (.int .i64 a1_5),.lit (.int .i64 a1_6)]),(2,.box 41 [.lit (.slice none 0 0),.lit (.slice none 0 0),.lit (.slice none 0 0),.lit (.int .i64 0),.lit (.slice none 0 0)]),(3,.row 139 6 (t1.1.map e139)),(4,.row 3 1 (t1.2.1.map (eI .i64))),(5,.row 154 6 (t1.2.2.1.map e154)),(6,.row 3 1 (t1.2.2.2.2.map (eI .i64))),(7,.box 41 [.row 3,.row 4,.row 5,.lit (.int .i64 t1.2.2.2.1),.row 6])]⟩ K_) ?_ ?_
   ·intro K_ hJ21
    refine wk_start<|kv g0 (faB 2 2)<|kv g0 ldB<|kv g0 mv<|kv g0 gtr<|kv g0 mv ?_
    by_cases c12 : a1_2 > (rd l0_1 a1_1)
    ·rw [if_pos c12] at H
     refine kv (g1 (decide_eq_true c12)) (faB 2 2)<|kv (g1 (decide_eq_true c12)) ldB<|kv (g1 (decide_eq_true c12)) mv<|kv (g1 (decide_eq_true c12)) add6<|kv (g1 (decide_eq_true c12)) leq ?_
     refine kv g0 (pkT (decide_eq_true c12))<|kv g0 mv ?_
     by_cases c13 : a1_2 ≤ (wrap64 ((rd l0_1 a1_1) + 3))
     ·rw [if_pos c13] at H
      refine kv (g1 (decide_eq_true c13)) (faB 2 2)<|kv (g1 (decide_eq_true c13)) ldB<|kv (g1 (decide_eq_true c13)) (faB 1 1)<|kv (g1 (decide_eq_true c13)) ldB<|kv (g1 (decide_eq_true c13)) (faB 2 2)<|kv (g1 (decide_eq_true c13)) ldB ?_
      obtain ⟨t14,A15,H⟩:=of_bind H
      refine kcS0 63 (.lit (.int .i64 t14)) [] (g1 (decide_eq_true c13)) (cal (impl_earlyAt.ok A15) [] 9999 .n (hf:=Tryz.func159)) rfl rfl<|kv (g1 (decide_eq_true c13)) lss ?_
      refine kv g0 (pkT (decide_eq_true c13))<|kv g0 mv ?_
      by_cases c16 : t14 < 0
      ·rw [if_pos c16] at H
       refine kv (g1 (decide_eq_true c16)) (faB 2 2)<|kv (g1 (decide_eq_true c16)) ldB<|kv (g1 (decide_eq_true c16)) (lnS lenE)<|kv (g1 (decide_eq_true c16)) lss ?_
       refine kv g0 (pkT (decide_eq_true c16))<|wk_end<|ac_k ?_
       exact acw hE [(1,1),(2,2),(3,3),(4,4),(5,5),(6,6),(7,7)] 9999 (hJ21 k (decide ((l0_2.length : Int) < 3)) (Nat.le_refl _) H)
      rw [if_neg c16] at H
      refine kx (hT (decide_eq_false c16)) ?_
      refine kx (hT (decide_eq_false c16)) ?_
      refine kx (hT (decide_eq_false c16)) ?_
      refine kx (hT (decide_eq_false c16)) ?_
      refine kv g0 (pkF (decide_eq_false c16))<|wk_end<|ac_k ?_
      exact acw hE [(1,1),(2,2),(3,3),(4,4),(5,5),(6,6),(7,7)] 9999 (hJ21 k false (Nat.le_refl _) H)
     rw [if_neg c13] at H
     refine kx (hT (decide_eq_false c13)) ?_
     refine kx (hT (decide_eq_false c13)) ?_
     refine kx (hT (decide_eq_false c13)) ?_
     refine kx (hT (decide_eq_false c13)) ?_
     refine kx (hT (decide_eq_false c13)) ?_
     refine kx (hT (decide_eq_false c13)) ?_
     refine kx (hT (decide_eq_false c13)) ?_
     refine kx (hT (decide_eq_false c13)) ?_
     refine kv g0 (pkF (decide_eq_false c13))<|kv g0 mv<|kx (hT rfl) ?_
     refine kx (hT rfl) ?_
     refine kx (hT rfl) ?_
     refine kx (hT rfl) ?_
     refine kv g0 (pkF rfl)<|wk_end<|ac_k ?_
     exact acw hE [(1,1),(2,2),(3,3),(4,4),(5,5),(6,6),(7,7)] 9999 (hJ21 k false (Nat.le_refl _) H)
    rw [if_neg c12] at H
    refine kx (hT (decide_eq_false c12)) ?_
    refine kx (hT (decide_eq_false c12)) ?_
    refine kx (hT (decide_eq_false c12)) ?_
    refine kx (hT (decide_eq_false c12)) ?_
    refine kx (hT (decide_eq_false c12)) ?_
    refine kv g0 (pkF (decide_eq_false c12))<|kv g0 mv<|kx (hT rfl) ?_
    refine kx (hT rfl) ?_
    refine kx (hT rfl) ?_
    refine kx (hT rfl) ?_
    refine kx (hT rfl) ?_
    refine kx (hT rfl) ?_
    refine kx (hT rfl) ?_
    refine kx (hT rfl) ?_
    refine kv g0 (pkF rfl)<|kv g0 mv<|kx (hT rfl) ?_
    refine kx (hT rfl) ?_
    refine kx (hT rfl) ?_
    refine kx (hT rfl) ?_
    refine kv g0 (pkF rfl)<|wk_end<|ac_k ?_
    exact acw hE [(1,1),(2,2),(3,3),(4,4),(5,5),(6,6),(7,7)] 9999 (hJ21 k false (Nat.le_refl _) H)
   intro k_ p17 hk_ H
   rcases k_ with _ | k18
   ·rw [impl_Kept.j0.eq_1] at H;cases H
   have hk18 : k18 ≤ k:=by omega
   clear hk_
   rw [impl_Kept.j0.eq_2] at H
   by_cases c19 : p17 = true
   ·rw [if_pos c19] at H
    refine aw_ifT ?_ c19
    refine wk_start<|kv g0 (faB 2 2)<|kv g0 ldB<|kv g0 (faB 1 1)<|kv g0 ldB<|kv g0 (faB 2 2)<|kv g0 ldB<|kv g0 (faB 3 3)<|kv g0 (ldBA 4 [.lit (.int .i64 a1_3),.lit (.int .i64 a1_4),.lit (.int .i64 a1_5),.lit (.int .i64 a1_6)])<|kv g0 (bld [(0,1),(1,1),(2,4)] [.int .i64 0,.int .i64 0,.int .i64 0,.int .i64 0,.int .i64 0,.int .i64 0] [.lit (.int .i64 a1_1),.lit (.int .i64 a1_2),.lit (.int .i64 a1_3),.lit (.int .i64 a1_4),.lit (.int .i64 a1_5),.lit (.int .i64 a1_6)])<|kb g0 (bsl 8 154 6 [.int .i64 0,.int .i64 0,.int .i64 0,.int .i64 0,.int .i64 0,.int .i64 0] (([(⟨a1_1,a1_2,(⟨a1_3,a1_4,a1_5,a1_6⟩ : S63)⟩ : S154)] : List S154).map e154)) ?_
    obtain ⟨c20,H⟩:=of_if H
    refine kc g0 (apR 9 154 6 48 [.int .i64 0,.int .i64 0,.int .i64 0,.int .i64 0,.int .i64 0,.int .i64 0] ((t1.2.2.1 ++ ([(⟨a1_1,a1_2,(⟨a1_3,a1_4,a1_5,a1_6⟩ : S63)⟩ : S154)] : List S154)).map e154) (.row rfl) (apb c20 rfl) appE)<|kv g0 (faB 2 2)<|ks g0 (stB 1 [.row 3,.row 4,.row 9,.lit (.int .i64 t1.2.2.2.1),.row 6])<|wk_end<|ac_next<|aw_grp1<|wk_start<|kv g0 (ldBA 5 [.row 3,.row 4,.row 9,.lit (.int .i64 t1.2.2.2.1),.row 6])<|ks g0 (stB 5 [.row 3,.row 4,.row 9,.lit (.int .i64 t1.2.2.2.1),.row 6])<|kv g0 asg<|wk_end<|ac_next<|aw_ret<|ac_thenR ?_
    obtain rfl:=Option.some.inj H
    exact acr hE [.cell 4 41,.tmp 5] (rcA 5 (.tmp .nil)) (.many _ _ _) [(0,3),(1,4),(2,9),(3,6)] 9999
   rw [if_neg c19] at H
   refine aw_ifF ?_ (bF c19)
   refine aw_skip<|ac_next<|aw_grp1<|wk_start<|kv g0 (ldBA 5 [.row 3,.row 4,.row 5,.lit (.int .i64 t1.2.2.2.1),.row 6])<|ks g0 (stB 5 [.row 3,.row 4,.row 5,.lit (.int .i64 t1.2.2.2.1),.row 6])<|kv g0 asg<|wk_end<|ac_next<|aw_ret<|ac_thenR ?_
   obtain rfl:=Option.some.inj H
   exact acr hE [.cell 4 41,.tmp 5] (rcA 5 (.tmp .nil)) (.many _ _ _) [(0,3),(1,4),(2,5),(3,6)] 9999
  rw [if_neg c6] at H
  refine kx (hF (eN c6)) ?_
  refine kx (hF (eN c6)) ?_
  refine kx (hF (eN c6)) ?_
  refine kx (hF (eN c6)) ?_
  refine kx (hF (eN c6)) ?_
  refine kx (hF (eN c6)) ?_
  refine kv g0 (pkT (eN c6))<|kv g0 mv<|kx (hF rfl) ?_
  refine kx (hF rfl) ?_
  refine kx (hF rfl) ?_
  refine kx (hF rfl) ?_
  refine kv g0 (pkT rfl)<|wk_end<|ac_next ?_
  refine aw_ifT ?_ rfl
  refine aw_grp1<|wk_start<|kv g0 (ldBA 5 [.row 3,.row 4,.row 5,.lit (.int .i64 t1.2.2.2.1),.row 6])<|ks g0 (stB 5 [.row 3,.row 4,.row 5,.lit (.int .i64 t1.2.2.2.1),.row 6])<|kv g0 asg<|wk_end<|ac_next<|aw_ret<|ac_thenR ?_
  obtain rfl:=Option.some.inj H
  exact acr hE [.cell 4 41,.tmp 5] (rcA 5 (.tmp .nil)) (.many _ _ _) [(0,3),(1,4),(2,5),(3,6)] 9999
 rw [if_neg c5] at H
 refine kx (hF (nT (bF c5))) ?_
 refine kx (hF (nT (bF c5))) ?_
 refine kx (hF (nT (bF c5))) ?_
 refine kv g0 (pkT (nT (bF c5)))<|kv g0 mv<|kx (hF rfl) ?_
 refine kx (hF rfl) ?_
 refine kx (hF rfl) ?_
 refine kx (hF rfl) ?_
 refine kx (hF rfl) ?_
 refine kx (hF rfl) ?_
 refine kv g0 (pkT rfl)<|kv g0 mv<|kx (hF rfl) ?_
 refine kx (hF rfl) ?_
 refine kx (hF rfl) ?_
 refine kx (hF rfl) ?_
 refine kv g0 (pkT rfl)<|wk_end<|ac_next ?_
 refine aw_ifT ?_ rfl
 refine aw_grp1<|wk_start<|kv g0 (ldBA 5 [.row 3,.row 4,.row 5,.lit (.int .i64 t1.2.2.2.1),.row 6])<|ks g0 (stB 5 [.row 3,.row 4,.row 5,.lit (.int .i64 t1.2.2.2.1),.row 6])<|kv g0 asg<|wk_end<|ac_next<|aw_ret<|ac_thenR ?_
 obtain rfl:=Option.some.inj H
 exact acr hE [.cell 4 41,.tmp 5] (rcA 5 (.tmp .nil)) (.many _ _ _) [(0,3),(1,4),(2,5),(3,6)] 9999
/-! impl_SaveKeeper -/
def impl_SaveKeeper.f (l0_0 : List S139) (l0_1 : List Int) (l0_2 : List S154) (a0_3 : Int) (l0_4 : List Int) : Option ((List S139) × (List Int) × (List S154) × Int × (List Int)):=(impl_copyKeeper.f l0_0 l0_1 l0_2 a0_3 l0_4).bind fun t1=>(impl_copyInts.f t1.2.1).bind fun t3=>some (t1.1,t1.2.1,t1.2.2.1,(t1.1.length : Int),t3)
theorem impl_SaveKeeper.ok {l0_0 : List S139} {l0_1 : List Int} {l0_2 : List S154} {a0_3 : Int} {l0_4 : List Int} {r : (List S139) × (List Int) × (List S154) × Int × (List Int)} (H : impl_SaveKeeper.f l0_0 l0_1 l0_2 a0_3 l0_4 = some r) : ACalls Tryz.prog 71 [] [.agg [.sl .o 6 (l0_0.map e139),.sl .o 1 (l0_1.map (eI .i64)),.sl .o 6 (l0_2.map e154),.lit (.int .i64 a0_3),.sl .o 1 (l0_4.map (eI .i64))]] [(0,.row 139 6 (r.1.map e139)),(1,.row 3 1 (r.2.1.map (eI .i64))),(2,.row 154 6 (r.2.2.1.map e154)),(3,.row 3 1 (r.2.2.2.2.map (eI .i64)))] (.agg [.row 0,.row 1,.row 2,.lit (.int .i64 r.2.2.2.1),.row 3]):=by
 refine acalls (fn:=Tryz.f71) (nt:=15) Tryz.func71 rfl rfl (Nat.le_of_ble_eq_true rfl) fun E hE=>?_
 rw [impl_SaveKeeper.f] at H
 refine aw_grp1<|wk_start<|kb g0 (bxA 0)<|kb g0 (alc 1 [.slice none 0 0,.slice none 0 0,.slice none 0 0,.int .i64 0,.slice none 0 0] [.lit (.slice none 0 0),.lit (.slice none 0 0),.lit (.slice none 0 0),.lit (.int .i64 0),.lit (.slice none 0 0)])<|wk_end<|ac_next<|aw_grp1<|wk_start<|kv g0 (ldBA 5 [.sl .o 6 (l0_0.map e139),.sl .o 1 (l0_1.map (eI .i64)),.sl .o 6 (l0_2.map e154),.lit (.int .i64 a0_3),.sl .o 1 (l0_4.map (eI .i64))]) ?_
 obtain ⟨t1,A2,H⟩:=of_bind H
 refine kcS4 5 (.agg [.row 2,.row 3,.row 4,.lit (.int .i64 t1.2.2.2.1),.row 5]) [(2,.row 139 6 (t1.1.map e139)),(3,.row 3 1 (t1.2.1.map (eI .i64))),(4,.row 154 6 (t1.2.2.1.map e154)),(5,.row 3 1 (t1.2.2.2.2.map (eI .i64)))] g0 (cal (impl_copyKeeper.ok A2) [2,3,4,5] 9999 .n (hf:=Tryz.func150)) rfl rfl<|kb g0 (alc 6 [.slice none 0 0,.slice none 0 0,.slice none 0 0,.int .i64 0,.slice none 0 0] [.lit (.slice none 0 0),.lit (.slice none 0 0),.lit (.slice none 0 0),.lit (.int .i64 0),.lit (.slice none 0 0)])<|ks g0 (stB 5 [.row 2,.row 3,.row 4,.lit (.int .i64 t1.2.2.2.1),.row 5])<|wk_end<|ac_next<|aw_grp1<|wk_start<|kv g0 (faB 0 0)<|kv g0 ldB<|kv g0 (lnR lenE)<|kv g0 (faB 3 3)<|ks g0 (stB 1 [.row 2,.row 3,.row 4,.lit (.int .i64 (t1.1.length : Int)),.row 5])<|wk_end<|ac_next<|aw_grp1<|wk_start<|kv g0 (faB 1 1)<|kv g0 ldB ?_
 obtain ⟨t3,A4,H⟩:=of_bind H
 refine kcS1 12 (.row 7) [(7,.row 3 1 (t3.map (eI .i64)))] g0 (cal (impl_copyInts.ok A4) [7] 9999 .n (hf:=Tryz.func151)) rfl rfl<|kv g0 (faB 4 4)<|ks g0 (stB 1 [.row 2,.row 3,.row 4,.lit (.int .i64 (t1.1.length : Int)),.row 7])<|wk_end<|ac_next<|aw_grp1<|wk_start<|kv g0 (ldBA 5 [.row 2,.row 3,.row 4,.lit (.int .i64 (t1.1.length : Int)),.row 7])<|ks g0 (stB 5 [.row 2,.row 3,.row 4,.lit (.int .i64 (t1.1.length : Int)),.row 7])<|wk_end<|ac_next<|aw_ret ?_
 obtain rfl:=Option.some.inj H
 exact acr hE [.cell 2 41] (rcA 5 .nil) (.one _) [(0,2),(1,3),(2,4),(3,7)] 9999
/-! impl_AckOf -/
def impl_AckOf.f (l0_0 : List S139) (l0_1 : List Int) (l0_2 : List S154) (a0_3 : Int) (l0_4 : List Int) (a1 : Int) : Option (Int × Int × Int × Int × Int × Int × Int × Bool):=(impl_within.f a1 0 (wrap64 ((l0_4.length : Int) - 1))).bind fun t1=>if t1 = true then if 0 ≤ a1 then (if a1 < (l0_4.length : Int) then some (2,a1,(rd l0_4 a1),0,0,0,0,true) else none) else none else some (0,0,0,0,0,0,0,false)
theorem impl_AckOf.ok {l0_0 : List S139} {l0_1 : List Int} {l0_2 : List S154} {a0_3 : Int} {l0_4 : List Int} {a1 : Int} {r : Int × Int × Int × Int × Int × Int × Int × Bool} (H : impl_AckOf.f l0_0 l0_1 l0_2 a0_3 l0_4 a1 = some r) : ACalls Tryz.prog 72 [] [.agg [.sl .o 6 (l0_0.map e139),.sl .o 1 (l0_1.map (eI .i64)),.sl .o 6 (l0_2.map e154),.lit (.int .i64 a0_3),.sl .o 1 (l0_4.map (eI .i64))],.lit (.int .i64 a1)] [] (.tup [.agg [.lit (.int .i64 r.1),.lit (.int .i64 r.2.1),.lit (.int .i64 r.2.2.1),.lit (.int .i64 r.2.2.2.1),.lit (.int .i64 r.2.2.2.2.1),.lit (.int .i64 r.2.2.2.2.2.1),.lit (.int .i64 r.2.2.2.2.2.2.1)],.lit (.bool r.2.2.2.2.2.2.2)]):=by
 refine acalls (fn:=Tryz.f72) (nt:=21) Tryz.func72 rfl rfl (Nat.le_of_ble_eq_true rfl) fun E hE=>?_
 rw [impl_AckOf.f] at H
 refine aw_grp1<|wk_start<|kb g0 (bxA 0)<|kb g0 (alc 1 [.int .i64 0,.int .i64 0,.int .i64 0,.int .i64 0,.int .i64 0,.int .i64 0,.int .i64 0] [.lit (.int .i64 0),.lit (.int .i64 0),.lit (.int .i64 0),.lit (.int .i64 0),.lit (.int .i64 0),.lit (.int .i64 0),.lit (.int .i64 0)])<|kv g0 asg<|wk_end<|ac_next<|aw_grp1<|aw_grp1<|wk_start<|kv g0 mv<|kv g0 (faB 4 4)<|kv g0 ldB<|kv g0 (lnS lenE)<|kv g0 sub6 ?_
 obtain ⟨t1,A2,H⟩:=of_bind H
 refine kcS0 11 (.lit (.bool t1)) [] g0 (cal (impl_within.ok A2) [] 9999 .n (hf:=Tryz.func64)) rfl rfl<|kv g0 not_<|wk_end<|ac_next ?_
 by_cases c3 : t1 = true
 ·rw [if_pos c3] at H
  refine aw_ifF ?_ (nF c3)
  refine aw_skip<|ac_next<|aw_grp1<|wk_start<|kv g0 mv<|kv g0 (faB 4 4)<|kv g0 ldB<|kv g0 mv ?_
  obtain ⟨c4,H⟩:=of_if H
  obtain ⟨c5,H⟩:=of_if H
  refine kv g0 (ixS 3 (eI .i64 (rd l0_4 a1)) c4 (getE (z:=(0 : Int)) c4 c5))<|kv g0 (ldR (.lit (.int .i64 (rd l0_4 a1))))<|kv g0 (bld [(0,1),(1,1),(2,1),(3,4)] [.int .i64 0,.int .i64 0,.int .i64 0,.int .i64 0,.int .i64 0,.int .i64 0,.int .i64 0] [.lit (.int .i64 2),.lit (.int .i64 a1),.lit (.int .i64 (rd l0_4 a1)),.lit (.int .i64 0),.lit (.int .i64 0),.lit (.int .i64 0),.lit (.int .i64 0)])<|ks g0 (stB 7 [.lit (.int .i64 2),.lit (.int .i64 a1),.lit (.int .i64 (rd l0_4 a1)),.lit (.int .i64 0),.lit (.int .i64 0),.lit (.int .i64 0),.lit (.int .i64 0)])<|kv g0 asg<|wk_end<|ac_next<|aw_ret ?_
  obtain rfl:=Option.some.inj H
  exact acr hE [.cell 4 109,.tmp 5] (rcA 7 (.tmp .nil)) (.many _ _ _) [] 9999
 rw [if_neg c3] at H
 refine aw_ifT ?_ (nT (bF c3))
 refine aw_grp1<|wk_start<|kv g0 (bld [(0,1),(1,1),(2,1),(3,4)] [.int .i64 0,.int .i64 0,.int .i64 0,.int .i64 0,.int .i64 0,.int .i64 0,.int .i64 0] [.lit (.int .i64 0),.lit (.int .i64 0),.lit (.int .i64 0),.lit (.int .i64 0),.lit (.int .i64 0),.lit (.int .i64 0),.lit (.int .i64 0)])<|ks g0 (stB 7 [.lit (.int .i64 0),.lit (.int .i64 0),.lit (.int .i64 0),.lit (.int .i64 0),.lit (.int .i64 0),.lit (.int .i64 0),.lit (.int .i64 0)])<|kv g0 asg<|wk_end<|ac_next<|aw_ret<|ac_thenR ?_
 obtain rfl:=Option.some.inj H
 exact acr hE [.cell 4 109,.tmp 5] (rcA 7 (.tmp .nil)) (.many _ _ _) [] 9999
/-! impl_Acked -/
def impl_Acked.f (k : Nat) (a0_0 : Int) (a0_1 : Int) (l0_2 : List S63) (a0_3 : Int) (a0_4 : Int) (a1 : Int) : Option (Int × Int × (List S63) × Int × Int):=(impl_copySender.f a0_0 a0_1 l0_2 a0_3 a0_4).bind fun t1=>(impl_SenderOk.f k a0_0 a0_1 l0_2 a0_3 a0_4).bind fun t3=>(if t3 = true then ((impl_within.f a1 (wrap64 (a0_1 + 1)) (wrap64 (a0_1 + (l0_2.length : Int)))).bind fun t6=>if t6 = true then if 0 ≤ (wrap64 (a1 - a0_1)) then (if (wrap64 (a1 - a0_1)) ≤ (l0_2.length : Int) then ((impl_copyItems.f (l0_2.drop (wrap64 (a1 - a0_1)).toNat)).bind fun t11=>some (t1.1,a1,t11,t1.2.2.2.1,1)) else none) else none else some (t1.1,t1.2.1,t1.2.2.1,t1.2.2.2.1,t1.2.2.2.2)) else some (t1.1,t1.2.1,t1.2.2.1,t1.2.2.2.1,t1.2.2.2.2))
theorem impl_Acked.ok {k : Nat} {a0_0 : Int} {a0_1 : Int} {l0_2 : List S63} {a0_3 : Int} {a0_4 : Int} {a1 : Int} {r : Int × Int × (List S63) × Int × Int} (H : impl_Acked.f k a0_0 a0_1 l0_2 a0_3 a0_4 a1 = some r) : ACalls Tryz.prog 73 [] [.agg [.lit (.int .i64 a0_0),.lit (.int .i64 a0_1),.sl .o 4 (l0_2.map e63),.lit (.int .i64 a0_3),.lit (.int .i64 a0_4)],.lit (.int .i64 a1)] [(0,.row 63 4 (r.2.2.1.map e63))] (.agg [.lit (.int .i64 r.1),.lit (.int .i64 r.2.1),.row 0,.lit (.int .i64 r.2.2.2.1),.lit (.int .i64 r.2.2.2.2)]):=by
 refine acalls (fn:=Tryz.f73) (nt:=39) Tryz.func73 rfl rfl (Nat.le_of_ble_eq_true rfl) fun E hE=>?_
 rw [impl_Acked.f] at H
 refine aw_grp1<|wk_start<|kb g0 (bxA 0)<|kb g0 (alc 1 [.int .i64 0,.int .i64 0,.slice none 0 0,.int .i64 0,.int .i64 0] [.lit (.int .i64 0),.lit (.int .i64 0),.lit (.slice none 0 0),.lit (.int .i64 0),.lit (.int .i64 0)])<|wk_end<|ac_next<|aw_grp1<|wk_start<|kv g0 (ldBA 5 [.lit (.int .i64 a0_0),.lit (.int .i64 a0_1),.sl .o 4 (l0_2.map e63),.lit (.int .i64 a0_3),.lit (.int .i64 a0_4)]) ?_
 obtain ⟨t1,A2,H⟩:=of_bind H
 refine kcS1 7 (.agg [.lit (.int .i64 t1.1),.lit (.int .i64 t1.2.1),.row 2,.lit (.int .i64 t1.2.2.2.1),.lit (.int .i64 t1.2.2.2.2)]) [(2,.row 63 4 (t1.2.2.1.map e63))] g0 (cal (impl_copySender.ok A2) [2] 9999 .n (hf:=Tryz.func154)) rfl rfl<|kb g0 (alc 3 [.int .i64 0,.int .i64 0,.slice none 0 0,.int .i64 0,.int .i64 0] [.lit (.int .i64 0),.lit (.int .i64 0),.lit (.slice none 0 0),.lit (.int .i64 0),.lit (.int .i64 0)])<|ks g0 (stB 5 [.lit (.int .i64 t1.1),.lit (.int .i64 t1.2.1),.row 2,.lit (.int .i64 t1.2.2.2.1),.lit (.int .i64 t1.2.2.2.2)])<|wk_end<|ac_next<|aw_grp1<|aw_grp1<|wk_start<|kv g0 (ldBA 5 [.lit (.int .i64 a0_0),.lit (.int .i64 a0_1),.sl .o 4 (l0_2.map e63),.lit (.int .i64 a0_3),.lit (.int .i64 a0_4)]) ?_
 obtain ⟨t3,A4,H⟩:=of_bind H
 refine kcS0 9 (.lit (.bool t3)) [] g0 (cal (impl_SenderOk.ok A4) [] 9999 .n (hf:=Tryz.func157)) rfl rfl<|kv g0 not_<|kv g0 mv ?_
 by_cases c5 : t3 = true
 ·rw [if_pos c5] at H
  refine kv (g1 (nF c5)) mv<|kv (g1 (nF c5)) (faB 1 1)<|kv (g1 (nF c5)) ldB<|kv (g1 (nF c5)) add6<|kv (g1 (nF c5)) (faB 1 1)<|kv (g1 (nF c5)) ldB<|kv (g1 (nF c5)) (faB 2 2)<|kv (g1 (nF c5)) ldB<|kv (g1 (nF c5)) (lnS lenE)<|kv (g1 (nF c5)) add6 ?_
  obtain ⟨t6,A7,H⟩:=of_bind H
  refine kcS0 22 (.lit (.bool t6)) [] (g1 (nF c5)) (cal (impl_within.ok A7) [] 9999 .n (hf:=Tryz.func64)) rfl rfl<|kv (g1 (nF c5)) not_ ?_
  refine kv g0 (pkF (nF c5))<|wk_end<|ac_next ?_
  by_cases c8 : t6 = true
  ·rw [if_pos c8] at H
   refine aw_ifF ?_ (nF c8)
   refine aw_skip<|ac_next<|aw_grp1<|wk_start<|kv g0 (faB 2 2)<|kv g0 ldB<|kv g0 mv<|kv g0 (faB 1 1)<|kv g0 ldB<|kv g0 sub6 ?_
   obtain ⟨c9,H⟩:=of_if H
   obtain ⟨c10,H⟩:=of_if H
   refine kv g0 (slL 63 c9 c10) ?_
   obtain ⟨t11,A12,H⟩:=of_bind H
   refine kcS1 33 (.row 4) [(4,.row 63 4 (t11.map e63))] g0 (cal (impl_copyItems.ok A12) [4] 9999 .n (hf:=Tryz.func160)) rfl rfl<|kv g0 (faB 2 2)<|ks g0 (stB 1 [.lit (.int .i64 t1.1),.lit (.int .i64 t1.2.1),.row 4,.lit (.int .i64 t1.2.2.2.1),.lit (.int .i64 t1.2.2.2.2)])<|wk_end<|ac_next<|aw_grp1<|wk_start<|kv g0 mv<|kv g0 (faB 1 1)<|ks g0 (stB 1 [.lit (.int .i64 t1.1),.lit (.int .i64 a1),.row 4,.lit (.int .i64 t1.2.2.2.1),.lit (.int .i64 t1.2.2.2.2)])<|wk_end<|ac_next<|aw_grp1<|wk_start<|kv g0 (faB 4 4)<|ks g0 (stB 1 [.lit (.int .i64 t1.1),.lit (.int .i64 a1),.row 4,.lit (.int .i64 t1.2.2.2.1),.lit (.int .i64 1)])<|wk_end<|ac_next<|aw_grp1<|wk_start<|kv g0 (ldBA 5 [.lit (.int .i64 t1.1),.lit (.int .i64 a1),.row 4,.lit (.int .i64 t1.2.2.2.1),.lit (.int .i64 1)])<|ks g0 (stB 5 [.lit (.int .i64 t1.1),.lit (.int .i64 a1),.row 4,.lit (.int .i64 t1.2.2.2.1),.lit (.int .i64 1)])<|wk_end<|ac_next<|aw_ret ?_
   obtain rfl:=Option.some.inj H
   exact acr hE [.cell 4 65] (rcA 5 .nil) (.one _) [(0,4)] 9999
  rw [if_neg c8] at H
  refine aw_ifT ?_ (nT (bF c8))
  refine aw_grp1<|wk_start<|kv g0 (ldBA 5 [.lit (.int .i64 t1.1),.lit (.int .i64 t1.2.1),.row 2,.lit (.int .i64 t1.2.2.2.1),.lit (.int .i64 t1.2.2.2.2)])<|ks g0 (stB 5 [.lit (.int .i64 t1.1),.lit (.int .i64 t1.2.1),.row 2,.lit (.int .i64 t1.2.2.2.1),.lit (.int .i64 t1.2.2.2.2)])<|wk_end<|ac_next<|aw_ret<|ac_thenR ?_
  obtain rfl:=Option.some.inj H
  exact acr hE [.cell 4 65] (rcA 5 .nil) (.one _) [(0,2)] 9999
 rw [if_neg c5] at H
 refine kx (hF (nT (bF c5))) ?_
 refine kx (hF (nT (bF c5))) ?_
 refine kx (hF (nT (bF c5))) ?_
 refine kx (hF (nT (bF c5))) ?_
 refine kx (hF (nT (bF c5))) ?_
 refine kx (hF (nT (bF c5))) ?_
 refine kx (hF (nT (bF c5))) ?_
 refine kx (hF (nT (bF c5))) ?_
 refine kx (hF (nT (bF c5))) ?_
 refine kx (hF (nT (bF c5))) ?_
 refine kx (hF (nT (bF c5))) ?_
 refine kx (hF (nT (bF c5))) ?_
 refine kv g0 (pkT (nT (bF c5)))<|wk_end<|ac_next ?_
 refine aw_ifT ?_ rfl
 refine aw_grp1<|wk_start<|kv g0 (ldBA 5 [.lit (.int .i64 t1.1),.lit (.int .i64 t1.2.1),.row 2,.lit (.int .i64 t1.2.2.2.1),.lit (.int .i64 t1.2.2.2.2)])<|ks g0 (stB 5 [.lit (.int .i64 t1.1),.lit (.int .i64 t1.2.1),.row 2,.lit (.int .i64 t1.2.2.2.1),.lit (.int .i64 t1.2.2.2.2)])<|wk_end<|ac_next<|aw_ret<|ac_thenR ?_
 obtain rfl:=Option.some.inj H
 exact acr hE [.cell 4 65] (rcA 5 .nil) (.one _) [(0,2)] 9999
/-! impl_CalmWorld -/
mutual
def impl_CalmWorld.l0 : Nat→Int→Int→Int→(List (List (List S234)))→(List S67)→(List S65)→(List S139)→(List Int)→(List S154)→Int→(List Int)→(List S151)→Int→(List Int)→(List S59)→Option ((List (List (List S234))) × (List S67) × (List S65) × (List S139) × (List Int) × (List S154) × Int × (List Int) × (List S151) × Int × (List Int) × (List S59))
 | 0,_,_,_,_,_,_,_,_,_,_,_,_,_,_,_=>none
 | k237 + 1,a1,p148,p218,q225,q226,q227,q228,q229,q230,p231,q232,q233,p234,q235,q236=>(impl_World_drain.f k237 q225 q226 q227 q228 q229 q230 p231 q232 q233 p234 q235 q236 p218).bind fun t238=>if t238.1 = true then impl_CalmWorld.l0 k237 a1 p148 p218 t238.2.1 t238.2.2.1 t238.2.2.2.1 t238.2.2.2.2.1 t238.2.2.2.2.2.1 t238.2.2.2.2.2.2.1 t238.2.2.2.2.2.2.2.1 t238.2.2.2.2.2.2.2.2.1 t238.2.2.2.2.2.2.2.2.2.1 t238.2.2.2.2.2.2.2.2.2.2.1 t238.2.2.2.2.2.2.2.2.2.2.2.1 t238.2.2.2.2.2.2.2.2.2.2.2.2 else if 0 ≤ p218 then (if p218 < (t238.2.2.2.1.length : Int) then ((impl_Again.f k237 ((rd_T65 t238.2.2.2.1 p218).f0) ((rd_T65 t238.2.2.2.1 p218).f1) ((rd_T65 t238.2.2.2.1 p218).f2) ((rd_T65 t238.2.2.2.1 p218).f3) ((rd_T65 t238.2.2.2.1 p218).f4) t238.2.2.2.2.2.2.2.2.2.2.1).bind fun t245=>(impl_Says.f k237 t245.1 t245.2.1 t245.2.2.1 t245.2.2.2.1 t245.2.2.2.2.1).bind fun t247=>impl_CalmWorld.l1 k237 a1 p148 p218 t238 t245 t247 t238.2.2.2.2.1 t238.2.2.2.2.2.1 t238.2.2.2.2.2.2.1 t238.2.2.2.2.2.2.2.1 t238.2.2.2.2.2.2.2.2.1 0) else none) else none
def impl_CalmWorld.l1 : Nat→Int→Int→Int→(Bool × (List (List (List S234))) × (List S67) × (List S65) × (List S139) × (List Int) × (List S154) × Int × (List Int) × (List S151) × Int × (List Int) × (List S59))→(Int × Int × (List S63) × Int × Int × Bool)→((List S109))→(List S139)→(List Int)→(List S154)→Int→(List Int)→Int→Option ((List (List (List S234))) × (List S67) × (List S65) × (List S139) × (List Int) × (List S154) × Int × (List Int) × (List S151) × Int × (List Int) × (List S59))
 | 0,_,_,_,_,_,_,_,_,_,_,_,_=>none
 | k259 + 1,a1,p148,p218,t238,t245,t247,q253,q254,q255,p256,q257,p258=>if p258 < (t247.length : Int) then if 0 ≤ p258 then (impl_Kept.f k259 q253 q254 q255 p256 q257 ((rd_T109 t247 p258).f0) ((rd_T109 t247 p258).f1) ((rd_T109 t247 p258).f2) ((rd_T109 t247 p258).f3.f0) ((rd_T109 t247 p258).f3.f1) ((rd_T109 t247 p258).f3.f2) ((rd_T109 t247 p258).f3.f3)).bind fun t262=>impl_CalmWorld.l1 k259 a1 p148 p218 t238 t245 t247 t262.1 t262.2.1 t262.2.2.1 t262.2.2.2.1 t262.2.2.2.2.1 (wrap64 (p258 + 1)) else none else (impl_SaveKeeper.f q253 q254 q255 p256 q257).bind fun t266=>(impl_AckOf.f t266.1 t266.2.1 t266.2.2.1 t266.2.2.2.1 t266.2.2.2.2 p218).bind fun t268=>if t268.2.2.2.2.2.2.2 = true then (if p218 < ((t238.2.2.2.1.set p218.toNat (⟨t245.1,t245.2.1,t245.2.2.1,t245.2.2.2.1,t245.2.2.2.2.1⟩ : S65)).length : Int) then ((impl_Acked.f k259 ((rd_T65 (t238.2.2.2.1.set p218.toNat (⟨t245.1,t245.2.1,t245.2.2.1,t245.2.2.2.1,t245.2.2.2.2.1⟩ : S65)) p218).f0) ((rd_T65 (t238.2.2.2.1.set p218.toNat (⟨t245.1,t245.2.1,t245.2.2.1,t245.2.2.2.1,t245.2.2.2.2.1⟩ : S65)) p218).f1) ((rd_T65 (t238.2.2.2.1.set p218.toNat (⟨t245.1,t245.2.1,t245.2.2.1,t245.2.2.2.1,t245.2.2.2.2.1⟩ : S65)) p218).f2) ((rd_T65 (t238.2.2.2.1.set p218.toNat (⟨t245.1,t245.2.1,t245.2.2.1,t245.2.2.2.1,t245.2.2.2.2.1⟩ : S65)) p218).f3) ((rd_T65 (t238.2.2.2.1.set p218.toNat (⟨t245.1,t245.2.1,t245.2.2.1,t245.2.2.2.1,t245.2.2.2.2.1⟩ : S65)) p218).f4) t268.2.2.1).bind fun t272=>impl_CalmWorld.l2 k259 a1 p148 t238.2.1 t238.2.2.1 ((t238.2.2.2.1.set p218.toNat (⟨t245.1,t245.2.1,t245.2.2.1,t245.2.2.2.1,t245.2.2.2.2.1⟩ : S65)).set p218.toNat (⟨t272.1,t272.2.1,t272.2.2.1,t272.2.2.2.1,t272.2.2.2.2⟩ : S65)) t266.1 t266.2.1 t266.2.2.1 t266.2.2.2.1 t266.2.2.2.2 t238.2.2.2.2.2.2.2.2.2.1 t238.2.2.2.2.2.2.2.2.2.2.1 t238.2.2.2.2.2.2.2.2.2.2.2.1 t238.2.2.2.2.2.2.2.2.2.2.2.2 (wrap64 (p218 + 1))) else none) else impl_CalmWorld.l2 k259 a1 p148 t238.2.1 t238.2.2.1 (t238.2.2.2.1.set p218.toNat (⟨t245.1,t245.2.1,t245.2.2.1,t245.2.2.2.1,t245.2.2.2.2.1⟩ : S65)) t266.1 t266.2.1 t266.2.2.1 t266.2.2.2.1 t266.2.2.2.2 t238.2.2.2.2.2.2.2.2.2.1 t238.2.2.2.2.2.2.2.2.2.2.1 t238.2.2.2.2.2.2.2.2.2.2.2.1 t238.2.2.2.2.2.2.2.2.2.2.2.2 (wrap64 (p218 + 1))
def impl_CalmWorld.l2 : Nat→Int→Int→(List (List (List S234)))→(List S67)→(List S65)→(List S139)→(List Int)→(List S154)→Int→(List Int)→(List S151)→Int→(List Int)→(List S59)→Int→Option ((List (List (List S234))) × (List S67) × (List S65) × (List S139) × (List Int) × (List S154) × Int × (List Int) × (List S151) × Int × (List Int) × (List S59))
 | 0,_,_,_,_,_,_,_,_,_,_,_,_,_,_,_=>none
 | k219 + 1,a1,p148,q206,q207,q208,q209,q210,q211,p212,q213,q214,p215,q216,q217,p218=>if p218 < 3 then impl_CalmWorld.l0 k219 a1 p148 p218 q206 q207 q208 q209 q210 q211 p212 q213 q214 p215 q216 q217 else impl_CalmWorld.l3 k219 a1 q206 q207 q208 q209 q210 q211 p212 q213 q214 p215 q216 q217 (wrap64 (p148 + 1))
def impl_CalmWorld.l3 : Nat→Int→(List (List (List S234)))→(List S67)→(List S65)→(List S139)→(List Int)→(List S154)→Int→(List Int)→(List S151)→Int→(List Int)→(List S59)→Int→Option ((List (List (List S234))) × (List S67) × (List S65) × (List S139) × (List Int) × (List S154) × Int × (List Int) × (List S151) × Int × (List Int) × (List S59))
 | 0,_,_,_,_,_,_,_,_,_,_,_,_,_,_=>none
 | k149 + 1,a1,q136,q137,q138,q139,q140,q141,p142,q143,q144,p145,q146,q147,p148=>if p148 < (max 0 (min a1 40)) then (impl_World_later.f k149 q136 q137 q138 q139 q140 q141 p142 q143 q144 p145 q146 q147 5).bind fun t151=>impl_CalmWorld.l2 k149 a1 p148 t151.1 t151.2.1 t151.2.2.1 t151.2.2.2.1 t151.2.2.2.2.1 t151.2.2.2.2.2.1 t151.2.2.2.2.2.2.1 t151.2.2.2.2.2.2.2.1 t151.2.2.2.2.2.2.2.2.1 t151.2.2.2.2.2.2.2.2.2.1 t151.2.2.2.2.2.2.2.2.2.2.1 t151.2.2.2.2.2.2.2.2.2.2.2 0 else some (q136,q137,q138,q139,q140,q141,p142,q143,([] : List S151),p145,q146,q147)
end
def impl_CalmWorld.f (k : Nat) (l0_0 : List (List (List S234))) (l0_1 : List S67) (l0_2 : List S65) (l0_3 : List S139) (l0_4 : List Int) (l0_5 : List S154) (a0_6 : Int) (l0_7 : List Int) (l0_8 : List S151) (a0_9 : Int) (l0_10 : List Int) (l0_11 : List S59) (a1 : Int) : Option ((List (List (List S234))) × (List S67) × (List S65) × (List S139) × (List Int) × (List S154) × Int × (List Int) × (List S151) × Int × (List Int) × (List S59)):=(impl_copyWorld.f k l0_0 l0_1 l0_2 l0_3 l0_4 l0_5 a0_6 l0_7 l0_8 a0_9 l0_10 l0_11).bind fun t1=>(impl_within.f a0_9 0 100000).bind fun t3=>(if t3 = true then ((impl_World_hasPids.f l0_0 l0_1 l0_2 l0_3 l0_4 l0_5 a0_6 l0_7 l0_8 a0_9 l0_10 l0_11).bind fun t6=>if t6 = true then impl_CalmWorld.l3 k a1 t1.1 t1.2.1 t1.2.2.1 t1.2.2.2.1 t1.2.2.2.2.1 t1.2.2.2.2.2.1 t1.2.2.2.2.2.2.1 t1.2.2.2.2.2.2.2.1 t1.2.2.2.2.2.2.2.2.1 t1.2.2.2.2.2.2.2.2.2.1 t1.2.2.2.2.2.2.2.2.2.2.1 t1.2.2.2.2.2.2.2.2.2.2.2 0 else some (t1.1,t1.2.1,t1.2.2.1,t1.2.2.2.1,t1.2.2.2.2.1,t1.2.2.2.2.2.1,t1.2.2.2.2.2.2.1,t1.2.2.2.2.2.2.2.1,t1.2.2.2.2.2.2.2.2.1,t1.2.2.2.2.2.2.2.2.2.1,t1.2.2.2.2.2.2.2.2.2.2.1,t1.2.2.2.2.2.2.2.2.2.2.2)) else some (t1.1,t1.2.1,t1.2.2.1,t1.2.2.2.1,t1.2.2.2.2.1,t1.2.2.2.2.2.1,t1.2.2.2.2.2.2.1,t1.2.2.2.2.2.2.2.1,t1.2.2.2.2.2.2.2.2.1,t1.2.2.2.2.2.2.2.2.2.1,t1.2.2.2.2.2.2.2.2.2.2.1,t1.2.2.2.2.2.2.2.2.2.2.2))
theorem impl_CalmWorld.ok {k : Nat} {l0_0 : List (List (List S234))} {l0_1 : List S67} {l0_2 : List S65} {l0_3 : List S139} {l0_4 : List Int} {l0_5 : List S154} {a0_6 : Int} {l0_7 : List Int} {l0_8 : List S151} {a0_9 : Int} {l0_10 : List Int} {l0_11 : List S59} {a1 : Int} {r : (List (List (List S234))) × (List S67) × (List S65) × (List S139) × (List Int) × (List S154) × Int × (List Int) × (List S151) × Int × (List Int) × (List S59)} (H : impl_CalmWorld.f k l0_0 l0_1 l0_2 l0_3 l0_4 l0_5 a0_6 l0_7 l0_8 a0_9 l0_10 l0_11 a1 = some r) : ACalls Tryz.prog 11 [] [.agg [.sl .o 1 (l0_0.map (eL 1 (eL 4 (e234)))),.sl .o 4 (l0_1.map e67),.sl .o 5 (l0_2.map e65),.sl .o 6 (l0_3.map e139),.sl .o 1 (l0_4.map (eI .i64)),.sl .o 6 (l0_5.map e154),.lit (.int .i64 a0_6),.sl .o 1 (l0_7.map (eI .i64)),.sl .o 3 (l0_8.map e151),.lit (.int .i64 a0_9),.sl .o 1 (l0_10.map (eI .i64)),.sl .o 4 (l0_11.map e59)],.lit (.int .i64 a1)] [(0,.drow false [.own 147 [.own 234 []]] 145 1 (r.1.map (eL 1 (eL 4 (e234))))),(1,.drow false ds67 67 4 (r.2.1.map e67)),(2,.drow false ds65 65 5 (r.2.2.1.map e65)),(3,.row 139 6 (r.2.2.2.1.map e139)),(4,.row 3 1 (r.2.2.2.2.1.map (eI .i64))),(5,.row 154 6 (r.2.2.2.2.2.1.map e154)),(6,.row 3 1 (r.2.2.2.2.2.2.2.1.map (eI .i64))),(7,.row 151 3 (r.2.2.2.2.2.2.2.2.1.map e151)),(8,.row 3 1 (r.2.2.2.2.2.2.2.2.2.2.1.map (eI .i64))),(9,.row 59 4 (r.2.2.2.2.2.2.2.2.2.2.2.map e59))] (.agg [.row 0,.row 1,.row 2,.row 3,.row 4,.row 5,.lit (.int .i64 r.2.2.2.2.2.2.1),.row 6,.row 7,.lit (.int .i64 r.2.2.2.2.2.2.2.2.2.1),.row 8,.row 9]):=by
 refine acalls (fn:=Tryz.f11) (nt:=98) Tryz.func11 rfl rfl (Nat.le_of_ble_eq_true rfl) fun E hE=>?_
 rw [impl_CalmWorld.f] at H
 refine aw_grp1<|wk_start<|kb g0 (bxA 0)<|kb g0 (alc 1 [.slice none 0 0,.slice none 0 0,.slice none 0 0,.slice none 0 0,.slice none 0 0,.slice none 0 0,.int .i64 0,.slice none 0 0,.slice none 0 0,.int .i64 0,.slice none 0 0,.slice none 0 0] [.lit (.slice none 0 0),.lit (.slice none 0 0),.lit (.slice none 0 0),.lit (.slice none 0 0),.lit (.slice none 0 0),.lit (.slice none 0 0),.lit (.int .i64 0),.lit (.slice none 0 0),.lit (.slice none 0 0),.lit (.int .i64 0),.lit (.slice none 0 0),.lit (.slice none 0 0)])<|wk_end<|ac_next<|aw_grp1<|wk_start<|kv g0 (ldBA 12 [.sl .o 1 (l0_0.map (eL 1 (eL 4 e234))),.sl .o 4 (l0_1.map e67),.sl .o 5 (l0_2.map e65),.sl .o 6 (l0_3.map e139),.sl .o 1 (l0_4.map (eI .i64)),.sl .o 6 (l0_5.map e154),.lit (.int .i64 a0_6),.sl .o 1 (l0_7.map (eI .i64)),.sl .o 3 (l0_8.map e151),.lit (.int .i64 a0_9),.sl .o 1 (l0_10.map (eI .i64)),.sl .o 4 (l0_11.map e59)]) ?_
 obtain ⟨t1,A2,H⟩:=of_bind H
 refine kcS10 12 (.agg [.row 2,.row 3,.row 4,.row 5,.row 6,.row 7,.lit (.int .i64 t1.2.2.2.2.2.2.1),.row 8,.row 9,.lit (.int .i64 t1.2.2.2.2.2.2.2.2.2.1),.row 10,.row 11]) [(2,.drow false [.own 147 [.own 234 []]] 145 1 (t1.1.map (eL 1 (eL 4 e234)))),(3,.drow false ds67 67 4 (t1.2.1.map e67)),(4,.drow false ds65 65 5 (t1.2.2.1.map e65)),(5,.row 139 6 (t1.2.2.2.1.map e139)),(6,.row 3 1 (t1.2.2.2.2.1.map (eI .i64))),(7,.row 154 6 (t1.2.2.2.2.2.1.map e154)),(8,.row 3 1 (t1.2.2.2.2.2.2.2.1.map (eI .i64))),(9,.row 151 3 (t1.2.2.2.2.2.2.2.2.1.map e151)),(10,.row 3 1 (t1.2.2.2.2.2.2.2.2.2.2.1.map (eI .i64))),(11,.row 59 4 (t1.2.2.2.2.2.2.2.2.2.2.2.map e59))] g0 (cal (impl_copyWorld.ok A2) [2,3,4,5,6,7,8,9,10,11] 9999 .n (hf:=Tryz.func63)) rfl rfl<|kb g0 (alc 12 [.slice none 0 0,.slice none 0 0,.slice none 0 0,.slice none 0 0,.slice none 0 0,.slice none 0 0,.int .i64 0,.slice none 0 0,.slice none 0 0,.int .i64 0,.slice none 0 0,.slice none 0 0] [.lit (.slice none 0 0),.lit (.slice none 0 0),.lit (.slice none 0 0),.lit (.slice none 0 0),.lit (.slice none 0 0),.lit (.slice none 0 0),.lit (.int .i64 0),.lit (.slice none 0 0),.lit (.slice none 0 0),.lit (.int .i64 0),.lit (.slice none 0 0),.lit (.slice none 0 0)])<|ks g0 (stB 12 [.row 2,.row 3,.row 4,.row 5,.row 6,.row 7,.lit (.int .i64 t1.2.2.2.2.2.2.1),.row 8,.row 9,.lit (.int .i64 t1.2.2.2.2.2.2.2.2.2.1),.row 10,.row 11])<|wk_end<|ac_next<|aw_grp1<|aw_grp1<|wk_start<|kv g0 (faB 9 9)<|kv g0 ldB ?_
 obtain ⟨t3,A4,H⟩:=of_bind H
 refine kcS0 15 (.lit (.bool t3)) [] g0 (cal (impl_within.ok A4) [] 9999 .n (hf:=Tryz.func64)) rfl rfl<|kv g0 not_<|kv g0 mv ?_
 by_cases c5 : t3 = true
 ·rw [if_pos c5] at H
  refine kv (g1 (nF c5)) (ldBA 12 [.sl .o 1 (l0_0.map (eL 1 (eL 4 e234))),.sl .o 4 (l0_1.map e67),.sl .o 5 (l0_2.map e65),.sl .o 6 (l0_3.map e139),.sl .o 1 (l0_4.map (eI .i64)),.sl .o 6 (l0_5.map e154),.lit (.int .i64 a0_6),.sl .o 1 (l0_7.map (eI .i64)),.sl .o 3 (l0_8.map e151),.lit (.int .i64 a0_9),.sl .o 1 (l0_10.map (eI .i64)),.sl .o 4 (l0_11.map e59)]) ?_
  obtain ⟨t6,A7,H⟩:=of_bind H
  refine kcS0 19 (.lit (.bool t6)) [] (g1 (nF c5)) (cal (impl_World_hasPids.ok A7) [] 9999 .n (hf:=Tryz.func65)) rfl rfl<|kv (g1 (nF c5)) not_ ?_
  refine kv g0 (pkF (nF c5))<|wk_end<|ac_next ?_
  by_cases c8 : t6 = true
  ·rw [if_pos c8] at H
   refine aw_ifF ?_ (nF c8)
   refine aw_skip<|ac_next<|aw_grp1<|aw_grp1<|wk_start<|kv g0 mv<|kv g0 min_<|kv g0 max_<|kv g0 mv<|wk_end<|ac_next<|aw_block ?_
   refine aw_loop13 (fun (k_ : Nat) (q136 : List (List (List S234))) (q137 : List S67) (q138 : List S65) (q139 : List S139) (q140 : List Int) (q141 : List S154) (p142 : Int) (q143 : List Int) (q144 : List S151) (p145 : Int) (q146 : List Int) (q147 : List S59) (p148 : Int)=>k_ ≤ k∧impl_CalmWorld.l3 k_ a1 q136 q137 q138 q139 q140 q141 p142 q143 q144 p145 q146 q147 p148 = some r) (fun (q136 : List (List (List S234))) (q137 : List S67) (q138 : List S65) (q139 : List S139) (q140 : List Int) (q141 : List S154) (p142 : Int) (q143 : List Int) (q144 : List S151) (p145 : Int) (q146 : List Int) (q147 : List S59) (p148 : Int)=>⟨[(4,.box 1 0),(5,.box 12 0),(25,.lit (.int .i64 (max 0 (min a1 40)))),(26,.lit (.int .i64 p148))],[(1,.box 45 [.lit (.slice none 0 0),.lit (.slice none 0 0),.lit (.slice none 0 0),.lit (.slice none 0 0),.lit (.slice none 0 0),.lit (.slice none 0 0),.lit (.int .i64 0),.lit (.slice none 0 0),.lit (.slice none 0 0),.lit (.int .i64 0),.lit (.slice none 0 0),.lit (.slice none 0 0)]),(2,.drow false [.own 147 [.own 234 []]] 145 1 (q136.map (eL 1 (eL 4 (e234))))),(3,.drow false ds67 67 4 (q137.map e67)),(4,.drow false ds65 65 5 (q138.map e65)),(5,.row 139 6 (q139.map e139)),(6,.row 3 1 (q140.map (eI .i64))),(7,.row 154 6 (q141.map e154)),(8,.row 3 1 (q143.map (eI .i64))),(9,.row 151 3 (q144.map e151)),(10,.row 3 1 (q146.map (eI .i64))),(11,.row 59 4 (q147.map e59)),(12,.box 45 [.row 2,.row 3,.row 4,.row 5,.row 6,.row 7,.lit (.int .i64 p142),.row 8,.row 9,.lit (.int .i64 p145),.row 10,.row 11])]⟩) k t1.1 t1.2.1 t1.2.2.1 t1.2.2.2.1 t1.2.2.2.2.1 t1.2.2.2.2.2.1 t1.2.2.2.2.2.2.1 t1.2.2.2.2.2.2.2.1 t1.2.2.2.2.2.2.2.2.1 t1.2.2.2.2.2.2.2.2.2.1 t1.2.2.2.2.2.2.2.2.2.2.1 t1.2.2.2.2.2.2.2.2.2.2.2 0 ⟨Nat.le_refl _,H⟩ (fun K_ h_=>acw hE [(1,1),(2,2),(3,3),(4,4),(5,5),(6,6),(7,7),(8,8),(9,9),(10,10),(11,11),(12,12)] 9999 h_) (fun _ _ _ _ _ _ _ _ _ _ _ _ _=>by intro h_;have h_:=h_.2;rw [impl_CalmWorld.l3.eq_1] at h_;cases h_) ?_
   intro k149 q136 q137 q138 q139 q140 q141 p142 q143 q144 p145 q146 q147 p148 hq_ K276 hK277
   have hk149:=hq_.1
   have H:=hq_.2
   clear hq_
   rw [impl_CalmWorld.l3.eq_2] at H
   refine aw_grp1<|wk_start<|kv g0 lss<|wk_end<|ac_next<|aw_grp1 ?_
   by_cases c150 : p148 < (max 0 (min a1 40))
   ·rw [if_pos c150] at H
    refine aw_ifT ?_ (decide_eq_true c150)
    refine aw_skip<|ac_next<|aw_grp1<|aw_block<|aw_grp1<|wk_start ?_
    obtain ⟨t151,A152,H⟩:=of_bind H
    refine kcS11 28 (.tup []) [(12,.box 45 [.row 2,.row 3,.row 4,.row 5,.row 6,.row 7,.lit (.int .i64 t151.2.2.2.2.2.2.1),.row 8,.row 9,.lit (.int .i64 t151.2.2.2.2.2.2.2.2.2.1),.row 10,.row 11]),(2,.drow false [.own 147 [.own 234 []]] 145 1 (t151.1.map (eL 1 (eL 4 e234)))),(3,.drow false ds67 67 4 (t151.2.1.map e67)),(4,.drow false ds65 65 5 (t151.2.2.1.map e65)),(5,.row 139 6 (t151.2.2.2.1.map e139)),(6,.row 3 1 (t151.2.2.2.2.1.map (eI .i64))),(7,.row 154 6 (t151.2.2.2.2.2.1.map e154)),(8,.row 3 1 (t151.2.2.2.2.2.2.2.1.map (eI .i64))),(9,.row 151 3 (t151.2.2.2.2.2.2.2.2.1.map e151)),(10,.row 3 1 (t151.2.2.2.2.2.2.2.2.2.2.1.map (eI .i64))),(11,.row 59 4 (t151.2.2.2.2.2.2.2.2.2.2.2.map e59))] g0 (cal (impl_World_later.ok A152) [12,2,3,4,5,6,7,8,9,10,11] 9999 .n (hf:=Tryz.func66)) rfl rfl<|wk_end<|ac_next<|aw_grp1<|wk_start<|kv g0 mv<|wk_end<|ac_next<|aw_block ?_
    refine aw_loop13 (fun (k_ : Nat) (q206 : List (List (List S234))) (q207 : List S67) (q208 : List S65) (q209 : List S139) (q210 : List Int) (q211 : List S154) (p212 : Int) (q213 : List Int) (q214 : List S151) (p215 : Int) (q216 : List Int) (q217 : List S59) (p218 : Int)=>k_ ≤ k149∧impl_CalmWorld.l2 k_ a1 p148 q206 q207 q208 q209 q210 q211 p212 q213 q214 p215 q216 q217 p218 = some r) (fun (q206 : List (List (List S234))) (q207 : List S67) (q208 : List S65) (q209 : List S139) (q210 : List Int) (q211 : List S154) (p212 : Int) (q213 : List Int) (q214 : List S151) (p215 : Int) (q216 : List Int) (q217 : List S59) (p218 : Int)=>⟨[(4,.box 1 0),(5,.box 12 0),(25,.lit (.int .i64 (max 0 (min a1 40)))),(26,.lit (.int .i64 p148)),(29,.lit (.int .i64 p218))],[(1,.box 45 [.lit (.slice none 0 0),.lit (.slice none 0 0),.lit (.slice none 0 0),.lit (.slice none 0 0),.lit (.slice none 0 0),.lit (.slice none 0 0),.lit (.int .i64 0),.lit (.slice none 0 0),.lit (.slice none 0 0),.lit (.int .i64 0),.lit (.slice none 0 0),.lit (.slice none 0 0)]),(2,.drow false [.own 147 [.own 234 []]] 145 1 (q206.map (eL 1 (eL 4 (e234))))),(3,.drow false ds67 67 4 (q207.map e67)),(4,.drow false ds65 65 5 (q208.map e65)),(5,.row 139 6 (q209.map e139)),(6,.row 3 1 (q210.map (eI .i64))),(7,.row 154 6 (q211.map e154)),(8,.row 3 1 (q213.map (eI .i64))),(9,.row 151 3 (q214.map e151)),(10,.row 3 1 (q216.map (eI .i64))),(11,.row 59 4 (q217.map e59)),(12,.box 45 [.row 2,.row 3,.row 4,.row 5,.row 6,.row 7,.lit (.int .i64 p212),.row 8,.row 9,.lit (.int .i64 p215),.row 10,.row 11])]⟩) k149 t151.1 t151.2.1 t151.2.2.1 t151.2.2.2.1 t151.2.2.2.2.1 t151.2.2.2.2.2.1 t151.2.2.2.2.2.2.1 t151.2.2.2.2.2.2.2.1 t151.2.2.2.2.2.2.2.2.1 t151.2.2.2.2.2.2.2.2.2.1 t151.2.2.2.2.2.2.2.2.2.2.1 t151.2.2.2.2.2.2.2.2.2.2.2 0 ⟨Nat.le_refl _,H⟩ (fun K_ h_=>acw hE [(1,1),(2,2),(3,3),(4,4),(5,5),(6,6),(7,7),(8,8),(9,9),(10,10),(11,11),(12,12)] 9999 h_) (fun _ _ _ _ _ _ _ _ _ _ _ _ _=>by intro h_;have h_:=h_.2;rw [impl_CalmWorld.l2.eq_1] at h_;cases h_) ?_
    intro k219 q206 q207 q208 q209 q210 q211 p212 q213 q214 p215 q216 q217 p218 hq_ K274 hK275
    have hk219:=hq_.1
    have H:=hq_.2
    clear hq_
    rw [impl_CalmWorld.l2.eq_2] at H
    refine aw_grp1<|wk_start<|kv g0 lss<|wk_end<|ac_next<|aw_grp1 ?_
    by_cases c220 : p218 < 3
    ·rw [if_pos c220] at H
     refine aw_ifT ?_ (decide_eq_true c220)
     refine aw_skip<|ac_next<|aw_grp1<|aw_block<|aw_grp1<|wk_start<|kv g0 mv<|kv g0 asg<|wk_end<|ac_next<|aw_grp1<|aw_block ?_
     refine aw_loop12 (fun (k_ : Nat) (q225 : List (List (List S234))) (q226 : List S67) (q227 : List S65) (q228 : List S139) (q229 : List Int) (q230 : List S154) (p231 : Int) (q232 : List Int) (q233 : List S151) (p234 : Int) (q235 : List Int) (q236 : List S59)=>k_ ≤ k219∧impl_CalmWorld.l0 k_ a1 p148 p218 q225 q226 q227 q228 q229 q230 p231 q232 q233 p234 q235 q236 = some r) (fun (q225 : List (List (List S234))) (q226 : List S67) (q227 : List S65) (q228 : List S139) (q229 : List Int) (q230 : List S154) (p231 : Int) (q232 : List Int) (q233 : List S151) (p234 : Int) (q235 : List Int) (q236 : List S59)=>⟨[(4,.box 1 0),(5,.box 12 0),(6,.lit (.int .i64 p218)),(25,.lit (.int .i64 (max 0 (min a1 40)))),(26,.lit (.int .i64 p148)),(29,.lit (.int .i64 p218))],[(1,.box 45 [.lit (.slice none 0 0),.lit (.slice none 0 0),.lit (.slice none 0 0),.lit (.slice none 0 0),.lit (.slice none 0 0),.lit (.slice none 0 0),.lit (.int .i64 0),.lit (.slice none 0 0),.lit (.slice none 0 0),.lit (.int .i64 0),.lit (.slice none 0 0),.lit (.slice none 0 0)]),(2,.drow false [.own 147 [.own 234 []]] 145 1 (q225.map (eL 1 (eL 4 (e234))))),(3,.drow false ds67 67 4 (q226.map e67)),(4,.drow false ds65 65 5 (q227.map e65)),(5,.row 139 6 (q228.map e139)),(6,.row 3 1 (q229.map (eI .i64))),(7,.row 154 6 (q230.map e154)),(8,.row 3 1 (q232.map (eI .i64))),(9,.row 151 3 (q233.map e151)),(10,.row 3 1 (q235.map (eI .i64))),(11,.row 59 4 (q236.map e59)),(12,.box 45 [.row 2,.row 3,.row 4,.row 5,.row 6,.row 7,.lit (.int .i64 p231),.row 8,.row 9,.lit (.int .i64 p234),.row 10,.row 11])]⟩) k219 q206 q207 q208 q209 q210 q211 p212 q213 q214 p215 q216 q217 ⟨Nat.le_refl _,H⟩ (fun K_ h_=>acw hE [(1,1),(2,2),(3,3),(4,4),(5,5),(6,6),(7,7),(8,8),(9,9),(10,10),(11,11),(12,12)] 9999 h_) (fun _ _ _ _ _ _ _ _ _ _ _ _=>by intro h_;have h_:=h_.2;rw [impl_CalmWorld.l0.eq_1] at h_;cases h_) ?_
     intro k237 q225 q226 q227 q228 q229 q230 p231 q232 q233 p234 q235 q236 hq_ K241 hK242
     have hk237:=hq_.1
     have H:=hq_.2
     clear hq_
     rw [impl_CalmWorld.l0.eq_2] at H
     refine aw_grp1<|aw_grp1<|wk_start<|kv g0 mv ?_
     obtain ⟨t238,A239,H⟩:=of_bind H
     refine kcS11 33 (.lit (.bool t238.1)) [(12,.box 45 [.row 2,.row 3,.row 4,.row 5,.row 6,.row 7,.lit (.int .i64 t238.2.2.2.2.2.2.2.1),.row 8,.row 9,.lit (.int .i64 t238.2.2.2.2.2.2.2.2.2.2.1),.row 10,.row 11]),(2,.drow false [.own 147 [.own 234 []]] 145 1 (t238.2.1.map (eL 1 (eL 4 e234)))),(3,.drow false ds67 67 4 (t238.2.2.1.map e67)),(4,.drow false ds65 65 5 (t238.2.2.2.1.map e65)),(5,.row 139 6 (t238.2.2.2.2.1.map e139)),(6,.row 3 1 (t238.2.2.2.2.2.1.map (eI .i64))),(7,.row 154 6 (t238.2.2.2.2.2.2.1.map e154)),(8,.row 3 1 (t238.2.2.2.2.2.2.2.2.1.map (eI .i64))),(9,.row 151 3 (t238.2.2.2.2.2.2.2.2.2.1.map e151)),(10,.row 3 1 (t238.2.2.2.2.2.2.2.2.2.2.2.1.map (eI .i64))),(11,.row 59 4 (t238.2.2.2.2.2.2.2.2.2.2.2.2.map e59))] g0 (cal (impl_World_drain.ok A239) [12,2,3,4,5,6,7,8,9,10,11] 9999 .n (hf:=Tryz.func67)) rfl rfl<|wk_end<|ac_next ?_
     by_cases c240 : t238.1 = true
     ·rw [if_pos c240] at H
      refine aw_ifT ?_ c240
      refine aw_skip<|ac_next<|aw_block<|aw_skip<|ac_blkN<|ac_k ?_
      exact acw hE [(1,1),(2,2),(3,3),(4,4),(5,5),(6,6),(7,7),(8,8),(9,9),(10,10),(11,11),(12,12)] 9999 (hK242 k237 t238.2.1 t238.2.2.1 t238.2.2.2.1 t238.2.2.2.2.1 t238.2.2.2.2.2.1 t238.2.2.2.2.2.2.1 t238.2.2.2.2.2.2.2.1 t238.2.2.2.2.2.2.2.2.1 t238.2.2.2.2.2.2.2.2.2.1 t238.2.2.2.2.2.2.2.2.2.2.1 t238.2.2.2.2.2.2.2.2.2.2.2.1 t238.2.2.2.2.2.2.2.2.2.2.2.2 (Nat.le_refl _) ⟨by omega,H⟩)
     rw [if_neg c240] at H
     refine aw_ifF ?_ (bF c240)
     refine aw_exit<|ac_then<|ac_then<|ac_hit rfl<|ac_next<|aw_grp1<|wk_start<|kv g0 (faB 2 2)<|kv g0 ldB<|kv g0 mv<|kv g0 (faB 2 2)<|kv g0 ldB<|kv g0 mv ?_
     obtain ⟨c243,H⟩:=of_if H
     obtain ⟨c244,H⟩:=of_if H
     refine kv g0 (ixD 65 c243 (ltE c244))<|kcS2 42 (.agg [.lit (.int .i64 ((rd_T65 t238.2.2.2.1 p218).f0)),.lit (.int .i64 ((rd_T65 t238.2.2.2.1 p218).f1)),.row 13,.lit (.int .i64 ((rd_T65 t238.2.2.2.1 p218).f3)),.lit (.int .i64 ((rd_T65 t238.2.2.2.1 p218).f4))]) [(4,.drow true ds65 65 5 ((t238.2.2.2.1.map e65).set p218.toNat (.agg [.lit (.int .i64 ((rd_T65 t238.2.2.2.1 p218).f0)),.lit (.int .i64 ((rd_T65 t238.2.2.2.1 p218).f1)),.row 13,.lit (.int .i64 ((rd_T65 t238.2.2.2.1 p218).f3)),.lit (.int .i64 ((rd_T65 t238.2.2.2.1 p218).f4))]))),(13,.row 63 4 (((rd_T65 t238.2.2.2.1 p218).f2).map e63))] g0 (okv_gh (tk 4 13 2 (.agg [.lit (.int .i64 ((rd_T65 t238.2.2.2.1 p218).f0)),.lit (.int .i64 ((rd_T65 t238.2.2.2.1 p218).f1)),.row 13,.lit (.int .i64 ((rd_T65 t238.2.2.2.1 p218).f3)),.lit (.int .i64 ((rd_T65 t238.2.2.2.1 p218).f4))]) (getE (f:=e65) (z:=z65) c243 c244) rfl rfl) (ldDA 5 [.lit (.int .i64 ((rd_T65 t238.2.2.2.1 p218).f0)),.lit (.int .i64 ((rd_T65 t238.2.2.2.1 p218).f1)),.row 13,.lit (.int .i64 ((rd_T65 t238.2.2.2.1 p218).f3)),.lit (.int .i64 ((rd_T65 t238.2.2.2.1 p218).f4))] (setXG (f:=e65) (X:=.agg [.lit (.int .i64 ((rd_T65 t238.2.2.2.1 p218).f0)),.lit (.int .i64 ((rd_T65 t238.2.2.2.1 p218).f1)),.row 13,.lit (.int .i64 ((rd_T65 t238.2.2.2.1 p218).f3)),.lit (.int .i64 ((rd_T65 t238.2.2.2.1 p218).f4))]) c243 c244) rfl)).owp rfl rfl<|kv g0 (faB 9 9)<|kv g0 ldB ?_
     obtain ⟨t245,A246,H⟩:=of_bind H
     refine kcS1 45 (.tup [.agg [.lit (.int .i64 t245.1),.lit (.int .i64 t245.2.1),.row 14,.lit (.int .i64 t245.2.2.2.1),.lit (.int .i64 t245.2.2.2.2.1)],.lit (.bool t245.2.2.2.2.2)]) [(14,.row 63 4 (t245.2.2.1.map e63))] g0 (cal (impl_Again.ok A246) [14] 9999 .n (hf:=Tryz.func68)) rfl rfl<|kv g0 mv<|kv g0 ext<|kv g0 ext<|kv g0 (ixD 65 c243 (ltS (ltE c244)))<|ks g0 (stD 5 ds65 0 5 [.lit (.int .i64 t245.1),.lit (.int .i64 t245.2.1),.row 14,.lit (.int .i64 t245.2.2.2.1),.lit (.int .i64 t245.2.2.2.2.1)] (.agg [.lit (.int .i64 t245.1),.lit (.int .i64 t245.2.1),.row 14,.lit (.int .i64 t245.2.2.2.1),.lit (.int .i64 t245.2.2.2.2.1)]) (setXG (f:=e65) (X:=.agg [.lit (.int .i64 ((rd_T65 t238.2.2.2.1 p218).f0)),.lit (.int .i64 ((rd_T65 t238.2.2.2.1 p218).f1)),.row 13,.lit (.int .i64 ((rd_T65 t238.2.2.2.1 p218).f3)),.lit (.int .i64 ((rd_T65 t238.2.2.2.1 p218).f4))]) c243 c244) setXX)<|wk_end_draw hM (by kernel_rfl)<|ac_next<|aw_grp1<|aw_grp1<|wk_start<|kv g0 (faB 2 2)<|kv g0 ldB<|kv g0 mv<|kv g0 (ixD 65 c243 (ltS (ltE c244)))<|kv g0 (ldDA 5 [.lit (.int .i64 t245.1),.lit (.int .i64 t245.2.1),.row 14,.lit (.int .i64 t245.2.2.2.1),.lit (.int .i64 t245.2.2.2.2.1)] (setXG (f:=e65) (X:=.agg [.lit (.int .i64 t245.1),.lit (.int .i64 t245.2.1),.row 14,.lit (.int .i64 t245.2.2.2.1),.lit (.int .i64 t245.2.2.2.2.1)]) c243 c244) rfl) ?_
     obtain ⟨t247,A248,H⟩:=of_bind H
     refine kcS1 54 (.row 15) [(15,.row 109 7 (t247.map e109))] g0 (cal (impl_Says.ok A248) [15] 9999 .n (hf:=Tryz.func69)) rfl rfl<|kv g0 (lnR lenE)<|kv g0 mv<|wk_end<|ac_next<|aw_block<|ac_g2 (pk 4 14 2 (.agg [.lit (.int .i64 t245.1),.lit (.int .i64 t245.2.1),.sl .n 4 (t245.2.2.1.map e63),.lit (.int .i64 t245.2.2.2.1),.lit (.int .i64 t245.2.2.2.2.1)]) (setXG (f:=e65) (X:=.agg [.lit (.int .i64 t245.1),.lit (.int .i64 t245.2.1),.row 14,.lit (.int .i64 t245.2.2.2.1),.lit (.int .i64 t245.2.2.2.2.1)]) c243 c244) setXX rfl)<|ac_g1 (sealD 4 (setSeal (f:=e65) p218.toNat (⟨t245.1,t245.2.1,t245.2.2.1,t245.2.2.2.1,t245.2.2.2.2.1⟩ : S65)) cl65) ?_
     refine aw_loop6 (fun (k_ : Nat) (q253 : List S139) (q254 : List Int) (q255 : List S154) (p256 : Int) (q257 : List Int) (p258 : Int)=>k_ ≤ k237∧impl_CalmWorld.l1 k_ a1 p148 p218 t238 t245 t247 q253 q254 q255 p256 q257 p258 = some r) (fun (q253 : List S139) (q254 : List Int) (q255 : List S154) (p256 : Int) (q257 : List Int) (p258 : Int)=>⟨[(4,.box 1 0),(5,.box 12 0),(6,.lit (.int .i64 p218)),(25,.lit (.int .i64 (max 0 (min a1 40)))),(26,.lit (.int .i64 p148)),(29,.lit (.int .i64 p218)),(54,.row 15),(55,.lit (.int .i64 (t247.length : Int))),(56,.lit (.int .i64 p258))],[(1,.box 45 [.lit (.slice none 0 0),.lit (.slice none 0 0),.lit (.slice none 0 0),.lit (.slice none 0 0),.lit (.slice none 0 0),.lit (.slice none 0 0),.lit (.int .i64 0),.lit (.slice none 0 0),.lit (.slice none 0 0),.lit (.int .i64 0),.lit (.slice none 0 0),.lit (.slice none 0 0)]),(2,.drow false [.own 147 [.own 234 []]] 145 1 (t238.2.1.map (eL 1 (eL 4 (e234))))),(3,.drow false ds67 67 4 (t238.2.2.1.map e67)),(4,.drow false ds65 65 5 ((t238.2.2.2.1.set p218.toNat (⟨t245.1,t245.2.1,t245.2.2.1,t245.2.2.2.1,t245.2.2.2.2.1⟩ : S65)).map e65)),(5,.row 139 6 (q253.map e139)),(6,.row 3 1 (q254.map (eI .i64))),(7,.row 154 6 (q255.map e154)),(8,.row 3 1 (q257.map (eI .i64))),(9,.row 151 3 (t238.2.2.2.2.2.2.2.2.2.1.map e151)),(10,.row 3 1 (t238.2.2.2.2.2.2.2.2.2.2.2.1.map (eI .i64))),(11,.row 59 4 (t238.2.2.2.2.2.2.2.2.2.2.2.2.map e59)),(12,.box 45 [.row 2,.row 3,.row 4,.row 5,.row 6,.row 7,.lit (.int .i64 p256),.row 8,.row 9,.lit (.int .i64 t238.2.2.2.2.2.2.2.2.2.2.1),.row 10,.row 11]),(15,.row 109 7 (t247.map e109))]⟩) k237 t238.2.2.2.2.1 t238.2.2.2.2.2.1 t238.2.2.2.2.2.2.1 t238.2.2.2.2.2.2.2.1 t238.2.2.2.2.2.2.2.2.1 0 ⟨Nat.le_refl _,H⟩ (fun K_ h_=>acw hE [(1,1),(2,2),(3,3),(4,4),(5,5),(6,6),(7,7),(8,8),(9,9),(10,10),(11,11),(12,12),(15,15)] 9999 h_) (fun _ _ _ _ _ _=>by intro h_;have h_:=h_.2;rw [impl_CalmWorld.l1.eq_1] at h_;cases h_) ?_
     intro k259 q253 q254 q255 p256 q257 p258 hq_ K264 hK265
     have hk259:=hq_.1
     have H:=hq_.2
     clear hq_
     rw [impl_CalmWorld.l1.eq_2] at H
     refine aw_grp1<|wk_start<|kv g0 lss<|wk_end<|ac_next<|aw_grp1 ?_
     by_cases c260 : p258 < (t247.length : Int)
     ·rw [if_pos c260] at H
      refine aw_ifT ?_ (decide_eq_true c260)
      refine aw_skip<|ac_next<|aw_grp1<|aw_block<|aw_grp1<|wk_start ?_
      obtain ⟨c261,H⟩:=of_if H
      refine kv g0 (ixR 109 c261 (ltE c260))<|kv g0 (ldEA 7 (e109 (rd_T109 t247 p258)) [.lit (.int .i64 ((rd_T109 t247 p258).f0)),.lit (.int .i64 ((rd_T109 t247 p258).f1)),.lit (.int .i64 ((rd_T109 t247 p258).f2)),.lit (.int .i64 ((rd_T109 t247 p258).f3.f0)),.lit (.int .i64 ((rd_T109 t247 p258).f3.f1)),.lit (.int .i64 ((rd_T109 t247 p258).f3.f2)),.lit (.int .i64 ((rd_T109 t247 p258).f3.f3))] (getE (z:=z109) c261 c260))<|kb g0 (alc 16 [.int .i64 0,.int .i64 0,.int .i64 0,.int .i64 0,.int .i64 0,.int .i64 0,.int .i64 0] [.lit (.int .i64 0),.lit (.int .i64 0),.lit (.int .i64 0),.lit (.int .i64 0),.lit (.int .i64 0),.lit (.int .i64 0),.lit (.int .i64 0)])<|ks g0 (stB 7 [.lit (.int .i64 ((rd_T109 t247 p258).f0)),.lit (.int .i64 ((rd_T109 t247 p258).f1)),.lit (.int .i64 ((rd_T109 t247 p258).f2)),.lit (.int .i64 ((rd_T109 t247 p258).f3.f0)),.lit (.int .i64 ((rd_T109 t247 p258).f3.f1)),.lit (.int .i64 ((rd_T109 t247 p258).f3.f2)),.lit (.int .i64 ((rd_T109 t247 p258).f3.f3))])<|wk_end<|ac_next<|wk_start<|kv g0 (faB 3 3)<|kv g0 (ldBA 5 [.row 5,.row 6,.row 7,.lit (.int .i64 p256),.row 8])<|kv g0 (ldBA 7 [.lit (.int .i64 ((rd_T109 t247 p258).f0)),.lit (.int .i64 ((rd_T109 t247 p258).f1)),.lit (.int .i64 ((rd_T109 t247 p258).f2)),.lit (.int .i64 ((rd_T109 t247 p258).f3.f0)),.lit (.int .i64 ((rd_T109 t247 p258).f3.f1)),.lit (.int .i64 ((rd_T109 t247 p258).f3.f2)),.lit (.int .i64 ((rd_T109 t247 p258).f3.f3))]) ?_
      obtain ⟨t262,A263,H⟩:=of_bind H
      refine kcS4 64 (.tup [.agg [.row 17,.row 18,.row 19,.lit (.int .i64 t262.2.2.2.1),.row 20],.lit (.bool t262.2.2.2.2.2)]) [(17,.row 139 6 (t262.1.map e139)),(18,.row 3 1 (t262.2.1.map (eI .i64))),(19,.row 154 6 (t262.2.2.1.map e154)),(20,.row 3 1 (t262.2.2.2.2.1.map (eI .i64)))] g0 (cal (impl_Kept.ok A263) [17,18,19,20] 9999 .n (hf:=Tryz.func70)) rfl rfl<|kv g0 mv<|kv g0 ext<|kv g0 ext<|kv g0 (faB 3 3)<|ks g0 (stB 5 [.row 2,.row 3,.row 4,.row 17,.row 18,.row 19,.lit (.int .i64 t262.2.2.2.1),.row 20,.row 9,.lit (.int .i64 t238.2.2.2.2.2.2.2.2.2.2.1),.row 10,.row 11])<|wk_end<|ac_blkN<|ac_next<|wk_start<|kv g0 add6<|kv g0 mv<|wk_end<|ac_k ?_
      exact acw hE [(1,1),(2,2),(3,3),(4,4),(5,17),(6,18),(7,19),(8,20),(9,9),(10,10),(11,11),(12,12),(15,15)] 9999 (hK265 k259 t262.1 t262.2.1 t262.2.2.1 t262.2.2.2.1 t262.2.2.2.2.1 (wrap64 (p258 + 1)) (Nat.le_refl _) ⟨by omega,H⟩)
     rw [if_neg c260] at H
     refine aw_ifF ?_ (decide_eq_false c260)
     refine aw_exit<|ac_then<|ac_then<|ac_hit rfl<|ac_next<|aw_grp1<|wk_start<|kv g0 (faB 3 3)<|kv g0 (ldBA 5 [.row 5,.row 6,.row 7,.lit (.int .i64 p256),.row 8]) ?_
     obtain ⟨t266,A267,H⟩:=of_bind H
     refine kcS4 71 (.agg [.row 21,.row 22,.row 23,.lit (.int .i64 t266.2.2.2.1),.row 24]) [(21,.row 139 6 (t266.1.map e139)),(22,.row 3 1 (t266.2.1.map (eI .i64))),(23,.row 154 6 (t266.2.2.1.map e154)),(24,.row 3 1 (t266.2.2.2.2.map (eI .i64)))] g0 (cal (impl_SaveKeeper.ok A267) [21,22,23,24] 9999 .n (hf:=Tryz.func71)) rfl rfl<|kv g0 (faB 3 3)<|ks g0 (stB 5 [.row 2,.row 3,.row 4,.row 21,.row 22,.row 23,.lit (.int .i64 t266.2.2.2.1),.row 24,.row 9,.lit (.int .i64 t238.2.2.2.2.2.2.2.2.2.2.1),.row 10,.row 11])<|wk_end<|ac_next<|aw_grp1<|wk_start<|kv g0 (faB 3 3)<|kv g0 (ldBA 5 [.row 21,.row 22,.row 23,.lit (.int .i64 t266.2.2.2.1),.row 24])<|kv g0 mv ?_
     obtain ⟨t268,A269,H⟩:=of_bind H
     refine kcS0 77 (.tup [.agg [.lit (.int .i64 t268.1),.lit (.int .i64 t268.2.1),.lit (.int .i64 t268.2.2.1),.lit (.int .i64 t268.2.2.2.1),.lit (.int .i64 t268.2.2.2.2.1),.lit (.int .i64 t268.2.2.2.2.2.1),.lit (.int .i64 t268.2.2.2.2.2.2.1)],.lit (.bool t268.2.2.2.2.2.2.2)]) [] g0 (cal (impl_AckOf.ok A269) [] 9999 .n (hf:=Tryz.func72)) rfl rfl<|kv g0 mv<|kv g0 ext<|kv g0 ext<|kb g0 (alc 25 [.int .i64 0,.int .i64 0,.int .i64 0,.int .i64 0,.int .i64 0,.int .i64 0,.int .i64 0] [.lit (.int .i64 0),.lit (.int .i64 0),.lit (.int .i64 0),.lit (.int .i64 0),.lit (.int .i64 0),.lit (.int .i64 0),.lit (.int .i64 0)])<|ks g0 (stB 7 [.lit (.int .i64 t268.1),.lit (.int .i64 t268.2.1),.lit (.int .i64 t268.2.2.1),.lit (.int .i64 t268.2.2.2.1),.lit (.int .i64 t268.2.2.2.2.1),.lit (.int .i64 t268.2.2.2.2.2.1),.lit (.int .i64 t268.2.2.2.2.2.2.1)])<|kv g0 asg<|wk_end<|ac_next<|aw_grp1<|wk_start<|kv g0 mv<|wk_end<|ac_next ?_
     by_cases c270 : t268.2.2.2.2.2.2.2 = true
     ·rw [if_pos c270] at H
      refine aw_ifT ?_ c270
      refine wk_start<|kv g0 (faB 2 2)<|kv g0 ldB<|kv g0 mv<|kv g0 (faB 2 2)<|kv g0 ldB<|kv g0 mv ?_
      obtain ⟨c271,H⟩:=of_if H
      refine kv g0 (ixD 65 c243 (ltE c271))<|kcS2 88 (.agg [.lit (.int .i64 ((rd_T65 (t238.2.2.2.1.set p218.toNat (⟨t245.1,t245.2.1,t245.2.2.1,t245.2.2.2.1,t245.2.2.2.2.1⟩ : S65)) p218).f0)),.lit (.int .i64 ((rd_T65 (t238.2.2.2.1.set p218.toNat (⟨t245.1,t245.2.1,t245.2.2.1,t245.2.2.2.1,t245.2.2.2.2.1⟩ : S65)) p218).f1)),.row 26,.lit (.int .i64 ((rd_T65 (t238.2.2.2.1.set p218.toNat (⟨t245.1,t245.2.1,t245.2.2.1,t245.2.2.2.1,t245.2.2.2.2.1⟩ : S65)) p218).f3)),.lit (.int .i64 ((rd_T65 (t238.2.2.2.1.set p218.toNat (⟨t245.1,t245.2.1,t245.2.2.1,t245.2.2.2.1,t245.2.2.2.2.1⟩ : S65)) p218).f4))]) [(4,.drow true ds65 65 5 (((t238.2.2.2.1.set p218.toNat (⟨t245.1,t245.2.1,t245.2.2.1,t245.2.2.2.1,t245.2.2.2.2.1⟩ : S65)).map e65).set p218.toNat (.agg [.lit (.int .i64 ((rd_T65 (t238.2.2.2.1.set p218.toNat (⟨t245.1,t245.2.1,t245.2.2.1,t245.2.2.2.1,t245.2.2.2.2.1⟩ : S65)) p218).f0)),.lit (.int .i64 ((rd_T65 (t238.2.2.2.1.set p218.toNat (⟨t245.1,t245.2.1,t245.2.2.1,t245.2.2.2.1,t245.2.2.2.2.1⟩ : S65)) p218).f1)),.row 26,.lit (.int .i64 ((rd_T65 (t238.2.2.2.1.set p218.toNat (⟨t245.1,t245.2.1,t245.2.2.1,t245.2.2.2.1,t245.2.2.2.2.1⟩ : S65)) p218).f3)),.lit (.int .i64 ((rd_T65 (t238.2.2.2.1.set p218.toNat (⟨t245.1,t245.2.1,t245.2.2.1,t245.2.2.2.1,t245.2.2.2.2.1⟩ : S65)) p218).f4))]))),(26,.row 63 4 (((rd_T65 (t238.2.2.2.1.set p218.toNat (⟨t245.1,t245.2.1,t245.2.2.1,t245.2.2.2.1,t245.2.2.2.2.1⟩ : S65)) p218).f2).map e63))] g0 (okv_gh (tk 4 26 2 (.agg [.lit (.int .i64 ((rd_T65 (t238.2.2.2.1.set p218.toNat (⟨t245.1,t245.2.1,t245.2.2.1,t245.2.2.2.1,t245.2.2.2.2.1⟩ : S65)) p218).f0)),.lit (.int .i64 ((rd_T65 (t238.2.2.2.1.set p218.toNat (⟨t245.1,t245.2.1,t245.2.2.1,t245.2.2.2.1,t245.2.2.2.2.1⟩ : S65)) p218).f1)),.row 26,.lit (.int .i64 ((rd_T65 (t238.2.2.2.1.set p218.toNat (⟨t245.1,t245.2.1,t245.2.2.1,t245.2.2.2.1,t245.2.2.2.2.1⟩ : S65)) p218).f3)),.lit (.int .i64 ((rd_T65 (t238.2.2.2.1.set p218.toNat (⟨t245.1,t245.2.1,t245.2.2.1,t245.2.2.2.1,t245.2.2.2.2.1⟩ : S65)) p218).f4))]) (getE (f:=e65) (z:=z65) c243 c271) rfl rfl) (ldDA 5 [.lit (.int .i64 ((rd_T65 (t238.2.2.2.1.set p218.toNat (⟨t245.1,t245.2.1,t245.2.2.1,t245.2.2.2.1,t245.2.2.2.2.1⟩ : S65)) p218).f0)),.lit (.int .i64 ((rd_T65 (t238.2.2.2.1.set p218.toNat (⟨t245.1,t245.2.1,t245.2.2.1,t245.2.2.2.1,t245.2.2.2.2.1⟩ : S65)) p218).f1)),.row 26,.lit (.int .i64 ((rd_T65 (t238.2.2.2.1.set p218.toNat (⟨t245.1,t245.2.1,t245.2.2.1,t245.2.2.2.1,t245.2.2.2.2.1⟩ : S65)) p218).f3)),.lit (.int .i64 ((rd_T65 (t238.2.2.2.1.set p218.toNat (⟨t245.1,t245.2.1,t245.2.2.1,t245.2.2.2.1,t245.2.2.2.2.1⟩ : S65)) p218).f4))] (setXG (f:=e65) (X:=.agg [.lit (.int .i64 ((rd_T65 (t238.2.2.2.1.set p218.toNat (⟨t245.1,t245.2.1,t245.2.2.1,t245.2.2.2.1,t245.2.2.2.2.1⟩ : S65)) p218).f0)),.lit (.int .i64 ((rd_T65 (t238.2.2.2.1.set p218.toNat (⟨t245.1,t245.2.1,t245.2.2.1,t245.2.2.2.1,t245.2.2.2.2.1⟩ : S65)) p218).f1)),.row 26,.lit (.int .i64 ((rd_T65 (t238.2.2.2.1.set p218.toNat (⟨t245.1,t245.2.1,t245.2.2.1,t245.2.2.2.1,t245.2.2.2.2.1⟩ : S65)) p218).f3)),.lit (.int .i64 ((rd_T65 (t238.2.2.2.1.set p218.toNat (⟨t245.1,t245.2.1,t245.2.2.1,t245.2.2.2.1,t245.2.2.2.2.1⟩ : S65)) p218).f4))]) c243 c271) rfl)).owp rfl rfl<|kv g0 (faB 2 2)<|kv g0 ldB ?_
      obtain ⟨t272,A273,H⟩:=of_bind H
      refine kcS1 91 (.agg [.lit (.int .i64 t272.1),.lit (.int .i64 t272.2.1),.row 27,.lit (.int .i64 t272.2.2.2.1),.lit (.int .i64 t272.2.2.2.2)]) [(27,.row 63 4 (t272.2.2.1.map e63))] g0 (cal (impl_Acked.ok A273) [27] 9999 .n (hf:=Tryz.func73)) rfl rfl<|kv g0 (ixD 65 c243 (ltS (ltE c271)))<|ks g0 (stD 5 ds65 0 5 [.lit (.int .i64 t272.1),.lit (.int .i64 t272.2.1),.row 27,.lit (.int .i64 t272.2.2.2.1),.lit (.int .i64 t272.2.2.2.2)] (.agg [.lit (.int .i64 t272.1),.lit (.int .i64 t272.2.1),.row 27,.lit (.int .i64 t272.2.2.2.1),.lit (.int .i64 t272.2.2.2.2)]) (setXG (f:=e65) (X:=.agg [.lit (.int .i64 ((rd_T65 (t238.2.2.2.1.set p218.toNat (⟨t245.1,t245.2.1,t245.2.2.1,t245.2.2.2.1,t245.2.2.2.2.1⟩ : S65)) p218).f0)),.lit (.int .i64 ((rd_T65 (t238.2.2.2.1.set p218.toNat (⟨t245.1,t245.2.1,t245.2.2.1,t245.2.2.2.1,t245.2.2.2.2.1⟩ : S65)) p218).f1)),.row 26,.lit (.int .i64 ((rd_T65 (t238.2.2.2.1.set p218.toNat (⟨t245.1,t245.2.1,t245.2.2.1,t245.2.2.2.1,t245.2.2.2.2.1⟩ : S65)) p218).f3)),.lit (.int .i64 ((rd_T65 (t238.2.2.2.1.set p218.toNat (⟨t245.1,t245.2.1,t245.2.2.1,t245.2.2.2.1,t245.2.2.2.2.1⟩ : S65)) p218).f4))]) c243 c271) setXX)<|wk_end_draw hM (by kernel_rfl)<|ac_blkN<|ac_next<|wk_start<|kv g0 add6<|kv g0 mv<|wk_end<|ac_g2 (pk 4 27 2 (.agg [.lit (.int .i64 t272.1),.lit (.int .i64 t272.2.1),.sl .n 4 (t272.2.2.1.map e63),.lit (.int .i64 t272.2.2.2.1),.lit (.int .i64 t272.2.2.2.2)]) (setXG (f:=e65) (X:=.agg [.lit (.int .i64 t272.1),.lit (.int .i64 t272.2.1),.row 27,.lit (.int .i64 t272.2.2.2.1),.lit (.int .i64 t272.2.2.2.2)]) c243 c271) setXX rfl)<|ac_g1 (sealD 4 (setSeal (f:=e65) p218.toNat (⟨t272.1,t272.2.1,t272.2.2.1,t272.2.2.2.1,t272.2.2.2.2⟩ : S65)) cl65)<|ac_k ?_
      exact acw hE [(1,1),(2,2),(3,3),(4,4),(5,21),(6,22),(7,23),(8,24),(9,9),(10,10),(11,11),(12,12)] 9999 (hK275 k259 t238.2.1 t238.2.2.1 ((t238.2.2.2.1.set p218.toNat (⟨t245.1,t245.2.1,t245.2.2.1,t245.2.2.2.1,t245.2.2.2.2.1⟩ : S65)).set p218.toNat (⟨t272.1,t272.2.1,t272.2.2.1,t272.2.2.2.1,t272.2.2.2.2⟩ : S65)) t266.1 t266.2.1 t266.2.2.1 t266.2.2.2.1 t266.2.2.2.2 t238.2.2.2.2.2.2.2.2.2.1 t238.2.2.2.2.2.2.2.2.2.2.1 t238.2.2.2.2.2.2.2.2.2.2.2.1 t238.2.2.2.2.2.2.2.2.2.2.2.2 (wrap64 (p218 + 1)) (by omega) ⟨by omega,H⟩)
     rw [if_neg c270] at H
     refine aw_ifF ?_ (bF c270)
     refine aw_skip<|ac_blkN<|ac_next<|wk_start<|kv g0 add6<|kv g0 mv<|wk_end<|ac_k ?_
     exact acw hE [(1,1),(2,2),(3,3),(4,4),(5,21),(6,22),(7,23),(8,24),(9,9),(10,10),(11,11),(12,12)] 9999 (hK275 k259 t238.2.1 t238.2.2.1 (t238.2.2.2.1.set p218.toNat (⟨t245.1,t245.2.1,t245.2.2.1,t245.2.2.2.1,t245.2.2.2.2.1⟩ : S65)) t266.1 t266.2.1 t266.2.2.1 t266.2.2.2.1 t266.2.2.2.2 t238.2.2.2.2.2.2.2.2.2.1 t238.2.2.2.2.2.2.2.2.2.2.1 t238.2.2.2.2.2.2.2.2.2.2.2.1 t238.2.2.2.2.2.2.2.2.2.2.2.2 (wrap64 (p218 + 1)) (by omega) ⟨by omega,H⟩)
    rw [if_neg c220] at H
    refine aw_ifF ?_ (decide_eq_false c220)
    refine aw_exit<|ac_then<|ac_then<|ac_hit rfl<|ac_blkN<|ac_next<|wk_start<|kv g0 add6<|kv g0 mv<|wk_end<|ac_k ?_
    exact acw hE [(1,1),(2,2),(3,3),(4,4),(5,5),(6,6),(7,7),(8,8),(9,9),(10,10),(11,11),(12,12)] 9999 (hK277 k219 q206 q207 q208 q209 q210 q211 p212 q213 q214 p215 q216 q217 (wrap64 (p148 + 1)) (by omega) ⟨by omega,H⟩)
   rw [if_neg c150] at H
   refine aw_ifF ?_ (decide_eq_false c150)
   refine aw_exit<|ac_then<|ac_then<|ac_hit rfl<|ac_next<|aw_grp1<|wk_start<|kb g0 (bsl 28 151 3 [.bool false,.string .empty,.bool false] (([] : List S151).map e151))<|kv g0 (faB 8 8)<|ks g0 (stB 1 [.row 2,.row 3,.row 4,.row 5,.row 6,.row 7,.lit (.int .i64 p142),.row 8,.row 28,.lit (.int .i64 p145),.row 10,.row 11])<|wk_end<|ac_next<|aw_grp1<|wk_start<|kv g0 (ldBA 12 [.row 2,.row 3,.row 4,.row 5,.row 6,.row 7,.lit (.int .i64 p142),.row 8,.row 28,.lit (.int .i64 p145),.row 10,.row 11])<|ks g0 (stB 12 [.row 2,.row 3,.row 4,.row 5,.row 6,.row 7,.lit (.int .i64 p142),.row 8,.row 28,.lit (.int .i64 p145),.row 10,.row 11])<|wk_end<|ac_next<|aw_ret ?_
   obtain rfl:=Option.some.inj H
   exact acr hE [.cell 4 45] (rcA 12 .nil) (.one _) [(0,2),(1,3),(2,4),(3,5),(4,6),(5,7),(6,8),(7,28),(8,10),(9,11)] 9999
  rw [if_neg c8] at H
  refine aw_ifT ?_ (nT (bF c8))
  refine aw_grp1<|wk_start<|kv g0 (ldBA 12 [.row 2,.row 3,.row 4,.row 5,.row 6,.row 7,.lit (.int .i64 t1.2.2.2.2.2.2.1),.row 8,.row 9,.lit (.int .i64 t1.2.2.2.2.2.2.2.2.2.1),.row 10,.row 11])<|ks g0 (stB 12 [.row 2,.row 3,.row 4,.row 5,.row 6,.row 7,.lit (.int .i64 t1.2.2.2.2.2.2.1),.row 8,.row 9,.lit (.int .i64 t1.2.2.2.2.2.2.2.2.2.1),.row 10,.row 11])<|wk_end<|ac_next<|aw_ret<|ac_thenR ?_
  obtain rfl:=Option.some.inj H
  exact acr hE [.cell 4 45] (rcA 12 .nil) (.one _) [(0,2),(1,3),(2,4),(3,5),(4,6),(5,7),(6,8),(7,9),(8,10),(9,11)] 9999
 rw [if_neg c5] at H
 refine kx (hF (nT (bF c5))) ?_
 refine kx (hF (nT (bF c5))) ?_
 refine kx (hF (nT (bF c5))) ?_
 refine kv g0 (pkT (nT (bF c5)))<|wk_end<|ac_next ?_
 refine aw_ifT ?_ rfl
 refine aw_grp1<|wk_start<|kv g0 (ldBA 12 [.row 2,.row 3,.row 4,.row 5,.row 6,.row 7,.lit (.int .i64 t1.2.2.2.2.2.2.1),.row 8,.row 9,.lit (.int .i64 t1.2.2.2.2.2.2.2.2.2.1),.row 10,.row 11])<|ks g0 (stB 12 [.row 2,.row 3,.row 4,.row 5,.row 6,.row 7,.lit (.int .i64 t1.2.2.2.2.2.2.1),.row 8,.row 9,.lit (.int .i64 t1.2.2.2.2.2.2.2.2.2.1),.row 10,.row 11])<|wk_end<|ac_next<|aw_ret<|ac_thenR ?_
 obtain rfl:=Option.some.inj H
 exact acr hE [.cell 4 45] (rcA 12 .nil) (.one _) [(0,2),(1,3),(2,4),(3,5),(4,6),(5,7),(6,8),(7,9),(8,10),(9,11)] 9999
/-! laws_eqIns -/
def laws_eqIns.f (a0_0 : Int) (a0_1 : Int) (a0_2 : Int) (a0_3 : Int) (a1_0 : Int) (a1_1 : Int) (a1_2 : Int) (a1_3 : Int) : Option (Bool):=if a0_0 = a1_0 then if a0_1 = a1_1 then if a0_2 = a1_2 then if a0_3 = a1_3 then some true else some false else some false else some false else some false
theorem laws_eqIns.ok {a0_0 : Int} {a0_1 : Int} {a0_2 : Int} {a0_3 : Int} {a1_0 : Int} {a1_1 : Int} {a1_2 : Int} {a1_3 : Int} {r : Bool} (H : laws_eqIns.f a0_0 a0_1 a0_2 a0_3 a1_0 a1_1 a1_2 a1_3 = some r) : ACalls Tryz.prog 265 [] [.agg [.lit (.int .i64 a0_0),.lit (.int .i64 a0_1),.lit (.int .i64 a0_2),.lit (.int .i64 a0_3)],.agg [.lit (.int .i64 a1_0),.lit (.int .i64 a1_1),.lit (.int .i64 a1_2),.lit (.int .i64 a1_3)]] [] (.lit (.bool r)):=by
 refine acalls (fn:=Tryz.f265) (nt:=25) Tryz.func265 rfl rfl (Nat.le_of_ble_eq_true rfl) fun E hE=>?_
 rw [laws_eqIns.f] at H
 refine aw_grp1<|wk_start<|kb g0 (bxA 0)<|kb g0 (bxA 1)<|kv g0 asg<|wk_end<|ac_next<|aw_grp1<|aw_grp1<|wk_start<|kv g0 (faB 0 0)<|kv g0 ldB<|kv g0 (faB 0 0)<|kv g0 ldB<|kv g0 neq<|wk_end<|ac_next ?_
 by_cases c1 : a0_0 = a1_0
 ·rw [if_pos c1] at H
  refine aw_ifF ?_ (eM c1)
  refine aw_skip<|ac_next<|aw_grp1<|aw_grp1<|wk_start<|kv g0 (faB 1 1)<|kv g0 ldB<|kv g0 (faB 1 1)<|kv g0 ldB<|kv g0 neq<|wk_end<|ac_next ?_
  by_cases c2 : a0_1 = a1_1
  ·rw [if_pos c2] at H
   refine aw_ifF ?_ (eM c2)
   refine aw_skip<|ac_next<|aw_grp1<|aw_grp1<|wk_start<|kv g0 (faB 2 2)<|kv g0 ldB<|kv g0 (faB 2 2)<|kv g0 ldB<|kv g0 neq<|wk_end<|ac_next ?_
   by_cases c3 : a0_2 = a1_2
   ·rw [if_pos c3] at H
    refine aw_ifF ?_ (eM c3)
    refine aw_skip<|ac_next<|aw_grp1<|aw_grp1<|wk_start<|kv g0 (faB 3 3)<|kv g0 ldB<|kv g0 (faB 3 3)<|kv g0 ldB<|kv g0 neq<|wk_end<|ac_next ?_
    by_cases c4 : a0_3 = a1_3
    ·rw [if_pos c4] at H
     refine aw_ifF ?_ (eM c4)
     refine aw_skip<|ac_next<|aw_grp1<|wk_start<|kv g0 asg<|wk_end<|ac_next<|aw_ret ?_
     obtain rfl:=Option.some.inj H
     exact acr hE [.tmp 4] (.tmp .nil) (.one _) [] 9999
    rw [if_neg c4] at H
    refine aw_ifT ?_ (eN c4)
    refine aw_grp1<|wk_start<|kv g0 asg<|wk_end<|ac_next<|aw_ret<|ac_thenR ?_
    obtain rfl:=Option.some.inj H
    exact acr hE [.tmp 4] (.tmp .nil) (.one _) [] 9999
   rw [if_neg c3] at H
   refine aw_ifT ?_ (eN c3)
   refine aw_grp1<|wk_start<|kv g0 asg<|wk_end<|ac_next<|aw_ret<|ac_thenR ?_
   obtain rfl:=Option.some.inj H
   exact acr hE [.tmp 4] (.tmp .nil) (.one _) [] 9999
  rw [if_neg c2] at H
  refine aw_ifT ?_ (eN c2)
  refine aw_grp1<|wk_start<|kv g0 asg<|wk_end<|ac_next<|aw_ret<|ac_thenR ?_
  obtain rfl:=Option.some.inj H
  exact acr hE [.tmp 4] (.tmp .nil) (.one _) [] 9999
 rw [if_neg c1] at H
 refine aw_ifT ?_ (eN c1)
 refine aw_grp1<|wk_start<|kv g0 asg<|wk_end<|ac_next<|aw_ret<|ac_thenR ?_
 obtain rfl:=Option.some.inj H
 exact acr hE [.tmp 4] (.tmp .nil) (.one _) [] 9999
/-! laws_eqInsS -/
def laws_eqInsS.l0 : Nat→(List S234)→(List S234)→Int→Option (Bool)
 | 0,_,_,_=>none
 | k9 + 1,l0,l1,p8=>if p8 < (l0.length : Int) then if 0 ≤ p8 then (if p8 < (l1.length : Int) then ((laws_eqIns.f ((rd_T234 l0 p8).f0) ((rd_T234 l0 p8).f1) ((rd_T234 l0 p8).f2) ((rd_T234 l0 p8).f3) ((rd_T234 l1 p8).f0) ((rd_T234 l1 p8).f1) ((rd_T234 l1 p8).f2) ((rd_T234 l1 p8).f3)).bind fun t13=>if t13 = true then laws_eqInsS.l0 k9 l0 l1 (wrap64 (p8 + 1)) else some false) else none) else none else some true
def laws_eqInsS.f (k : Nat) (l0 : List S234) (l1 : List S234) : Option (Bool):=if (l0.length : Int) = (l1.length : Int) then laws_eqInsS.l0 k l0 l1 0 else some false
theorem laws_eqInsS.ok {k : Nat} {l0 : List S234} {l1 : List S234} {r : Bool} (H : laws_eqInsS.f k l0 l1 = some r) : ACalls Tryz.prog 224 [] [.sl .o 4 (l0.map e234),.sl .o 4 (l1.map e234)] [] (.lit (.bool r)):=by
 refine acalls (fn:=Tryz.f224) (nt:=27) Tryz.func224 rfl rfl (Nat.le_of_ble_eq_true rfl) fun E hE=>?_
 rw [laws_eqInsS.f] at H
 refine aw_grp1<|wk_start<|kv g0 asg<|wk_end<|ac_next<|aw_grp1<|aw_grp1<|wk_start<|kv g0 mv<|kv g0 (lnS lenE)<|kv g0 mv<|kv g0 (lnS lenE)<|kv g0 neq<|wk_end<|ac_next ?_
 by_cases c1 : (l0.length : Int) = (l1.length : Int)
 ·rw [if_pos c1] at H
  refine aw_ifF ?_ (eM c1)
  refine aw_skip<|ac_next<|aw_grp1<|aw_grp1<|wk_start<|kv g0 asg<|wk_end<|ac_next<|aw_block ?_
  refine aw_loop1 (fun (k_ : Nat) (p8 : Int)=>k_ ≤ k∧laws_eqInsS.l0 k_ l0 l1 p8 = some r) (fun (p8 : Int)=>⟨[(0,.sl .o 4 (l0.map e234)),(1,.sl .o 4 (l1.map e234)),(5,.lit (.int .i64 p8))],[]⟩) k 0 ⟨Nat.le_refl _,H⟩ (fun K_ h_=>acw hE [] 9999 h_) (fun _=>by intro h_;have h_:=h_.2;rw [laws_eqInsS.l0.eq_1] at h_;cases h_) ?_
  intro k9 p8 hq_ K16 hK17
  have hk9:=hq_.1
  have H:=hq_.2
  clear hq_
  rw [laws_eqInsS.l0.eq_2] at H
  refine aw_grp1<|aw_grp1<|wk_start<|kv g0 mv<|kv g0 mv<|kv g0 (lnS lenE)<|kv g0 lss<|wk_end<|ac_next ?_
  by_cases c10 : p8 < (l0.length : Int)
  ·rw [if_pos c10] at H
   refine aw_ifT ?_ (decide_eq_true c10)
   refine aw_skip<|ac_next<|aw_grp1<|aw_block<|aw_grp1<|wk_start<|kv g0 mv<|kv g0 mv ?_
   obtain ⟨c11,H⟩:=of_if H
   refine kv g0 (ixS 234 (e234 (rd_T234 l0 p8)) c11 (getE (z:=z234) c11 c10))<|kv g0 (ldRA 4 [.lit (.int .i64 ((rd_T234 l0 p8).f0)),.lit (.int .i64 ((rd_T234 l0 p8).f1)),.lit (.int .i64 ((rd_T234 l0 p8).f2)),.lit (.int .i64 ((rd_T234 l0 p8).f3))])<|kv g0 mv<|kv g0 mv ?_
   obtain ⟨c12,H⟩:=of_if H
   refine kv g0 (ixS 234 (e234 (rd_T234 l1 p8)) c11 (getE (z:=z234) c11 c12))<|kv g0 (ldRA 4 [.lit (.int .i64 ((rd_T234 l1 p8).f0)),.lit (.int .i64 ((rd_T234 l1 p8).f1)),.lit (.int .i64 ((rd_T234 l1 p8).f2)),.lit (.int .i64 ((rd_T234 l1 p8).f3))]) ?_
   obtain ⟨t13,A14,H⟩:=of_bind H
   refine kcS0 25 (.lit (.bool t13)) [] g0 (cal (laws_eqIns.ok A14) [] 9999 .n (hf:=Tryz.func265)) rfl rfl<|kv g0 not_<|wk_end_draw hM (by kernel_rfl)<|ac_next ?_
   by_cases c15 : t13 = true
   ·rw [if_pos c15] at H
    refine aw_ifF ?_ (nF c15)
    refine aw_skip<|ac_blkN<|ac_next<|wk_start<|kv g0 mv<|kv g0 add6<|kv g0 asg<|wk_end<|ac_k ?_
    exact acw hE [] 9999 (hK17 k9 (wrap64 (p8 + 1)) (Nat.le_refl _) ⟨by omega,H⟩)
   rw [if_neg c15] at H
   refine aw_ifT ?_ (nT (bF c15))
   refine aw_grp1<|wk_start<|kv g0 asg<|wk_end<|ac_next<|aw_ret<|ac_blkR<|ac_thenR<|ac_thenR<|ac_blkR<|ac_thenR ?_
   obtain rfl:=Option.some.inj H
   exact acr hE [.tmp 4] (.tmp .nil) (.one _) [] 9999
  rw [if_neg c10] at H
  refine aw_ifF ?_ (decide_eq_false c10)
  refine aw_exit<|ac_then<|ac_then<|ac_hit rfl<|ac_next<|aw_grp1<|wk_start<|kv g0 asg<|wk_end<|ac_next<|aw_ret ?_
  obtain rfl:=Option.some.inj H
  exact acr hE [.tmp 4] (.tmp .nil) (.one _) [] 9999
 rw [if_neg c1] at H
 refine aw_ifT ?_ (eN c1)
 refine aw_grp1<|wk_start<|kv g0 asg<|wk_end<|ac_next<|aw_ret<|ac_thenR ?_
 obtain rfl:=Option.some.inj H
 exact acr hE [.tmp 4] (.tmp .nil) (.one _) [] 9999
/-! laws_eqInsSS -/
def laws_eqInsSS.l0 : Nat→(List (List S234))→(List (List S234))→Int→Option (Bool)
 | 0,_,_,_=>none
 | k9 + 1,l0,l1,p8=>if p8 < (l0.length : Int) then if 0 ≤ p8 then (if p8 < (l1.length : Int) then ((laws_eqInsS.f k9 (rdOf ([] : List S234) l0 p8) (rdOf ([] : List S234) l1 p8)).bind fun t13=>if t13 = true then laws_eqInsSS.l0 k9 l0 l1 (wrap64 (p8 + 1)) else some false) else none) else none else some true
def laws_eqInsSS.f (k : Nat) (l0 : List (List S234)) (l1 : List (List S234)) : Option (Bool):=if (l0.length : Int) = (l1.length : Int) then laws_eqInsSS.l0 k l0 l1 0 else some false
theorem laws_eqInsSS.ok {k : Nat} {l0 : List (List S234)} {l1 : List (List S234)} {r : Bool} (H : laws_eqInsSS.f k l0 l1 = some r) : ACalls Tryz.prog 161 [] [.sl .o 1 (l0.map (eL 4 (e234))),.sl .o 1 (l1.map (eL 4 (e234)))] [] (.lit (.bool r)):=by
 refine acalls (fn:=Tryz.f161) (nt:=27) Tryz.func161 rfl rfl (Nat.le_of_ble_eq_true rfl) fun E hE=>?_
 rw [laws_eqInsSS.f] at H
 refine aw_grp1<|wk_start<|kv g0 asg<|wk_end<|ac_next<|aw_grp1<|aw_grp1<|wk_start<|kv g0 mv<|kv g0 (lnS lenE)<|kv g0 mv<|kv g0 (lnS lenE)<|kv g0 neq<|wk_end<|ac_next ?_
 by_cases c1 : (l0.length : Int) = (l1.length : Int)
 ·rw [if_pos c1] at H
  refine aw_ifF ?_ (eM c1)
  refine aw_skip<|ac_next<|aw_grp1<|aw_grp1<|wk_start<|kv g0 asg<|wk_end<|ac_next<|aw_block ?_
  refine aw_loop1 (fun (k_ : Nat) (p8 : Int)=>k_ ≤ k∧laws_eqInsSS.l0 k_ l0 l1 p8 = some r) (fun (p8 : Int)=>⟨[(0,.sl .o 1 (l0.map (eL 4 (e234)))),(1,.sl .o 1 (l1.map (eL 4 (e234)))),(5,.lit (.int .i64 p8))],[]⟩) k 0 ⟨Nat.le_refl _,H⟩ (fun K_ h_=>acw hE [] 9999 h_) (fun _=>by intro h_;have h_:=h_.2;rw [laws_eqInsSS.l0.eq_1] at h_;cases h_) ?_
  intro k9 p8 hq_ K16 hK17
  have hk9:=hq_.1
  have H:=hq_.2
  clear hq_
  rw [laws_eqInsSS.l0.eq_2] at H
  refine aw_grp1<|aw_grp1<|wk_start<|kv g0 mv<|kv g0 mv<|kv g0 (lnS lenE)<|kv g0 lss<|wk_end<|ac_next ?_
  by_cases c10 : p8 < (l0.length : Int)
  ·rw [if_pos c10] at H
   refine aw_ifT ?_ (decide_eq_true c10)
   refine aw_skip<|ac_next<|aw_grp1<|aw_block<|aw_grp1<|wk_start<|kv g0 mv<|kv g0 mv ?_
   obtain ⟨c11,H⟩:=of_if H
   refine kv g0 (ixS 147 (eL 4 e234 (rdOf ([] : List S234) l0 p8)) c11 (getE (z:=([] : List S234)) c11 c10))<|kv g0 (ldR (.sl .o 4 ((rdOf ([] : List S234) l0 p8).map e234)))<|kv g0 mv<|kv g0 mv ?_
   obtain ⟨c12,H⟩:=of_if H
   refine kv g0 (ixS 147 (eL 4 e234 (rdOf ([] : List S234) l1 p8)) c11 (getE (z:=([] : List S234)) c11 c12))<|kv g0 (ldR (.sl .o 4 ((rdOf ([] : List S234) l1 p8).map e234))) ?_
   obtain ⟨t13,A14,H⟩:=of_bind H
   refine kcS0 25 (.lit (.bool t13)) [] g0 (cal (laws_eqInsS.ok A14) [] 9999 .n (hf:=Tryz.func224)) rfl rfl<|kv g0 not_<|wk_end_draw hM (by kernel_rfl)<|ac_next ?_
   by_cases c15 : t13 = true
   ·rw [if_pos c15] at H
    refine aw_ifF ?_ (nF c15)
    refine aw_skip<|ac_blkN<|ac_next<|wk_start<|kv g0 mv<|kv g0 add6<|kv g0 asg<|wk_end<|ac_k ?_
    exact acw hE [] 9999 (hK17 k9 (wrap64 (p8 + 1)) (Nat.le_refl _) ⟨by omega,H⟩)
   rw [if_neg c15] at H
   refine aw_ifT ?_ (nT (bF c15))
   refine aw_grp1<|wk_start<|kv g0 asg<|wk_end<|ac_next<|aw_ret<|ac_blkR<|ac_thenR<|ac_thenR<|ac_blkR<|ac_thenR ?_
   obtain rfl:=Option.some.inj H
   exact acr hE [.tmp 4] (.tmp .nil) (.one _) [] 9999
  rw [if_neg c10] at H
  refine aw_ifF ?_ (decide_eq_false c10)
  refine aw_exit<|ac_then<|ac_then<|ac_hit rfl<|ac_next<|aw_grp1<|wk_start<|kv g0 asg<|wk_end<|ac_next<|aw_ret ?_
  obtain rfl:=Option.some.inj H
  exact acr hE [.tmp 4] (.tmp .nil) (.one _) [] 9999
 rw [if_neg c1] at H
 refine aw_ifT ?_ (eN c1)
 refine aw_grp1<|wk_start<|kv g0 asg<|wk_end<|ac_next<|aw_ret<|ac_thenR ?_
 obtain rfl:=Option.some.inj H
 exact acr hE [.tmp 4] (.tmp .nil) (.one _) [] 9999
/-! laws_eqInsSSS -/
def laws_eqInsSSS.l0 : Nat→(List (List (List S234)))→(List (List (List S234)))→Int→Option (Bool)
 | 0,_,_,_=>none
 | k9 + 1,l0,l1,p8=>if p8 < (l0.length : Int) then if 0 ≤ p8 then (if p8 < (l1.length : Int) then ((laws_eqInsSS.f k9 (rdOf ([] : List (List S234)) l0 p8) (rdOf ([] : List (List S234)) l1 p8)).bind fun t13=>if t13 = true then laws_eqInsSSS.l0 k9 l0 l1 (wrap64 (p8 + 1)) else some false) else none) else none else some true
def laws_eqInsSSS.f (k : Nat) (l0 : List (List (List S234))) (l1 : List (List (List S234))) : Option (Bool):=if (l0.length : Int) = (l1.length : Int) then laws_eqInsSSS.l0 k l0 l1 0 else some false
theorem laws_eqInsSSS.ok {k : Nat} {l0 : List (List (List S234))} {l1 : List (List (List S234))} {r : Bool} (H : laws_eqInsSSS.f k l0 l1 = some r) : ACalls Tryz.prog 74 [] [.sl .o 1 (l0.map (eL 1 (eL 4 (e234)))),.sl .o 1 (l1.map (eL 1 (eL 4 (e234))))] [] (.lit (.bool r)):=by
 refine acalls (fn:=Tryz.f74) (nt:=27) Tryz.func74 rfl rfl (Nat.le_of_ble_eq_true rfl) fun E hE=>?_
 rw [laws_eqInsSSS.f] at H
 refine aw_grp1<|wk_start<|kv g0 asg<|wk_end<|ac_next<|aw_grp1<|aw_grp1<|wk_start<|kv g0 mv<|kv g0 (lnS lenE)<|kv g0 mv<|kv g0 (lnS lenE)<|kv g0 neq<|wk_end<|ac_next ?_
 by_cases c1 : (l0.length : Int) = (l1.length : Int)
 ·rw [if_pos c1] at H
  refine aw_ifF ?_ (eM c1)
  refine aw_skip<|ac_next<|aw_grp1<|aw_grp1<|wk_start<|kv g0 asg<|wk_end<|ac_next<|aw_block ?_
  refine aw_loop1 (fun (k_ : Nat) (p8 : Int)=>k_ ≤ k∧laws_eqInsSSS.l0 k_ l0 l1 p8 = some r) (fun (p8 : Int)=>⟨[(0,.sl .o 1 (l0.map (eL 1 (eL 4 (e234))))),(1,.sl .o 1 (l1.map (eL 1 (eL 4 (e234))))),(5,.lit (.int .i64 p8))],[]⟩) k 0 ⟨Nat.le_refl _,H⟩ (fun K_ h_=>acw hE [] 9999 h_) (fun _=>by intro h_;have h_:=h_.2;rw [laws_eqInsSSS.l0.eq_1] at h_;cases h_) ?_
  intro k9 p8 hq_ K16 hK17
  have hk9:=hq_.1
  have H:=hq_.2
  clear hq_
  rw [laws_eqInsSSS.l0.eq_2] at H
  refine aw_grp1<|aw_grp1<|wk_start<|kv g0 mv<|kv g0 mv<|kv g0 (lnS lenE)<|kv g0 lss<|wk_end<|ac_next ?_
  by_cases c10 : p8 < (l0.length : Int)
  ·rw [if_pos c10] at H
   refine aw_ifT ?_ (decide_eq_true c10)
   refine aw_skip<|ac_next<|aw_grp1<|aw_block<|aw_grp1<|wk_start<|kv g0 mv<|kv g0 mv ?_
   obtain ⟨c11,H⟩:=of_if H
   refine kv g0 (ixS 145 (eL 1 (eL 4 e234) (rdOf ([] : List (List S234)) l0 p8)) c11 (getE (z:=([] : List (List S234))) c11 c10))<|kv g0 (ldR (.sl .o 1 ((rdOf ([] : List (List S234)) l0 p8).map (eL 4 e234))))<|kv g0 mv<|kv g0 mv ?_
   obtain ⟨c12,H⟩:=of_if H
   refine kv g0 (ixS 145 (eL 1 (eL 4 e234) (rdOf ([] : List (List S234)) l1 p8)) c11 (getE (z:=([] : List (List S234))) c11 c12))<|kv g0 (ldR (.sl .o 1 ((rdOf ([] : List (List S234)) l1 p8).map (eL 4 e234)))) ?_
   obtain ⟨t13,A14,H⟩:=of_bind H
   refine kcS0 25 (.lit (.bool t13)) [] g0 (cal (laws_eqInsSS.ok A14) [] 9999 .n (hf:=Tryz.func161)) rfl rfl<|kv g0 not_<|wk_end_draw hM (by kernel_rfl)<|ac_next ?_
   by_cases c15 : t13 = true
   ·rw [if_pos c15] at H
    refine aw_ifF ?_ (nF c15)
    refine aw_skip<|ac_blkN<|ac_next<|wk_start<|kv g0 mv<|kv g0 add6<|kv g0 asg<|wk_end<|ac_k ?_
    exact acw hE [] 9999 (hK17 k9 (wrap64 (p8 + 1)) (Nat.le_refl _) ⟨by omega,H⟩)
   rw [if_neg c15] at H
   refine aw_ifT ?_ (nT (bF c15))
   refine aw_grp1<|wk_start<|kv g0 asg<|wk_end<|ac_next<|aw_ret<|ac_blkR<|ac_thenR<|ac_thenR<|ac_blkR<|ac_thenR ?_
   obtain rfl:=Option.some.inj H
   exact acr hE [.tmp 4] (.tmp .nil) (.one _) [] 9999
  rw [if_neg c10] at H
  refine aw_ifF ?_ (decide_eq_false c10)
  refine aw_exit<|ac_then<|ac_then<|ac_hit rfl<|ac_next<|aw_grp1<|wk_start<|kv g0 asg<|wk_end<|ac_next<|aw_ret ?_
  obtain rfl:=Option.some.inj H
  exact acr hE [.tmp 4] (.tmp .nil) (.one _) [] 9999
 rw [if_neg c1] at H
 refine aw_ifT ?_ (eN c1)
 refine aw_grp1<|wk_start<|kv g0 asg<|wk_end<|ac_next<|aw_ret<|ac_thenR ?_
 obtain rfl:=Option.some.inj H
 exact acr hE [.tmp 4] (.tmp .nil) (.one _) [] 9999
/-! laws_eqItem -/
def laws_eqItem.f (a0_0 : Int) (a0_1 : Int) (a0_2 : Int) (a0_3 : Int) (a1_0 : Int) (a1_1 : Int) (a1_2 : Int) (a1_3 : Int) : Option (Bool):=if a0_0 = a1_0 then if a0_1 = a1_1 then if a0_2 = a1_2 then if a0_3 = a1_3 then some true else some false else some false else some false else some false
theorem laws_eqItem.ok {a0_0 : Int} {a0_1 : Int} {a0_2 : Int} {a0_3 : Int} {a1_0 : Int} {a1_1 : Int} {a1_2 : Int} {a1_3 : Int} {r : Bool} (H : laws_eqItem.f a0_0 a0_1 a0_2 a0_3 a1_0 a1_1 a1_2 a1_3 = some r) : ACalls Tryz.prog 266 [] [.agg [.lit (.int .i64 a0_0),.lit (.int .i64 a0_1),.lit (.int .i64 a0_2),.lit (.int .i64 a0_3)],.agg [.lit (.int .i64 a1_0),.lit (.int .i64 a1_1),.lit (.int .i64 a1_2),.lit (.int .i64 a1_3)]] [] (.lit (.bool r)):=by
 refine acalls (fn:=Tryz.f266) (nt:=25) Tryz.func266 rfl rfl (Nat.le_of_ble_eq_true rfl) fun E hE=>?_
 rw [laws_eqItem.f] at H
 refine aw_grp1<|wk_start<|kb g0 (bxA 0)<|kb g0 (bxA 1)<|kv g0 asg<|wk_end<|ac_next<|aw_grp1<|aw_grp1<|wk_start<|kv g0 (faB 0 0)<|kv g0 ldB<|kv g0 (faB 0 0)<|kv g0 ldB<|kv g0 neq<|wk_end<|ac_next ?_
 by_cases c1 : a0_0 = a1_0
 ·rw [if_pos c1] at H
  refine aw_ifF ?_ (eM c1)
  refine aw_skip<|ac_next<|aw_grp1<|aw_grp1<|wk_start<|kv g0 (faB 1 1)<|kv g0 ldB<|kv g0 (faB 1 1)<|kv g0 ldB<|kv g0 neq<|wk_end<|ac_next ?_
  by_cases c2 : a0_1 = a1_1
  ·rw [if_pos c2] at H
   refine aw_ifF ?_ (eM c2)
   refine aw_skip<|ac_next<|aw_grp1<|aw_grp1<|wk_start<|kv g0 (faB 2 2)<|kv g0 ldB<|kv g0 (faB 2 2)<|kv g0 ldB<|kv g0 neq<|wk_end<|ac_next ?_
   by_cases c3 : a0_2 = a1_2
   ·rw [if_pos c3] at H
    refine aw_ifF ?_ (eM c3)
    refine aw_skip<|ac_next<|aw_grp1<|aw_grp1<|wk_start<|kv g0 (faB 3 3)<|kv g0 ldB<|kv g0 (faB 3 3)<|kv g0 ldB<|kv g0 neq<|wk_end<|ac_next ?_
    by_cases c4 : a0_3 = a1_3
    ·rw [if_pos c4] at H
     refine aw_ifF ?_ (eM c4)
     refine aw_skip<|ac_next<|aw_grp1<|wk_start<|kv g0 asg<|wk_end<|ac_next<|aw_ret ?_
     obtain rfl:=Option.some.inj H
     exact acr hE [.tmp 4] (.tmp .nil) (.one _) [] 9999
    rw [if_neg c4] at H
    refine aw_ifT ?_ (eN c4)
    refine aw_grp1<|wk_start<|kv g0 asg<|wk_end<|ac_next<|aw_ret<|ac_thenR ?_
    obtain rfl:=Option.some.inj H
    exact acr hE [.tmp 4] (.tmp .nil) (.one _) [] 9999
   rw [if_neg c3] at H
   refine aw_ifT ?_ (eN c3)
   refine aw_grp1<|wk_start<|kv g0 asg<|wk_end<|ac_next<|aw_ret<|ac_thenR ?_
   obtain rfl:=Option.some.inj H
   exact acr hE [.tmp 4] (.tmp .nil) (.one _) [] 9999
  rw [if_neg c2] at H
  refine aw_ifT ?_ (eN c2)
  refine aw_grp1<|wk_start<|kv g0 asg<|wk_end<|ac_next<|aw_ret<|ac_thenR ?_
  obtain rfl:=Option.some.inj H
  exact acr hE [.tmp 4] (.tmp .nil) (.one _) [] 9999
 rw [if_neg c1] at H
 refine aw_ifT ?_ (eN c1)
 refine aw_grp1<|wk_start<|kv g0 asg<|wk_end<|ac_next<|aw_ret<|ac_thenR ?_
 obtain rfl:=Option.some.inj H
 exact acr hE [.tmp 4] (.tmp .nil) (.one _) [] 9999
/-! laws_eqItemS -/
def laws_eqItemS.l0 : Nat→(List S63)→(List S63)→Int→Option (Bool)
 | 0,_,_,_=>none
 | k9 + 1,l0,l1,p8=>if p8 < (l0.length : Int) then if 0 ≤ p8 then (if p8 < (l1.length : Int) then ((laws_eqItem.f ((rd_T63 l0 p8).f0) ((rd_T63 l0 p8).f1) ((rd_T63 l0 p8).f2) ((rd_T63 l0 p8).f3) ((rd_T63 l1 p8).f0) ((rd_T63 l1 p8).f1) ((rd_T63 l1 p8).f2) ((rd_T63 l1 p8).f3)).bind fun t13=>if t13 = true then laws_eqItemS.l0 k9 l0 l1 (wrap64 (p8 + 1)) else some false) else none) else none else some true
def laws_eqItemS.f (k : Nat) (l0 : List S63) (l1 : List S63) : Option (Bool):=if (l0.length : Int) = (l1.length : Int) then laws_eqItemS.l0 k l0 l1 0 else some false
theorem laws_eqItemS.ok {k : Nat} {l0 : List S63} {l1 : List S63} {r : Bool} (H : laws_eqItemS.f k l0 l1 = some r) : ACalls Tryz.prog 225 [] [.sl .o 4 (l0.map e63),.sl .o 4 (l1.map e63)] [] (.lit (.bool r)):=by
 refine acalls (fn:=Tryz.f225) (nt:=27) Tryz.func225 rfl rfl (Nat.le_of_ble_eq_true rfl) fun E hE=>?_
 rw [laws_eqItemS.f] at H
 refine aw_grp1<|wk_start<|kv g0 asg<|wk_end<|ac_next<|aw_grp1<|aw_grp1<|wk_start<|kv g0 mv<|kv g0 (lnS lenE)<|kv g0 mv<|kv g0 (lnS lenE)<|kv g0 neq<|wk_end<|ac_next ?_
 by_cases c1 : (l0.length : Int) = (l1.length : Int)
 ·rw [if_pos c1] at H
  refine aw_ifF ?_ (eM c1)
  refine aw_skip<|ac_next<|aw_grp1<|aw_grp1<|wk_start<|kv g0 asg<|wk_end<|ac_next<|aw_block ?_
  refine aw_loop1 (fun (k_ : Nat) (p8 : Int)=>k_ ≤ k∧laws_eqItemS.l0 k_ l0 l1 p8 = some r) (fun (p8 : Int)=>⟨[(0,.sl .o 4 (l0.map e63)),(1,.sl .o 4 (l1.map e63)),(5,.lit (.int .i64 p8))],[]⟩) k 0 ⟨Nat.le_refl _,H⟩ (fun K_ h_=>acw hE [] 9999 h_) (fun _=>by intro h_;have h_:=h_.2;rw [laws_eqItemS.l0.eq_1] at h_;cases h_) ?_
  intro k9 p8 hq_ K16 hK17
  have hk9:=hq_.1
  have H:=hq_.2
  clear hq_
  rw [laws_eqItemS.l0.eq_2] at H
  refine aw_grp1<|aw_grp1<|wk_start<|kv g0 mv<|kv g0 mv<|kv g0 (lnS lenE)<|kv g0 lss<|wk_end<|ac_next ?_
  by_cases c10 : p8 < (l0.length : Int)
  ·rw [if_pos c10] at H
   refine aw_ifT ?_ (decide_eq_true c10)
   refine aw_skip<|ac_next<|aw_grp1<|aw_block<|aw_grp1<|wk_start<|kv g0 mv<|kv g0 mv ?_
   obtain ⟨c11,H⟩:=of_if H
   refine kv g0 (ixS 63 (e63 (rd_T63 l0 p8)) c11 (getE (z:=z63) c11 c10))<|kv g0 (ldRA 4 [.lit (.int .i64 ((rd_T63 l0 p8).f0)),.lit (.int .i64 ((rd_T63 l0 p8).f1)),.lit (.int .i64 ((rd_T63 l0 p8).f2)),.lit (.int .i64 ((rd_T63 l0 p8).f3))])<|kv g0 mv<|kv g0 mv ?_
   obtain ⟨c12,H⟩:=of_if H
   refine kv g0 (ixS 63 (e63 (rd_T63 l1 p8)) c11 (getE (z:=z63) c11 c12))<|kv g0 (ldRA 4 [.lit (.int .i64 ((rd_T63 l1 p8).f0)),.lit (.int .i64 ((rd_T63 l1 p8).f1)),.lit (.int .i64 ((rd_T63 l1 p8).f2)),.lit (.int .i64 ((rd_T63 l1 p8).f3))]) ?_
   obtain ⟨t13,A14,H⟩:=of_bind H
   refine kcS0 25 (.lit (.bool t13)) [] g0 (cal (laws_eqItem.ok A14) [] 9999 .n (hf:=Tryz.func266)) rfl rfl<|kv g0 not_<|wk_end_draw hM (by kernel_rfl)<|ac_next ?_
   by_cases c15 : t13 = true
   ·rw [if_pos c15] at H
    refine aw_ifF ?_ (nF c15)
    refine aw_skip<|ac_blkN<|ac_next<|wk_start<|kv g0 mv<|kv g0 add6<|kv g0 asg<|wk_end<|ac_k ?_
    exact acw hE [] 9999 (hK17 k9 (wrap64 (p8 + 1)) (Nat.le_refl _) ⟨by omega,H⟩)
   rw [if_neg c15] at H
   refine aw_ifT ?_ (nT (bF c15))
   refine aw_grp1<|wk_start<|kv g0 asg<|wk_end<|ac_next<|aw_ret<|ac_blkR<|ac_thenR<|ac_thenR<|ac_blkR<|ac_thenR ?_
   obtain rfl:=Option.some.inj H
   exact acr hE [.tmp 4] (.tmp .nil) (.one _) [] 9999
  rw [if_neg c10] at H
  refine aw_ifF ?_ (decide_eq_false c10)
  refine aw_exit<|ac_then<|ac_then<|ac_hit rfl<|ac_next<|aw_grp1<|wk_start<|kv g0 asg<|wk_end<|ac_next<|aw_ret ?_
  obtain rfl:=Option.some.inj H
  exact acr hE [.tmp 4] (.tmp .nil) (.one _) [] 9999
 rw [if_neg c1] at H
 refine aw_ifT ?_ (eN c1)
 refine aw_grp1<|wk_start<|kv g0 asg<|wk_end<|ac_next<|aw_ret<|ac_thenR ?_
 obtain rfl:=Option.some.inj H
 exact acr hE [.tmp 4] (.tmp .nil) (.one _) [] 9999
/-! laws_eqRing -/
def laws_eqRing.f (k : Nat) (l0_0 : List S63) (a0_1 : Int) (a0_2 : Int) (a0_3 : Int) (l1_0 : List S63) (a1_1 : Int) (a1_2 : Int) (a1_3 : Int) : Option (Bool):=(laws_eqItemS.f k l0_0 l1_0).bind fun t1=>if t1 = true then if a0_1 = a1_1 then if a0_2 = a1_2 then if a0_3 = a1_3 then some true else some false else some false else some false else some false
theorem laws_eqRing.ok {k : Nat} {l0_0 : List S63} {a0_1 : Int} {a0_2 : Int} {a0_3 : Int} {l1_0 : List S63} {a1_1 : Int} {a1_2 : Int} {a1_3 : Int} {r : Bool} (H : laws_eqRing.f k l0_0 a0_1 a0_2 a0_3 l1_0 a1_1 a1_2 a1_3 = some r) : ACalls Tryz.prog 162 [] [.agg [.sl .o 4 (l0_0.map e63),.lit (.int .i64 a0_1),.lit (.int .i64 a0_2),.lit (.int .i64 a0_3)],.agg [.sl .o 4 (l1_0.map e63),.lit (.int .i64 a1_1),.lit (.int .i64 a1_2),.lit (.int .i64 a1_3)]] [] (.lit (.bool r)):=by
 refine acalls (fn:=Tryz.f162) (nt:=26) Tryz.func162 rfl rfl (Nat.le_of_ble_eq_true rfl) fun E hE=>?_
 rw [laws_eqRing.f] at H
 refine aw_grp1<|wk_start<|kb g0 (bxA 0)<|kb g0 (bxA 1)<|kv g0 asg<|wk_end<|ac_next<|aw_grp1<|aw_grp1<|wk_start<|kv g0 (faB 0 0)<|kv g0 ldB<|kv g0 (faB 0 0)<|kv g0 ldB ?_
 obtain ⟨t1,A2,H⟩:=of_bind H
 refine kcS0 9 (.lit (.bool t1)) [] g0 (cal (laws_eqItemS.ok A2) [] 9999 .n (hf:=Tryz.func225)) rfl rfl<|kv g0 not_<|wk_end<|ac_next ?_
 by_cases c3 : t1 = true
 ·rw [if_pos c3] at H
  refine aw_ifF ?_ (nF c3)
  refine aw_skip<|ac_next<|aw_grp1<|aw_grp1<|wk_start<|kv g0 (faB 1 1)<|kv g0 ldB<|kv g0 (faB 1 1)<|kv g0 ldB<|kv g0 neq<|wk_end<|ac_next ?_
  by_cases c4 : a0_1 = a1_1
  ·rw [if_pos c4] at H
   refine aw_ifF ?_ (eM c4)
   refine aw_skip<|ac_next<|aw_grp1<|aw_grp1<|wk_start<|kv g0 (faB 2 2)<|kv g0 ldB<|kv g0 (faB 2 2)<|kv g0 ldB<|kv g0 neq<|wk_end<|ac_next ?_
   by_cases c5 : a0_2 = a1_2
   ·rw [if_pos c5] at H
    refine aw_ifF ?_ (eM c5)
    refine aw_skip<|ac_next<|aw_grp1<|aw_grp1<|wk_start<|kv g0 (faB 3 3)<|kv g0 ldB<|kv g0 (faB 3 3)<|kv g0 ldB<|kv g0 neq<|wk_end<|ac_next ?_
    by_cases c6 : a0_3 = a1_3
    ·rw [if_pos c6] at H
     refine aw_ifF ?_ (eM c6)
     refine aw_skip<|ac_next<|aw_grp1<|wk_start<|kv g0 asg<|wk_end<|ac_next<|aw_ret ?_
     obtain rfl:=Option.some.inj H
     exact acr hE [.tmp 4] (.tmp .nil) (.one _) [] 9999
    rw [if_neg c6] at H
    refine aw_ifT ?_ (eN c6)
    refine aw_grp1<|wk_start<|kv g0 asg<|wk_end<|ac_next<|aw_ret<|ac_thenR ?_
    obtain rfl:=Option.some.inj H
    exact acr hE [.tmp 4] (.tmp .nil) (.one _) [] 9999
   rw [if_neg c5] at H
   refine aw_ifT ?_ (eN c5)
   refine aw_grp1<|wk_start<|kv g0 asg<|wk_end<|ac_next<|aw_ret<|ac_thenR ?_
   obtain rfl:=Option.some.inj H
   exact acr hE [.tmp 4] (.tmp .nil) (.one _) [] 9999
  rw [if_neg c4] at H
  refine aw_ifT ?_ (eN c4)
  refine aw_grp1<|wk_start<|kv g0 asg<|wk_end<|ac_next<|aw_ret<|ac_thenR ?_
  obtain rfl:=Option.some.inj H
  exact acr hE [.tmp 4] (.tmp .nil) (.one _) [] 9999
 rw [if_neg c3] at H
 refine aw_ifT ?_ (nT (bF c3))
 refine aw_grp1<|wk_start<|kv g0 asg<|wk_end<|ac_next<|aw_ret<|ac_thenR ?_
 obtain rfl:=Option.some.inj H
 exact acr hE [.tmp 4] (.tmp .nil) (.one _) [] 9999
/-! laws_eqRingS -/
def laws_eqRingS.l0 : Nat→(List S67)→(List S67)→Int→Option (Bool)
 | 0,_,_,_=>none
 | k9 + 1,l0,l1,p8=>if p8 < (l0.length : Int) then if 0 ≤ p8 then (if p8 < (l1.length : Int) then ((laws_eqRing.f k9 ((rd_T67 l0 p8).f0) ((rd_T67 l0 p8).f1) ((rd_T67 l0 p8).f2) ((rd_T67 l0 p8).f3) ((rd_T67 l1 p8).f0) ((rd_T67 l1 p8).f1) ((rd_T67 l1 p8).f2) ((rd_T67 l1 p8).f3)).bind fun t13=>if t13 = true then laws_eqRingS.l0 k9 l0 l1 (wrap64 (p8 + 1)) else some false) else none) else none else some true
def laws_eqRingS.f (k : Nat) (l0 : List S67) (l1 : List S67) : Option (Bool):=if (l0.length : Int) = (l1.length : Int) then laws_eqRingS.l0 k l0 l1 0 else some false
theorem laws_eqRingS.ok {k : Nat} {l0 : List S67} {l1 : List S67} {r : Bool} (H : laws_eqRingS.f k l0 l1 = some r) : ACalls Tryz.prog 75 [] [.sl .o 4 (l0.map e67),.sl .o 4 (l1.map e67)] [] (.lit (.bool r)):=by
 refine acalls (fn:=Tryz.f75) (nt:=27) Tryz.func75 rfl rfl (Nat.le_of_ble_eq_true rfl) fun E hE=>?_
 rw [laws_eqRingS.f] at H
 refine aw_grp1<|wk_start<|kv g0 asg<|wk_end<|ac_next<|aw_grp1<|aw_grp1<|wk_start<|kv g0 mv<|kv g0 (lnS lenE)<|kv g0 mv<|kv g0 (lnS lenE)<|kv g0 neq<|wk_end<|ac_next ?_
 by_cases c1 : (l0.length : Int) = (l1.length : Int)
 ·rw [if_pos c1] at H
  refine aw_ifF ?_ (eM c1)
  refine aw_skip<|ac_next<|aw_grp1<|aw_grp1<|wk_start<|kv g0 asg<|wk_end<|ac_next<|aw_block ?_
  refine aw_loop1 (fun (k_ : Nat) (p8 : Int)=>k_ ≤ k∧laws_eqRingS.l0 k_ l0 l1 p8 = some r) (fun (p8 : Int)=>⟨[(0,.sl .o 4 (l0.map e67)),(1,.sl .o 4 (l1.map e67)),(5,.lit (.int .i64 p8))],[]⟩) k 0 ⟨Nat.le_refl _,H⟩ (fun K_ h_=>acw hE [] 9999 h_) (fun _=>by intro h_;have h_:=h_.2;rw [laws_eqRingS.l0.eq_1] at h_;cases h_) ?_
  intro k9 p8 hq_ K16 hK17
  have hk9:=hq_.1
  have H:=hq_.2
  clear hq_
  rw [laws_eqRingS.l0.eq_2] at H
  refine aw_grp1<|aw_grp1<|wk_start<|kv g0 mv<|kv g0 mv<|kv g0 (lnS lenE)<|kv g0 lss<|wk_end<|ac_next ?_
  by_cases c10 : p8 < (l0.length : Int)
  ·rw [if_pos c10] at H
   refine aw_ifT ?_ (decide_eq_true c10)
   refine aw_skip<|ac_next<|aw_grp1<|aw_block<|aw_grp1<|wk_start<|kv g0 mv<|kv g0 mv ?_
   obtain ⟨c11,H⟩:=of_if H
   refine kv g0 (ixS 67 (e67 (rd_T67 l0 p8)) c11 (getE (z:=z67) c11 c10))<|kv g0 (ldRA 4 [.sl .o 4 (((rd_T67 l0 p8).f0).map e63),.lit (.int .i64 ((rd_T67 l0 p8).f1)),.lit (.int .i64 ((rd_T67 l0 p8).f2)),.lit (.int .i64 ((rd_T67 l0 p8).f3))])<|kv g0 mv<|kv g0 mv ?_
   obtain ⟨c12,H⟩:=of_if H
   refine kv g0 (ixS 67 (e67 (rd_T67 l1 p8)) c11 (getE (z:=z67) c11 c12))<|kv g0 (ldRA 4 [.sl .o 4 (((rd_T67 l1 p8).f0).map e63),.lit (.int .i64 ((rd_T67 l1 p8).f1)),.lit (.int .i64 ((rd_T67 l1 p8).f2)),.lit (.int .i64 ((rd_T67 l1 p8).f3))]) ?_
   obtain ⟨t13,A14,H⟩:=of_bind H
   refine kcS0 25 (.lit (.bool t13)) [] g0 (cal (laws_eqRing.ok A14) [] 9999 .n (hf:=Tryz.func162)) rfl rfl<|kv g0 not_<|wk_end_draw hM (by kernel_rfl)<|ac_next ?_
   by_cases c15 : t13 = true
   ·rw [if_pos c15] at H
    refine aw_ifF ?_ (nF c15)
    refine aw_skip<|ac_blkN<|ac_next<|wk_start<|kv g0 mv<|kv g0 add6<|kv g0 asg<|wk_end<|ac_k ?_
    exact acw hE [] 9999 (hK17 k9 (wrap64 (p8 + 1)) (Nat.le_refl _) ⟨by omega,H⟩)
   rw [if_neg c15] at H
   refine aw_ifT ?_ (nT (bF c15))
   refine aw_grp1<|wk_start<|kv g0 asg<|wk_end<|ac_next<|aw_ret<|ac_blkR<|ac_thenR<|ac_thenR<|ac_blkR<|ac_thenR ?_
   obtain rfl:=Option.some.inj H
   exact acr hE [.tmp 4] (.tmp .nil) (.one _) [] 9999
  rw [if_neg c10] at H
  refine aw_ifF ?_ (decide_eq_false c10)
  refine aw_exit<|ac_then<|ac_then<|ac_hit rfl<|ac_next<|aw_grp1<|wk_start<|kv g0 asg<|wk_end<|ac_next<|aw_ret ?_
  obtain rfl:=Option.some.inj H
  exact acr hE [.tmp 4] (.tmp .nil) (.one _) [] 9999
 rw [if_neg c1] at H
 refine aw_ifT ?_ (eN c1)
 refine aw_grp1<|wk_start<|kv g0 asg<|wk_end<|ac_next<|aw_ret<|ac_thenR ?_
 obtain rfl:=Option.some.inj H
 exact acr hE [.tmp 4] (.tmp .nil) (.one _) [] 9999
/-! laws_eqSender -/
def laws_eqSender.f (k : Nat) (a0_0 : Int) (a0_1 : Int) (l0_2 : List S63) (a0_3 : Int) (a0_4 : Int) (a1_0 : Int) (a1_1 : Int) (l1_2 : List S63) (a1_3 : Int) (a1_4 : Int) : Option (Bool):=if a0_0 = a1_0 then if a0_1 = a1_1 then (laws_eqItemS.f k l0_2 l1_2).bind fun t3=>if t3 = true then if a0_3 = a1_3 then if a0_4 = a1_4 then some true else some false else some false else some false else some false else some false
theorem laws_eqSender.ok {k : Nat} {a0_0 : Int} {a0_1 : Int} {l0_2 : List S63} {a0_3 : Int} {a0_4 : Int} {a1_0 : Int} {a1_1 : Int} {l1_2 : List S63} {a1_3 : Int} {a1_4 : Int} {r : Bool} (H : laws_eqSender.f k a0_0 a0_1 l0_2 a0_3 a0_4 a1_0 a1_1 l1_2 a1_3 a1_4 = some r) : ACalls Tryz.prog 163 [] [.agg [.lit (.int .i64 a0_0),.lit (.int .i64 a0_1),.sl .o 4 (l0_2.map e63),.lit (.int .i64 a0_3),.lit (.int .i64 a0_4)],.agg [.lit (.int .i64 a1_0),.lit (.int .i64 a1_1),.sl .o 4 (l1_2.map e63),.lit (.int .i64 a1_3),.lit (.int .i64 a1_4)]] [] (.lit (.bool r)):=by
 refine acalls (fn:=Tryz.f163) (nt:=31) Tryz.func163 rfl rfl (Nat.le_of_ble_eq_true rfl) fun E hE=>?_
 rw [laws_eqSender.f] at H
 refine aw_grp1<|wk_start<|kb g0 (bxA 0)<|kb g0 (bxA 1)<|kv g0 asg<|wk_end<|ac_next<|aw_grp1<|aw_grp1<|wk_start<|kv g0 (faB 0 0)<|kv g0 ldB<|kv g0 (faB 0 0)<|kv g0 ldB<|kv g0 neq<|wk_end<|ac_next ?_
 by_cases c1 : a0_0 = a1_0
 ·rw [if_pos c1] at H
  refine aw_ifF ?_ (eM c1)
  refine aw_skip<|ac_next<|aw_grp1<|aw_grp1<|wk_start<|kv g0 (faB 1 1)<|kv g0 ldB<|kv g0 (faB 1 1)<|kv g0 ldB<|kv g0 neq<|wk_end<|ac_next ?_
  by_cases c2 : a0_1 = a1_1
  ·rw [if_pos c2] at H
   refine aw_ifF ?_ (eM c2)
   refine aw_skip<|ac_next<|aw_grp1<|aw_grp1<|wk_start<|kv g0 (faB 2 2)<|kv g0 ldB<|kv g0 (faB 2 2)<|kv g0 ldB ?_
   obtain ⟨t3,A4,H⟩:=of_bind H
   refine kcS0 19 (.lit (.bool t3)) [] g0 (cal (laws_eqItemS.ok A4) [] 9999 .n (hf:=Tryz.func225)) rfl rfl<|kv g0 not_<|wk_end<|ac_next ?_
   by_cases c5 : t3 = true
   ·rw [if_pos c5] at H
    refine aw_ifF ?_ (nF c5)
    refine aw_skip<|ac_next<|aw_grp1<|aw_grp1<|wk_start<|kv g0 (faB 3 3)<|kv g0 ldB<|kv g0 (faB 3 3)<|kv g0 ldB<|kv g0 neq<|wk_end<|ac_next ?_
    by_cases c6 : a0_3 = a1_3
    ·rw [if_pos c6] at H
     refine aw_ifF ?_ (eM c6)
     refine aw_skip<|ac_next<|aw_grp1<|aw_grp1<|wk_start<|kv g0 (faB 4 4)<|kv g0 ldB<|kv g0 (faB 4 4)<|kv g0 ldB<|kv g0 neq<|wk_end<|ac_next ?_
     by_cases c7 : a0_4 = a1_4
     ·rw [if_pos c7] at H
      refine aw_ifF ?_ (eM c7)
      refine aw_skip<|ac_next<|aw_grp1<|wk_start<|kv g0 asg<|wk_end<|ac_next<|aw_ret ?_
      obtain rfl:=Option.some.inj H
      exact acr hE [.tmp 4] (.tmp .nil) (.one _) [] 9999
     rw [if_neg c7] at H
     refine aw_ifT ?_ (eN c7)
     refine aw_grp1<|wk_start<|kv g0 asg<|wk_end<|ac_next<|aw_ret<|ac_thenR ?_
     obtain rfl:=Option.some.inj H
     exact acr hE [.tmp 4] (.tmp .nil) (.one _) [] 9999
    rw [if_neg c6] at H
    refine aw_ifT ?_ (eN c6)
    refine aw_grp1<|wk_start<|kv g0 asg<|wk_end<|ac_next<|aw_ret<|ac_thenR ?_
    obtain rfl:=Option.some.inj H
    exact acr hE [.tmp 4] (.tmp .nil) (.one _) [] 9999
   rw [if_neg c5] at H
   refine aw_ifT ?_ (nT (bF c5))
   refine aw_grp1<|wk_start<|kv g0 asg<|wk_end<|ac_next<|aw_ret<|ac_thenR ?_
   obtain rfl:=Option.some.inj H
   exact acr hE [.tmp 4] (.tmp .nil) (.one _) [] 9999
  rw [if_neg c2] at H
  refine aw_ifT ?_ (eN c2)
  refine aw_grp1<|wk_start<|kv g0 asg<|wk_end<|ac_next<|aw_ret<|ac_thenR ?_
  obtain rfl:=Option.some.inj H
  exact acr hE [.tmp 4] (.tmp .nil) (.one _) [] 9999
 rw [if_neg c1] at H
 refine aw_ifT ?_ (eN c1)
 refine aw_grp1<|wk_start<|kv g0 asg<|wk_end<|ac_next<|aw_ret<|ac_thenR ?_
 obtain rfl:=Option.some.inj H
 exact acr hE [.tmp 4] (.tmp .nil) (.one _) [] 9999
/-! laws_eqSenderS -/
def laws_eqSenderS.l0 : Nat→(List S65)→(List S65)→Int→Option (Bool)
 | 0,_,_,_=>none
 | k9 + 1,l0,l1,p8=>if p8 < (l0.length : Int) then if 0 ≤ p8 then (if p8 < (l1.length : Int) then ((laws_eqSender.f k9 ((rd_T65 l0 p8).f0) ((rd_T65 l0 p8).f1) ((rd_T65 l0 p8).f2) ((rd_T65 l0 p8).f3) ((rd_T65 l0 p8).f4) ((rd_T65 l1 p8).f0) ((rd_T65 l1 p8).f1) ((rd_T65 l1 p8).f2) ((rd_T65 l1 p8).f3) ((rd_T65 l1 p8).f4)).bind fun t13=>if t13 = true then laws_eqSenderS.l0 k9 l0 l1 (wrap64 (p8 + 1)) else some false) else none) else none else some true
def laws_eqSenderS.f (k : Nat) (l0 : List S65) (l1 : List S65) : Option (Bool):=if (l0.length : Int) = (l1.length : Int) then laws_eqSenderS.l0 k l0 l1 0 else some false
theorem laws_eqSenderS.ok {k : Nat} {l0 : List S65} {l1 : List S65} {r : Bool} (H : laws_eqSenderS.f k l0 l1 = some r) : ACalls Tryz.prog 76 [] [.sl .o 5 (l0.map e65),.sl .o 5 (l1.map e65)] [] (.lit (.bool r)):=by
 refine acalls (fn:=Tryz.f76) (nt:=27) Tryz.func76 rfl rfl (Nat.le_of_ble_eq_true rfl) fun E hE=>?_
 rw [laws_eqSenderS.f] at H
 refine aw_grp1<|wk_start<|kv g0 asg<|wk_end<|ac_next<|aw_grp1<|aw_grp1<|wk_start<|kv g0 mv<|kv g0 (lnS lenE)<|kv g0 mv<|kv g0 (lnS lenE)<|kv g0 neq<|wk_end<|ac_next ?_
 by_cases c1 : (l0.length : Int) = (l1.length : Int)
 ·rw [if_pos c1] at H
  refine aw_ifF ?_ (eM c1)
  refine aw_skip<|ac_next<|aw_grp1<|aw_grp1<|wk_start<|kv g0 asg<|wk_end<|ac_next<|aw_block ?_
  refine aw_loop1 (fun (k_ : Nat) (p8 : Int)=>k_ ≤ k∧laws_eqSenderS.l0 k_ l0 l1 p8 = some r) (fun (p8 : Int)=>⟨[(0,.sl .o 5 (l0.map e65)),(1,.sl .o 5 (l1.map e65)),(5,.lit (.int .i64 p8))],[]⟩) k 0 ⟨Nat.le_refl _,H⟩ (fun K_ h_=>acw hE [] 9999 h_) (fun _=>by intro h_;have h_:=h_.2;rw [laws_eqSenderS.l0.eq_1] at h_;cases h_) ?_
  intro k9 p8 hq_ K16 hK17
  have hk9:=hq_.1
  have H:=hq_.2
  clear hq_
  rw [laws_eqSenderS.l0.eq_2] at H
  refine aw_grp1<|aw_grp1<|wk_start<|kv g0 mv<|kv g0 mv<|kv g0 (lnS lenE)<|kv g0 lss<|wk_end<|ac_next ?_
  by_cases c10 : p8 < (l0.length : Int)
  ·rw [if_pos c10] at H
   refine aw_ifT ?_ (decide_eq_true c10)
   refine aw_skip<|ac_next<|aw_grp1<|aw_block<|aw_grp1<|wk_start<|kv g0 mv<|kv g0 mv ?_
   obtain ⟨c11,H⟩:=of_if H
   refine kv g0 (ixS 65 (e65 (rd_T65 l0 p8)) c11 (getE (z:=z65) c11 c10))<|kv g0 (ldRA 5 [.lit (.int .i64 ((rd_T65 l0 p8).f0)),.lit (.int .i64 ((rd_T65 l0 p8).f1)),.sl .o 4 (((rd_T65 l0 p8).f2).map e63),.lit (.int .i64 ((rd_T65 l0 p8).f3)),.lit (.int .i64 ((rd_T65 l0 p8).f4))])<|kv g0 mv<|kv g0 mv ?_
   obtain ⟨c12,H⟩:=of_if H
   refine kv g0 (ixS 65 (e65 (rd_T65 l1 p8)) c11 (getE (z:=z65) c11 c12))<|kv g0 (ldRA 5 [.lit (.int .i64 ((rd_T65 l1 p8).f0)),.lit (.int .i64 ((rd_T65 l1 p8).f1)),.sl .o 4 (((rd_T65 l1 p8).f2).map e63),.lit (.int .i64 ((rd_T65 l1 p8).f3)),.lit (.int .i64 ((rd_T65 l1 p8).f4))]) ?_
   obtain ⟨t13,A14,H⟩:=of_bind H
   refine kcS0 25 (.lit (.bool t13)) [] g0 (cal (laws_eqSender.ok A14) [] 9999 .n (hf:=Tryz.func163)) rfl rfl<|kv g0 not_<|wk_end_draw hM (by kernel_rfl)<|ac_next ?_
   by_cases c15 : t13 = true
   ·rw [if_pos c15] at H
    refine aw_ifF ?_ (nF c15)
    refine aw_skip<|ac_blkN<|ac_next<|wk_start<|kv g0 mv<|kv g0 add6<|kv g0 asg<|wk_end<|ac_k ?_
    exact acw hE [] 9999 (hK17 k9 (wrap64 (p8 + 1)) (Nat.le_refl _) ⟨by omega,H⟩)
   rw [if_neg c15] at H
   refine aw_ifT ?_ (nT (bF c15))
   refine aw_grp1<|wk_start<|kv g0 asg<|wk_end<|ac_next<|aw_ret<|ac_blkR<|ac_thenR<|ac_thenR<|ac_blkR<|ac_thenR ?_
   obtain rfl:=Option.some.inj H
   exact acr hE [.tmp 4] (.tmp .nil) (.one _) [] 9999
  rw [if_neg c10] at H
  refine aw_ifF ?_ (decide_eq_false c10)
  refine aw_exit<|ac_then<|ac_then<|ac_hit rfl<|ac_next<|aw_grp1<|wk_start<|kv g0 asg<|wk_end<|ac_next<|aw_ret ?_
  obtain rfl:=Option.some.inj H
  exact acr hE [.tmp 4] (.tmp .nil) (.one _) [] 9999
 rw [if_neg c1] at H
 refine aw_ifT ?_ (eN c1)
 refine aw_grp1<|wk_start<|kv g0 asg<|wk_end<|ac_next<|aw_ret<|ac_thenR ?_
 obtain rfl:=Option.some.inj H
 exact acr hE [.tmp 4] (.tmp .nil) (.one _) [] 9999
end Go.Proofs.YtkkglhhkpihmgaaGreat.PFnExactCalmWorld
