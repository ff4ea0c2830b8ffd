import Derived.Test.YtkkglhhkpihmgaaGreatPFnExactCalmWorldx1
set_option linter.unusedVariables false
set_option linter.unusedSimpArgs false
set_option maxRecDepth 100000
namespace Go.Proofs.YtkkglhhkpihmgaaGreat.PFnExactCalmWorld
open Go Go.RowKit Go.Proofs.YtkkglhhkpihmgaaGreatA
/-! spec_l20Copy -/
def spec_l20Copy.f (l0_0 : List S139) (l0_1 : List Int) (l0_2 : List S154) (a0_3 : Int) (l0_4 : List Int) : Option ((List S139) × (List Int) × (List S154) × Int × (List Int)):=if ([] : List S139).length + l0_0.length < 2932031007402 then (if ([] : List Int).length + l0_1.length < 17592186044416 then (if ([] : List S154).length + l0_2.length < 2932031007402 then (if ([] : List Int).length + l0_4.length < 17592186044416 then some (([] : List S139) ++ l0_0,([] : List Int) ++ l0_1,([] : List S154) ++ l0_2,a0_3,([] : List Int) ++ l0_4) else none) else none) else none) else none
theorem spec_l20Copy.ok {l0_0 : List S139} {l0_1 : List Int} {l0_2 : List S154} {a0_3 : Int} {l0_4 : List Int} {r : (List S139) × (List Int) × (List S154) × Int × (List Int)} (H : spec_l20Copy.f l0_0 l0_1 l0_2 a0_3 l0_4 = some r) : ACalls Tryz.prog 133 [] [.agg [.sl .o 6 (l0_0.map e139),.sl .o 1 (l0_1.map (eI .i64)),.sl .o 6 (l0_2.map e154),.lit (.int .i64 a0_3),.sl .o 1 (l0_4.map (eI .i64))]] [(0,.row 139 6 (r.1.map e139)),(1,.row 3 1 (r.2.1.map (eI .i64))),(2,.row 154 6 (r.2.2.1.map e154)),(3,.row 3 1 (r.2.2.2.2.map (eI .i64)))] (.agg [.row 0,.row 1,.row 2,.lit (.int .i64 r.2.2.2.1),.row 3]):=by
 refine acalls (fn:=Tryz.f133) (nt:=22) Tryz.func133 rfl rfl (Nat.le_of_ble_eq_true rfl) fun E hE=>?_
 rw [spec_l20Copy.f] at H
 refine aw_grp1<|wk_start<|kb g0 (bxA 0)<|kb g0 (alc 1 [.slice none 0 0,.slice none 0 0,.slice none 0 0,.int .i64 0,.slice none 0 0] [.lit (.slice none 0 0),.lit (.slice none 0 0),.lit (.slice none 0 0),.lit (.int .i64 0),.lit (.slice none 0 0)])<|wk_end<|ac_next<|aw_grp1<|wk_start<|kb g0 (bsl 2 139 6 [.int .i64 0,.int .i64 0,.int .i64 0,.int .i64 0,.int .i64 0,.int .i64 0] (([] : List S139).map e139))<|kv g0 (faB 0 0)<|kv g0 ldB ?_
 obtain ⟨c1,H⟩:=of_if H
 refine kc g0 (apR 3 139 6 48 [.int .i64 0,.int .i64 0,.int .i64 0,.int .i64 0,.int .i64 0,.int .i64 0] ((([] : List S139) ++ l0_0).map e139) (.slF fl139) (apb c1 rfl) appE)<|kb g0 (bsl 4 3 1 [.int .i64 0] (([] : List Int).map (eI .i64)))<|kv g0 (faB 1 1)<|kv g0 ldB ?_
 obtain ⟨c2,H⟩:=of_if H
 refine kc g0 (apR 5 3 1 8 [.int .i64 0] ((([] : List Int) ++ l0_1).map (eI .i64)) (.slF flI) (apb c2 rfl) appE)<|kb g0 (bsl 6 154 6 [.int .i64 0,.int .i64 0,.int .i64 0,.int .i64 0,.int .i64 0,.int .i64 0] (([] : List S154).map e154))<|kv g0 (faB 2 2)<|kv g0 ldB ?_
 obtain ⟨c3,H⟩:=of_if H
 refine kc g0 (apR 7 154 6 48 [.int .i64 0,.int .i64 0,.int .i64 0,.int .i64 0,.int .i64 0,.int .i64 0] ((([] : List S154) ++ l0_2).map e154) (.slF fl154) (apb c3 rfl) appE)<|kv g0 (faB 3 3)<|kv g0 ldB<|kb g0 (bsl 8 3 1 [.int .i64 0] (([] : List Int).map (eI .i64)))<|kv g0 (faB 4 4)<|kv g0 ldB ?_
 obtain ⟨c4,H⟩:=of_if H
 refine kc g0 (apR 9 3 1 8 [.int .i64 0] ((([] : List Int) ++ l0_4).map (eI .i64)) (.slF flI) (apb c4 rfl) appE)<|kv g0 (bld [(0,1),(1,1),(2,1),(3,1),(4,1)] [.slice none 0 0,.slice none 0 0,.slice none 0 0,.int .i64 0,.slice none 0 0] [.row 3,.row 5,.row 7,.lit (.int .i64 a0_3),.row 9])<|ks g0 (stB 5 [.row 3,.row 5,.row 7,.lit (.int .i64 a0_3),.row 9])<|wk_end_draw hM (by kernel_rfl)<|ac_next<|aw_ret ?_
 obtain rfl:=Option.some.inj H
 exact acr hE [.cell 2 41] (rcA 5 .nil) (.one _) [(0,3),(1,5),(2,7),(3,9)] 9999
/-! spec_l15Copy -/
def spec_l15Copy.l0 : Nat→(List (List S234))→(List (List S234))→Int→Option ((List (List S234)))
 | 0,_,_,_=>none
 | k7 + 1,l0,q5,p6=>if p6 < (l0.length : Int) then if 0 ≤ p6 then (if ([] : List S234).length + (rdOf ([] : List S234) l0 p6).length < 4398046511104 then (if q5.length + ([([] : List S234) ++ (rdOf ([] : List S234) l0 p6)] : List (List S234)).length < 5864062014805 then spec_l15Copy.l0 k7 l0 (q5 ++ ([([] : List S234) ++ (rdOf ([] : List S234) l0 p6)] : List (List S234))) (wrap64 (p6 + 1)) else none) else none) else none else some q5
def spec_l15Copy.f (k : Nat) (l0 : List (List S234)) : Option ((List (List S234))):=spec_l15Copy.l0 k l0 ([] : List (List S234)) 0
theorem spec_l15Copy.ok {k : Nat} {l0 : List (List S234)} {r : (List (List S234))} (H : spec_l15Copy.f k l0 = some r) : ACalls Tryz.prog 134 [] [.sl .o 1 (l0.map (eL 4 (e234)))] [(0,.row 147 1 (r.map (eL 4 (e234))))] (.row 0):=by
 refine acalls (fn:=Tryz.f134) (nt:=22) Tryz.func134 rfl rfl (Nat.le_of_ble_eq_true rfl) fun E hE=>?_
 rw [spec_l15Copy.f] at H
 refine aw_grp1<|wk_start<|kv g0 asg<|wk_end<|ac_next<|aw_grp1<|wk_start<|kb g0 (bsl 0 147 1 [.slice none 0 0] (([] : List (List S234)).map (eL 4 e234)))<|kv g0 asg<|wk_end<|ac_next<|aw_grp1<|aw_grp1<|wk_start<|kv g0 asg<|wk_end<|ac_next<|aw_block ?_
 refine aw_loop2 (fun (k_ : Nat) (q5 : List (List S234)) (p6 : Int)=>k_ ≤ k∧spec_l15Copy.l0 k_ l0 q5 p6 = some r) (fun (q5 : List (List S234)) (p6 : Int)=>⟨[(0,.sl .o 1 (l0.map (eL 4 (e234)))),(3,.row 0),(4,.lit (.int .i64 p6))],[(0,.row 147 1 (q5.map (eL 4 (e234))))]⟩) k ([] : List (List S234)) 0 ⟨Nat.le_refl _,H⟩ (fun K_ h_=>acw hE [(0,0)] 9999 h_) (fun _ _=>by intro h_;have h_:=h_.2;rw [spec_l15Copy.l0.eq_1] at h_;cases h_) ?_
 intro k7 q5 p6 hq_ K12 hK13
 have hk7:=hq_.1
 have H:=hq_.2
 clear hq_
 rw [spec_l15Copy.l0.eq_2] at H
 refine aw_grp1<|aw_grp1<|wk_start<|kv g0 mv<|kv g0 mv<|kv g0 (lnS lenE)<|kv g0 lss<|wk_end<|ac_next ?_
 by_cases c8 : p6 < (l0.length : Int)
 ·rw [if_pos c8] at H
  refine aw_ifT ?_ (decide_eq_true c8)
  refine aw_skip<|ac_next<|aw_grp1<|aw_block<|wk_start<|kv g0 mv<|kb g0 (bsl 1 234 4 [.int .i64 0,.int .i64 0,.int .i64 0,.int .i64 0] (([] : List S234).map e234))<|kv g0 mv<|kv g0 mv ?_
  obtain ⟨c9,H⟩:=of_if H
  refine kv g0 (ixS 147 (eL 4 e234 (rdOf ([] : List S234) l0 p6)) c9 (getE (z:=([] : List S234)) c9 c8))<|kv g0 (ldR (.sl .o 4 ((rdOf ([] : List S234) l0 p6).map e234))) ?_
  obtain ⟨c10,H⟩:=of_if H
  refine kc g0 (okv_frz2 (apR 2 234 4 32 [.int .i64 0,.int .i64 0,.int .i64 0,.int .i64 0] ((([] : List S234) ++ (rdOf ([] : List S234) l0 p6)).map e234) (.slF fl234) (apb c10 rfl) appE))<|kb g0 (bsl 3 147 1 [.slice none 0 0] (([([] : List S234) ++ (rdOf ([] : List S234) l0 p6)] : List (List S234)).map (eL 4 e234))) ?_
  obtain ⟨c11,H⟩:=of_if H
  refine kc g0 (apR 4 147 1 24 [.slice none 0 0] ((q5 ++ ([([] : List S234) ++ (rdOf ([] : List S234) l0 p6)] : List (List S234))).map (eL 4 e234)) (.row rfl) (apb c11 rfl) appE)<|kv g0 asg<|wk_end<|ac_blkN<|ac_next<|wk_start<|kv g0 mv<|kv g0 add6<|kv g0 asg<|wk_end<|ac_k ?_
  exact acw hE [(0,4)] 9999 (hK13 k7 (q5 ++ ([([] : List S234) ++ (rdOf ([] : List S234) l0 p6)] : List (List S234))) (wrap64 (p6 + 1)) (Nat.le_refl _) ⟨by omega,H⟩)
 rw [if_neg c8] at H
 refine aw_ifF ?_ (decide_eq_false c8)
 refine aw_exit<|ac_then<|ac_then<|ac_hit rfl<|ac_next<|aw_grp1<|wk_start<|kv g0 mv<|kv g0 asg<|wk_end<|ac_next<|aw_ret ?_
 obtain rfl:=Option.some.inj H
 exact acr hE [.tmp 2] (.tmp .nil) (.one _) [(0,0)] 9999
/-! spec_l16Copy -/
def spec_l16Copy.f (l0_0 : List S63) (a0_1 : Int) (a0_2 : Int) (a0_3 : Int) : Option ((List S63) × Int × Int × Int):=if ([] : List S63).length + l0_0.length < 4398046511104 then some (([] : List S63) ++ l0_0,a0_1,a0_2,a0_3) else none
theorem spec_l16Copy.ok {l0_0 : List S63} {a0_1 : Int} {a0_2 : Int} {a0_3 : Int} {r : (List S63) × Int × Int × Int} (H : spec_l16Copy.f l0_0 a0_1 a0_2 a0_3 = some r) : ACalls Tryz.prog 135 [] [.agg [.sl .o 4 (l0_0.map e63),.lit (.int .i64 a0_1),.lit (.int .i64 a0_2),.lit (.int .i64 a0_3)]] [(0,.row 63 4 (r.1.map e63))] (.agg [.row 0,.lit (.int .i64 r.2.1),.lit (.int .i64 r.2.2.1),.lit (.int .i64 r.2.2.2)]):=by
 refine acalls (fn:=Tryz.f135) (nt:=11) Tryz.func135 rfl rfl (Nat.le_of_ble_eq_true rfl) fun E hE=>?_
 rw [spec_l16Copy.f] at H
 refine aw_grp1<|wk_start<|kb g0 (bxA 0)<|kb g0 (alc 1 [.slice none 0 0,.int .i64 0,.int .i64 0,.int .i64 0] [.lit (.slice none 0 0),.lit (.int .i64 0),.lit (.int .i64 0),.lit (.int .i64 0)])<|wk_end<|ac_next<|aw_grp1<|wk_start<|kv g0 (ldBA 4 [.sl .o 4 (l0_0.map e63),.lit (.int .i64 a0_1),.lit (.int .i64 a0_2),.lit (.int .i64 a0_3)])<|kb g0 (alc 2 [.slice none 0 0,.int .i64 0,.int .i64 0,.int .i64 0] [.lit (.slice none 0 0),.lit (.int .i64 0),.lit (.int .i64 0),.lit (.int .i64 0)])<|ks g0 (stB 4 [.sl .o 4 (l0_0.map e63),.lit (.int .i64 a0_1),.lit (.int .i64 a0_2),.lit (.int .i64 a0_3)])<|wk_end<|ac_next<|aw_grp1<|wk_start<|kb g0 (bsl 3 63 4 [.int .i64 0,.int .i64 0,.int .i64 0,.int .i64 0] (([] : List S63).map e63))<|kv g0 (faB 0 0)<|kv g0 ldB ?_
 obtain ⟨c1,H⟩:=of_if H
 refine kc g0 (apR 4 63 4 32 [.int .i64 0,.int .i64 0,.int .i64 0,.int .i64 0] ((([] : List S63) ++ l0_0).map e63) (.slF fl63) (apb c1 rfl) appE)<|kv g0 (faB 0 0)<|ks g0 (stB 1 [.row 4,.lit (.int .i64 a0_1),.lit (.int .i64 a0_2),.lit (.int .i64 a0_3)])<|wk_end<|ac_next<|aw_grp1<|wk_start<|kv g0 (ldBA 4 [.row 4,.lit (.int .i64 a0_1),.lit (.int .i64 a0_2),.lit (.int .i64 a0_3)])<|ks g0 (stB 4 [.row 4,.lit (.int .i64 a0_1),.lit (.int .i64 a0_2),.lit (.int .i64 a0_3)])<|wk_end<|ac_next<|aw_ret ?_
 obtain rfl:=Option.some.inj H
 exact acr hE [.cell 2 67] (rcA 4 .nil) (.one _) [(0,4)] 9999
/-! spec_l18Copy -/
def spec_l18Copy.f (a0_0 : Int) (a0_1 : Int) (l0_2 : List S63) (a0_3 : Int) (a0_4 : Int) : Option (Int × Int × (List S63) × Int × Int):=if ([] : List S63).length + l0_2.length < 4398046511104 then some (a0_0,a0_1,([] : List S63) ++ l0_2,a0_3,a0_4) else none
theorem spec_l18Copy.ok {a0_0 : Int} {a0_1 : Int} {l0_2 : List S63} {a0_3 : Int} {a0_4 : Int} {r : Int × Int × (List S63) × Int × Int} (H : spec_l18Copy.f a0_0 a0_1 l0_2 a0_3 a0_4 = some r) : ACalls Tryz.prog 136 [] [.agg [.lit (.int .i64 a0_0),.lit (.int .i64 a0_1),.sl .o 4 (l0_2.map e63),.lit (.int .i64 a0_3),.lit (.int .i64 a0_4)]] [(0,.row 63 4 (r.2.2.1.map e63))] (.agg [.lit (.int .i64 r.1),.lit (.int .i64 r.2.1),.row 0,.lit (.int .i64 r.2.2.2.1),.lit (.int .i64 r.2.2.2.2)]):=by
 refine acalls (fn:=Tryz.f136) (nt:=11) Tryz.func136 rfl rfl (Nat.le_of_ble_eq_true rfl) fun E hE=>?_
 rw [spec_l18Copy.f] at H
 refine aw_grp1<|wk_start<|kb g0 (bxA 0)<|kb g0 (alc 1 [.int .i64 0,.int .i64 0,.slice none 0 0,.int .i64 0,.int .i64 0] [.lit (.int .i64 0),.lit (.int .i64 0),.lit (.slice none 0 0),.lit (.int .i64 0),.lit (.int .i64 0)])<|wk_end<|ac_next<|aw_grp1<|wk_start<|kv g0 (ldBA 5 [.lit (.int .i64 a0_0),.lit (.int .i64 a0_1),.sl .o 4 (l0_2.map e63),.lit (.int .i64 a0_3),.lit (.int .i64 a0_4)])<|kb g0 (alc 2 [.int .i64 0,.int .i64 0,.slice none 0 0,.int .i64 0,.int .i64 0] [.lit (.int .i64 0),.lit (.int .i64 0),.lit (.slice none 0 0),.lit (.int .i64 0),.lit (.int .i64 0)])<|ks g0 (stB 5 [.lit (.int .i64 a0_0),.lit (.int .i64 a0_1),.sl .o 4 (l0_2.map e63),.lit (.int .i64 a0_3),.lit (.int .i64 a0_4)])<|wk_end<|ac_next<|aw_grp1<|wk_start<|kb g0 (bsl 3 63 4 [.int .i64 0,.int .i64 0,.int .i64 0,.int .i64 0] (([] : List S63).map e63))<|kv g0 (faB 2 2)<|kv g0 ldB ?_
 obtain ⟨c1,H⟩:=of_if H
 refine kc g0 (apR 4 63 4 32 [.int .i64 0,.int .i64 0,.int .i64 0,.int .i64 0] ((([] : List S63) ++ l0_2).map e63) (.slF fl63) (apb c1 rfl) appE)<|kv g0 (faB 2 2)<|ks g0 (stB 1 [.lit (.int .i64 a0_0),.lit (.int .i64 a0_1),.row 4,.lit (.int .i64 a0_3),.lit (.int .i64 a0_4)])<|wk_end<|ac_next<|aw_grp1<|wk_start<|kv g0 (ldBA 5 [.lit (.int .i64 a0_0),.lit (.int .i64 a0_1),.row 4,.lit (.int .i64 a0_3),.lit (.int .i64 a0_4)])<|ks g0 (stB 5 [.lit (.int .i64 a0_0),.lit (.int .i64 a0_1),.row 4,.lit (.int .i64 a0_3),.lit (.int .i64 a0_4)])<|wk_end<|ac_next<|aw_ret ?_
 obtain rfl:=Option.some.inj H
 exact acr hE [.cell 2 65] (rcA 5 .nil) (.one _) [(0,4)] 9999
/-! spec_l21Copy -/
mutual
def spec_l21Copy.l0 : Nat→(List (List (List S234)))→(List S67)→(List S65)→(List S139)→(List Int)→(List S154)→Int→(List Int)→(List S151)→Int→(List Int)→(List S59)→((List S139) × (List Int) × (List S154) × Int × (List Int))→(List (List (List S234)))→Int→Option ((List (List (List S234))) × (List S67) × (List S65) × (List S139) × (List Int) × (List S154) × Int × (List Int) × (List S151) × Int × (List Int) × (List S59))
 | 0,_,_,_,_,_,_,_,_,_,_,_,_,_,_,_=>none
 | k13 + 1,l0_0,l0_1,l0_2,l0_3,l0_4,l0_5,a0_6,l0_7,l0_8,a0_9,l0_10,l0_11,t1,q11,p12=>if p12 < (l0_0.length : Int) then if 0 ≤ p12 then ((spec_l15Copy.f k13 (rdOf ([] : List (List S234)) l0_0 p12)).bind fun t16=>(if q11.length + ([t16] : List (List (List S234))).length < 5864062014805 then spec_l21Copy.l0 k13 l0_0 l0_1 l0_2 l0_3 l0_4 l0_5 a0_6 l0_7 l0_8 a0_9 l0_10 l0_11 t1 (q11 ++ ([t16] : List (List (List S234)))) (wrap64 (p12 + 1)) else none)) else none else spec_l21Copy.l1 k13 l0_0 l0_1 l0_2 l0_3 l0_4 l0_5 a0_6 l0_7 l0_8 a0_9 l0_10 l0_11 t1 q11 ([]) 0
def spec_l21Copy.l1 : Nat→(List (List (List S234)))→(List S67)→(List S65)→(List S139)→(List Int)→(List S154)→Int→(List Int)→(List S151)→Int→(List Int)→(List S59)→((List S139) × (List Int) × (List S154) × Int × (List Int))→(List (List (List S234)))→(List S67)→Int→Option ((List (List (List S234))) × (List S67) × (List S65) × (List S139) × (List Int) × (List S154) × Int × (List Int) × (List S151) × Int × (List Int) × (List S59))
 | 0,_,_,_,_,_,_,_,_,_,_,_,_,_,_,_,_=>none
 | k28 + 1,l0_0,l0_1,l0_2,l0_3,l0_4,l0_5,a0_6,l0_7,l0_8,a0_9,l0_10,l0_11,t1,q11,q26,p27=>if p27 < (l0_1.length : Int) then if 0 ≤ p27 then ((spec_l16Copy.f ((rd_T67 l0_1 p27).f0) ((rd_T67 l0_1 p27).f1) ((rd_T67 l0_1 p27).f2) ((rd_T67 l0_1 p27).f3)).bind fun t31=>(if q26.length + ([(⟨t31.1,t31.2.1,t31.2.2.1,t31.2.2.2⟩ : S67)] : List S67).length < 2932031007402 then spec_l21Copy.l1 k28 l0_0 l0_1 l0_2 l0_3 l0_4 l0_5 a0_6 l0_7 l0_8 a0_9 l0_10 l0_11 t1 q11 (q26 ++ ([(⟨t31.1,t31.2.1,t31.2.2.1,t31.2.2.2⟩ : S67)] : List S67)) (wrap64 (p27 + 1)) else none)) else none else spec_l21Copy.l2 k28 l0_0 l0_1 l0_2 l0_3 l0_4 l0_5 a0_6 l0_7 l0_8 a0_9 l0_10 l0_11 t1 q11 q26 ([]) 0
def spec_l21Copy.l2 : Nat→(List (List (List S234)))→(List S67)→(List S65)→(List S139)→(List Int)→(List S154)→Int→(List Int)→(List S151)→Int→(List Int)→(List S59)→((List S139) × (List Int) × (List S154) × Int × (List Int))→(List (List (List S234)))→(List S67)→(List S65)→Int→Option ((List (List (List S234))) × (List S67) × (List S65) × (List S139) × (List Int) × (List S154) × Int × (List Int) × (List S151) × Int × (List Int) × (List S59))
 | 0,_,_,_,_,_,_,_,_,_,_,_,_,_,_,_,_,_=>none
 | k43 + 1,l0_0,l0_1,l0_2,l0_3,l0_4,l0_5,a0_6,l0_7,l0_8,a0_9,l0_10,l0_11,t1,q11,q26,q41,p42=>if p42 < (l0_2.length : Int) then if 0 ≤ p42 then ((spec_l18Copy.f ((rd_T65 l0_2 p42).f0) ((rd_T65 l0_2 p42).f1) ((rd_T65 l0_2 p42).f2) ((rd_T65 l0_2 p42).f3) ((rd_T65 l0_2 p42).f4)).bind fun t46=>(if q41.length + ([(⟨t46.1,t46.2.1,t46.2.2.1,t46.2.2.2.1,t46.2.2.2.2⟩ : S65)] : List S65).length < 2513169434916 then spec_l21Copy.l2 k43 l0_0 l0_1 l0_2 l0_3 l0_4 l0_5 a0_6 l0_7 l0_8 a0_9 l0_10 l0_11 t1 q11 q26 (q41 ++ ([(⟨t46.1,t46.2.1,t46.2.2.1,t46.2.2.2.1,t46.2.2.2.2⟩ : S65)] : List S65)) (wrap64 (p42 + 1)) else none)) else none else some (q11,q26,q41,t1.1,t1.2.1,t1.2.2.1,t1.2.2.2.1,t1.2.2.2.2,([] : List S151) ++ l0_8,a0_9,([] : List Int) ++ l0_10,([] : List S59) ++ l0_11)
end
def spec_l21Copy.f (k : Nat) (l0_0 : List (List (List S234))) (l0_1 : List S67) (l0_2 : List S65) (l0_3 : List S139) (l0_4 : List Int) (l0_5 : List S154) (a0_6 : Int) (l0_7 : List Int) (l0_8 : List S151) (a0_9 : Int) (l0_10 : List Int) (l0_11 : List S59) : Option ((List (List (List S234))) × (List S67) × (List S65) × (List S139) × (List Int) × (List S154) × Int × (List Int) × (List S151) × Int × (List Int) × (List S59)):=(spec_l20Copy.f l0_3 l0_4 l0_5 a0_6 l0_7).bind fun t1=>(if ([] : List S151).length + l0_8.length < 4398046511104 then (if ([] : List Int).length + l0_10.length < 17592186044416 then (if ([] : List S59).length + l0_11.length < 4398046511104 then spec_l21Copy.l0 k l0_0 l0_1 l0_2 l0_3 l0_4 l0_5 a0_6 l0_7 l0_8 a0_9 l0_10 l0_11 t1 ([]) 0 else none) else none) else none)
theorem spec_l21Copy.ok {k : Nat} {l0_0 : List (List (List S234))} {l0_1 : List S67} {l0_2 : List S65} {l0_3 : List S139} {l0_4 : List Int} {l0_5 : List S154} {a0_6 : Int} {l0_7 : List Int} {l0_8 : List S151} {a0_9 : Int} {l0_10 : List Int} {l0_11 : List S59} {r : (List (List (List S234))) × (List S67) × (List S65) × (List S139) × (List Int) × (List S154) × Int × (List Int) × (List S151) × Int × (List Int) × (List S59)} (H : spec_l21Copy.f k l0_0 l0_1 l0_2 l0_3 l0_4 l0_5 a0_6 l0_7 l0_8 a0_9 l0_10 l0_11 = some r) : ACalls Tryz.prog 46 [] [.agg [.sl .o 1 (l0_0.map (eL 1 (eL 4 (e234)))),.sl .o 4 (l0_1.map e67),.sl .o 5 (l0_2.map e65),.sl .o 6 (l0_3.map e139),.sl .o 1 (l0_4.map (eI .i64)),.sl .o 6 (l0_5.map e154),.lit (.int .i64 a0_6),.sl .o 1 (l0_7.map (eI .i64)),.sl .o 3 (l0_8.map e151),.lit (.int .i64 a0_9),.sl .o 1 (l0_10.map (eI .i64)),.sl .o 4 (l0_11.map e59)]] [(0,.row 145 1 (r.1.map (eL 1 (eL 4 (e234))))),(1,.row 67 4 (r.2.1.map e67)),(2,.row 65 5 (r.2.2.1.map e65)),(3,.row 139 6 (r.2.2.2.1.map e139)),(4,.row 3 1 (r.2.2.2.2.1.map (eI .i64))),(5,.row 154 6 (r.2.2.2.2.2.1.map e154)),(6,.row 3 1 (r.2.2.2.2.2.2.2.1.map (eI .i64))),(7,.row 151 3 (r.2.2.2.2.2.2.2.2.1.map e151)),(8,.row 3 1 (r.2.2.2.2.2.2.2.2.2.2.1.map (eI .i64))),(9,.row 59 4 (r.2.2.2.2.2.2.2.2.2.2.2.map e59))] (.agg [.row 0,.row 1,.row 2,.row 3,.row 4,.row 5,.lit (.int .i64 r.2.2.2.2.2.2.1),.row 6,.row 7,.lit (.int .i64 r.2.2.2.2.2.2.2.2.2.1),.row 8,.row 9]):=by
 refine acalls (fn:=Tryz.f46) (nt:=80) Tryz.func46 rfl rfl (Nat.le_of_ble_eq_true rfl) fun E hE=>?_
 rw [spec_l21Copy.f] at H
 refine aw_grp1<|wk_start<|kb g0 (bxA 0)<|kb g0 (alc 1 [.slice none 0 0,.slice none 0 0,.slice none 0 0,.slice none 0 0,.slice none 0 0,.slice none 0 0,.int .i64 0,.slice none 0 0,.slice none 0 0,.int .i64 0,.slice none 0 0,.slice none 0 0] [.lit (.slice none 0 0),.lit (.slice none 0 0),.lit (.slice none 0 0),.lit (.slice none 0 0),.lit (.slice none 0 0),.lit (.slice none 0 0),.lit (.int .i64 0),.lit (.slice none 0 0),.lit (.slice none 0 0),.lit (.int .i64 0),.lit (.slice none 0 0),.lit (.slice none 0 0)])<|wk_end<|ac_next<|aw_grp1<|wk_start<|kv g0 (faB 3 3)<|kv g0 (ldBA 5 [.sl .o 6 (l0_3.map e139),.sl .o 1 (l0_4.map (eI .i64)),.sl .o 6 (l0_5.map e154),.lit (.int .i64 a0_6),.sl .o 1 (l0_7.map (eI .i64))]) ?_
 obtain ⟨t1,A2,H⟩:=of_bind H
 refine kcS4 9 (.agg [.row 2,.row 3,.row 4,.lit (.int .i64 t1.2.2.2.1),.row 5]) [(2,.row 139 6 (t1.1.map e139)),(3,.row 3 1 (t1.2.1.map (eI .i64))),(4,.row 154 6 (t1.2.2.1.map e154)),(5,.row 3 1 (t1.2.2.2.2.map (eI .i64)))] g0 (cal (spec_l20Copy.ok A2) [2,3,4,5] 9999 .n (hf:=Tryz.func133)) rfl rfl<|kb g0 (bsl 6 151 3 [.bool false,.string .empty,.bool false] (([] : List S151).map e151))<|kv g0 (faB 8 8)<|kv g0 ldB ?_
 obtain ⟨c3,H⟩:=of_if H
 refine kc g0 (apR 7 151 3 32 [.bool false,.string .empty,.bool false] ((([] : List S151) ++ l0_8).map e151) (.slF fl151) (apb c3 rfl) appE)<|kv g0 (faB 9 9)<|kv g0 ldB<|kb g0 (bsl 8 3 1 [.int .i64 0] (([] : List Int).map (eI .i64)))<|kv g0 (faB 10 10)<|kv g0 ldB ?_
 obtain ⟨c4,H⟩:=of_if H
 refine kc g0 (apR 9 3 1 8 [.int .i64 0] ((([] : List Int) ++ l0_10).map (eI .i64)) (.slF flI) (apb c4 rfl) appE)<|kb g0 (bsl 10 59 4 [.int .i64 0,.int .i64 0,.int .i64 0,.bool false] (([] : List S59).map e59))<|kv g0 (faB 11 11)<|kv g0 ldB ?_
 obtain ⟨c5,H⟩:=of_if H
 refine kc g0 (apR 11 59 4 32 [.int .i64 0,.int .i64 0,.int .i64 0,.bool false] ((([] : List S59) ++ l0_11).map e59) (.slF fl59) (apb c5 rfl) appE)<|kv g0 (bld [(0,1),(1,1),(2,1),(3,5),(8,1),(9,1),(10,1),(11,1)] [.slice none 0 0,.slice none 0 0,.slice none 0 0,.slice none 0 0,.slice none 0 0,.slice none 0 0,.int .i64 0,.slice none 0 0,.slice none 0 0,.int .i64 0,.slice none 0 0,.slice none 0 0] [.lit (.slice none 0 0),.lit (.slice none 0 0),.lit (.slice none 0 0),.row 2,.row 3,.row 4,.lit (.int .i64 t1.2.2.2.1),.row 5,.row 7,.lit (.int .i64 a0_9),.row 9,.row 11])<|kb g0 (alc 12 [.slice none 0 0,.slice none 0 0,.slice none 0 0,.slice none 0 0,.slice none 0 0,.slice none 0 0,.int .i64 0,.slice none 0 0,.slice none 0 0,.int .i64 0,.slice none 0 0,.slice none 0 0] [.lit (.slice none 0 0),.lit (.slice none 0 0),.lit (.slice none 0 0),.lit (.slice none 0 0),.lit (.slice none 0 0),.lit (.slice none 0 0),.lit (.int .i64 0),.lit (.slice none 0 0),.lit (.slice none 0 0),.lit (.int .i64 0),.lit (.slice none 0 0),.lit (.slice none 0 0)])<|ks g0 (stB 12 [.lit (.slice none 0 0),.lit (.slice none 0 0),.lit (.slice none 0 0),.row 2,.row 3,.row 4,.lit (.int .i64 t1.2.2.2.1),.row 5,.row 7,.lit (.int .i64 a0_9),.row 9,.row 11])<|wk_end_draw hM (by kernel_rfl)<|ac_next<|aw_grp1<|aw_grp1<|wk_start<|kv g0 asg<|wk_end<|ac_next<|aw_block<|ac_nilB 12 0 15 145 1 [.row 15,.lit (.slice none 0 0),.lit (.slice none 0 0),.row 2,.row 3,.row 4,.lit (.int .i64 t1.2.2.2.1),.row 5,.row 7,.lit (.int .i64 a0_9),.row 9,.row 11] ?_
 refine aw_loop2 (fun (k_ : Nat) (q11 : List (List (List S234))) (p12 : Int)=>k_ ≤ k∧spec_l21Copy.l0 k_ l0_0 l0_1 l0_2 l0_3 l0_4 l0_5 a0_6 l0_7 l0_8 a0_9 l0_10 l0_11 t1 q11 p12 = some r) (fun (q11 : List (List (List S234))) (p12 : Int)=>⟨[(1,.box 0 0),(2,.box 1 0),(3,.box 12 0),(4,.lit (.int .i64 p12))],[(0,.box 45 [.sl .o 1 (l0_0.map (eL 1 (eL 4 (e234)))),.sl .o 4 (l0_1.map e67),.sl .o 5 (l0_2.map e65),.sl .o 6 (l0_3.map e139),.sl .o 1 (l0_4.map (eI .i64)),.sl .o 6 (l0_5.map e154),.lit (.int .i64 a0_6),.sl .o 1 (l0_7.map (eI .i64)),.sl .o 3 (l0_8.map e151),.lit (.int .i64 a0_9),.sl .o 1 (l0_10.map (eI .i64)),.sl .o 4 (l0_11.map e59)]),(1,.box 45 [.lit (.slice none 0 0),.lit (.slice none 0 0),.lit (.slice none 0 0),.lit (.slice none 0 0),.lit (.slice none 0 0),.lit (.slice none 0 0),.lit (.int .i64 0),.lit (.slice none 0 0),.lit (.slice none 0 0),.lit (.int .i64 0),.lit (.slice none 0 0),.lit (.slice none 0 0)]),(2,.row 139 6 (t1.1.map e139)),(3,.row 3 1 (t1.2.1.map (eI .i64))),(4,.row 154 6 (t1.2.2.1.map e154)),(5,.row 3 1 (t1.2.2.2.2.map (eI .i64))),(7,.row 151 3 ((([] : List S151) ++ l0_8).map e151)),(9,.row 3 1 ((([] : List Int) ++ l0_10).map (eI .i64))),(11,.row 59 4 ((([] : List S59) ++ l0_11).map e59)),(12,.box 45 [.row 15,.lit (.slice none 0 0),.lit (.slice none 0 0),.row 2,.row 3,.row 4,.lit (.int .i64 t1.2.2.2.1),.row 5,.row 7,.lit (.int .i64 a0_9),.row 9,.row 11]),(15,.row 145 1 (q11.map (eL 1 (eL 4 (e234)))))]⟩) k ([]) 0 ⟨Nat.le_refl _,H⟩ (fun K_ h_=>acw hE [(0,0),(1,1),(2,2),(3,3),(4,4),(5,5),(7,7),(9,9),(11,11),(12,12),(15,15)] 9999 h_) (fun _ _=>by intro h_;have h_:=h_.2;rw [spec_l21Copy.l0.eq_1] at h_;cases h_) ?_
 intro k13 q11 p12 hq_ K19 hK20
 have hk13:=hq_.1
 have H:=hq_.2
 clear hq_
 rw [spec_l21Copy.l0.eq_2] at H
 refine aw_grp1<|aw_grp1<|wk_start<|kv g0 mv<|kv g0 (faB 0 0)<|kv g0 ldB<|kv g0 (lnS lenE)<|kv g0 lss<|wk_end<|ac_next ?_
 by_cases c14 : p12 < (l0_0.length : Int)
 ·rw [if_pos c14] at H
  refine aw_ifT ?_ (decide_eq_true c14)
  refine aw_skip<|ac_next<|aw_grp1<|aw_block<|wk_start<|kv g0 (faB 0 0)<|kv g0 ldB<|kv g0 (faB 0 0)<|kv g0 ldB<|kv g0 mv ?_
  obtain ⟨c15,H⟩:=of_if H
  refine kv g0 (ixS 145 (eL 1 (eL 4 e234) (rdOf ([] : List (List S234)) l0_0 p12)) c15 (getE (z:=([] : List (List S234))) c15 c14))<|kv g0 (ldR (.sl .o 1 ((rdOf ([] : List (List S234)) l0_0 p12).map (eL 4 e234)))) ?_
  obtain ⟨t16,A17,H⟩:=of_bind H
  refine kcS0 39 (.sl .n 1 (t16.map (eL 4 e234))) [] g0 (cal ((spec_l15Copy.ok A17).frz (.sl .n 1 (t16.map (eL 4 e234)))) [] 9999 .n (hf:=Tryz.func134)) rfl rfl<|kb g0 (bsl 16 145 1 [.slice none 0 0] (([t16] : List (List (List S234))).map (eL 1 (eL 4 e234)))) ?_
  obtain ⟨c18,H⟩:=of_if H
  refine kc g0 (apR 17 145 1 24 [.slice none 0 0] ((q11 ++ ([t16] : List (List (List S234)))).map (eL 1 (eL 4 e234))) (.row rfl) (apb c18 rfl) appE)<|kv g0 (faB 0 0)<|ks g0 (stB 1 [.row 17,.lit (.slice none 0 0),.lit (.slice none 0 0),.row 2,.row 3,.row 4,.lit (.int .i64 t1.2.2.2.1),.row 5,.row 7,.lit (.int .i64 a0_9),.row 9,.row 11])<|wk_end_draw hM (by kernel_rfl)<|ac_blkN<|ac_next<|wk_start<|kv g0 mv<|kv g0 add6<|kv g0 asg<|wk_end<|ac_k ?_
  exact acw hE [(0,0),(1,1),(2,2),(3,3),(4,4),(5,5),(7,7),(9,9),(11,11),(12,12),(15,17)] 9999 (hK20 k13 (q11 ++ ([t16] : List (List (List S234)))) (wrap64 (p12 + 1)) (Nat.le_refl _) ⟨by omega,H⟩)
 rw [if_neg c14] at H
 refine aw_ifF ?_ (decide_eq_false c14)
 refine aw_exit<|ac_then<|ac_then<|ac_hit rfl<|ac_next<|aw_grp1<|aw_grp1<|wk_start<|kv g0 asg<|wk_end<|ac_next<|aw_block<|ac_nilB 12 1 20 67 4 [.row 15,.row 20,.lit (.slice none 0 0),.row 2,.row 3,.row 4,.lit (.int .i64 t1.2.2.2.1),.row 5,.row 7,.lit (.int .i64 a0_9),.row 9,.row 11] ?_
 refine aw_loop2 (fun (k_ : Nat) (q26 : List S67) (p27 : Int)=>k_ ≤ k13∧spec_l21Copy.l1 k_ l0_0 l0_1 l0_2 l0_3 l0_4 l0_5 a0_6 l0_7 l0_8 a0_9 l0_10 l0_11 t1 q11 q26 p27 = some r) (fun (q26 : List S67) (p27 : Int)=>⟨[(1,.box 0 0),(2,.box 1 0),(3,.box 12 0),(5,.lit (.int .i64 p27))],[(0,.box 45 [.sl .o 1 (l0_0.map (eL 1 (eL 4 (e234)))),.sl .o 4 (l0_1.map e67),.sl .o 5 (l0_2.map e65),.sl .o 6 (l0_3.map e139),.sl .o 1 (l0_4.map (eI .i64)),.sl .o 6 (l0_5.map e154),.lit (.int .i64 a0_6),.sl .o 1 (l0_7.map (eI .i64)),.sl .o 3 (l0_8.map e151),.lit (.int .i64 a0_9),.sl .o 1 (l0_10.map (eI .i64)),.sl .o 4 (l0_11.map e59)]),(1,.box 45 [.lit (.slice none 0 0),.lit (.slice none 0 0),.lit (.slice none 0 0),.lit (.slice none 0 0),.lit (.slice none 0 0),.lit (.slice none 0 0),.lit (.int .i64 0),.lit (.slice none 0 0),.lit (.slice none 0 0),.lit (.int .i64 0),.lit (.slice none 0 0),.lit (.slice none 0 0)]),(2,.row 139 6 (t1.1.map e139)),(3,.row 3 1 (t1.2.1.map (eI .i64))),(4,.row 154 6 (t1.2.2.1.map e154)),(5,.row 3 1 (t1.2.2.2.2.map (eI .i64))),(7,.row 151 3 ((([] : List S151) ++ l0_8).map e151)),(9,.row 3 1 ((([] : List Int) ++ l0_10).map (eI .i64))),(11,.row 59 4 ((([] : List S59) ++ l0_11).map e59)),(12,.box 45 [.row 15,.row 20,.lit (.slice none 0 0),.row 2,.row 3,.row 4,.lit (.int .i64 t1.2.2.2.1),.row 5,.row 7,.lit (.int .i64 a0_9),.row 9,.row 11]),(15,.row 145 1 (q11.map (eL 1 (eL 4 (e234))))),(20,.row 67 4 (q26.map e67))]⟩) k13 ([]) 0 ⟨Nat.le_refl _,H⟩ (fun K_ h_=>acw hE [(0,0),(1,1),(2,2),(3,3),(4,4),(5,5),(7,7),(9,9),(11,11),(12,12),(15,15),(20,20)] 9999 h_) (fun _ _=>by intro h_;have h_:=h_.2;rw [spec_l21Copy.l1.eq_1] at h_;cases h_) ?_
 intro k28 q26 p27 hq_ K34 hK35
 have hk28:=hq_.1
 have H:=hq_.2
 clear hq_
 rw [spec_l21Copy.l1.eq_2] at H
 refine aw_grp1<|aw_grp1<|wk_start<|kv g0 mv<|kv g0 (faB 1 1)<|kv g0 ldB<|kv g0 (lnS lenE)<|kv g0 lss<|wk_end<|ac_next ?_
 by_cases c29 : p27 < (l0_1.length : Int)
 ·rw [if_pos c29] at H
  refine aw_ifT ?_ (decide_eq_true c29)
  refine aw_skip<|ac_next<|aw_grp1<|aw_block<|wk_start<|kv g0 (faB 1 1)<|kv g0 ldB<|kv g0 (faB 1 1)<|kv g0 ldB<|kv g0 mv ?_
  obtain ⟨c30,H⟩:=of_if H
  refine kv g0 (ixS 67 (e67 (rd_T67 l0_1 p27)) c30 (getE (z:=z67) c30 c29))<|kv g0 (ldRA 4 [.sl .o 4 (((rd_T67 l0_1 p27).f0).map e63),.lit (.int .i64 ((rd_T67 l0_1 p27).f1)),.lit (.int .i64 ((rd_T67 l0_1 p27).f2)),.lit (.int .i64 ((rd_T67 l0_1 p27).f3))]) ?_
  obtain ⟨t31,A32,H⟩:=of_bind H
  refine kcS0 57 (.agg [.sl .n 4 (t31.1.map e63),.lit (.int .i64 t31.2.1),.lit (.int .i64 t31.2.2.1),.lit (.int .i64 t31.2.2.2)]) [] g0 (cal ((spec_l16Copy.ok A32).frz (.agg [.sl .n 4 (t31.1.map e63),.lit (.int .i64 t31.2.1),.lit (.int .i64 t31.2.2.1),.lit (.int .i64 t31.2.2.2)])) [] 9999 .n (hf:=Tryz.func135)) rfl rfl<|kb g0 (bsl 21 67 4 [.slice none 0 0,.int .i64 0,.int .i64 0,.int .i64 0] (([(⟨t31.1,t31.2.1,t31.2.2.1,t31.2.2.2⟩ : S67)] : List S67).map e67)) ?_
  obtain ⟨c33,H⟩:=of_if H
  refine kc g0 (apR 22 67 4 48 [.slice none 0 0,.int .i64 0,.int .i64 0,.int .i64 0] ((q26 ++ ([(⟨t31.1,t31.2.1,t31.2.2.1,t31.2.2.2⟩ : S67)] : List S67)).map e67) (.row rfl) (apb c33 rfl) appE)<|kv g0 (faB 1 1)<|ks g0 (stB 1 [.row 15,.row 22,.lit (.slice none 0 0),.row 2,.row 3,.row 4,.lit (.int .i64 t1.2.2.2.1),.row 5,.row 7,.lit (.int .i64 a0_9),.row 9,.row 11])<|wk_end_draw hM (by kernel_rfl)<|ac_blkN<|ac_next<|wk_start<|kv g0 mv<|kv g0 add6<|kv g0 asg<|wk_end<|ac_k ?_
  exact acw hE [(0,0),(1,1),(2,2),(3,3),(4,4),(5,5),(7,7),(9,9),(11,11),(12,12),(15,15),(20,22)] 9999 (hK35 k28 (q26 ++ ([(⟨t31.1,t31.2.1,t31.2.2.1,t31.2.2.2⟩ : S67)] : List S67)) (wrap64 (p27 + 1)) (Nat.le_refl _) ⟨by omega,H⟩)
 rw [if_neg c29] at H
 refine aw_ifF ?_ (decide_eq_false c29)
 refine aw_exit<|ac_then<|ac_then<|ac_hit rfl<|ac_next<|aw_grp1<|aw_grp1<|wk_start<|kv g0 asg<|wk_end<|ac_next<|aw_block<|ac_nilB 12 2 25 65 5 [.row 15,.row 20,.row 25,.row 2,.row 3,.row 4,.lit (.int .i64 t1.2.2.2.1),.row 5,.row 7,.lit (.int .i64 a0_9),.row 9,.row 11] ?_
 refine aw_loop2 (fun (k_ : Nat) (q41 : List S65) (p42 : Int)=>k_ ≤ k28∧spec_l21Copy.l2 k_ l0_0 l0_1 l0_2 l0_3 l0_4 l0_5 a0_6 l0_7 l0_8 a0_9 l0_10 l0_11 t1 q11 q26 q41 p42 = some r) (fun (q41 : List S65) (p42 : Int)=>⟨[(1,.box 0 0),(2,.box 1 0),(3,.box 12 0),(6,.lit (.int .i64 p42))],[(0,.box 45 [.sl .o 1 (l0_0.map (eL 1 (eL 4 (e234)))),.sl .o 4 (l0_1.map e67),.sl .o 5 (l0_2.map e65),.sl .o 6 (l0_3.map e139),.sl .o 1 (l0_4.map (eI .i64)),.sl .o 6 (l0_5.map e154),.lit (.int .i64 a0_6),.sl .o 1 (l0_7.map (eI .i64)),.sl .o 3 (l0_8.map e151),.lit (.int .i64 a0_9),.sl .o 1 (l0_10.map (eI .i64)),.sl .o 4 (l0_11.map e59)]),(1,.box 45 [.lit (.slice none 0 0),.lit (.slice none 0 0),.lit (.slice none 0 0),.lit (.slice none 0 0),.lit (.slice none 0 0),.lit (.slice none 0 0),.lit (.int .i64 0),.lit (.slice none 0 0),.lit (.slice none 0 0),.lit (.int .i64 0),.lit (.slice none 0 0),.lit (.slice none 0 0)]),(2,.row 139 6 (t1.1.map e139)),(3,.row 3 1 (t1.2.1.map (eI .i64))),(4,.row 154 6 (t1.2.2.1.map e154)),(5,.row 3 1 (t1.2.2.2.2.map (eI .i64))),(7,.row 151 3 ((([] : List S151) ++ l0_8).map e151)),(9,.row 3 1 ((([] : List Int) ++ l0_10).map (eI .i64))),(11,.row 59 4 ((([] : List S59) ++ l0_11).map e59)),(12,.box 45 [.row 15,.row 20,.row 25,.row 2,.row 3,.row 4,.lit (.int .i64 t1.2.2.2.1),.row 5,.row 7,.lit (.int .i64 a0_9),.row 9,.row 11]),(15,.row 145 1 (q11.map (eL 1 (eL 4 (e234))))),(20,.row 67 4 (q26.map e67)),(25,.row 65 5 (q41.map e65))]⟩) k28 ([]) 0 ⟨Nat.le_refl _,H⟩ (fun K_ h_=>acw hE [(0,0),(1,1),(2,2),(3,3),(4,4),(5,5),(7,7),(9,9),(11,11),(12,12),(15,15),(20,20),(25,25)] 9999 h_) (fun _ _=>by intro h_;have h_:=h_.2;rw [spec_l21Copy.l2.eq_1] at h_;cases h_) ?_
 intro k43 q41 p42 hq_ K49 hK50
 have hk43:=hq_.1
 have H:=hq_.2
 clear hq_
 rw [spec_l21Copy.l2.eq_2] at H
 refine aw_grp1<|aw_grp1<|wk_start<|kv g0 mv<|kv g0 (faB 2 2)<|kv g0 ldB<|kv g0 (lnS lenE)<|kv g0 lss<|wk_end<|ac_next ?_
 by_cases c44 : p42 < (l0_2.length : Int)
 ·rw [if_pos c44] at H
  refine aw_ifT ?_ (decide_eq_true c44)
  refine aw_skip<|ac_next<|aw_grp1<|aw_block<|wk_start<|kv g0 (faB 2 2)<|kv g0 ldB<|kv g0 (faB 2 2)<|kv g0 ldB<|kv g0 mv ?_
  obtain ⟨c45,H⟩:=of_if H
  refine kv g0 (ixS 65 (e65 (rd_T65 l0_2 p42)) c45 (getE (z:=z65) c45 c44))<|kv g0 (ldRA 5 [.lit (.int .i64 ((rd_T65 l0_2 p42).f0)),.lit (.int .i64 ((rd_T65 l0_2 p42).f1)),.sl .o 4 (((rd_T65 l0_2 p42).f2).map e63),.lit (.int .i64 ((rd_T65 l0_2 p42).f3)),.lit (.int .i64 ((rd_T65 l0_2 p42).f4))]) ?_
  obtain ⟨t46,A47,H⟩:=of_bind H
  refine kcS0 75 (.agg [.lit (.int .i64 t46.1),.lit (.int .i64 t46.2.1),.sl .n 4 (t46.2.2.1.map e63),.lit (.int .i64 t46.2.2.2.1),.lit (.int .i64 t46.2.2.2.2)]) [] g0 (cal ((spec_l18Copy.ok A47).frz (.agg [.lit (.int .i64 t46.1),.lit (.int .i64 t46.2.1),.sl .n 4 (t46.2.2.1.map e63),.lit (.int .i64 t46.2.2.2.1),.lit (.int .i64 t46.2.2.2.2)])) [] 9999 .n (hf:=Tryz.func136)) rfl rfl<|kb g0 (bsl 26 65 5 [.int .i64 0,.int .i64 0,.slice none 0 0,.int .i64 0,.int .i64 0] (([(⟨t46.1,t46.2.1,t46.2.2.1,t46.2.2.2.1,t46.2.2.2.2⟩ : S65)] : List S65).map e65)) ?_
  obtain ⟨c48,H⟩:=of_if H
  refine kc g0 (apR 27 65 5 56 [.int .i64 0,.int .i64 0,.slice none 0 0,.int .i64 0,.int .i64 0] ((q41 ++ ([(⟨t46.1,t46.2.1,t46.2.2.1,t46.2.2.2.1,t46.2.2.2.2⟩ : S65)] : List S65)).map e65) (.row rfl) (apb c48 rfl) appE)<|kv g0 (faB 2 2)<|ks g0 (stB 1 [.row 15,.row 20,.row 27,.row 2,.row 3,.row 4,.lit (.int .i64 t1.2.2.2.1),.row 5,.row 7,.lit (.int .i64 a0_9),.row 9,.row 11])<|wk_end_draw hM (by kernel_rfl)<|ac_blkN<|ac_next<|wk_start<|kv g0 mv<|kv g0 add6<|kv g0 asg<|wk_end<|ac_k ?_
  exact acw hE [(0,0),(1,1),(2,2),(3,3),(4,4),(5,5),(7,7),(9,9),(11,11),(12,12),(15,15),(20,20),(25,27)] 9999 (hK50 k43 (q41 ++ ([(⟨t46.1,t46.2.1,t46.2.2.1,t46.2.2.2.1,t46.2.2.2.2⟩ : S65)] : List S65)) (wrap64 (p42 + 1)) (Nat.le_refl _) ⟨by omega,H⟩)
 rw [if_neg c44] at H
 refine aw_ifF ?_ (decide_eq_false c44)
 refine aw_exit<|ac_then<|ac_then<|ac_hit rfl<|ac_next<|aw_grp1<|wk_start<|kv g0 (ldBA 12 [.row 15,.row 20,.row 25,.row 2,.row 3,.row 4,.lit (.int .i64 t1.2.2.2.1),.row 5,.row 7,.lit (.int .i64 a0_9),.row 9,.row 11])<|ks g0 (stB 12 [.row 15,.row 20,.row 25,.row 2,.row 3,.row 4,.lit (.int .i64 t1.2.2.2.1),.row 5,.row 7,.lit (.int .i64 a0_9),.row 9,.row 11])<|wk_end<|ac_next<|aw_ret ?_
 obtain rfl:=Option.some.inj H
 exact acr hE [.cell 2 45] (rcA 12 .nil) (.one _) [(0,15),(1,20),(2,25),(3,2),(4,3),(5,4),(6,5),(7,7),(8,9),(9,11)] 9999
/-! spec_l21Whole -/
def spec_l21Whole.f (l0_0 : List (List (List S234))) (l0_1 : List S67) (l0_2 : List S65) (l0_3 : List S139) (l0_4 : List Int) (l0_5 : List S154) (a0_6 : Int) (l0_7 : List Int) (l0_8 : List S151) (a0_9 : Int) (l0_10 : List Int) (l0_11 : List S59) : Option (Bool):=if (l0_0.length : Int) = 3 then (if (l0_1.length : Int) = 3 then some ((l0_2.length : Int) == 3) else some false) else some false
theorem spec_l21Whole.ok {l0_0 : List (List (List S234))} {l0_1 : List S67} {l0_2 : List S65} {l0_3 : List S139} {l0_4 : List Int} {l0_5 : List S154} {a0_6 : Int} {l0_7 : List Int} {l0_8 : List S151} {a0_9 : Int} {l0_10 : List Int} {l0_11 : List S59} {r : Bool} (H : spec_l21Whole.f l0_0 l0_1 l0_2 l0_3 l0_4 l0_5 a0_6 l0_7 l0_8 a0_9 l0_10 l0_11 = some r) : ACalls Tryz.prog 47 [] [.agg [.sl .o 1 (l0_0.map (eL 1 (eL 4 (e234)))),.sl .o 4 (l0_1.map e67),.sl .o 5 (l0_2.map e65),.sl .o 6 (l0_3.map e139),.sl .o 1 (l0_4.map (eI .i64)),.sl .o 6 (l0_5.map e154),.lit (.int .i64 a0_6),.sl .o 1 (l0_7.map (eI .i64)),.sl .o 3 (l0_8.map e151),.lit (.int .i64 a0_9),.sl .o 1 (l0_10.map (eI .i64)),.sl .o 4 (l0_11.map e59)]] [] (.lit (.bool r)):=by
 refine acalls (fn:=Tryz.f47) (nt:=19) Tryz.func47 rfl rfl (Nat.le_of_ble_eq_true rfl) fun E hE=>?_
 rw [spec_l21Whole.f] at H
 refine aw_grp1<|wk_start<|kb g0 (bxA 0)<|kv g0 asg<|wk_end<|ac_next<|aw_grp1<|wk_start<|kv g0 (faB 0 0)<|kv g0 ldB<|kv g0 (lnS lenE)<|kv g0 eql<|kv g0 mv ?_
 by_cases c1 : (l0_0.length : Int) = 3
 ·rw [if_pos c1] at H
  refine kv (g1 (eT c1)) (faB 1 1)<|kv (g1 (eT c1)) ldB<|kv (g1 (eT c1)) (lnS lenE)<|kv (g1 (eT c1)) eql ?_
  refine kv g0 (pkT (eT c1))<|kv g0 mv ?_
  by_cases c2 : (l0_1.length : Int) = 3
  ·rw [if_pos c2] at H
   refine kv (g1 (eT c2)) (faB 2 2)<|kv (g1 (eT c2)) ldB<|kv (g1 (eT c2)) (lnS lenE)<|kv (g1 (eT c2)) eql ?_
   refine kv g0 (pkT (eT c2))<|kv g0 asg<|wk_end<|ac_next<|aw_ret ?_
   obtain rfl:=Option.some.inj H
   exact acr hE [.tmp 2] (.tmp .nil) (.one _) [] 9999
  rw [if_neg c2] at H
  refine kx (hT (eF c2)) ?_
  refine kx (hT (eF c2)) ?_
  refine kx (hT (eF c2)) ?_
  refine kx (hT (eF c2)) ?_
  refine kv g0 (pkF (eF c2))<|kv g0 asg<|wk_end<|ac_next<|aw_ret ?_
  obtain rfl:=Option.some.inj H
  exact acr hE [.tmp 2] (.tmp .nil) (.one _) [] 9999
 rw [if_neg c1] at H
 refine kx (hT (eF c1)) ?_
 refine kx (hT (eF c1)) ?_
 refine kx (hT (eF c1)) ?_
 refine kx (hT (eF c1)) ?_
 refine kv g0 (pkF (eF c1))<|kv g0 mv<|kx (hT rfl) ?_
 refine kx (hT rfl) ?_
 refine kx (hT rfl) ?_
 refine kx (hT rfl) ?_
 refine kv g0 (pkF rfl)<|kv g0 asg<|wk_end<|ac_next<|aw_ret ?_
 obtain rfl:=Option.some.inj H
 exact acr hE [.tmp 2] (.tmp .nil) (.one _) [] 9999
/-! spec_l01In -/
def spec_l01In.f (a0 : Int) (a1 : Int) (a2 : Int) : Option (Bool):=if a0 ≥ a1 then some (decide (a0 ≤ a2)) else some false
theorem spec_l01In.ok {a0 : Int} {a1 : Int} {a2 : Int} {r : Bool} (H : spec_l01In.f a0 a1 a2 = some r) : ACalls Tryz.prog 48 [] [.lit (.int .i64 a0),.lit (.int .i64 a1),.lit (.int .i64 a2)] [] (.lit (.bool r)):=by
 refine acalls (fn:=Tryz.f48) (nt:=15) Tryz.func48 rfl rfl (Nat.le_of_ble_eq_true rfl) fun E hE=>?_
 rw [spec_l01In.f] at H
 refine aw_grp1<|wk_start<|kv g0 asg<|wk_end<|ac_next<|aw_grp1<|wk_start<|kv g0 mv<|kv g0 mv<|kv g0 geq<|kv g0 mv ?_
 by_cases c1 : a0 ≥ a1
 ·rw [if_pos c1] at H
  refine kv (g1 (decide_eq_true c1)) mv<|kv (g1 (decide_eq_true c1)) mv<|kv (g1 (decide_eq_true c1)) leq ?_
  refine kv g0 (pkT (decide_eq_true c1))<|kv g0 asg<|wk_end<|ac_next<|aw_ret ?_
  obtain rfl:=Option.some.inj H
  exact acr hE [.tmp 6] (.tmp .nil) (.one _) [] 9999
 rw [if_neg c1] at H
 refine kx (hT (decide_eq_false c1)) ?_
 refine kx (hT (decide_eq_false c1)) ?_
 refine kx (hT (decide_eq_false c1)) ?_
 refine kv g0 (pkF (decide_eq_false c1))<|kv g0 asg<|wk_end<|ac_next<|aw_ret ?_
 obtain rfl:=Option.some.inj H
 exact acr hE [.tmp 6] (.tmp .nil) (.one _) [] 9999
/-! spec_Refilled -/
def spec_Refilled.f (l0_0 : List S63) (a0_1 : Int) (a0_2 : Int) (a0_3 : Int) (a1 : Int) : Option ((List S63) × Int × Int × Int):=(spec_l16Copy.f l0_0 a0_1 a0_2 a0_3).bind fun t1=>if a1 < 0 then some (t1.1,t1.2.1,t1.2.2.1,t1.2.2.2) else if a1 > 5 then some (t1.1,5,t1.2.2.1,t1.2.2.2) else if a0_1 > (wrap64 (5 - a1)) then some (t1.1,5,t1.2.2.1,t1.2.2.2) else some (t1.1,wrap64 (a0_1 + a1),t1.2.2.1,t1.2.2.2)
theorem spec_Refilled.ok {l0_0 : List S63} {a0_1 : Int} {a0_2 : Int} {a0_3 : Int} {a1 : Int} {r : (List S63) × Int × Int × Int} (H : spec_Refilled.f l0_0 a0_1 a0_2 a0_3 a1 = some r) : ACalls Tryz.prog 137 [] [.agg [.sl .o 4 (l0_0.map e63),.lit (.int .i64 a0_1),.lit (.int .i64 a0_2),.lit (.int .i64 a0_3)],.lit (.int .i64 a1)] [(0,.row 63 4 (r.1.map e63))] (.agg [.row 0,.lit (.int .i64 r.2.1),.lit (.int .i64 r.2.2.1),.lit (.int .i64 r.2.2.2)]):=by
 refine acalls (fn:=Tryz.f137) (nt:=27) Tryz.func137 rfl rfl (Nat.le_of_ble_eq_true rfl) fun E hE=>?_
 rw [spec_Refilled.f] at H
 refine aw_grp1<|wk_start<|kb g0 (bxA 0)<|kb g0 (alc 1 [.slice none 0 0,.int .i64 0,.int .i64 0,.int .i64 0] [.lit (.slice none 0 0),.lit (.int .i64 0),.lit (.int .i64 0),.lit (.int .i64 0)])<|wk_end<|ac_next<|aw_grp1<|wk_start<|kv g0 (ldBA 4 [.sl .o 4 (l0_0.map e63),.lit (.int .i64 a0_1),.lit (.int .i64 a0_2),.lit (.int .i64 a0_3)]) ?_
 obtain ⟨t1,A2,H⟩:=of_bind H
 refine kcS1 7 (.agg [.row 2,.lit (.int .i64 t1.2.1),.lit (.int .i64 t1.2.2.1),.lit (.int .i64 t1.2.2.2)]) [(2,.row 63 4 (t1.1.map e63))] g0 (cal (spec_l16Copy.ok A2) [2] 9999 .n (hf:=Tryz.func135)) rfl rfl<|kb g0 (alc 3 [.slice none 0 0,.int .i64 0,.int .i64 0,.int .i64 0] [.lit (.slice none 0 0),.lit (.int .i64 0),.lit (.int .i64 0),.lit (.int .i64 0)])<|ks g0 (stB 4 [.row 2,.lit (.int .i64 t1.2.1),.lit (.int .i64 t1.2.2.1),.lit (.int .i64 t1.2.2.2)])<|wk_end<|ac_next<|aw_grp1<|aw_grp1<|wk_start<|kv g0 mv<|kv g0 lss<|wk_end<|ac_next ?_
 by_cases c3 : a1 < 0
 ·rw [if_pos c3] at H
  refine aw_ifT ?_ (decide_eq_true c3)
  refine aw_grp1<|wk_start<|kv g0 (ldBA 4 [.row 2,.lit (.int .i64 t1.2.1),.lit (.int .i64 t1.2.2.1),.lit (.int .i64 t1.2.2.2)])<|ks g0 (stB 4 [.row 2,.lit (.int .i64 t1.2.1),.lit (.int .i64 t1.2.2.1),.lit (.int .i64 t1.2.2.2)])<|wk_end<|ac_next<|aw_ret<|ac_thenR ?_
  obtain rfl:=Option.some.inj H
  exact acr hE [.cell 4 67] (rcA 4 .nil) (.one _) [(0,2)] 9999
 rw [if_neg c3] at H
 refine aw_ifF ?_ (decide_eq_false c3)
 refine aw_skip<|ac_next<|aw_grp1<|aw_grp1<|wk_start<|kv g0 mv<|kv g0 gtr<|kv g0 mv ?_
 by_cases c4 : a1 > 5
 ·rw [if_pos c4] at H
  refine kx (hF (decide_eq_true c4)) ?_
  refine kx (hF (decide_eq_true c4)) ?_
  refine kx (hF (decide_eq_true c4)) ?_
  refine kx (hF (decide_eq_true c4)) ?_
  refine kx (hF (decide_eq_true c4)) ?_
  refine kv g0 (pkT (decide_eq_true c4))<|wk_end<|ac_next ?_
  refine aw_ifT ?_ rfl
  refine wk_start<|kv g0 (faB 1 1)<|ks g0 (stB 1 [.row 2,.lit (.int .i64 5),.lit (.int .i64 t1.2.2.1),.lit (.int .i64 t1.2.2.2)])<|wk_end<|ac_next<|aw_grp1<|wk_start<|kv g0 (ldBA 4 [.row 2,.lit (.int .i64 5),.lit (.int .i64 t1.2.2.1),.lit (.int .i64 t1.2.2.2)])<|ks g0 (stB 4 [.row 2,.lit (.int .i64 5),.lit (.int .i64 t1.2.2.1),.lit (.int .i64 t1.2.2.2)])<|wk_end<|ac_next<|aw_ret ?_
  obtain rfl:=Option.some.inj H
  exact acr hE [.cell 4 67] (rcA 4 .nil) (.one _) [(0,2)] 9999
 rw [if_neg c4] at H
 refine kv (g1 (decide_eq_false c4)) (faB 1 1)<|kv (g1 (decide_eq_false c4)) ldB<|kv (g1 (decide_eq_false c4)) mv<|kv (g1 (decide_eq_false c4)) sub6<|kv (g1 (decide_eq_false c4)) gtr ?_
 refine kv g0 (pkF (decide_eq_false c4))<|wk_end<|ac_next ?_
 by_cases c5 : a0_1 > (wrap64 (5 - a1))
 ·rw [if_pos c5] at H
  refine aw_ifT ?_ (decide_eq_true c5)
  refine wk_start<|kv g0 (faB 1 1)<|ks g0 (stB 1 [.row 2,.lit (.int .i64 5),.lit (.int .i64 t1.2.2.1),.lit (.int .i64 t1.2.2.2)])<|wk_end<|ac_next<|aw_grp1<|wk_start<|kv g0 (ldBA 4 [.row 2,.lit (.int .i64 5),.lit (.int .i64 t1.2.2.1),.lit (.int .i64 t1.2.2.2)])<|ks g0 (stB 4 [.row 2,.lit (.int .i64 5),.lit (.int .i64 t1.2.2.1),.lit (.int .i64 t1.2.2.2)])<|wk_end<|ac_next<|aw_ret ?_
  obtain rfl:=Option.some.inj H
  exact acr hE [.cell 4 67] (rcA 4 .nil) (.one _) [(0,2)] 9999
 rw [if_neg c5] at H
 refine aw_ifF ?_ (decide_eq_false c5)
 refine wk_start<|kv g0 (faB 1 1)<|kv g0 ldB<|kv g0 mv<|kv g0 add6<|kv g0 (faB 1 1)<|ks g0 (stB 1 [.row 2,.lit (.int .i64 (wrap64 (a0_1 + a1))),.lit (.int .i64 t1.2.2.1),.lit (.int .i64 t1.2.2.2)])<|wk_end<|ac_next<|aw_grp1<|wk_start<|kv g0 (ldBA 4 [.row 2,.lit (.int .i64 (wrap64 (a0_1 + a1))),.lit (.int .i64 t1.2.2.1),.lit (.int .i64 t1.2.2.2)])<|ks g0 (stB 4 [.row 2,.lit (.int .i64 (wrap64 (a0_1 + a1))),.lit (.int .i64 t1.2.2.1),.lit (.int .i64 t1.2.2.2)])<|wk_end<|ac_next<|aw_ret ?_
 obtain rfl:=Option.some.inj H
 exact acr hE [.cell 4 67] (rcA 4 .nil) (.one _) [(0,2)] 9999
/-! spec_l21Refill -/
def spec_l21Refill.l0 : Nat→(List (List (List S234)))→(List S65)→(List S139)→(List Int)→(List S154)→Int→(List Int)→(List S151)→Int→(List Int)→(List S59)→Int→(List S67)→Int→Option ((List (List (List S234))) × (List S67) × (List S65) × (List S139) × (List Int) × (List S154) × Int × (List Int) × (List S151) × Int × (List Int) × (List S59))
 | 0,_,_,_,_,_,_,_,_,_,_,_,_,_,_=>none
 | k7 + 1,l0_0,l0_2,l0_3,l0_4,l0_5,a0_6,l0_7,l0_8,a0_9,l0_10,l0_11,a1,q5,p6=>if p6 < (q5.length : Int) then if 0 ≤ p6 then ((spec_Refilled.f ((rd_T67 q5 p6).f0) ((rd_T67 q5 p6).f1) ((rd_T67 q5 p6).f2) ((rd_T67 q5 p6).f3) a1).bind fun t10=>spec_l21Refill.l0 k7 l0_0 l0_2 l0_3 l0_4 l0_5 a0_6 l0_7 l0_8 a0_9 l0_10 l0_11 a1 (q5.set p6.toNat (⟨t10.1,t10.2.1,t10.2.2.1,t10.2.2.2⟩ : S67)) (wrap64 (p6 + 1))) else none else some (l0_0,q5,l0_2,l0_3,l0_4,l0_5,a0_6,l0_7,l0_8,wrap64 (a0_9 + a1),l0_10,l0_11)
def spec_l21Refill.f (k : Nat) (l0_0 : List (List (List S234))) (l0_1 : List S67) (l0_2 : List S65) (l0_3 : List S139) (l0_4 : List Int) (l0_5 : List S154) (a0_6 : Int) (l0_7 : List Int) (l0_8 : List S151) (a0_9 : Int) (l0_10 : List Int) (l0_11 : List S59) (a1 : Int) : Option ((List (List (List S234))) × (List S67) × (List S65) × (List S139) × (List Int) × (List S154) × Int × (List Int) × (List S151) × Int × (List Int) × (List S59)):=spec_l21Refill.l0 k l0_0 l0_2 l0_3 l0_4 l0_5 a0_6 l0_7 l0_8 a0_9 l0_10 l0_11 a1 l0_1 0
theorem spec_l21Refill.ok {k : Nat} {l0_0 : List (List (List S234))} {l0_1 : List S67} {l0_2 : List S65} {l0_3 : List S139} {l0_4 : List Int} {l0_5 : List S154} {a0_6 : Int} {l0_7 : List Int} {l0_8 : List S151} {a0_9 : Int} {l0_10 : List Int} {l0_11 : List S59} {a1 : Int} {r : (List (List (List S234))) × (List S67) × (List S65) × (List S139) × (List Int) × (List S154) × Int × (List Int) × (List S151) × Int × (List Int) × (List S59)} (H : spec_l21Refill.f k l0_0 l0_1 l0_2 l0_3 l0_4 l0_5 a0_6 l0_7 l0_8 a0_9 l0_10 l0_11 a1 = some r) : ACalls Tryz.prog 49 [(0,.box 45 [.row 1,.row 2,.row 3,.row 4,.row 5,.row 6,.lit (.int .i64 a0_6),.row 7,.row 8,.lit (.int .i64 a0_9),.row 9,.row 10]),(1,.row 145 1 (l0_0.map (eL 1 (eL 4 (e234))))),(2,.row 67 4 (l0_1.map e67)),(3,.row 65 5 (l0_2.map e65)),(4,.row 139 6 (l0_3.map e139)),(5,.row 3 1 (l0_4.map (eI .i64))),(6,.row 154 6 (l0_5.map e154)),(7,.row 3 1 (l0_7.map (eI .i64))),(8,.row 151 3 (l0_8.map e151)),(9,.row 3 1 (l0_10.map (eI .i64))),(10,.row 59 4 (l0_11.map e59))] [.box 0 0,.lit (.int .i64 a1)] [(0,.box 45 [.row 1,.row 2,.row 3,.row 4,.row 5,.row 6,.lit (.int .i64 r.2.2.2.2.2.2.1),.row 7,.row 8,.lit (.int .i64 r.2.2.2.2.2.2.2.2.2.1),.row 9,.row 10]),(1,.row 145 1 (r.1.map (eL 1 (eL 4 (e234))))),(2,.row 67 4 (r.2.1.map e67)),(3,.row 65 5 (r.2.2.1.map e65)),(4,.row 139 6 (r.2.2.2.1.map e139)),(5,.row 3 1 (r.2.2.2.2.1.map (eI .i64))),(6,.row 154 6 (r.2.2.2.2.2.1.map e154)),(7,.row 3 1 (r.2.2.2.2.2.2.2.1.map (eI .i64))),(8,.row 151 3 (r.2.2.2.2.2.2.2.2.1.map e151)),(9,.row 3 1 (r.2.2.2.2.2.2.2.2.2.2.1.map (eI .i64))),(10,.row 59 4 (r.2.2.2.2.2.2.2.2.2.2.2.map e59))] (.tup []):=by
 refine acalls (fn:=Tryz.f49) (nt:=38) Tryz.func49 rfl rfl (Nat.le_of_ble_eq_true rfl) fun E hE=>?_
 rw [spec_l21Refill.f] at H
 refine aw_grp1<|wk_start<|kv g0 mv<|kv g0 mv<|kv g0 nilB<|kv g0 (faB 9 9)<|kv g0 ldB<|kv g0 mv<|kv g0 add6<|kv g0 nilB<|kv g0 (faB 9 9)<|ks g0 (stB 1 [.row 1,.row 2,.row 3,.row 4,.row 5,.row 6,.lit (.int .i64 a0_6),.row 7,.row 8,.lit (.int .i64 (wrap64 (a0_9 + a1))),.row 9,.row 10])<|wk_end<|ac_next<|aw_grp1<|wk_start<|kv g0 asg<|wk_end<|ac_next<|aw_block ?_
 refine aw_loop2 (fun (k_ : Nat) (q5 : List S67) (p6 : Int)=>k_ ≤ k∧spec_l21Refill.l0 k_ l0_0 l0_2 l0_3 l0_4 l0_5 a0_6 l0_7 l0_8 a0_9 l0_10 l0_11 a1 q5 p6 = some r) (fun (q5 : List S67) (p6 : Int)=>⟨[(0,.box 0 0),(1,.lit (.int .i64 a1)),(4,.lit (.int .i64 p6))],[(0,.box 45 [.row 1,.row 2,.row 3,.row 4,.row 5,.row 6,.lit (.int .i64 a0_6),.row 7,.row 8,.lit (.int .i64 (wrap64 (a0_9 + a1))),.row 9,.row 10]),(1,.row 145 1 (l0_0.map (eL 1 (eL 4 (e234))))),(2,.row 67 4 (q5.map e67)),(3,.row 65 5 (l0_2.map e65)),(4,.row 139 6 (l0_3.map e139)),(5,.row 3 1 (l0_4.map (eI .i64))),(6,.row 154 6 (l0_5.map e154)),(7,.row 3 1 (l0_7.map (eI .i64))),(8,.row 151 3 (l0_8.map e151)),(9,.row 3 1 (l0_10.map (eI .i64))),(10,.row 59 4 (l0_11.map e59))]⟩) k l0_1 0 ⟨Nat.le_refl _,H⟩ (fun K_ h_=>acw hE [(0,0),(1,1),(2,2),(3,3),(4,4),(5,5),(6,6),(7,7),(8,8),(9,9),(10,10)] 9999 h_) (fun _ _=>by intro h_;have h_:=h_.2;rw [spec_l21Refill.l0.eq_1] at h_;cases h_) ?_
 intro k7 q5 p6 hq_ K12 hK13
 have hk7:=hq_.1
 have H:=hq_.2
 clear hq_
 rw [spec_l21Refill.l0.eq_2] at H
 refine aw_grp1<|aw_grp1<|wk_start<|kv g0 mv<|kv g0 mv<|kv g0 nilB<|kv g0 (faB 1 1)<|kv g0 ldB<|kv g0 (lnR lenE)<|kv g0 lss<|wk_end<|ac_next ?_
 by_cases c8 : p6 < (q5.length : Int)
 ·rw [if_pos c8] at H
  refine aw_ifT ?_ (decide_eq_true c8)
  refine aw_skip<|ac_next<|aw_grp1<|aw_block<|wk_start<|kv g0 mv<|kv g0 nilB<|kv g0 (faB 1 1)<|kv g0 ldB<|kv g0 mv<|kv g0 mv<|kv g0 nilB<|kv g0 (faB 1 1)<|kv g0 ldB<|kv g0 mv ?_
  obtain ⟨c9,H⟩:=of_if H
  refine kv g0 (ixR 67 c9 (ltE c8))<|kv g0 (ldEA 4 (e67 (rd_T67 q5 p6)) [.sl .n 4 (((rd_T67 q5 p6).f0).map e63),.lit (.int .i64 ((rd_T67 q5 p6).f1)),.lit (.int .i64 ((rd_T67 q5 p6).f2)),.lit (.int .i64 ((rd_T67 q5 p6).f3))] (getE (z:=z67) c9 c8))<|kv g0 mv ?_
  obtain ⟨t10,A11,H⟩:=of_bind H
  refine kcS0 36 (.agg [.sl .n 4 (t10.1.map e63),.lit (.int .i64 t10.2.1),.lit (.int .i64 t10.2.2.1),.lit (.int .i64 t10.2.2.2)]) [] g0 (cal ((spec_Refilled.ok A11).frz (.agg [.sl .n 4 (t10.1.map e63),.lit (.int .i64 t10.2.1),.lit (.int .i64 t10.2.2.1),.lit (.int .i64 t10.2.2.2)])) [] 9999 .n (hf:=Tryz.func137)) rfl rfl<|kv g0 (ixR 67 c9 (ltE c8))<|ks g0 (stE 4 (e67 (⟨t10.1,t10.2.1,t10.2.2.1,t10.2.2.2⟩ : S67)) ((q5.set p6.toNat (⟨t10.1,t10.2.1,t10.2.2.1,t10.2.2.2⟩ : S67)).map e67) (getE (z:=z67) c9 c8) setE)<|wk_end_draw hM (by kernel_rfl)<|ac_blkN<|ac_next<|wk_start<|kv g0 mv<|kv g0 add6<|kv g0 asg<|wk_end<|ac_k ?_
  exact acw hE [(0,0),(1,1),(2,2),(3,3),(4,4),(5,5),(6,6),(7,7),(8,8),(9,9),(10,10)] 9999 (hK13 k7 (q5.set p6.toNat (⟨t10.1,t10.2.1,t10.2.2.1,t10.2.2.2⟩ : S67)) (wrap64 (p6 + 1)) (Nat.le_refl _) ⟨by omega,H⟩)
 rw [if_neg c8] at H
 refine aw_ifF ?_ (decide_eq_false c8)
 refine aw_exit<|ac_then<|ac_then<|ac_hit rfl ?_
 obtain rfl:=Option.some.inj H
 refine ac_end_n ?_
 exact acr hE [] .nil .none [(0,0),(1,1),(2,2),(3,3),(4,4),(5,5),(6,6),(7,7),(8,8),(9,9),(10,10)] 9999
/-! spec_Drained -/
def spec_Drained.f (l0_0 : List S63) (a0_1 : Int) (a0_2 : Int) (a0_3 : Int) : Option ((List S63) × Int × Int × Int × Int × Int × Int × Int × Bool):=(spec_l16Copy.f l0_0 a0_1 a0_2 a0_3).bind fun t1=>if (l0_0.length : Int) > 0 then (if 0 < (l0_0.length : Int) then if 1 ≤ (l0_0.length : Int) then (if ([] : List S63).length + (l0_0.drop 1).length < 4398046511104 then some (([] : List S63) ++ (l0_0.drop 1),t1.2.1,t1.2.2.1,t1.2.2.2,(rd_T63 l0_0 0).f0,(rd_T63 l0_0 0).f1,(rd_T63 l0_0 0).f2,(rd_T63 l0_0 0).f3,true) else none) else none else none) else if a0_2 = 0 then some (t1.1,t1.2.1,t1.2.2.1,t1.2.2.2,0,0,0,0,false) else some (t1.1,t1.2.1,0,t1.2.2.2,2,0,0,a0_2,true)
theorem spec_Drained.ok {l0_0 : List S63} {a0_1 : Int} {a0_2 : Int} {a0_3 : Int} {r : (List S63) × Int × Int × Int × Int × Int × Int × Int × Bool} (H : spec_Drained.f l0_0 a0_1 a0_2 a0_3 = some r) : ACalls Tryz.prog 138 [] [.agg [.sl .o 4 (l0_0.map e63),.lit (.int .i64 a0_1),.lit (.int .i64 a0_2),.lit (.int .i64 a0_3)]] [(0,.row 63 4 (r.1.map e63))] (.tup [.agg [.row 0,.lit (.int .i64 r.2.1),.lit (.int .i64 r.2.2.1),.lit (.int .i64 r.2.2.2.1)],.agg [.lit (.int .i64 r.2.2.2.2.1),.lit (.int .i64 r.2.2.2.2.2.1),.lit (.int .i64 r.2.2.2.2.2.2.1),.lit (.int .i64 r.2.2.2.2.2.2.2.1)],.lit (.bool r.2.2.2.2.2.2.2.2)]):=by
 refine acalls (fn:=Tryz.f138) (nt:=35) Tryz.func138 rfl rfl (Nat.le_of_ble_eq_true rfl) fun E hE=>?_
 rw [spec_Drained.f] at H
 refine aw_grp1<|wk_start<|kb g0 (bxA 0)<|kb g0 (alc 1 [.slice none 0 0,.int .i64 0,.int .i64 0,.int .i64 0] [.lit (.slice none 0 0),.lit (.int .i64 0),.lit (.int .i64 0),.lit (.int .i64 0)])<|kb g0 (alc 2 [.int .i64 0,.int .i64 0,.int .i64 0,.int .i64 0] [.lit (.int .i64 0),.lit (.int .i64 0),.lit (.int .i64 0),.lit (.int .i64 0)])<|kv g0 asg<|wk_end<|ac_next<|aw_grp1<|wk_start<|kv g0 (ldBA 4 [.sl .o 4 (l0_0.map e63),.lit (.int .i64 a0_1),.lit (.int .i64 a0_2),.lit (.int .i64 a0_3)]) ?_
 obtain ⟨t1,A2,H⟩:=of_bind H
 refine kcS1 8 (.agg [.row 3,.lit (.int .i64 t1.2.1),.lit (.int .i64 t1.2.2.1),.lit (.int .i64 t1.2.2.2)]) [(3,.row 63 4 (t1.1.map e63))] g0 (cal (spec_l16Copy.ok A2) [3] 9999 .n (hf:=Tryz.func135)) rfl rfl<|kb g0 (alc 4 [.slice none 0 0,.int .i64 0,.int .i64 0,.int .i64 0] [.lit (.slice none 0 0),.lit (.int .i64 0),.lit (.int .i64 0),.lit (.int .i64 0)])<|ks g0 (stB 4 [.row 3,.lit (.int .i64 t1.2.1),.lit (.int .i64 t1.2.2.1),.lit (.int .i64 t1.2.2.2)])<|wk_end<|ac_next<|aw_grp1<|aw_grp1<|wk_start<|kv g0 (faB 0 0)<|kv g0 ldB<|kv g0 (lnS lenE)<|kv g0 gtr<|wk_end<|ac_next ?_
 by_cases c3 : (l0_0.length : Int) > 0
 ·rw [if_pos c3] at H
  refine aw_ifT ?_ (decide_eq_true c3)
  refine aw_grp1<|wk_start<|kv g0 (faB 0 0)<|kv g0 ldB ?_
  obtain ⟨c4,H⟩:=of_if H
  refine kv g0 (ixS 63 (e63 (rd_T63 l0_0 0)) (by decide : (0 : Int) ≤ 0) (getE (z:=z63) (by decide : (0 : Int) ≤ 0) c4))<|kv g0 (ldRA 4 [.lit (.int .i64 ((rd_T63 l0_0 0).f0)),.lit (.int .i64 ((rd_T63 l0_0 0).f1)),.lit (.int .i64 ((rd_T63 l0_0 0).f2)),.lit (.int .i64 ((rd_T63 l0_0 0).f3))])<|kb g0 (alc 5 [.int .i64 0,.int .i64 0,.int .i64 0,.int .i64 0] [.lit (.int .i64 0),.lit (.int .i64 0),.lit (.int .i64 0),.lit (.int .i64 0)])<|ks g0 (stB 4 [.lit (.int .i64 ((rd_T63 l0_0 0).f0)),.lit (.int .i64 ((rd_T63 l0_0 0).f1)),.lit (.int .i64 ((rd_T63 l0_0 0).f2)),.lit (.int .i64 ((rd_T63 l0_0 0).f3))])<|wk_end<|ac_next<|aw_grp1<|wk_start<|kb g0 (bsl 6 63 4 [.int .i64 0,.int .i64 0,.int .i64 0,.int .i64 0] (([] : List S63).map e63))<|kv g0 (faB 0 0)<|kv g0 ldB ?_
  obtain ⟨c5,H⟩:=of_if H
  refine kv g0 (slL 63 (by decide : (0 : Int) ≤ 1) c5) ?_
  obtain ⟨c6,H⟩:=of_if H
  refine kc g0 (apR 7 63 4 32 [.int .i64 0,.int .i64 0,.int .i64 0,.int .i64 0] ((([] : List S63) ++ (l0_0.drop 1)).map e63) (.slF fl63) (apb c6 rfl) appE)<|kv g0 (faB 0 0)<|ks g0 (stB 1 [.row 7,.lit (.int .i64 t1.2.1),.lit (.int .i64 t1.2.2.1),.lit (.int .i64 t1.2.2.2)])<|wk_end<|ac_next<|aw_grp1<|wk_start<|kv g0 (ldBA 4 [.row 7,.lit (.int .i64 t1.2.1),.lit (.int .i64 t1.2.2.1),.lit (.int .i64 t1.2.2.2)])<|kv g0 (ldBA 4 [.lit (.int .i64 ((rd_T63 l0_0 0).f0)),.lit (.int .i64 ((rd_T63 l0_0 0).f1)),.lit (.int .i64 ((rd_T63 l0_0 0).f2)),.lit (.int .i64 ((rd_T63 l0_0 0).f3))])<|ks g0 (stB 4 [.row 7,.lit (.int .i64 t1.2.1),.lit (.int .i64 t1.2.2.1),.lit (.int .i64 t1.2.2.2)])<|ks g0 (stB 4 [.lit (.int .i64 ((rd_T63 l0_0 0).f0)),.lit (.int .i64 ((rd_T63 l0_0 0).f1)),.lit (.int .i64 ((rd_T63 l0_0 0).f2)),.lit (.int .i64 ((rd_T63 l0_0 0).f3))])<|kv g0 asg<|wk_end_draw hM (by kernel_rfl)<|ac_next<|aw_ret<|ac_thenR ?_
  obtain rfl:=Option.some.inj H
  exact acr hE [.cell 2 67,.cell 3 63,.tmp 4] (rcA 4 (rcA 4 (.tmp .nil))) (.many _ _ _) [(0,7)] 9999
 rw [if_neg c3] at H
 refine aw_ifF ?_ (decide_eq_false c3)
 refine aw_skip<|ac_next<|aw_grp1<|aw_grp1<|wk_start<|kv g0 (faB 2 2)<|kv g0 ldB<|kv g0 neq<|wk_end<|ac_next ?_
 by_cases c7 : a0_2 = 0
 ·rw [if_pos c7] at H
  refine aw_ifF ?_ (eM c7)
  refine aw_skip<|ac_next<|aw_grp1<|wk_start<|kv g0 (ldBA 4 [.row 3,.lit (.int .i64 t1.2.1),.lit (.int .i64 t1.2.2.1),.lit (.int .i64 t1.2.2.2)])<|kv g0 (bld [(0,1),(1,1),(2,1),(3,1)] [.int .i64 0,.int .i64 0,.int .i64 0,.int .i64 0] [.lit (.int .i64 0),.lit (.int .i64 0),.lit (.int .i64 0),.lit (.int .i64 0)])<|ks g0 (stB 4 [.row 3,.lit (.int .i64 t1.2.1),.lit (.int .i64 t1.2.2.1),.lit (.int .i64 t1.2.2.2)])<|ks g0 (stB 4 [.lit (.int .i64 0),.lit (.int .i64 0),.lit (.int .i64 0),.lit (.int .i64 0)])<|kv g0 asg<|wk_end<|ac_next<|aw_ret ?_
  obtain rfl:=Option.some.inj H
  exact acr hE [.cell 2 67,.cell 3 63,.tmp 4] (rcA 4 (rcA 4 (.tmp .nil))) (.many _ _ _) [(0,3)] 9999
 rw [if_neg c7] at H
 refine aw_ifT ?_ (eN c7)
 refine aw_grp1<|wk_start<|kv g0 (faB 2 2)<|ks g0 (stB 1 [.row 3,.lit (.int .i64 t1.2.1),.lit (.int .i64 0),.lit (.int .i64 t1.2.2.2)])<|wk_end<|ac_next<|aw_grp1<|wk_start<|kv g0 (ldBA 4 [.row 3,.lit (.int .i64 t1.2.1),.lit (.int .i64 0),.lit (.int .i64 t1.2.2.2)])<|kv g0 (faB 2 2)<|kv g0 ldB<|kv g0 (bld [(0,1),(1,1),(2,1),(3,1)] [.int .i64 0,.int .i64 0,.int .i64 0,.int .i64 0] [.lit (.int .i64 2),.lit (.int .i64 0),.lit (.int .i64 0),.lit (.int .i64 a0_2)])<|ks g0 (stB 4 [.row 3,.lit (.int .i64 t1.2.1),.lit (.int .i64 0),.lit (.int .i64 t1.2.2.2)])<|ks g0 (stB 4 [.lit (.int .i64 2),.lit (.int .i64 0),.lit (.int .i64 0),.lit (.int .i64 a0_2)])<|kv g0 asg<|wk_end_draw hM (by kernel_rfl)<|ac_next<|aw_ret<|ac_thenR ?_
 obtain rfl:=Option.some.inj H
 exact acr hE [.cell 2 67,.cell 3 63,.tmp 4] (rcA 4 (rcA 4 (.tmp .nil))) (.many _ _ _) [(0,3)] 9999
/-! spec_HalfOk -/
def spec_HalfOk.f (a0 : Int) : Option (Bool):=(spec_l01In.f a0 0 4294967295).bind fun t1=>some t1
theorem spec_HalfOk.ok {a0 : Int} {r : Bool} (H : spec_HalfOk.f a0 = some r) : ACalls Tryz.prog 192 [] [.lit (.int .i64 a0)] [] (.lit (.bool r)):=by
 refine acalls (fn:=Tryz.f192) (nt:=5) Tryz.func192 rfl rfl (Nat.le_of_ble_eq_true rfl) fun E hE=>?_
 rw [spec_HalfOk.f] at H
 refine aw_grp1<|wk_start<|kv g0 asg<|wk_end<|ac_next<|aw_grp1<|wk_start<|kv g0 mv ?_
 obtain ⟨t1,A2,H⟩:=of_bind H
 refine kcS0 4 (.lit (.bool t1)) [] g0 (cal (spec_l01In.ok A2) [] 9999 .n (hf:=Tryz.func48)) rfl rfl<|kv g0 asg<|wk_end<|ac_next<|aw_ret ?_
 obtain rfl:=Option.some.inj H
 exact acr hE [.tmp 2] (.tmp .nil) (.one _) [] 9999
/-! spec_ItemOk -/
def spec_ItemOk.f (a0_0 : Int) (a0_1 : Int) (a0_2 : Int) (a0_3 : Int) : Option (Bool):=if a0_0 = 1 then ((spec_HalfOk.f a0_1).bind fun t2=>(if t2 = true then ((spec_HalfOk.f a0_2).bind fun t5=>(if t5 = true then some (a0_3 == 0) else some false)) else some false)) else if a0_0 = 2 then ((spec_l01In.f a0_3 1 1000000000).bind fun t9=>(if t9 = true then (if a0_1 = 0 then some (a0_2 == 0) else some false) else some false)) else some false
theorem spec_ItemOk.ok {a0_0 : Int} {a0_1 : Int} {a0_2 : Int} {a0_3 : Int} {r : Bool} (H : spec_ItemOk.f a0_0 a0_1 a0_2 a0_3 = some r) : ACalls Tryz.prog 103 [] [.agg [.lit (.int .i64 a0_0),.lit (.int .i64 a0_1),.lit (.int .i64 a0_2),.lit (.int .i64 a0_3)]] [] (.lit (.bool r)):=by
 refine acalls (fn:=Tryz.f103) (nt:=37) Tryz.func103 rfl rfl (Nat.le_of_ble_eq_true rfl) fun E hE=>?_
 rw [spec_ItemOk.f] at H
 refine aw_grp1<|wk_start<|kb g0 (bxA 0)<|kv g0 asg<|wk_end<|ac_next<|aw_grp1<|aw_grp1<|wk_start<|kv g0 (faB 0 0)<|kv g0 ldB<|kv g0 eql<|wk_end<|ac_next ?_
 by_cases c1 : a0_0 = 1
 ·rw [if_pos c1] at H
  refine aw_ifT ?_ (eT c1)
  refine aw_grp1<|wk_start<|kv g0 (faB 1 1)<|kv g0 ldB ?_
  obtain ⟨t2,A3,H⟩:=of_bind H
  refine kcS0 8 (.lit (.bool t2)) [] g0 (cal (spec_HalfOk.ok A3) [] 9999 .n (hf:=Tryz.func192)) rfl rfl<|kv g0 mv ?_
  by_cases c4 : t2 = true
  ·rw [if_pos c4] at H
   refine kv (g1 c4) (faB 2 2)<|kv (g1 c4) ldB ?_
   obtain ⟨t5,A6,H⟩:=of_bind H
   refine kcS0 12 (.lit (.bool t5)) [] (g1 c4) (cal (spec_HalfOk.ok A6) [] 9999 .n (hf:=Tryz.func192)) rfl rfl ?_
   refine kv g0 (pkT c4)<|kv g0 mv ?_
   by_cases c7 : t5 = true
   ·rw [if_pos c7] at H
    refine kv (g1 c7) (faB 3 3)<|kv (g1 c7) ldB<|kv (g1 c7) eql ?_
    refine kv g0 (pkT c7)<|kv g0 asg<|wk_end<|ac_next<|aw_ret<|ac_thenR ?_
    obtain rfl:=Option.some.inj H
    exact acr hE [.tmp 2] (.tmp .nil) (.one _) [] 9999
   rw [if_neg c7] at H
   refine kx (hT (bF c7)) ?_
   refine kx (hT (bF c7)) ?_
   refine kx (hT (bF c7)) ?_
   refine kv g0 (pkF (bF c7))<|kv g0 asg<|wk_end<|ac_next<|aw_ret<|ac_thenR ?_
   obtain rfl:=Option.some.inj H
   exact acr hE [.tmp 2] (.tmp .nil) (.one _) [] 9999
  rw [if_neg c4] at H
  refine kx (hT (bF c4)) ?_
  refine kx (hT (bF c4)) ?_
  refine kx (hT (bF c4)) ?_
  refine kv g0 (pkF (bF c4))<|kv g0 mv<|kx (hT rfl) ?_
  refine kx (hT rfl) ?_
  refine kx (hT rfl) ?_
  refine kv g0 (pkF rfl)<|kv g0 asg<|wk_end<|ac_next<|aw_ret<|ac_thenR ?_
  obtain rfl:=Option.some.inj H
  exact acr hE [.tmp 2] (.tmp .nil) (.one _) [] 9999
 rw [if_neg c1] at H
 refine aw_ifF ?_ (eF c1)
 refine aw_skip<|ac_next<|aw_grp1<|wk_start<|kv g0 (faB 0 0)<|kv g0 ldB<|kv g0 eql<|kv g0 mv ?_
 by_cases c8 : a0_0 = 2
 ·rw [if_pos c8] at H
  refine kv (g1 (eT c8)) (faB 3 3)<|kv (g1 (eT c8)) ldB ?_
  obtain ⟨t9,A10,H⟩:=of_bind H
  refine kcS0 25 (.lit (.bool t9)) [] (g1 (eT c8)) (cal (spec_l01In.ok A10) [] 9999 .n (hf:=Tryz.func48)) rfl rfl ?_
  refine kv g0 (pkT (eT c8))<|kv g0 mv ?_
  by_cases c11 : t9 = true
  ·rw [if_pos c11] at H
   refine kv (g1 c11) (faB 1 1)<|kv (g1 c11) ldB<|kv (g1 c11) eql ?_
   refine kv g0 (pkT c11)<|kv g0 mv ?_
   by_cases c12 : a0_1 = 0
   ·rw [if_pos c12] at H
    refine kv (g1 (eT c12)) (faB 2 2)<|kv (g1 (eT c12)) ldB<|kv (g1 (eT c12)) eql ?_
    refine kv g0 (pkT (eT c12))<|kv g0 asg<|wk_end<|ac_next<|aw_ret ?_
    obtain rfl:=Option.some.inj H
    exact acr hE [.tmp 2] (.tmp .nil) (.one _) [] 9999
   rw [if_neg c12] at H
   refine kx (hT (eF c12)) ?_
   refine kx (hT (eF c12)) ?_
   refine kx (hT (eF c12)) ?_
   refine kv g0 (pkF (eF c12))<|kv g0 asg<|wk_end<|ac_next<|aw_ret ?_
   obtain rfl:=Option.some.inj H
   exact acr hE [.tmp 2] (.tmp .nil) (.one _) [] 9999
  rw [if_neg c11] at H
  refine kx (hT (bF c11)) ?_
  refine kx (hT (bF c11)) ?_
  refine kx (hT (bF c11)) ?_
  refine kv g0 (pkF (bF c11))<|kv g0 mv<|kx (hT rfl) ?_
  refine kx (hT rfl) ?_
  refine kx (hT rfl) ?_
  refine kv g0 (pkF rfl)<|kv g0 asg<|wk_end<|ac_next<|aw_ret ?_
  obtain rfl:=Option.some.inj H
  exact acr hE [.tmp 2] (.tmp .nil) (.one _) [] 9999
 rw [if_neg c8] at H
 refine kx (hT (eF c8)) ?_
 refine kx (hT (eF c8)) ?_
 refine kx (hT (eF c8)) ?_
 refine kv g0 (pkF (eF c8))<|kv g0 mv<|kx (hT rfl) ?_
 refine kx (hT rfl) ?_
 refine kx (hT rfl) ?_
 refine kv g0 (pkF rfl)<|kv g0 mv<|kx (hT rfl) ?_
 refine kx (hT rfl) ?_
 refine kx (hT rfl) ?_
 refine kv g0 (pkF rfl)<|kv g0 asg<|wk_end<|ac_next<|aw_ret ?_
 obtain rfl:=Option.some.inj H
 exact acr hE [.tmp 2] (.tmp .nil) (.one _) [] 9999
/-! spec_SenderOk -/
def spec_SenderOk.l0 : Nat→Int→Int→(List S63)→Int→Int→Int→Option (Bool)
 | 0,_,_,_,_,_,_=>none
 | k7 + 1,a0_0,a0_1,l0_2,a0_3,a0_4,p6=>if p6 < (l0_2.length : Int) then if 0 ≤ p6 then ((spec_ItemOk.f ((rd_T63 l0_2 p6).f0) ((rd_T63 l0_2 p6).f1) ((rd_T63 l0_2 p6).f2) ((rd_T63 l0_2 p6).f3)).bind fun t10=>if t10 = true then spec_SenderOk.l0 k7 a0_0 a0_1 l0_2 a0_3 a0_4 (wrap64 (p6 + 1)) else some false) else none else (spec_l01In.f a0_0 0 2).bind fun t15=>(if t15 = true then ((spec_l01In.f a0_1 1 1000000000).bind fun t18=>(if t18 = true then (if (l0_2.length : Int) ≤ 3 then ((spec_l01In.f a0_3 0 1000000000).bind fun t22=>(if t22 = true then (if a0_4 = 1 then some true else (if a0_4 = 2 then some true else some (a0_4 == 4))) else some false)) else some false) else some false)) else some false)
def spec_SenderOk.f (k : Nat) (a0_0 : Int) (a0_1 : Int) (l0_2 : List S63) (a0_3 : Int) (a0_4 : Int) : Option (Bool):=spec_SenderOk.l0 k a0_0 a0_1 l0_2 a0_3 a0_4 0
theorem spec_SenderOk.ok {k : Nat} {a0_0 : Int} {a0_1 : Int} {l0_2 : List S63} {a0_3 : Int} {a0_4 : Int} {r : Bool} (H : spec_SenderOk.f k a0_0 a0_1 l0_2 a0_3 a0_4 = some r) : ACalls Tryz.prog 139 [] [.agg [.lit (.int .i64 a0_0),.lit (.int .i64 a0_1),.sl .o 4 (l0_2.map e63),.lit (.int .i64 a0_3),.lit (.int .i64 a0_4)]] [] (.lit (.bool r)):=by
 refine acalls (fn:=Tryz.f139) (nt:=52) Tryz.func139 rfl rfl (Nat.le_of_ble_eq_true rfl) fun E hE=>?_
 rw [spec_SenderOk.f] at H
 refine aw_grp1<|wk_start<|kb g0 (bxA 0)<|kv g0 asg<|wk_end<|ac_next<|aw_grp1<|aw_grp1<|wk_start<|kv g0 asg<|wk_end<|ac_next<|aw_block ?_
 refine aw_loop1 (fun (k_ : Nat) (p6 : Int)=>k_ ≤ k∧spec_SenderOk.l0 k_ a0_0 a0_1 l0_2 a0_3 a0_4 p6 = some r) (fun (p6 : Int)=>⟨[(1,.box 0 0),(3,.lit (.int .i64 p6))],[(0,.box 65 [.lit (.int .i64 a0_0),.lit (.int .i64 a0_1),.sl .o 4 (l0_2.map e63),.lit (.int .i64 a0_3),.lit (.int .i64 a0_4)])]⟩) k 0 ⟨Nat.le_refl _,H⟩ (fun K_ h_=>acw hE [(0,0)] 9999 h_) (fun _=>by intro h_;have h_:=h_.2;rw [spec_SenderOk.l0.eq_1] at h_;cases h_) ?_
 intro k7 p6 hq_ K13 hK14
 have hk7:=hq_.1
 have H:=hq_.2
 clear hq_
 rw [spec_SenderOk.l0.eq_2] at H
 refine aw_grp1<|aw_grp1<|wk_start<|kv g0 mv<|kv g0 (faB 2 2)<|kv g0 ldB<|kv g0 (lnS lenE)<|kv g0 lss<|wk_end<|ac_next ?_
 by_cases c8 : p6 < (l0_2.length : Int)
 ·rw [if_pos c8] at H
  refine aw_ifT ?_ (decide_eq_true c8)
  refine aw_skip<|ac_next<|aw_grp1<|aw_block<|aw_grp1<|wk_start<|kv g0 (faB 2 2)<|kv g0 ldB<|kv g0 mv ?_
  obtain ⟨c9,H⟩:=of_if H
  refine kv g0 (ixS 63 (e63 (rd_T63 l0_2 p6)) c9 (getE (z:=z63) c9 c8))<|kv g0 (ldRA 4 [.lit (.int .i64 ((rd_T63 l0_2 p6).f0)),.lit (.int .i64 ((rd_T63 l0_2 p6).f1)),.lit (.int .i64 ((rd_T63 l0_2 p6).f2)),.lit (.int .i64 ((rd_T63 l0_2 p6).f3))]) ?_
  obtain ⟨t10,A11,H⟩:=of_bind H
  refine kcS0 16 (.lit (.bool t10)) [] g0 (cal (spec_ItemOk.ok A11) [] 9999 .n (hf:=Tryz.func103)) rfl rfl<|kv g0 not_<|wk_end<|ac_next ?_
  by_cases c12 : t10 = true
  ·rw [if_pos c12] at H
   refine aw_ifF ?_ (nF c12)
   refine aw_skip<|ac_blkN<|ac_next<|wk_start<|kv g0 mv<|kv g0 add6<|kv g0 asg<|wk_end<|ac_k ?_
   exact acw hE [(0,0)] 9999 (hK14 k7 (wrap64 (p6 + 1)) (Nat.le_refl _) ⟨by omega,H⟩)
  rw [if_neg c12] at H
  refine aw_ifT ?_ (nT (bF c12))
  refine aw_grp1<|wk_start<|kv g0 asg<|wk_end<|ac_next<|aw_ret<|ac_blkR<|ac_thenR<|ac_thenR<|ac_blkR<|ac_thenR ?_
  obtain rfl:=Option.some.inj H
  exact acr hE [.tmp 2] (.tmp .nil) (.one _) [] 9999
 rw [if_neg c8] at H
 refine aw_ifF ?_ (decide_eq_false c8)
 refine aw_exit<|ac_then<|ac_then<|ac_hit rfl<|ac_next<|aw_grp1<|wk_start<|kv g0 (faB 0 0)<|kv g0 ldB ?_
 obtain ⟨t15,A16,H⟩:=of_bind H
 refine kcS0 20 (.lit (.bool t15)) [] g0 (cal (spec_l01In.ok A16) [] 9999 .n (hf:=Tryz.func48)) rfl rfl<|kv g0 mv ?_
 by_cases c17 : t15 = true
 ·rw [if_pos c17] at H
  refine kv (g1 c17) (faB 1 1)<|kv (g1 c17) ldB ?_
  obtain ⟨t18,A19,H⟩:=of_bind H
  refine kcS0 24 (.lit (.bool t18)) [] (g1 c17) (cal (spec_l01In.ok A19) [] 9999 .n (hf:=Tryz.func48)) rfl rfl ?_
  refine kv g0 (pkT c17)<|kv g0 mv ?_
  by_cases c20 : t18 = true
  ·rw [if_pos c20] at H
   refine kv (g1 c20) (faB 2 2)<|kv (g1 c20) ldB<|kv (g1 c20) (lnS lenE)<|kv (g1 c20) leq ?_
   refine kv g0 (pkT c20)<|kv g0 mv ?_
   by_cases c21 : (l0_2.length : Int) ≤ 3
   ·rw [if_pos c21] at H
    refine kv (g1 (decide_eq_true c21)) (faB 3 3)<|kv (g1 (decide_eq_true c21)) ldB ?_
    obtain ⟨t22,A23,H⟩:=of_bind H
    refine kcS0 35 (.lit (.bool t22)) [] (g1 (decide_eq_true c21)) (cal (spec_l01In.ok A23) [] 9999 .n (hf:=Tryz.func48)) rfl rfl ?_
    refine kv g0 (pkT (decide_eq_true c21))<|kv g0 mv ?_
    by_cases c24 : t22 = true
    ·rw [if_pos c24] at H
     refine kv (g1 c24) (faB 4 4)<|kv (g1 c24) ldB<|kv (g1 c24) eql<|kv (g1 c24) mv ?_
     by_cases c25 : a0_4 = 1
     ·rw [if_pos c25] at H
      refine kx (hF (eT c25)) ?_
      refine kx (hF (eT c25)) ?_
      refine kx (hF (eT c25)) ?_
      refine kv (g1 c24) (pkT (eT c25))<|kv (g1 c24) mv<|kx (hF rfl) ?_
      refine kx (hF rfl) ?_
      refine kx (hF rfl) ?_
      refine kv (g1 c24) (pkT rfl) ?_
      refine kv g0 (pkT c24)<|kv g0 asg<|wk_end<|ac_next<|aw_ret ?_
      obtain rfl:=Option.some.inj H
      exact acr hE [.tmp 2] (.tmp .nil) (.one _) [] 9999
     rw [if_neg c25] at H
     refine kv (g1 (eF c25)) (faB 4 4)<|kv (g1 (eF c25)) ldB<|kv (g1 (eF c25)) eql ?_
     refine kv (g1 c24) (pkF (eF c25))<|kv (g1 c24) mv ?_
     by_cases c26 : a0_4 = 2
     ·rw [if_pos c26] at H
      refine kx (hF (eT c26)) ?_
      refine kx (hF (eT c26)) ?_
      refine kx (hF (eT c26)) ?_
      refine kv (g1 c24) (pkT (eT c26)) ?_
      refine kv g0 (pkT c24)<|kv g0 asg<|wk_end<|ac_next<|aw_ret ?_
      obtain rfl:=Option.some.inj H
      exact acr hE [.tmp 2] (.tmp .nil) (.one _) [] 9999
     rw [if_neg c26] at H
     refine kv (g1 (eF c26)) (faB 4 4)<|kv (g1 (eF c26)) ldB<|kv (g1 (eF c26)) eql ?_
     refine kv (g1 c24) (pkF (eF c26)) ?_
     refine kv g0 (pkT c24)<|kv g0 asg<|wk_end<|ac_next<|aw_ret ?_
     obtain rfl:=Option.some.inj H
     exact acr hE [.tmp 2] (.tmp .nil) (.one _) [] 9999
    rw [if_neg c24] at H
    refine kx (hT (bF c24)) ?_
    refine kx (hT (bF c24)) ?_
    refine kx (hT (bF c24)) ?_
    refine ku (neT (hT (bF c24))) ?_
    refine ku neU ?_
    refine ku neU ?_
    refine ku neU ?_
    refine kx (hT (bF c24)) ?_
    refine ku (neT (hT (bF c24))) ?_
    refine ku neU ?_
    refine ku neU ?_
    refine ku neU ?_
    refine kx (hT (bF c24)) ?_
    refine kv g0 (pkF (bF c24))<|kv g0 asg<|wk_end<|ac_next<|aw_ret ?_
    obtain rfl:=Option.some.inj H
    exact acr hE [.tmp 2] (.tmp .nil) (.one _) [] 9999
   rw [if_neg c21] at H
   refine kx (hT (decide_eq_false c21)) ?_
   refine kx (hT (decide_eq_false c21)) ?_
   refine kx (hT (decide_eq_false c21)) ?_
   refine kv g0 (pkF (decide_eq_false c21))<|kv g0 mv<|kx (hT rfl) ?_
   refine kx (hT rfl) ?_
   refine kx (hT rfl) ?_
   refine ku (neT (hT rfl)) ?_
   refine ku neU ?_
   refine ku neU ?_
   refine ku neU ?_
   refine kx (hT rfl) ?_
   refine ku (neT (hT rfl)) ?_
   refine ku neU ?_
   refine ku neU ?_
   refine ku neU ?_
   refine kx (hT rfl) ?_
   refine kv g0 (pkF rfl)<|kv g0 asg<|wk_end<|ac_next<|aw_ret ?_
   obtain rfl:=Option.some.inj H
   exact acr hE [.tmp 2] (.tmp .nil) (.one _) [] 9999
  rw [if_neg c20] at H
  refine kx (hT (bF c20)) ?_
  refine kx (hT (bF c20)) ?_
  refine kx (hT (bF c20)) ?_
  refine kx (hT (bF c20)) ?_
  refine kv g0 (pkF (bF c20))<|kv g0 mv<|kx (hT rfl) ?_
  refine kx (hT rfl) ?_
  refine kx (hT rfl) ?_
  refine kv g0 (pkF rfl)<|kv g0 mv<|kx (hT rfl) ?_
  refine kx (hT rfl) ?_
  refine kx (hT rfl) ?_
  refine ku (neT (hT rfl)) ?_
  refine ku neU ?_
  refine ku neU ?_
  refine ku neU ?_
  refine kx (hT rfl) ?_
  refine ku (neT (hT rfl)) ?_
  refine ku neU ?_
  refine ku neU ?_
  refine ku neU ?_
  refine kx (hT rfl) ?_
  refine kv g0 (pkF rfl)<|kv g0 asg<|wk_end<|ac_next<|aw_ret ?_
  obtain rfl:=Option.some.inj H
  exact acr hE [.tmp 2] (.tmp .nil) (.one _) [] 9999
 rw [if_neg c17] at H
 refine kx (hT (bF c17)) ?_
 refine kx (hT (bF c17)) ?_
 refine kx (hT (bF c17)) ?_
 refine kv g0 (pkF (bF c17))<|kv g0 mv<|kx (hT rfl) ?_
 refine kx (hT rfl) ?_
 refine kx (hT rfl) ?_
 refine kx (hT rfl) ?_
 refine kv g0 (pkF rfl)<|kv g0 mv<|kx (hT rfl) ?_
 refine kx (hT rfl) ?_
 refine kx (hT rfl) ?_
 refine kv g0 (pkF rfl)<|kv g0 mv<|kx (hT rfl) ?_
 refine kx (hT rfl) ?_
 refine kx (hT rfl) ?_
 refine ku (neT (hT rfl)) ?_
 refine ku neU ?_
 refine ku neU ?_
 refine ku neU ?_
 refine kx (hT rfl) ?_
 refine ku (neT (hT rfl)) ?_
 refine ku neU ?_
 refine ku neU ?_
 refine ku neU ?_
 refine kx (hT rfl) ?_
 refine kv g0 (pkF rfl)<|kv g0 asg<|wk_end<|ac_next<|aw_ret ?_
 obtain rfl:=Option.some.inj H
 exact acr hE [.tmp 2] (.tmp .nil) (.one _) [] 9999
/-! spec_l16Length -/
def spec_l16Length.f (a0_0 : Int) (a0_1 : Int) (a0_2 : Int) (a0_3 : Int) : Option (Int):=if a0_0 = 2 then some a0_3 else some 1
theorem spec_l16Length.ok {a0_0 : Int} {a0_1 : Int} {a0_2 : Int} {a0_3 : Int} {r : Int} (H : spec_l16Length.f a0_0 a0_1 a0_2 a0_3 = some r) : ACalls Tryz.prog 213 [] [.agg [.lit (.int .i64 a0_0),.lit (.int .i64 a0_1),.lit (.int .i64 a0_2),.lit (.int .i64 a0_3)]] [] (.lit (.int .i64 r)):=by
 refine acalls (fn:=Tryz.f213) (nt:=8) Tryz.func213 rfl rfl (Nat.le_of_ble_eq_true rfl) fun E hE=>?_
 rw [spec_l16Length.f] at H
 refine aw_grp1<|wk_start<|kb g0 (bxA 0)<|kv g0 asg<|wk_end<|ac_next<|aw_grp1<|aw_grp1<|wk_start<|kv g0 (faB 0 0)<|kv g0 ldB<|kv g0 eql<|wk_end<|ac_next ?_
 by_cases c1 : a0_0 = 2
 ·rw [if_pos c1] at H
  refine aw_ifT ?_ (eT c1)
  refine aw_grp1<|wk_start<|kv g0 (faB 3 3)<|kv g0 ldB<|kv g0 asg<|wk_end<|ac_next<|aw_ret<|ac_thenR ?_
  obtain rfl:=Option.some.inj H
  exact acr hE [.tmp 2] (.tmp .nil) (.one _) [] 9999
 rw [if_neg c1] at H
 refine aw_ifF ?_ (eF c1)
 refine aw_skip<|ac_next<|aw_grp1<|wk_start<|kv g0 asg<|wk_end<|ac_next<|aw_ret ?_
 obtain rfl:=Option.some.inj H
 exact acr hE [.tmp 2] (.tmp .nil) (.one _) [] 9999
/-! spec_RingOk -/
def spec_RingOk.l0 : Nat→(List S63)→Int→Int→Int→Int→Int→Option (Bool)
 | 0,_,_,_,_,_,_=>none
 | k20 + 1,l0_0,a0_1,a0_2,a0_3,p18,p19=>if p19 < (l0_0.length : Int) then if 0 ≤ p19 then ((spec_ItemOk.f ((rd_T63 l0_0 p19).f0) ((rd_T63 l0_0 p19).f1) ((rd_T63 l0_0 p19).f2) ((rd_T63 l0_0 p19).f3)).bind fun t23=>if t23 = true then (spec_l16Length.f ((rd_T63 l0_0 p19).f0) ((rd_T63 l0_0 p19).f1) ((rd_T63 l0_0 p19).f2) ((rd_T63 l0_0 p19).f3)).bind fun t26=>spec_RingOk.l0 k20 l0_0 a0_1 a0_2 a0_3 (wrap64 (p18 + t26)) (wrap64 (p19 + 1)) else some false) else none else some (decide (p18 ≤ a0_3))
def spec_RingOk.f (k : Nat) (l0_0 : List S63) (a0_1 : Int) (a0_2 : Int) (a0_3 : Int) : Option (Bool):=if (l0_0.length : Int) > 4 then some false else ((spec_l01In.f a0_1 0 5).bind fun t2=>(if t2 = true then ((spec_l01In.f a0_2 0 1000000000).bind fun t5=>(if t5 = true then ((spec_l01In.f a0_3 0 1000000000).bind fun t8=>if t8 = true then spec_RingOk.l0 k l0_0 a0_1 a0_2 a0_3 a0_2 0 else some false) else some false)) else some false))
theorem spec_RingOk.ok {k : Nat} {l0_0 : List S63} {a0_1 : Int} {a0_2 : Int} {a0_3 : Int} {r : Bool} (H : spec_RingOk.f k l0_0 a0_1 a0_2 a0_3 = some r) : ACalls Tryz.prog 140 [] [.agg [.sl .o 4 (l0_0.map e63),.lit (.int .i64 a0_1),.lit (.int .i64 a0_2),.lit (.int .i64 a0_3)]] [] (.lit (.bool r)):=by
 refine acalls (fn:=Tryz.f140) (nt:=55) Tryz.func140 rfl rfl (Nat.le_of_ble_eq_true rfl) fun E hE=>?_
 rw [spec_RingOk.f] at H
 refine aw_grp1<|wk_start<|kb g0 (bxA 0)<|kv g0 asg<|wk_end<|ac_next<|aw_grp1<|aw_grp1<|wk_start<|kv g0 (faB 0 0)<|kv g0 ldB<|kv g0 (lnS lenE)<|kv g0 gtr<|kv g0 mv ?_
 by_cases c1 : (l0_0.length : Int) > 4
 ·rw [if_pos c1] at H
  refine kx (hF (decide_eq_true c1)) ?_
  refine kx (hF (decide_eq_true c1)) ?_
  refine kx (hF (decide_eq_true c1)) ?_
  refine kx (hF (decide_eq_true c1)) ?_
  refine kv g0 (pkT (decide_eq_true c1))<|kv g0 mv<|kx (hF rfl) ?_
  refine kx (hF rfl) ?_
  refine kx (hF rfl) ?_
  refine kx (hF rfl) ?_
  refine kv g0 (pkT rfl)<|kv g0 mv<|kx (hF rfl) ?_
  refine kx (hF rfl) ?_
  refine kx (hF rfl) ?_
  refine kx (hF rfl) ?_
  refine kv g0 (pkT rfl)<|wk_end<|ac_next ?_
  refine aw_ifT ?_ rfl
  refine aw_grp1<|wk_start<|kv g0 asg<|wk_end<|ac_next<|aw_ret<|ac_thenR ?_
  obtain rfl:=Option.some.inj H
  exact acr hE [.tmp 2] (.tmp .nil) (.one _) [] 9999
 rw [if_neg c1] at H
 refine kv (g1 (decide_eq_false c1)) (faB 1 1)<|kv (g1 (decide_eq_false c1)) ldB ?_
 obtain ⟨t2,A3,H⟩:=of_bind H
 refine kcS0 12 (.lit (.bool t2)) [] (g1 (decide_eq_false c1)) (cal (spec_l01In.ok A3) [] 9999 .n (hf:=Tryz.func48)) rfl rfl<|kv (g1 (decide_eq_false c1)) not_ ?_
 refine kv g0 (pkF (decide_eq_false c1))<|kv g0 mv ?_
 by_cases c4 : t2 = true
 ·rw [if_pos c4] at H
  refine kv (g1 (nF c4)) (faB 2 2)<|kv (g1 (nF c4)) ldB ?_
  obtain ⟨t5,A6,H⟩:=of_bind H
  refine kcS0 18 (.lit (.bool t5)) [] (g1 (nF c4)) (cal (spec_l01In.ok A6) [] 9999 .n (hf:=Tryz.func48)) rfl rfl<|kv (g1 (nF c4)) not_ ?_
  refine kv g0 (pkF (nF c4))<|kv g0 mv ?_
  by_cases c7 : t5 = true
  ·rw [if_pos c7] at H
   refine kv (g1 (nF c7)) (faB 3 3)<|kv (g1 (nF c7)) ldB ?_
   obtain ⟨t8,A9,H⟩:=of_bind H
   refine kcS0 24 (.lit (.bool t8)) [] (g1 (nF c7)) (cal (spec_l01In.ok A9) [] 9999 .n (hf:=Tryz.func48)) rfl rfl<|kv (g1 (nF c7)) not_ ?_
   refine kv g0 (pkF (nF c7))<|wk_end<|ac_next ?_
   by_cases c10 : t8 = true
   ·rw [if_pos c10] at H
    refine aw_ifF ?_ (nF c10)
    refine aw_skip<|ac_next<|aw_grp1<|wk_start<|kv g0 (faB 2 2)<|kv g0 ldB<|kv g0 asg<|wk_end<|ac_next<|aw_grp1<|aw_grp1<|wk_start<|kv g0 asg<|wk_end<|ac_next<|aw_block ?_
    refine aw_loop2 (fun (k_ : Nat) (p18 : Int) (p19 : Int)=>k_ ≤ k∧spec_RingOk.l0 k_ l0_0 a0_1 a0_2 a0_3 p18 p19 = some r) (fun (p18 : Int) (p19 : Int)=>⟨[(1,.box 0 0),(3,.lit (.int .i64 p18)),(4,.lit (.int .i64 p19))],[(0,.box 67 [.sl .o 4 (l0_0.map e63),.lit (.int .i64 a0_1),.lit (.int .i64 a0_2),.lit (.int .i64 a0_3)])]⟩) k a0_2 0 ⟨Nat.le_refl _,H⟩ (fun K_ h_=>acw hE [(0,0)] 9999 h_) (fun _ _=>by intro h_;have h_:=h_.2;rw [spec_RingOk.l0.eq_1] at h_;cases h_) ?_
    intro k20 p18 p19 hq_ K28 hK29
    have hk20:=hq_.1
    have H:=hq_.2
    clear hq_
    rw [spec_RingOk.l0.eq_2] at H
    refine aw_grp1<|aw_grp1<|wk_start<|kv g0 mv<|kv g0 (faB 0 0)<|kv g0 ldB<|kv g0 (lnS lenE)<|kv g0 lss<|wk_end<|ac_next ?_
    by_cases c21 : p19 < (l0_0.length : Int)
    ·rw [if_pos c21] at H
     refine aw_ifT ?_ (decide_eq_true c21)
     refine aw_skip<|ac_next<|aw_grp1<|aw_block<|aw_grp1<|aw_grp1<|wk_start<|kv g0 (faB 0 0)<|kv g0 ldB<|kv g0 mv ?_
     obtain ⟨c22,H⟩:=of_if H
     refine kv g0 (ixS 63 (e63 (rd_T63 l0_0 p19)) c22 (getE (z:=z63) c22 c21))<|kv g0 (ldRA 4 [.lit (.int .i64 ((rd_T63 l0_0 p19).f0)),.lit (.int .i64 ((rd_T63 l0_0 p19).f1)),.lit (.int .i64 ((rd_T63 l0_0 p19).f2)),.lit (.int .i64 ((rd_T63 l0_0 p19).f3))]) ?_
     obtain ⟨t23,A24,H⟩:=of_bind H
     refine kcS0 41 (.lit (.bool t23)) [] g0 (cal (spec_ItemOk.ok A24) [] 9999 .n (hf:=Tryz.func103)) rfl rfl<|kv g0 not_<|wk_end<|ac_next ?_
     by_cases c25 : t23 = true
     ·rw [if_pos c25] at H
      refine aw_ifF ?_ (nF c25)
      refine aw_skip<|ac_next<|wk_start<|kv g0 mv<|kv g0 (faB 0 0)<|kv g0 ldB<|kv g0 mv<|kv g0 (ixS 63 (e63 (rd_T63 l0_0 p19)) c22 (getE (z:=z63) c22 c21))<|kv g0 (ldRA 4 [.lit (.int .i64 ((rd_T63 l0_0 p19).f0)),.lit (.int .i64 ((rd_T63 l0_0 p19).f1)),.lit (.int .i64 ((rd_T63 l0_0 p19).f2)),.lit (.int .i64 ((rd_T63 l0_0 p19).f3))]) ?_
      obtain ⟨t26,A27,H⟩:=of_bind H
      refine kcS0 49 (.lit (.int .i64 t26)) [] g0 (cal (spec_l16Length.ok A27) [] 9999 .n (hf:=Tryz.func213)) rfl rfl<|kv g0 add6<|kv g0 asg<|wk_end<|ac_blkN<|ac_next<|wk_start<|kv g0 mv<|kv g0 add6<|kv g0 asg<|wk_end<|ac_k ?_
      exact acw hE [(0,0)] 9999 (hK29 k20 (wrap64 (p18 + t26)) (wrap64 (p19 + 1)) (Nat.le_refl _) ⟨by omega,H⟩)
     rw [if_neg c25] at H
     refine aw_ifT ?_ (nT (bF c25))
     refine aw_grp1<|wk_start<|kv g0 asg<|wk_end<|ac_next<|aw_ret<|ac_thenR<|ac_blkR<|ac_thenR<|ac_thenR<|ac_blkR<|ac_thenR ?_
     obtain rfl:=Option.some.inj H
     exact acr hE [.tmp 2] (.tmp .nil) (.one _) [] 9999
    rw [if_neg c21] at H
    refine aw_ifF ?_ (decide_eq_false c21)
    refine aw_exit<|ac_then<|ac_then<|ac_hit rfl<|ac_next<|aw_grp1<|wk_start<|kv g0 mv<|kv g0 (faB 3 3)<|kv g0 ldB<|kv g0 leq<|kv g0 asg<|wk_end<|ac_next<|aw_ret ?_
    obtain rfl:=Option.some.inj H
    exact acr hE [.tmp 2] (.tmp .nil) (.one _) [] 9999
   rw [if_neg c10] at H
   refine aw_ifT ?_ (nT (bF c10))
   refine aw_grp1<|wk_start<|kv g0 asg<|wk_end<|ac_next<|aw_ret<|ac_thenR ?_
   obtain rfl:=Option.some.inj H
   exact acr hE [.tmp 2] (.tmp .nil) (.one _) [] 9999
  rw [if_neg c7] at H
  refine kx (hF (nT (bF c7))) ?_
  refine kx (hF (nT (bF c7))) ?_
  refine kx (hF (nT (bF c7))) ?_
  refine kx (hF (nT (bF c7))) ?_
  refine kv g0 (pkT (nT (bF c7)))<|wk_end<|ac_next ?_
  refine aw_ifT ?_ rfl
  refine aw_grp1<|wk_start<|kv g0 asg<|wk_end<|ac_next<|aw_ret<|ac_thenR ?_
  obtain rfl:=Option.some.inj H
  exact acr hE [.tmp 2] (.tmp .nil) (.one _) [] 9999
 rw [if_neg c4] at H
 refine kx (hF (nT (bF c4))) ?_
 refine kx (hF (nT (bF c4))) ?_
 refine kx (hF (nT (bF c4))) ?_
 refine kx (hF (nT (bF c4))) ?_
 refine kv g0 (pkT (nT (bF c4)))<|kv g0 mv<|kx (hF rfl) ?_
 refine kx (hF rfl) ?_
 refine kx (hF rfl) ?_
 refine kx (hF rfl) ?_
 refine kv g0 (pkT rfl)<|wk_end<|ac_next ?_
 refine aw_ifT ?_ rfl
 refine aw_grp1<|wk_start<|kv g0 asg<|wk_end<|ac_next<|aw_ret<|ac_thenR ?_
 obtain rfl:=Option.some.inj H
 exact acr hE [.tmp 2] (.tmp .nil) (.one _) [] 9999
/-! spec_Taken -/
def spec_Taken.j0 : Nat→(List S63)→Int→Int→Int→Int→(Int × Int × (List S63) × Int × Int)→((List S63) × Int × Int × Int × Int × Int × Int × Int × Bool)→Bool→Option (Int × Int × (List S63) × Int × Int × (List S63) × Int × Int × Int × Bool)
 | 0,_,_,_,_,_,_,_,_=>none
 | k16 + 1,l1_0,a1_1,a1_2,a1_3,a2,t1,t3,p15=>if p15 = true then ((spec_l16Copy.f l1_0 a1_1 a1_2 a1_3).bind fun t18=>some (t1.1,t1.2.1,t1.2.2.1,t1.2.2.2.1,t1.2.2.2.2,t18.1,t18.2.1,t18.2.2.1,t18.2.2.2,false)) else if t1.2.2.1.length + ([(⟨t3.2.2.2.2.1,t3.2.2.2.2.2.1,t3.2.2.2.2.2.2.1,t3.2.2.2.2.2.2.2.1⟩ : S63)] : List S63).length < 4398046511104 then some (t1.1,t1.2.1,t1.2.2.1 ++ ([(⟨t3.2.2.2.2.1,t3.2.2.2.2.2.1,t3.2.2.2.2.2.2.1,t3.2.2.2.2.2.2.2.1⟩ : S63)] : List S63),a2,1,t3.1,t3.2.1,t3.2.2.1,t3.2.2.2.1,true) else none
def spec_Taken.f (k : Nat) (a0_0 : Int) (a0_1 : Int) (l0_2 : List S63) (a0_3 : Int) (a0_4 : Int) (l1_0 : List S63) (a1_1 : Int) (a1_2 : Int) (a1_3 : Int) (a2 : Int) : Option (Int × Int × (List S63) × Int × Int × (List S63) × Int × Int × Int × Bool):=(spec_l18Copy.f a0_0 a0_1 l0_2 a0_3 a0_4).bind fun t1=>(spec_Drained.f l1_0 a1_1 a1_2 a1_3).bind fun t3=>(spec_SenderOk.f k a0_0 a0_1 l0_2 a0_3 a0_4).bind fun t5=>(if t5 = true then ((spec_RingOk.f k l1_0 a1_1 a1_2 a1_3).bind fun t8=>(if t8 = true then (if t3.2.2.2.2.2.2.2.2 = true then (if (l0_2.length : Int) ≥ 3 then spec_Taken.j0 k l1_0 a1_1 a1_2 a1_3 a2 t1 t3 true else ((spec_l01In.f a2 0 1000000000).bind fun t13=>spec_Taken.j0 k l1_0 a1_1 a1_2 a1_3 a2 t1 t3 (!t13))) else spec_Taken.j0 k l1_0 a1_1 a1_2 a1_3 a2 t1 t3 true) else spec_Taken.j0 k l1_0 a1_1 a1_2 a1_3 a2 t1 t3 true)) else spec_Taken.j0 k l1_0 a1_1 a1_2 a1_3 a2 t1 t3 true)
theorem spec_Taken.ok {k : Nat} {a0_0 : Int} {a0_1 : Int} {l0_2 : List S63} {a0_3 : Int} {a0_4 : Int} {l1_0 : List S63} {a1_1 : Int} {a1_2 : Int} {a1_3 : Int} {a2 : Int} {r : Int × Int × (List S63) × Int × Int × (List S63) × Int × Int × Int × Bool} (H : spec_Taken.f k a0_0 a0_1 l0_2 a0_3 a0_4 l1_0 a1_1 a1_2 a1_3 a2 = some r) : ACalls Tryz.prog 50 [] [.agg [.lit (.int .i64 a0_0),.lit (.int .i64 a0_1),.sl .o 4 (l0_2.map e63),.lit (.int .i64 a0_3),.lit (.int .i64 a0_4)],.agg [.sl .o 4 (l1_0.map e63),.lit (.int .i64 a1_1),.lit (.int .i64 a1_2),.lit (.int .i64 a1_3)],.lit (.int .i64 a2)] [(0,.row 63 4 (r.2.2.1.map e63)),(1,.row 63 4 (r.2.2.2.2.2.1.map e63))] (.tup [.agg [.lit (.int .i64 r.1),.lit (.int .i64 r.2.1),.row 0,.lit (.int .i64 r.2.2.2.1),.lit (.int .i64 r.2.2.2.2.1)],.agg [.row 1,.lit (.int .i64 r.2.2.2.2.2.2.1),.lit (.int .i64 r.2.2.2.2.2.2.2.1),.lit (.int .i64 r.2.2.2.2.2.2.2.2.1)],.lit (.bool r.2.2.2.2.2.2.2.2.2)]):=by
 refine acalls (fn:=Tryz.f50) (nt:=58) Tryz.func50 rfl rfl (Nat.le_of_ble_eq_true rfl) fun E hE=>?_
 rw [spec_Taken.f] at H
 refine aw_grp1<|wk_start<|kb g0 (bxA 0)<|kb g0 (bxA 1)<|kb g0 (alc 2 [.int .i64 0,.int .i64 0,.slice none 0 0,.int .i64 0,.int .i64 0] [.lit (.int .i64 0),.lit (.int .i64 0),.lit (.slice none 0 0),.lit (.int .i64 0),.lit (.int .i64 0)])<|kb g0 (alc 3 [.slice none 0 0,.int .i64 0,.int .i64 0,.int .i64 0] [.lit (.slice none 0 0),.lit (.int .i64 0),.lit (.int .i64 0),.lit (.int .i64 0)])<|kv g0 asg<|wk_end<|ac_next<|aw_grp1<|wk_start<|kv g0 (ldBA 5 [.lit (.int .i64 a0_0),.lit (.int .i64 a0_1),.sl .o 4 (l0_2.map e63),.lit (.int .i64 a0_3),.lit (.int .i64 a0_4)]) ?_
 obtain ⟨t1,A2,H⟩:=of_bind H
 refine kcS1 14 (.agg [.lit (.int .i64 t1.1),.lit (.int .i64 t1.2.1),.row 4,.lit (.int .i64 t1.2.2.2.1),.lit (.int .i64 t1.2.2.2.2)]) [(4,.row 63 4 (t1.2.2.1.map e63))] g0 (cal (spec_l18Copy.ok A2) [4] 9999 .n (hf:=Tryz.func136)) rfl rfl<|kb g0 (alc 5 [.int .i64 0,.int .i64 0,.slice none 0 0,.int .i64 0,.int .i64 0] [.lit (.int .i64 0),.lit (.int .i64 0),.lit (.slice none 0 0),.lit (.int .i64 0),.lit (.int .i64 0)])<|ks g0 (stB 5 [.lit (.int .i64 t1.1),.lit (.int .i64 t1.2.1),.row 4,.lit (.int .i64 t1.2.2.2.1),.lit (.int .i64 t1.2.2.2.2)])<|wk_end<|ac_next<|aw_grp1<|wk_start<|kv g0 (ldBA 4 [.sl .o 4 (l1_0.map e63),.lit (.int .i64 a1_1),.lit (.int .i64 a1_2),.lit (.int .i64 a1_3)]) ?_
 obtain ⟨t3,A4,H⟩:=of_bind H
 refine kcS1 17 (.tup [.agg [.row 6,.lit (.int .i64 t3.2.1),.lit (.int .i64 t3.2.2.1),.lit (.int .i64 t3.2.2.2.1)],.agg [.lit (.int .i64 t3.2.2.2.2.1),.lit (.int .i64 t3.2.2.2.2.2.1),.lit (.int .i64 t3.2.2.2.2.2.2.1),.lit (.int .i64 t3.2.2.2.2.2.2.2.1)],.lit (.bool t3.2.2.2.2.2.2.2.2)]) [(6,.row 63 4 (t3.1.map e63))] g0 (cal (spec_Drained.ok A4) [6] 9999 .n (hf:=Tryz.func138)) rfl rfl<|kv g0 mv<|kv g0 ext<|kv g0 ext<|kv g0 ext<|kb g0 (alc 7 [.slice none 0 0,.int .i64 0,.int .i64 0,.int .i64 0] [.lit (.slice none 0 0),.lit (.int .i64 0),.lit (.int .i64 0),.lit (.int .i64 0)])<|kb g0 (alc 8 [.int .i64 0,.int .i64 0,.int .i64 0,.int .i64 0] [.lit (.int .i64 0),.lit (.int .i64 0),.lit (.int .i64 0),.lit (.int .i64 0)])<|ks g0 (stB 4 [.row 6,.lit (.int .i64 t3.2.1),.lit (.int .i64 t3.2.2.1),.lit (.int .i64 t3.2.2.2.1)])<|ks g0 (stB 4 [.lit (.int .i64 t3.2.2.2.2.1),.lit (.int .i64 t3.2.2.2.2.2.1),.lit (.int .i64 t3.2.2.2.2.2.2.1),.lit (.int .i64 t3.2.2.2.2.2.2.2.1)])<|kv g0 asg<|wk_end<|ac_next<|aw_grp1 ?_
 refine aw_cut1 (J:=fun K_=>∀ (k_ : Nat) (p15 : Bool),k_ ≤ k→spec_Taken.j0 k_ l1_0 a1_1 a1_2 a1_3 a2 t1 t3 p15 = some r→ACont E 58 ⟨[(2,.lit (.int .i64 a2)),(4,.box 1 0),(6,.box 2 0),(7,.box 3 0),(9,.box 5 0),(10,.box 7 0),(11,.box 8 0),(43,.lit (.bool p15))],[(1,.box 67 [.sl .o 4 (l1_0.map e63),.lit (.int .i64 a1_1),.lit (.int .i64 a1_2),.lit (.int .i64 a1_3)]),(2,.box 65 [.lit (.int .i64 0),.lit (.int .i64 0),.lit (.slice none 0 0),.lit (.int .i64 0),.lit (.int .i64 0)]),(3,.box 67 [.lit (.slice none 0 0),.lit (.int .i64 0),.lit (.int .i64 0),.lit (.int .i64 0)]),(4,.row 63 4 (t1.2.2.1.map e63)),(5,.box 65 [.lit (.int .i64 t1.1),.lit (.int .i64 t1.2.1),.row 4,.lit (.int .i64 t1.2.2.2.1),.lit (.int .i64 t1.2.2.2.2)]),(6,.row 63 4 (t3.1.map e63)),(7,.box 67 [.row 6,.lit (.int .i64 t3.2.1),.lit (.int .i64 t3.2.2.1),.lit (.int .i64 t3.2.2.2.1)]),(8,.box 63 [.lit (.int .i64 t3.2.2.2.2.1),.lit (.int .i64 t3.2.2.2.2.2.1),.lit (.int .i64 t3.2.2.2.2.2.2.1),.lit (.int .i64 t3.2.2.2.2.2.2.2.1)])]⟩ K_) ?_ ?_
 ·intro K_ hJ20
  refine wk_start<|kv g0 (ldBA 5 [.lit (.int .i64 a0_0),.lit (.int .i64 a0_1),.sl .o 4 (l0_2.map e63),.lit (.int .i64 a0_3),.lit (.int .i64 a0_4)]) ?_
  obtain ⟨t5,A6,H⟩:=of_bind H
  refine kcS0 22 (.lit (.bool t5)) [] g0 (cal (spec_SenderOk.ok A6) [] 9999 .n (hf:=Tryz.func139)) rfl rfl<|kv g0 not_<|kv g0 mv ?_
  by_cases c7 : t5 = true
  ·rw [if_pos c7] at H
   refine kv (g1 (nF c7)) (ldBA 4 [.sl .o 4 (l1_0.map e63),.lit (.int .i64 a1_1),.lit (.int .i64 a1_2),.lit (.int .i64 a1_3)]) ?_
   obtain ⟨t8,A9,H⟩:=of_bind H
   refine kcS0 26 (.lit (.bool t8)) [] (g1 (nF c7)) (cal (spec_RingOk.ok A9) [] 9999 .n (hf:=Tryz.func140)) rfl rfl<|kv (g1 (nF c7)) not_ ?_
   refine kv g0 (pkF (nF c7))<|kv g0 mv ?_
   by_cases c10 : t8 = true
   ·rw [if_pos c10] at H
    refine kv (g1 (nF c10)) mv<|kv (g1 (nF c10)) not_ ?_
    refine kv g0 (pkF (nF c10))<|kv g0 mv ?_
    by_cases c11 : t3.2.2.2.2.2.2.2.2 = true
    ·rw [if_pos c11] at H
     refine kv (g1 (nF c11)) (faB 2 2)<|kv (g1 (nF c11)) ldB<|kv (g1 (nF c11)) (lnS lenE)<|kv (g1 (nF c11)) geq ?_
     refine kv g0 (pkF (nF c11))<|kv g0 mv ?_
     by_cases c12 : (l0_2.length : Int) ≥ 3
     ·rw [if_pos c12] at H
      refine kx (hF (decide_eq_true c12)) ?_
      refine kx (hF (decide_eq_true c12)) ?_
      refine kx (hF (decide_eq_true c12)) ?_
      refine kv g0 (pkT (decide_eq_true c12))<|wk_end<|ac_k ?_
      exact acw hE [(1,1),(2,2),(3,3),(4,4),(5,5),(6,6),(7,7),(8,8)] 9999 (hJ20 k true (Nat.le_refl _) H)
     rw [if_neg c12] at H
     refine kv (g1 (decide_eq_false c12)) mv ?_
     obtain ⟨t13,A14,H⟩:=of_bind H
     refine kcS0 41 (.lit (.bool t13)) [] (g1 (decide_eq_false c12)) (cal (spec_l01In.ok A14) [] 9999 .n (hf:=Tryz.func48)) rfl rfl<|kv (g1 (decide_eq_false c12)) not_ ?_
     refine kv g0 (pkF (decide_eq_false c12))<|wk_end<|ac_k ?_
     exact acw hE [(1,1),(2,2),(3,3),(4,4),(5,5),(6,6),(7,7),(8,8)] 9999 (hJ20 k (!t13) (Nat.le_refl _) H)
    rw [if_neg c11] at H
    refine kx (hF (nT (bF c11))) ?_
    refine kx (hF (nT (bF c11))) ?_
    refine kx (hF (nT (bF c11))) ?_
    refine kx (hF (nT (bF c11))) ?_
    refine kv g0 (pkT (nT (bF c11)))<|kv g0 mv<|kx (hF rfl) ?_
    refine kx (hF rfl) ?_
    refine kx (hF rfl) ?_
    refine kv g0 (pkT rfl)<|wk_end<|ac_k ?_
    exact acw hE [(1,1),(2,2),(3,3),(4,4),(5,5),(6,6),(7,7),(8,8)] 9999 (hJ20 k true (Nat.le_refl _) H)
   rw [if_neg c10] at H
   refine kx (hF (nT (bF c10))) ?_
   refine kx (hF (nT (bF c10))) ?_
   refine kv g0 (pkT (nT (bF c10)))<|kv g0 mv<|kx (hF rfl) ?_
   refine kx (hF rfl) ?_
   refine kx (hF rfl) ?_
   refine kx (hF rfl) ?_
   refine kv g0 (pkT rfl)<|kv g0 mv<|kx (hF rfl) ?_
   refine kx (hF rfl) ?_
   refine kx (hF rfl) ?_
   refine kv g0 (pkT rfl)<|wk_end<|ac_k ?_
   exact acw hE [(1,1),(2,2),(3,3),(4,4),(5,5),(6,6),(7,7),(8,8)] 9999 (hJ20 k true (Nat.le_refl _) H)
  rw [if_neg c7] at H
  refine kx (hF (nT (bF c7))) ?_
  refine kx (hF (nT (bF c7))) ?_
  refine kx (hF (nT (bF c7))) ?_
  refine kv g0 (pkT (nT (bF c7)))<|kv g0 mv<|kx (hF rfl) ?_
  refine kx (hF rfl) ?_
  refine kv g0 (pkT rfl)<|kv g0 mv<|kx (hF rfl) ?_
  refine kx (hF rfl) ?_
  refine kx (hF rfl) ?_
  refine kx (hF rfl) ?_
  refine kv g0 (pkT rfl)<|kv g0 mv<|kx (hF rfl) ?_
  refine kx (hF rfl) ?_
  refine kx (hF rfl) ?_
  refine kv g0 (pkT rfl)<|wk_end<|ac_k ?_
  exact acw hE [(1,1),(2,2),(3,3),(4,4),(5,5),(6,6),(7,7),(8,8)] 9999 (hJ20 k true (Nat.le_refl _) H)
 intro k_ p15 hk_ H
 rcases k_ with _ | k16
 ·rw [spec_Taken.j0.eq_1] at H;cases H
 have hk16 : k16 ≤ k:=by omega
 clear hk_
 rw [spec_Taken.j0.eq_2] at H
 by_cases c17 : p15 = true
 ·rw [if_pos c17] at H
  refine aw_ifT ?_ c17
  refine aw_grp1<|wk_start<|kv g0 (ldBA 5 [.lit (.int .i64 t1.1),.lit (.int .i64 t1.2.1),.row 4,.lit (.int .i64 t1.2.2.2.1),.lit (.int .i64 t1.2.2.2.2)])<|kv g0 (ldBA 4 [.sl .o 4 (l1_0.map e63),.lit (.int .i64 a1_1),.lit (.int .i64 a1_2),.lit (.int .i64 a1_3)]) ?_
  obtain ⟨t18,A19,H⟩:=of_bind H
  refine kcS1 46 (.agg [.row 9,.lit (.int .i64 t18.2.1),.lit (.int .i64 t18.2.2.1),.lit (.int .i64 t18.2.2.2)]) [(9,.row 63 4 (t18.1.map e63))] g0 (cal (spec_l16Copy.ok A19) [9] 9999 .n (hf:=Tryz.func135)) rfl rfl<|ks g0 (stB 5 [.lit (.int .i64 t1.1),.lit (.int .i64 t1.2.1),.row 4,.lit (.int .i64 t1.2.2.2.1),.lit (.int .i64 t1.2.2.2.2)])<|ks g0 (stB 4 [.row 9,.lit (.int .i64 t18.2.1),.lit (.int .i64 t18.2.2.1),.lit (.int .i64 t18.2.2.2)])<|kv g0 asg<|wk_end_draw hM (by kernel_rfl)<|ac_next<|aw_ret<|ac_thenR ?_
  obtain rfl:=Option.some.inj H
  exact acr hE [.cell 6 65,.cell 7 67,.tmp 8] (rcA 5 (rcA 4 (.tmp .nil))) (.many _ _ _) [(0,4),(1,9)] 9999
 rw [if_neg c17] at H
 refine aw_ifF ?_ (bF c17)
 refine aw_skip<|ac_next<|aw_grp1<|wk_start<|kv g0 (faB 2 2)<|kv g0 ldB<|kv g0 (ldBA 4 [.lit (.int .i64 t3.2.2.2.2.1),.lit (.int .i64 t3.2.2.2.2.2.1),.lit (.int .i64 t3.2.2.2.2.2.2.1),.lit (.int .i64 t3.2.2.2.2.2.2.2.1)])<|kb g0 (bsl 10 63 4 [.int .i64 0,.int .i64 0,.int .i64 0,.int .i64 0] (([(⟨t3.2.2.2.2.1,t3.2.2.2.2.2.1,t3.2.2.2.2.2.2.1,t3.2.2.2.2.2.2.2.1⟩ : S63)] : List S63).map e63)) ?_
 obtain ⟨c21,H⟩:=of_if H
 refine kc g0 (apR 11 63 4 32 [.int .i64 0,.int .i64 0,.int .i64 0,.int .i64 0] ((t1.2.2.1 ++ ([(⟨t3.2.2.2.2.1,t3.2.2.2.2.2.1,t3.2.2.2.2.2.2.1,t3.2.2.2.2.2.2.2.1⟩ : S63)] : List S63)).map e63) (.row rfl) (apb c21 rfl) appE)<|kv g0 (faB 2 2)<|ks g0 (stB 1 [.lit (.int .i64 t1.1),.lit (.int .i64 t1.2.1),.row 11,.lit (.int .i64 t1.2.2.2.1),.lit (.int .i64 t1.2.2.2.2)])<|wk_end<|ac_next<|aw_grp1<|wk_start<|kv g0 mv<|kv g0 (faB 3 3)<|ks g0 (stB 1 [.lit (.int .i64 t1.1),.lit (.int .i64 t1.2.1),.row 11,.lit (.int .i64 a2),.lit (.int .i64 t1.2.2.2.2)])<|wk_end<|ac_next<|aw_grp1<|wk_start<|kv g0 (faB 4 4)<|ks g0 (stB 1 [.lit (.int .i64 t1.1),.lit (.int .i64 t1.2.1),.row 11,.lit (.int .i64 a2),.lit (.int .i64 1)])<|wk_end<|ac_next<|aw_grp1<|wk_start<|kv g0 (ldBA 5 [.lit (.int .i64 t1.1),.lit (.int .i64 t1.2.1),.row 11,.lit (.int .i64 a2),.lit (.int .i64 1)])<|kv g0 (ldBA 4 [.row 6,.lit (.int .i64 t3.2.1),.lit (.int .i64 t3.2.2.1),.lit (.int .i64 t3.2.2.2.1)])<|ks g0 (stB 5 [.lit (.int .i64 t1.1),.lit (.int .i64 t1.2.1),.row 11,.lit (.int .i64 a2),.lit (.int .i64 1)])<|ks g0 (stB 4 [.row 6,.lit (.int .i64 t3.2.1),.lit (.int .i64 t3.2.2.1),.lit (.int .i64 t3.2.2.2.1)])<|kv g0 asg<|wk_end_draw hM (by kernel_rfl)<|ac_next<|aw_ret ?_
 obtain rfl:=Option.some.inj H
 exact acr hE [.cell 6 65,.cell 7 67,.tmp 8] (rcA 5 (rcA 4 (.tmp .nil))) (.many _ _ _) [(0,11),(1,6)] 9999
/-! spec_Again -/
def spec_Again.f (k : Nat) (a0_0 : Int) (a0_1 : Int) (l0_2 : List S63) (a0_3 : Int) (a0_4 : Int) (a1 : Int) : Option (Int × Int × (List S63) × Int × Int × Bool):=(spec_l18Copy.f a0_0 a0_1 l0_2 a0_3 a0_4).bind fun t1=>(spec_SenderOk.f k a0_0 a0_1 l0_2 a0_3 a0_4).bind fun t3=>(if t3 = true then (if (l0_2.length : Int) = 0 then some (t1.1,t1.2.1,t1.2.2.1,t1.2.2.2.1,t1.2.2.2.2,false) else (if a1 < 0 then some (t1.1,t1.2.1,t1.2.2.1,t1.2.2.2.1,t1.2.2.2.2,false) else if (wrap64 (a1 - a0_4)) < a0_3 then some (t1.1,t1.2.1,t1.2.2.1,t1.2.2.2.1,t1.2.2.2.2,false) else if (wrap64 (2 * a0_4)) > 4 then some (t1.1,t1.2.1,t1.2.2.1,a1,4,true) else some (t1.1,t1.2.1,t1.2.2.1,a1,wrap64 (2 * a0_4),true))) else some (t1.1,t1.2.1,t1.2.2.1,t1.2.2.2.1,t1.2.2.2.2,false))
theorem spec_Again.ok {k : Nat} {a0_0 : Int} {a0_1 : Int} {l0_2 : List S63} {a0_3 : Int} {a0_4 : Int} {a1 : Int} {r : Int × Int × (List S63) × Int × Int × Bool} (H : spec_Again.f k a0_0 a0_1 l0_2 a0_3 a0_4 a1 = some r) : ACalls Tryz.prog 51 [] [.agg [.lit (.int .i64 a0_0),.lit (.int .i64 a0_1),.sl .o 4 (l0_2.map e63),.lit (.int .i64 a0_3),.lit (.int .i64 a0_4)],.lit (.int .i64 a1)] [(0,.row 63 4 (r.2.2.1.map e63))] (.tup [.agg [.lit (.int .i64 r.1),.lit (.int .i64 r.2.1),.row 0,.lit (.int .i64 r.2.2.2.1),.lit (.int .i64 r.2.2.2.2.1)],.lit (.bool r.2.2.2.2.2)]):=by
 refine acalls (fn:=Tryz.f51) (nt:=43) Tryz.func51 rfl rfl (Nat.le_of_ble_eq_true rfl) fun E hE=>?_
 rw [spec_Again.f] at H
 refine aw_grp1<|wk_start<|kb g0 (bxA 0)<|kb g0 (alc 1 [.int .i64 0,.int .i64 0,.slice none 0 0,.int .i64 0,.int .i64 0] [.lit (.int .i64 0),.lit (.int .i64 0),.lit (.slice none 0 0),.lit (.int .i64 0),.lit (.int .i64 0)])<|kv g0 asg<|wk_end<|ac_next<|aw_grp1<|wk_start<|kv g0 (ldBA 5 [.lit (.int .i64 a0_0),.lit (.int .i64 a0_1),.sl .o 4 (l0_2.map e63),.lit (.int .i64 a0_3),.lit (.int .i64 a0_4)]) ?_
 obtain ⟨t1,A2,H⟩:=of_bind H
 refine kcS1 8 (.agg [.lit (.int .i64 t1.1),.lit (.int .i64 t1.2.1),.row 2,.lit (.int .i64 t1.2.2.2.1),.lit (.int .i64 t1.2.2.2.2)]) [(2,.row 63 4 (t1.2.2.1.map e63))] g0 (cal (spec_l18Copy.ok A2) [2] 9999 .n (hf:=Tryz.func136)) rfl rfl<|kb g0 (alc 3 [.int .i64 0,.int .i64 0,.slice none 0 0,.int .i64 0,.int .i64 0] [.lit (.int .i64 0),.lit (.int .i64 0),.lit (.slice none 0 0),.lit (.int .i64 0),.lit (.int .i64 0)])<|ks g0 (stB 5 [.lit (.int .i64 t1.1),.lit (.int .i64 t1.2.1),.row 2,.lit (.int .i64 t1.2.2.2.1),.lit (.int .i64 t1.2.2.2.2)])<|wk_end<|ac_next<|aw_grp1<|aw_grp1<|wk_start<|kv g0 (ldBA 5 [.lit (.int .i64 a0_0),.lit (.int .i64 a0_1),.sl .o 4 (l0_2.map e63),.lit (.int .i64 a0_3),.lit (.int .i64 a0_4)]) ?_
 obtain ⟨t3,A4,H⟩:=of_bind H
 refine kcS0 10 (.lit (.bool t3)) [] g0 (cal (spec_SenderOk.ok A4) [] 9999 .n (hf:=Tryz.func139)) rfl rfl<|kv g0 not_<|kv g0 mv ?_
 by_cases c5 : t3 = true
 ·rw [if_pos c5] at H
  refine kv (g1 (nF c5)) (faB 2 2)<|kv (g1 (nF c5)) ldB<|kv (g1 (nF c5)) (lnS lenE)<|kv (g1 (nF c5)) eql ?_
  refine kv g0 (pkF (nF c5))<|kv g0 mv ?_
  by_cases c6 : (l0_2.length : Int) = 0
  ·rw [if_pos c6] at H
   refine kx (hF (eT c6)) ?_
   refine kx (hF (eT c6)) ?_
   refine kv g0 (pkT (eT c6))<|kv g0 mv<|kx (hF rfl) ?_
   refine kx (hF rfl) ?_
   refine kx (hF rfl) ?_
   refine kx (hF rfl) ?_
   refine kx (hF rfl) ?_
   refine kx (hF rfl) ?_
   refine kx (hF rfl) ?_
   refine kv g0 (pkT rfl)<|wk_end<|ac_next ?_
   refine aw_ifT ?_ rfl
   refine aw_grp1<|wk_start<|kv g0 (ldBA 5 [.lit (.int .i64 t1.1),.lit (.int .i64 t1.2.1),.row 2,.lit (.int .i64 t1.2.2.2.1),.lit (.int .i64 t1.2.2.2.2)])<|ks g0 (stB 5 [.lit (.int .i64 t1.1),.lit (.int .i64 t1.2.1),.row 2,.lit (.int .i64 t1.2.2.2.1),.lit (.int .i64 t1.2.2.2.2)])<|kv g0 asg<|wk_end<|ac_next<|aw_ret<|ac_thenR ?_
   obtain rfl:=Option.some.inj H
   exact acr hE [.cell 4 65,.tmp 5] (rcA 5 (.tmp .nil)) (.many _ _ _) [(0,2)] 9999
  rw [if_neg c6] at H
  refine kv (g1 (eF c6)) mv<|kv (g1 (eF c6)) lss ?_
  refine kv g0 (pkF (eF c6))<|kv g0 mv ?_
  by_cases c7 : a1 < 0
  ·rw [if_pos c7] at H
   refine kx (hF (decide_eq_true c7)) ?_
   refine kx (hF (decide_eq_true c7)) ?_
   refine kx (hF (decide_eq_true c7)) ?_
   refine kx (hF (decide_eq_true c7)) ?_
   refine kx (hF (decide_eq_true c7)) ?_
   refine kx (hF (decide_eq_true c7)) ?_
   refine kx (hF (decide_eq_true c7)) ?_
   refine kv g0 (pkT (decide_eq_true c7))<|wk_end<|ac_next ?_
   refine aw_ifT ?_ rfl
   refine aw_grp1<|wk_start<|kv g0 (ldBA 5 [.lit (.int .i64 t1.1),.lit (.int .i64 t1.2.1),.row 2,.lit (.int .i64 t1.2.2.2.1),.lit (.int .i64 t1.2.2.2.2)])<|ks g0 (stB 5 [.lit (.int .i64 t1.1),.lit (.int .i64 t1.2.1),.row 2,.lit (.int .i64 t1.2.2.2.1),.lit (.int .i64 t1.2.2.2.2)])<|kv g0 asg<|wk_end<|ac_next<|aw_ret<|ac_thenR ?_
   obtain rfl:=Option.some.inj H
   exact acr hE [.cell 4 65,.tmp 5] (rcA 5 (.tmp .nil)) (.many _ _ _) [(0,2)] 9999
  rw [if_neg c7] at H
  refine kv (g1 (decide_eq_false c7)) mv<|kv (g1 (decide_eq_false c7)) (faB 4 4)<|kv (g1 (decide_eq_false c7)) ldB<|kv (g1 (decide_eq_false c7)) sub6<|kv (g1 (decide_eq_false c7)) (faB 3 3)<|kv (g1 (decide_eq_false c7)) ldB<|kv (g1 (decide_eq_false c7)) lss ?_
  refine kv g0 (pkF (decide_eq_false c7))<|wk_end<|ac_next ?_
  by_cases c8 : (wrap64 (a1 - a0_4)) < a0_3
  ·rw [if_pos c8] at H
   refine aw_ifT ?_ (decide_eq_true c8)
   refine aw_grp1<|wk_start<|kv g0 (ldBA 5 [.lit (.int .i64 t1.1),.lit (.int .i64 t1.2.1),.row 2,.lit (.int .i64 t1.2.2.2.1),.lit (.int .i64 t1.2.2.2.2)])<|ks g0 (stB 5 [.lit (.int .i64 t1.1),.lit (.int .i64 t1.2.1),.row 2,.lit (.int .i64 t1.2.2.2.1),.lit (.int .i64 t1.2.2.2.2)])<|kv g0 asg<|wk_end<|ac_next<|aw_ret<|ac_thenR ?_
   obtain rfl:=Option.some.inj H
   exact acr hE [.cell 4 65,.tmp 5] (rcA 5 (.tmp .nil)) (.many _ _ _) [(0,2)] 9999
  rw [if_neg c8] at H
  refine aw_ifF ?_ (decide_eq_false c8)
  refine aw_skip<|ac_next<|aw_grp1<|wk_start<|kv g0 mv<|kv g0 (faB 3 3)<|ks g0 (stB 1 [.lit (.int .i64 t1.1),.lit (.int .i64 t1.2.1),.row 2,.lit (.int .i64 a1),.lit (.int .i64 t1.2.2.2.2)])<|wk_end<|ac_next<|aw_grp1<|wk_start<|kv g0 (faB 4 4)<|kv g0 ldB<|kv g0 mul6<|kv g0 (faB 4 4)<|ks g0 (stB 1 [.lit (.int .i64 t1.1),.lit (.int .i64 t1.2.1),.row 2,.lit (.int .i64 a1),.lit (.int .i64 (wrap64 (2 * a0_4)))])<|wk_end<|ac_next<|aw_grp1<|aw_grp1<|wk_start<|kv g0 (faB 4 4)<|kv g0 ldB<|kv g0 gtr<|wk_end<|ac_next ?_
  by_cases c9 : (wrap64 (2 * a0_4)) > 4
  ·rw [if_pos c9] at H
   refine aw_ifT ?_ (decide_eq_true c9)
   refine wk_start<|kv g0 (faB 4 4)<|ks g0 (stB 1 [.lit (.int .i64 t1.1),.lit (.int .i64 t1.2.1),.row 2,.lit (.int .i64 a1),.lit (.int .i64 4)])<|wk_end<|ac_next<|aw_grp1<|wk_start<|kv g0 (ldBA 5 [.lit (.int .i64 t1.1),.lit (.int .i64 t1.2.1),.row 2,.lit (.int .i64 a1),.lit (.int .i64 4)])<|ks g0 (stB 5 [.lit (.int .i64 t1.1),.lit (.int .i64 t1.2.1),.row 2,.lit (.int .i64 a1),.lit (.int .i64 4)])<|kv g0 asg<|wk_end<|ac_next<|aw_ret ?_
   obtain rfl:=Option.some.inj H
   exact acr hE [.cell 4 65,.tmp 5] (rcA 5 (.tmp .nil)) (.many _ _ _) [(0,2)] 9999
  rw [if_neg c9] at H
  refine aw_ifF ?_ (decide_eq_false c9)
  refine aw_skip<|ac_next<|aw_grp1<|wk_start<|kv g0 (ldBA 5 [.lit (.int .i64 t1.1),.lit (.int .i64 t1.2.1),.row 2,.lit (.int .i64 a1),.lit (.int .i64 (wrap64 (2 * a0_4)))])<|ks g0 (stB 5 [.lit (.int .i64 t1.1),.lit (.int .i64 t1.2.1),.row 2,.lit (.int .i64 a1),.lit (.int .i64 (wrap64 (2 * a0_4)))])<|kv g0 asg<|wk_end<|ac_next<|aw_ret ?_
  obtain rfl:=Option.some.inj H
  exact acr hE [.cell 4 65,.tmp 5] (rcA 5 (.tmp .nil)) (.many _ _ _) [(0,2)] 9999
 rw [if_neg c5] at H
 refine kx (hF (nT (bF c5))) ?_
 refine kx (hF (nT (bF c5))) ?_
 refine kx (hF (nT (bF c5))) ?_
 refine kx (hF (nT (bF c5))) ?_
 refine kv g0 (pkT (nT (bF c5)))<|kv g0 mv<|kx (hF rfl) ?_
 refine kx (hF rfl) ?_
 refine kv g0 (pkT rfl)<|kv g0 mv<|kx (hF rfl) ?_
 refine kx (hF rfl) ?_
 refine kx (hF rfl) ?_
 refine kx (hF rfl) ?_
 refine kx (hF rfl) ?_
 refine kx (hF rfl) ?_
 refine kx (hF rfl) ?_
 refine kv g0 (pkT rfl)<|wk_end<|ac_next ?_
 refine aw_ifT ?_ rfl
 refine aw_grp1<|wk_start<|kv g0 (ldBA 5 [.lit (.int .i64 t1.1),.lit (.int .i64 t1.2.1),.row 2,.lit (.int .i64 t1.2.2.2.1),.lit (.int .i64 t1.2.2.2.2)])<|ks g0 (stB 5 [.lit (.int .i64 t1.1),.lit (.int .i64 t1.2.1),.row 2,.lit (.int .i64 t1.2.2.2.1),.lit (.int .i64 t1.2.2.2.2)])<|kv g0 asg<|wk_end<|ac_next<|aw_ret<|ac_thenR ?_
 obtain rfl:=Option.some.inj H
 exact acr hE [.cell 4 65,.tmp 5] (rcA 5 (.tmp .nil)) (.many _ _ _) [(0,2)] 9999
/-! spec_Says -/
def spec_Says.l0 : Nat→Int→Int→(List S63)→Int→Int→(List S109)→Int→Option ((List S109))
 | 0,_,_,_,_,_,_,_=>none
 | k9 + 1,a0_0,a0_1,l0_2,a0_3,a0_4,q7,p8=>if p8 < (l0_2.length : Int) then ((spec_SenderOk.f k9 a0_0 a0_1 l0_2 a0_3 a0_4).bind fun t11=>if t11 = true then if 0 ≤ p8 then (if q7.length + ([(⟨1,a0_0,wrap64 (a0_1 + p8),(⟨(rd_T63 l0_2 p8).f0,(rd_T63 l0_2 p8).f1,(rd_T63 l0_2 p8).f2,(rd_T63 l0_2 p8).f3⟩ : S63)⟩ : S109)] : List S109).length < 2513169434916 then spec_Says.l0 k9 a0_0 a0_1 l0_2 a0_3 a0_4 (q7 ++ ([(⟨1,a0_0,wrap64 (a0_1 + p8),(⟨(rd_T63 l0_2 p8).f0,(rd_T63 l0_2 p8).f1,(rd_T63 l0_2 p8).f2,(rd_T63 l0_2 p8).f3⟩ : S63)⟩ : S109)] : List S109)) (wrap64 (p8 + 1)) else none) else none else some q7) else some q7
def spec_Says.f (k : Nat) (a0_0 : Int) (a0_1 : Int) (l0_2 : List S63) (a0_3 : Int) (a0_4 : Int) : Option ((List S109)):=spec_Says.l0 k a0_0 a0_1 l0_2 a0_3 a0_4 ([] : List S109) 0
theorem spec_Says.ok {k : Nat} {a0_0 : Int} {a0_1 : Int} {l0_2 : List S63} {a0_3 : Int} {a0_4 : Int} {r : (List S109)} (H : spec_Says.f k a0_0 a0_1 l0_2 a0_3 a0_4 = some r) : ACalls Tryz.prog 52 [] [.agg [.lit (.int .i64 a0_0),.lit (.int .i64 a0_1),.sl .o 4 (l0_2.map e63),.lit (.int .i64 a0_3),.lit (.int .i64 a0_4)]] [(0,.row 109 7 (r.map e109))] (.row 0):=by
 refine acalls (fn:=Tryz.f52) (nt:=33) Tryz.func52 rfl rfl (Nat.le_of_ble_eq_true rfl) fun E hE=>?_
 rw [spec_Says.f] at H
 refine aw_grp1<|wk_start<|kb g0 (bxA 0)<|kv g0 asg<|wk_end<|ac_next<|aw_grp1<|wk_start<|kb g0 (bsl 1 109 7 [.int .i64 0,.int .i64 0,.int .i64 0,.int .i64 0,.int .i64 0,.int .i64 0,.int .i64 0] (([] : List S109).map e109))<|kv g0 asg<|wk_end<|ac_next<|aw_grp1<|aw_grp1<|wk_start<|kv g0 asg<|wk_end<|ac_next<|aw_block ?_
 refine aw_loop2 (fun (k_ : Nat) (q7 : List S109) (p8 : Int)=>k_ ≤ k∧spec_Says.l0 k_ a0_0 a0_1 l0_2 a0_3 a0_4 q7 p8 = some r) (fun (q7 : List S109) (p8 : Int)=>⟨[(1,.box 0 0),(3,.row 1),(4,.lit (.int .i64 p8))],[(0,.box 65 [.lit (.int .i64 a0_0),.lit (.int .i64 a0_1),.sl .o 4 (l0_2.map e63),.lit (.int .i64 a0_3),.lit (.int .i64 a0_4)]),(1,.row 109 7 (q7.map e109))]⟩) k ([] : List S109) 0 ⟨Nat.le_refl _,H⟩ (fun K_ h_=>acw hE [(0,0),(1,1)] 9999 h_) (fun _ _=>by intro h_;have h_:=h_.2;rw [spec_Says.l0.eq_1] at h_;cases h_) ?_
 intro k9 q7 p8 hq_ K16 hK17
 have hk9:=hq_.1
 have H:=hq_.2
 clear hq_
 rw [spec_Says.l0.eq_2] at H
 refine aw_grp1<|aw_grp1<|wk_start<|kv g0 mv<|kv g0 (faB 2 2)<|kv g0 ldB<|kv g0 (lnS lenE)<|kv g0 lss<|kv g0 mv ?_
 by_cases c10 : p8 < (l0_2.length : Int)
 ·rw [if_pos c10] at H
  refine kv (g1 (decide_eq_true c10)) (ldBA 5 [.lit (.int .i64 a0_0),.lit (.int .i64 a0_1),.sl .o 4 (l0_2.map e63),.lit (.int .i64 a0_3),.lit (.int .i64 a0_4)]) ?_
  obtain ⟨t11,A12,H⟩:=of_bind H
  refine kcS0 13 (.lit (.bool t11)) [] (g1 (decide_eq_true c10)) (cal (spec_SenderOk.ok A12) [] 9999 .n (hf:=Tryz.func139)) rfl rfl ?_
  refine kv g0 (pkT (decide_eq_true c10))<|wk_end<|ac_next ?_
  by_cases c13 : t11 = true
  ·rw [if_pos c13] at H
   refine aw_ifT ?_ c13
   refine aw_skip<|ac_next<|aw_grp1<|aw_block<|wk_start<|kv g0 mv<|kv g0 (faB 0 0)<|kv g0 ldB<|kv g0 (faB 1 1)<|kv g0 ldB<|kv g0 mv<|kv g0 add6<|kv g0 (faB 2 2)<|kv g0 ldB<|kv g0 mv ?_
   obtain ⟨c14,H⟩:=of_if H
   refine kv g0 (ixS 63 (e63 (rd_T63 l0_2 p8)) c14 (getE (z:=z63) c14 c10))<|kv g0 (ldRA 4 [.lit (.int .i64 ((rd_T63 l0_2 p8).f0)),.lit (.int .i64 ((rd_T63 l0_2 p8).f1)),.lit (.int .i64 ((rd_T63 l0_2 p8).f2)),.lit (.int .i64 ((rd_T63 l0_2 p8).f3))])<|kv g0 (bld [(0,1),(1,1),(2,1),(3,4)] [.int .i64 0,.int .i64 0,.int .i64 0,.int .i64 0,.int .i64 0,.int .i64 0,.int .i64 0] [.lit (.int .i64 1),.lit (.int .i64 a0_0),.lit (.int .i64 (wrap64 (a0_1 + p8))),.lit (.int .i64 ((rd_T63 l0_2 p8).f0)),.lit (.int .i64 ((rd_T63 l0_2 p8).f1)),.lit (.int .i64 ((rd_T63 l0_2 p8).f2)),.lit (.int .i64 ((rd_T63 l0_2 p8).f3))])<|kb g0 (bsl 2 109 7 [.int .i64 0,.int .i64 0,.int .i64 0,.int .i64 0,.int .i64 0,.int .i64 0,.int .i64 0] (([(⟨1,a0_0,wrap64 (a0_1 + p8),(⟨(rd_T63 l0_2 p8).f0,(rd_T63 l0_2 p8).f1,(rd_T63 l0_2 p8).f2,(rd_T63 l0_2 p8).f3⟩ : S63)⟩ : S109)] : List S109).map e109)) ?_
   obtain ⟨c15,H⟩:=of_if H
   refine kc g0 (apR 3 109 7 56 [.int .i64 0,.int .i64 0,.int .i64 0,.int .i64 0,.int .i64 0,.int .i64 0,.int .i64 0] ((q7 ++ ([(⟨1,a0_0,wrap64 (a0_1 + p8),(⟨(rd_T63 l0_2 p8).f0,(rd_T63 l0_2 p8).f1,(rd_T63 l0_2 p8).f2,(rd_T63 l0_2 p8).f3⟩ : S63)⟩ : S109)] : List S109)).map e109) (.row rfl) (apb c15 rfl) appE)<|kv g0 asg<|wk_end_draw hM (by kernel_rfl)<|ac_blkN<|ac_next<|wk_start<|kv g0 mv<|kv g0 add6<|kv g0 asg<|wk_end<|ac_k ?_
   exact acw hE [(0,0),(1,3)] 9999 (hK17 k9 (q7 ++ ([(⟨1,a0_0,wrap64 (a0_1 + p8),(⟨(rd_T63 l0_2 p8).f0,(rd_T63 l0_2 p8).f1,(rd_T63 l0_2 p8).f2,(rd_T63 l0_2 p8).f3⟩ : S63)⟩ : S109)] : List S109)) (wrap64 (p8 + 1)) (Nat.le_refl _) ⟨by omega,H⟩)
  rw [if_neg c13] at H
  refine aw_ifF ?_ (bF c13)
  refine aw_exit<|ac_then<|ac_then<|ac_hit rfl<|ac_next<|aw_grp1<|wk_start<|kv g0 mv<|kv g0 asg<|wk_end<|ac_next<|aw_ret ?_
  obtain rfl:=Option.some.inj H
  exact acr hE [.tmp 2] (.tmp .nil) (.one _) [(0,1)] 9999
 rw [if_neg c10] at H
 refine kx (hT (decide_eq_false c10)) ?_
 refine kx (hT (decide_eq_false c10)) ?_
 refine kv g0 (pkF (decide_eq_false c10))<|wk_end<|ac_next ?_
 refine aw_ifF ?_ rfl
 refine aw_exit<|ac_then<|ac_then<|ac_hit rfl<|ac_next<|aw_grp1<|wk_start<|kv g0 mv<|kv g0 asg<|wk_end<|ac_next<|aw_ret ?_
 obtain rfl:=Option.some.inj H
 exact acr hE [.tmp 2] (.tmp .nil) (.one _) [(0,1)] 9999
/-! spec_Acked -/
mutual
def spec_Acked.l0 : Nat→Int→Int→(List S63)→Int→Int→Int→(Int × Int × (List S63) × Int × Int)→Int→Option (Int × Int × (List S63) × Int × Int)
 | 0,_,_,_,_,_,_,_,_=>none
 | k10 + 1,a0_0,a0_1,l0_2,a0_3,a0_4,a1,t1,p9=>if p9 < (l0_2.length : Int) then if (wrap64 (a0_1 + p9)) = a1 then spec_Acked.j0 k10 a0_0 a0_1 l0_2 a0_3 a0_4 a1 t1 p9 else spec_Acked.l0 k10 a0_0 a0_1 l0_2 a0_3 a0_4 a1 t1 (wrap64 (p9 + 1)) else spec_Acked.j0 k10 a0_0 a0_1 l0_2 a0_3 a0_4 a1 t1 p9
def spec_Acked.j0 : Nat→Int→Int→(List S63)→Int→Int→Int→(Int × Int × (List S63) × Int × Int)→Int→Option (Int × Int × (List S63) × Int × Int)
 | 0,_,_,_,_,_,_,_,_=>none
 | k16 + 1,a0_0,a0_1,l0_2,a0_3,a0_4,a1,t1,p15=>if (wrap64 (a0_1 + p15)) = a1 then if p15 = 0 then some (t1.1,t1.2.1,t1.2.2.1,t1.2.2.2.1,t1.2.2.2.2) else if 0 ≤ p15 then (if p15 ≤ (l0_2.length : Int) then (if ([] : List S63).length + (l0_2.drop p15.toNat).length < 4398046511104 then some (t1.1,a1,([] : List S63) ++ (l0_2.drop p15.toNat),t1.2.2.2.1,1) else none) else none) else none else some (t1.1,t1.2.1,t1.2.2.1,t1.2.2.2.1,t1.2.2.2.2)
end
def spec_Acked.f (k : Nat) (a0_0 : Int) (a0_1 : Int) (l0_2 : List S63) (a0_3 : Int) (a0_4 : Int) (a1 : Int) : Option (Int × Int × (List S63) × Int × Int):=(spec_l18Copy.f a0_0 a0_1 l0_2 a0_3 a0_4).bind fun t1=>(spec_SenderOk.f k a0_0 a0_1 l0_2 a0_3 a0_4).bind fun t3=>if t3 = true then spec_Acked.l0 k a0_0 a0_1 l0_2 a0_3 a0_4 a1 t1 0 else some (t1.1,t1.2.1,t1.2.2.1,t1.2.2.2.1,t1.2.2.2.2)
theorem spec_Acked.ok {k : Nat} {a0_0 : Int} {a0_1 : Int} {l0_2 : List S63} {a0_3 : Int} {a0_4 : Int} {a1 : Int} {r : Int × Int × (List S63) × Int × Int} (H : spec_Acked.f k a0_0 a0_1 l0_2 a0_3 a0_4 a1 = some r) : ACalls Tryz.prog 141 [] [.agg [.lit (.int .i64 a0_0),.lit (.int .i64 a0_1),.sl .o 4 (l0_2.map e63),.lit (.int .i64 a0_3),.lit (.int .i64 a0_4)],.lit (.int .i64 a1)] [(0,.row 63 4 (r.2.2.1.map e63))] (.agg [.lit (.int .i64 r.1),.lit (.int .i64 r.2.1),.row 0,.lit (.int .i64 r.2.2.2.1),.lit (.int .i64 r.2.2.2.2)]):=by
 refine acalls (fn:=Tryz.f141) (nt:=50) Tryz.func141 rfl rfl (Nat.le_of_ble_eq_true rfl) fun E hE=>?_
 rw [spec_Acked.f] at H
 refine aw_grp1<|wk_start<|kb g0 (bxA 0)<|kb g0 (alc 1 [.int .i64 0,.int .i64 0,.slice none 0 0,.int .i64 0,.int .i64 0] [.lit (.int .i64 0),.lit (.int .i64 0),.lit (.slice none 0 0),.lit (.int .i64 0),.lit (.int .i64 0)])<|wk_end<|ac_next<|aw_grp1<|wk_start<|kv g0 (ldBA 5 [.lit (.int .i64 a0_0),.lit (.int .i64 a0_1),.sl .o 4 (l0_2.map e63),.lit (.int .i64 a0_3),.lit (.int .i64 a0_4)]) ?_
 obtain ⟨t1,A2,H⟩:=of_bind H
 refine kcS1 8 (.agg [.lit (.int .i64 t1.1),.lit (.int .i64 t1.2.1),.row 2,.lit (.int .i64 t1.2.2.2.1),.lit (.int .i64 t1.2.2.2.2)]) [(2,.row 63 4 (t1.2.2.1.map e63))] g0 (cal (spec_l18Copy.ok A2) [2] 9999 .n (hf:=Tryz.func136)) rfl rfl<|kb g0 (alc 3 [.int .i64 0,.int .i64 0,.slice none 0 0,.int .i64 0,.int .i64 0] [.lit (.int .i64 0),.lit (.int .i64 0),.lit (.slice none 0 0),.lit (.int .i64 0),.lit (.int .i64 0)])<|ks g0 (stB 5 [.lit (.int .i64 t1.1),.lit (.int .i64 t1.2.1),.row 2,.lit (.int .i64 t1.2.2.2.1),.lit (.int .i64 t1.2.2.2.2)])<|wk_end<|ac_next<|aw_grp1<|aw_grp1<|wk_start<|kv g0 (ldBA 5 [.lit (.int .i64 a0_0),.lit (.int .i64 a0_1),.sl .o 4 (l0_2.map e63),.lit (.int .i64 a0_3),.lit (.int .i64 a0_4)]) ?_
 obtain ⟨t3,A4,H⟩:=of_bind H
 refine kcS0 10 (.lit (.bool t3)) [] g0 (cal (spec_SenderOk.ok A4) [] 9999 .n (hf:=Tryz.func139)) rfl rfl<|kv g0 not_<|wk_end<|ac_next ?_
 by_cases c5 : t3 = true
 ·rw [if_pos c5] at H
  refine aw_ifF ?_ (nF c5)
  refine aw_skip<|ac_next<|aw_grp1<|wk_start<|kv g0 asg<|wk_end<|ac_next ?_
  refine aw_cut1 (J:=fun K_=>∀ (k_ : Nat) (p15 : Int),k_ ≤ k→spec_Acked.j0 k_ a0_0 a0_1 l0_2 a0_3 a0_4 a1 t1 p15 = some r→ACont E 50 ⟨[(1,.lit (.int .i64 a1)),(2,.box 0 0),(4,.box 1 0),(5,.box 3 0),(6,.lit (.int .i64 p15))],[(0,.box 65 [.lit (.int .i64 a0_0),.lit (.int .i64 a0_1),.sl .o 4 (l0_2.map e63),.lit (.int .i64 a0_3),.lit (.int .i64 a0_4)]),(1,.box 65 [.lit (.int .i64 0),.lit (.int .i64 0),.lit (.slice none 0 0),.lit (.int .i64 0),.lit (.int .i64 0)]),(2,.row 63 4 (t1.2.2.1.map e63)),(3,.box 65 [.lit (.int .i64 t1.1),.lit (.int .i64 t1.2.1),.row 2,.lit (.int .i64 t1.2.2.2.1),.lit (.int .i64 t1.2.2.2.2)])]⟩ K_) ?_ ?_
  ·intro K_ hJ22
   refine aw_block ?_
   refine aw_loop1 (fun (k_ : Nat) (p9 : Int)=>k_ ≤ k∧spec_Acked.l0 k_ a0_0 a0_1 l0_2 a0_3 a0_4 a1 t1 p9 = some r) (fun (p9 : Int)=>⟨[(1,.lit (.int .i64 a1)),(2,.box 0 0),(4,.box 1 0),(5,.box 3 0),(6,.lit (.int .i64 p9))],[(0,.box 65 [.lit (.int .i64 a0_0),.lit (.int .i64 a0_1),.sl .o 4 (l0_2.map e63),.lit (.int .i64 a0_3),.lit (.int .i64 a0_4)]),(1,.box 65 [.lit (.int .i64 0),.lit (.int .i64 0),.lit (.slice none 0 0),.lit (.int .i64 0),.lit (.int .i64 0)]),(2,.row 63 4 (t1.2.2.1.map e63)),(3,.box 65 [.lit (.int .i64 t1.1),.lit (.int .i64 t1.2.1),.row 2,.lit (.int .i64 t1.2.2.2.1),.lit (.int .i64 t1.2.2.2.2)])]⟩) k 0 ⟨Nat.le_refl _,H⟩ (fun K_ h_=>acw hE [(0,0),(1,1),(2,2),(3,3)] 9999 h_) (fun _=>by intro h_;have h_:=h_.2;rw [spec_Acked.l0.eq_1] at h_;cases h_) ?_
   intro k10 p9 hq_ K13 hK14
   have hk10:=hq_.1
   have H:=hq_.2
   clear hq_
   rw [spec_Acked.l0.eq_2] at H
   refine aw_grp1<|aw_grp1<|wk_start<|kv g0 mv<|kv g0 (faB 2 2)<|kv g0 ldB<|kv g0 (lnS lenE)<|kv g0 lss<|kv g0 mv ?_
   by_cases c11 : p9 < (l0_2.length : Int)
   ·rw [if_pos c11] at H
    refine kv (g1 (decide_eq_true c11)) (faB 1 1)<|kv (g1 (decide_eq_true c11)) ldB<|kv (g1 (decide_eq_true c11)) mv<|kv (g1 (decide_eq_true c11)) add6<|kv (g1 (decide_eq_true c11)) mv<|kv (g1 (decide_eq_true c11)) neq ?_
    refine kv g0 (pkT (decide_eq_true c11))<|wk_end<|ac_next ?_
    by_cases c12 : (wrap64 (a0_1 + p9)) = a1
    ·rw [if_pos c12] at H
     refine aw_ifF ?_ (eM c12)
     refine aw_exit<|ac_then<|ac_then<|ac_hit rfl<|ac_k ?_
     exact acw hE [(0,0),(1,1),(2,2),(3,3)] 9999 (hJ22 k10 p9 (by omega) H)
    rw [if_neg c12] at H
    refine aw_ifT ?_ (eN c12)
    refine aw_skip<|ac_next<|aw_block<|wk_start<|kv g0 mv<|kv g0 add6<|kv g0 asg<|wk_end<|ac_blkN<|ac_k ?_
    exact acw hE [(0,0),(1,1),(2,2),(3,3)] 9999 (hK14 k10 (wrap64 (p9 + 1)) (Nat.le_refl _) ⟨by omega,H⟩)
   rw [if_neg c11] at H
   refine kx (hT (decide_eq_false c11)) ?_
   refine kx (hT (decide_eq_false c11)) ?_
   refine kx (hT (decide_eq_false c11)) ?_
   refine kx (hT (decide_eq_false c11)) ?_
   refine kx (hT (decide_eq_false c11)) ?_
   refine kx (hT (decide_eq_false c11)) ?_
   refine kv g0 (pkF (decide_eq_false c11))<|wk_end<|ac_next ?_
   refine aw_ifF ?_ rfl
   refine aw_exit<|ac_then<|ac_then<|ac_hit rfl<|ac_k ?_
   exact acw hE [(0,0),(1,1),(2,2),(3,3)] 9999 (hJ22 k10 p9 (by omega) H)
  intro k_ p15 hk_ H
  rcases k_ with _ | k16
  ·rw [spec_Acked.j0.eq_1] at H;cases H
  have hk16 : k16 ≤ k:=by omega
  clear hk_
  rw [spec_Acked.j0.eq_2] at H
  refine aw_grp1<|aw_grp1<|wk_start<|kv g0 (faB 1 1)<|kv g0 ldB<|kv g0 mv<|kv g0 add6<|kv g0 mv<|kv g0 neq<|kv g0 mv ?_
  by_cases c17 : (wrap64 (a0_1 + p15)) = a1
  ·rw [if_pos c17] at H
   refine kv (g1 (eM c17)) mv<|kv (g1 (eM c17)) eql ?_
   refine kv g0 (pkF (eM c17))<|wk_end<|ac_next ?_
   by_cases c18 : p15 = 0
   ·rw [if_pos c18] at H
    refine aw_ifT ?_ (eT c18)
    refine aw_grp1<|wk_start<|kv g0 (ldBA 5 [.lit (.int .i64 t1.1),.lit (.int .i64 t1.2.1),.row 2,.lit (.int .i64 t1.2.2.2.1),.lit (.int .i64 t1.2.2.2.2)])<|ks g0 (stB 5 [.lit (.int .i64 t1.1),.lit (.int .i64 t1.2.1),.row 2,.lit (.int .i64 t1.2.2.2.1),.lit (.int .i64 t1.2.2.2.2)])<|wk_end<|ac_next<|aw_ret<|ac_thenR ?_
    obtain rfl:=Option.some.inj H
    exact acr hE [.cell 4 65] (rcA 5 .nil) (.one _) [(0,2)] 9999
   rw [if_neg c18] at H
   refine aw_ifF ?_ (eF c18)
   refine aw_skip<|ac_next<|aw_grp1<|wk_start<|kb g0 (bsl 4 63 4 [.int .i64 0,.int .i64 0,.int .i64 0,.int .i64 0] (([] : List S63).map e63))<|kv g0 (faB 2 2)<|kv g0 ldB<|kv g0 mv ?_
   obtain ⟨c19,H⟩:=of_if H
   obtain ⟨c20,H⟩:=of_if H
   refine kv g0 (slL 63 c19 c20) ?_
   obtain ⟨c21,H⟩:=of_if H
   refine kc g0 (apR 5 63 4 32 [.int .i64 0,.int .i64 0,.int .i64 0,.int .i64 0] ((([] : List S63) ++ (l0_2.drop p15.toNat)).map e63) (.slF fl63) (apb c21 rfl) appE)<|kv g0 (faB 2 2)<|ks g0 (stB 1 [.lit (.int .i64 t1.1),.lit (.int .i64 t1.2.1),.row 5,.lit (.int .i64 t1.2.2.2.1),.lit (.int .i64 t1.2.2.2.2)])<|wk_end<|ac_next<|aw_grp1<|wk_start<|kv g0 mv<|kv g0 (faB 1 1)<|ks g0 (stB 1 [.lit (.int .i64 t1.1),.lit (.int .i64 a1),.row 5,.lit (.int .i64 t1.2.2.2.1),.lit (.int .i64 t1.2.2.2.2)])<|wk_end<|ac_next<|aw_grp1<|wk_start<|kv g0 (faB 4 4)<|ks g0 (stB 1 [.lit (.int .i64 t1.1),.lit (.int .i64 a1),.row 5,.lit (.int .i64 t1.2.2.2.1),.lit (.int .i64 1)])<|wk_end<|ac_next<|aw_grp1<|wk_start<|kv g0 (ldBA 5 [.lit (.int .i64 t1.1),.lit (.int .i64 a1),.row 5,.lit (.int .i64 t1.2.2.2.1),.lit (.int .i64 1)])<|ks g0 (stB 5 [.lit (.int .i64 t1.1),.lit (.int .i64 a1),.row 5,.lit (.int .i64 t1.2.2.2.1),.lit (.int .i64 1)])<|wk_end<|ac_next<|aw_ret ?_
   obtain rfl:=Option.some.inj H
   exact acr hE [.cell 4 65] (rcA 5 .nil) (.one _) [(0,5)] 9999
  rw [if_neg c17] at H
  refine kx (hF (eN c17)) ?_
  refine kx (hF (eN c17)) ?_
  refine kv g0 (pkT (eN c17))<|wk_end<|ac_next ?_
  refine aw_ifT ?_ rfl
  refine aw_grp1<|wk_start<|kv g0 (ldBA 5 [.lit (.int .i64 t1.1),.lit (.int .i64 t1.2.1),.row 2,.lit (.int .i64 t1.2.2.2.1),.lit (.int .i64 t1.2.2.2.2)])<|ks g0 (stB 5 [.lit (.int .i64 t1.1),.lit (.int .i64 t1.2.1),.row 2,.lit (.int .i64 t1.2.2.2.1),.lit (.int .i64 t1.2.2.2.2)])<|wk_end<|ac_next<|aw_ret<|ac_thenR ?_
  obtain rfl:=Option.some.inj H
  exact acr hE [.cell 4 65] (rcA 5 .nil) (.one _) [(0,2)] 9999
 rw [if_neg c5] at H
 refine aw_ifT ?_ (nT (bF c5))
 refine aw_grp1<|wk_start<|kv g0 (ldBA 5 [.lit (.int .i64 t1.1),.lit (.int .i64 t1.2.1),.row 2,.lit (.int .i64 t1.2.2.2.1),.lit (.int .i64 t1.2.2.2.2)])<|ks g0 (stB 5 [.lit (.int .i64 t1.1),.lit (.int .i64 t1.2.1),.row 2,.lit (.int .i64 t1.2.2.2.1),.lit (.int .i64 t1.2.2.2.2)])<|wk_end<|ac_next<|aw_ret<|ac_thenR ?_
 obtain rfl:=Option.some.inj H
 exact acr hE [.cell 4 65] (rcA 5 .nil) (.one _) [(0,2)] 9999
/-! spec_FrameOk -/
def spec_FrameOk.f (a0_0 : Int) (a0_1 : Int) (a0_2 : Int) (a0_3 : Int) (a0_4 : Int) (a0_5 : Int) (a0_6 : Int) : Option (Bool):=(spec_l01In.f a0_1 0 2).bind fun t1=>(if t1 = true then ((spec_l01In.f a0_2 1 1000000000).bind fun t4=>if t4 = true then if a0_0 = 1 then ((spec_ItemOk.f a0_3 a0_4 a0_5 a0_6).bind fun t8=>some t8) else if a0_0 = 2 then some (a0_3 == 0 && (a0_4 == 0 && (a0_5 == 0 && (a0_6 == 0)))) else some false else some false) else some false)
theorem spec_FrameOk.ok {a0_0 : Int} {a0_1 : Int} {a0_2 : Int} {a0_3 : Int} {a0_4 : Int} {a0_5 : Int} {a0_6 : Int} {r : Bool} (H : spec_FrameOk.f a0_0 a0_1 a0_2 a0_3 a0_4 a0_5 a0_6 = some r) : ACalls Tryz.prog 214 [] [.agg [.lit (.int .i64 a0_0),.lit (.int .i64 a0_1),.lit (.int .i64 a0_2),.lit (.int .i64 a0_3),.lit (.int .i64 a0_4),.lit (.int .i64 a0_5),.lit (.int .i64 a0_6)]] [] (.lit (.bool r)):=by
 refine acalls (fn:=Tryz.f214) (nt:=28) Tryz.func214 rfl rfl (Nat.le_of_ble_eq_true rfl) fun E hE=>?_
 rw [spec_FrameOk.f] at H
 refine aw_grp1<|wk_start<|kb g0 (bxA 0)<|kv g0 asg<|wk_end<|ac_next<|aw_grp1<|aw_grp1<|wk_start<|kv g0 (faB 1 1)<|kv g0 ldB ?_
 obtain ⟨t1,A2,H⟩:=of_bind H
 refine kcS0 5 (.lit (.bool t1)) [] g0 (cal (spec_l01In.ok A2) [] 9999 .n (hf:=Tryz.func48)) rfl rfl<|kv g0 not_<|kv g0 mv ?_
 by_cases c3 : t1 = true
 ·rw [if_pos c3] at H
  refine kv (g1 (nF c3)) (faB 2 2)<|kv (g1 (nF c3)) ldB ?_
  obtain ⟨t4,A5,H⟩:=of_bind H
  refine kcS0 10 (.lit (.bool t4)) [] (g1 (nF c3)) (cal (spec_l01In.ok A5) [] 9999 .n (hf:=Tryz.func48)) rfl rfl<|kv (g1 (nF c3)) not_ ?_
  refine kv g0 (pkF (nF c3))<|wk_end<|ac_next ?_
  by_cases c6 : t4 = true
  ·rw [if_pos c6] at H
   refine aw_ifF ?_ (nF c6)
   refine aw_skip<|ac_next<|aw_grp1<|aw_grp1<|wk_start<|kv g0 (faB 0 0)<|kv g0 ldB<|kv g0 eql<|wk_end<|ac_next ?_
   by_cases c7 : a0_0 = 1
   ·rw [if_pos c7] at H
    refine aw_ifT ?_ (eT c7)
    refine aw_grp1<|wk_start<|kv g0 (faB 3 3)<|kv g0 (ldBA 4 [.lit (.int .i64 a0_3),.lit (.int .i64 a0_4),.lit (.int .i64 a0_5),.lit (.int .i64 a0_6)]) ?_
    obtain ⟨t8,A9,H⟩:=of_bind H
    refine kcS0 18 (.lit (.bool t8)) [] g0 (cal (spec_ItemOk.ok A9) [] 9999 .n (hf:=Tryz.func103)) rfl rfl<|kv g0 asg<|wk_end<|ac_next<|aw_ret<|ac_thenR ?_
    obtain rfl:=Option.some.inj H
    exact acr hE [.tmp 2] (.tmp .nil) (.one _) [] 9999
   rw [if_neg c7] at H
   refine aw_ifF ?_ (eF c7)
   refine aw_skip<|ac_next<|aw_grp1<|wk_start<|kv g0 (faB 0 0)<|kv g0 ldB<|kv g0 eql<|kv g0 mv ?_
   by_cases c10 : a0_0 = 2
   ·rw [if_pos c10] at H
    refine kv (g1 (eT c10)) (faB 3 3)<|kv (g1 (eT c10)) (ldBA 4 [.lit (.int .i64 a0_3),.lit (.int .i64 a0_4),.lit (.int .i64 a0_5),.lit (.int .i64 a0_6)])<|kv (g1 (eT c10)) (bld [(0,1),(1,1),(2,1),(3,1)] [.int .i64 0,.int .i64 0,.int .i64 0,.int .i64 0] [.lit (.int .i64 0),.lit (.int .i64 0),.lit (.int .i64 0),.lit (.int .i64 0)]) ?_
    refine kv (g1 (eT c10)) (eqS (fun w=>eq63 _ w a0_3 a0_4 a0_5 a0_6 0 0 0 0)) ?_
    refine kv g0 (pkT (eT c10))<|kv g0 asg<|wk_end<|ac_next<|aw_ret ?_
    obtain rfl:=Option.some.inj H
    exact acr hE [.tmp 2] (.tmp .nil) (.one _) [] 9999
   rw [if_neg c10] at H
   refine kx (hT (eF c10)) ?_
   refine kx (hT (eF c10)) ?_
   refine kx (hT (eF c10)) ?_
   refine kx (hT (eF c10)) ?_
   refine kv g0 (pkF (eF c10))<|kv g0 asg<|wk_end<|ac_next<|aw_ret ?_
   obtain rfl:=Option.some.inj H
   exact acr hE [.tmp 2] (.tmp .nil) (.one _) [] 9999
  rw [if_neg c6] at H
  refine aw_ifT ?_ (nT (bF c6))
  refine aw_grp1<|wk_start<|kv g0 asg<|wk_end<|ac_next<|aw_ret<|ac_thenR ?_
  obtain rfl:=Option.some.inj H
  exact acr hE [.tmp 2] (.tmp .nil) (.one _) [] 9999
 rw [if_neg c3] at H
 refine kx (hF (nT (bF c3))) ?_
 refine kx (hF (nT (bF c3))) ?_
 refine kx (hF (nT (bF c3))) ?_
 refine kx (hF (nT (bF c3))) ?_
 refine kv g0 (pkT (nT (bF c3)))<|wk_end<|ac_next ?_
 refine aw_ifT ?_ rfl
 refine aw_grp1<|wk_start<|kv g0 asg<|wk_end<|ac_next<|aw_ret<|ac_thenR ?_
 obtain rfl:=Option.some.inj H
 exact acr hE [.tmp 2] (.tmp .nil) (.one _) [] 9999
end Go.Proofs.YtkkglhhkpihmgaaGreat.PFnExactCalmWorld
