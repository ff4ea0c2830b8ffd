import Derived.Test.YtkkglhhkpihmgaaGreatPFnExactCalmWorldx3
set_option linter.unusedVariables false
set_option linter.unusedSimpArgs false
set_option maxRecDepth 100000
namespace Go.Proofs.YtkkglhhkpihmgaaGreat.PFnExactCalmWorld
open Go Go.RowKit Go.Proofs.YtkkglhhkpihmgaaGreatA
/-! impl_within -/
def impl_within.f (a0 : Int) (a1 : Int) (a2 : Int) : Option (Bool):=if a0 ≥ a1 then some (decide (a0 ≤ a2)) else some false
theorem impl_within.ok {a0 : Int} {a1 : Int} {a2 : Int} {r : Bool} (H : impl_within.f a0 a1 a2 = some r) : ACalls Tryz.prog 64 [] [.lit (.int .i64 a0),.lit (.int .i64 a1),.lit (.int .i64 a2)] [] (.lit (.bool r)):=by
 refine acalls (fn:=Tryz.f64) (nt:=15) Tryz.func64 rfl rfl (Nat.le_of_ble_eq_true rfl) fun E hE=>?_
 rw [impl_within.f] at H
 refine aw_grp1<|wk_start<|kv g0 asg<|wk_end<|ac_next<|aw_grp1<|wk_start<|kv g0 mv<|kv g0 mv<|kv g0 geq<|kv g0 mv ?_
 by_cases c1 : a0 ≥ a1
 ·rw [if_pos c1] at H
  refine kv (g1 (decide_eq_true c1)) mv<|kv (g1 (decide_eq_true c1)) mv<|kv (g1 (decide_eq_true c1)) leq ?_
  refine kv g0 (pkT (decide_eq_true c1))<|kv g0 asg<|wk_end<|ac_next<|aw_ret ?_
  obtain rfl:=Option.some.inj H
  exact acr hE [.tmp 6] (.tmp .nil) (.one _) [] 9999
 rw [if_neg c1] at H
 refine kx (hT (decide_eq_false c1)) ?_
 refine kx (hT (decide_eq_false c1)) ?_
 refine kx (hT (decide_eq_false c1)) ?_
 refine kv g0 (pkF (decide_eq_false c1))<|kv g0 asg<|wk_end<|ac_next<|aw_ret ?_
 obtain rfl:=Option.some.inj H
 exact acr hE [.tmp 6] (.tmp .nil) (.one _) [] 9999
/-! impl_World_hasPids -/
def impl_World_hasPids.f (l0_0 : List (List (List S234))) (l0_1 : List S67) (l0_2 : List S65) (l0_3 : List S139) (l0_4 : List Int) (l0_5 : List S154) (a0_6 : Int) (l0_7 : List Int) (l0_8 : List S151) (a0_9 : Int) (l0_10 : List Int) (l0_11 : List S59) : Option (Bool):=if (l0_0.length : Int) = 3 then (if (l0_1.length : Int) = 3 then some ((l0_2.length : Int) == 3) else some false) else some false
theorem impl_World_hasPids.ok {l0_0 : List (List (List S234))} {l0_1 : List S67} {l0_2 : List S65} {l0_3 : List S139} {l0_4 : List Int} {l0_5 : List S154} {a0_6 : Int} {l0_7 : List Int} {l0_8 : List S151} {a0_9 : Int} {l0_10 : List Int} {l0_11 : List S59} {r : Bool} (H : impl_World_hasPids.f l0_0 l0_1 l0_2 l0_3 l0_4 l0_5 a0_6 l0_7 l0_8 a0_9 l0_10 l0_11 = some r) : ACalls Tryz.prog 65 [] [.agg [.sl .o 1 (l0_0.map (eL 1 (eL 4 (e234)))),.sl .o 4 (l0_1.map e67),.sl .o 5 (l0_2.map e65),.sl .o 6 (l0_3.map e139),.sl .o 1 (l0_4.map (eI .i64)),.sl .o 6 (l0_5.map e154),.lit (.int .i64 a0_6),.sl .o 1 (l0_7.map (eI .i64)),.sl .o 3 (l0_8.map e151),.lit (.int .i64 a0_9),.sl .o 1 (l0_10.map (eI .i64)),.sl .o 4 (l0_11.map e59)]] [] (.lit (.bool r)):=by
 refine acalls (fn:=Tryz.f65) (nt:=19) Tryz.func65 rfl rfl (Nat.le_of_ble_eq_true rfl) fun E hE=>?_
 rw [impl_World_hasPids.f] at H
 refine aw_grp1<|wk_start<|kb g0 (bxA 0)<|kv g0 asg<|wk_end<|ac_next<|aw_grp1<|wk_start<|kv g0 (faB 0 0)<|kv g0 ldB<|kv g0 (lnS lenE)<|kv g0 eql<|kv g0 mv ?_
 by_cases c1 : (l0_0.length : Int) = 3
 ·rw [if_pos c1] at H
  refine kv (g1 (eT c1)) (faB 1 1)<|kv (g1 (eT c1)) ldB<|kv (g1 (eT c1)) (lnS lenE)<|kv (g1 (eT c1)) eql ?_
  refine kv g0 (pkT (eT c1))<|kv g0 mv ?_
  by_cases c2 : (l0_1.length : Int) = 3
  ·rw [if_pos c2] at H
   refine kv (g1 (eT c2)) (faB 2 2)<|kv (g1 (eT c2)) ldB<|kv (g1 (eT c2)) (lnS lenE)<|kv (g1 (eT c2)) eql ?_
   refine kv g0 (pkT (eT c2))<|kv g0 asg<|wk_end<|ac_next<|aw_ret ?_
   obtain rfl:=Option.some.inj H
   exact acr hE [.tmp 2] (.tmp .nil) (.one _) [] 9999
  rw [if_neg c2] at H
  refine kx (hT (eF c2)) ?_
  refine kx (hT (eF c2)) ?_
  refine kx (hT (eF c2)) ?_
  refine kx (hT (eF c2)) ?_
  refine kv g0 (pkF (eF c2))<|kv g0 asg<|wk_end<|ac_next<|aw_ret ?_
  obtain rfl:=Option.some.inj H
  exact acr hE [.tmp 2] (.tmp .nil) (.one _) [] 9999
 rw [if_neg c1] at H
 refine kx (hT (eF c1)) ?_
 refine kx (hT (eF c1)) ?_
 refine kx (hT (eF c1)) ?_
 refine kx (hT (eF c1)) ?_
 refine kv g0 (pkF (eF c1))<|kv g0 mv<|kx (hT rfl) ?_
 refine kx (hT rfl) ?_
 refine kx (hT rfl) ?_
 refine kx (hT rfl) ?_
 refine kv g0 (pkF rfl)<|kv g0 asg<|wk_end<|ac_next<|aw_ret ?_
 obtain rfl:=Option.some.inj H
 exact acr hE [.tmp 2] (.tmp .nil) (.one _) [] 9999
/-! impl_Refilled -/
def impl_Refilled.j0 : Nat→(List S63)→Int→Int→Int→Int→((List S63) × Int × Int × Int)→Bool→Option ((List S63) × Int × Int × Int)
 | 0,_,_,_,_,_,_,_=>none
 | k8 + 1,l0_0,a0_1,a0_2,a0_3,a1,t1,p7=>if p7 = true then some (t1.1,5,t1.2.2.1,t1.2.2.2) else some (t1.1,min 5 (wrap64 (a0_1 + a1)),t1.2.2.1,t1.2.2.2)
def impl_Refilled.f (k : Nat) (l0_0 : List S63) (a0_1 : Int) (a0_2 : Int) (a0_3 : Int) (a1 : Int) : Option ((List S63) × Int × Int × Int):=(impl_copyRing.f l0_0 a0_1 a0_2 a0_3).bind fun t1=>if a1 < 0 then some (t1.1,t1.2.1,t1.2.2.1,t1.2.2.2) else (if a0_1 ≥ 5 then impl_Refilled.j0 k l0_0 a0_1 a0_2 a0_3 a1 t1 true else (if a1 > 5 then impl_Refilled.j0 k l0_0 a0_1 a0_2 a0_3 a1 t1 true else (if a0_1 ≥ 0 then impl_Refilled.j0 k l0_0 a0_1 a0_2 a0_3 a1 t1 (decide (a1 ≥ 5)) else impl_Refilled.j0 k l0_0 a0_1 a0_2 a0_3 a1 t1 false)))
theorem impl_Refilled.ok {k : Nat} {l0_0 : List S63} {a0_1 : Int} {a0_2 : Int} {a0_3 : Int} {a1 : Int} {r : (List S63) × Int × Int × Int} (H : impl_Refilled.f k l0_0 a0_1 a0_2 a0_3 a1 = some r) : ACalls Tryz.prog 155 [] [.agg [.sl .o 4 (l0_0.map e63),.lit (.int .i64 a0_1),.lit (.int .i64 a0_2),.lit (.int .i64 a0_3)],.lit (.int .i64 a1)] [(0,.row 63 4 (r.1.map e63))] (.agg [.row 0,.lit (.int .i64 r.2.1),.lit (.int .i64 r.2.2.1),.lit (.int .i64 r.2.2.2)]):=by
 refine acalls (fn:=Tryz.f155) (nt:=36) Tryz.func155 rfl rfl (Nat.le_of_ble_eq_true rfl) fun E hE=>?_
 rw [impl_Refilled.f] at H
 refine aw_grp1<|wk_start<|kb g0 (bxA 0)<|kb g0 (alc 1 [.slice none 0 0,.int .i64 0,.int .i64 0,.int .i64 0] [.lit (.slice none 0 0),.lit (.int .i64 0),.lit (.int .i64 0),.lit (.int .i64 0)])<|wk_end<|ac_next<|aw_grp1<|wk_start<|kv g0 (ldBA 4 [.sl .o 4 (l0_0.map e63),.lit (.int .i64 a0_1),.lit (.int .i64 a0_2),.lit (.int .i64 a0_3)]) ?_
 obtain ⟨t1,A2,H⟩:=of_bind H
 refine kcS1 7 (.agg [.row 2,.lit (.int .i64 t1.2.1),.lit (.int .i64 t1.2.2.1),.lit (.int .i64 t1.2.2.2)]) [(2,.row 63 4 (t1.1.map e63))] g0 (cal (impl_copyRing.ok A2) [2] 9999 .n (hf:=Tryz.func153)) rfl rfl<|kb g0 (alc 3 [.slice none 0 0,.int .i64 0,.int .i64 0,.int .i64 0] [.lit (.slice none 0 0),.lit (.int .i64 0),.lit (.int .i64 0),.lit (.int .i64 0)])<|ks g0 (stB 4 [.row 2,.lit (.int .i64 t1.2.1),.lit (.int .i64 t1.2.2.1),.lit (.int .i64 t1.2.2.2)])<|wk_end<|ac_next<|aw_grp1<|aw_block<|aw_grp1<|wk_start<|kv g0 mv<|kv g0 lss<|kv g0 asg<|wk_end<|ac_next ?_
 by_cases c3 : a1 < 0
 ·rw [if_pos c3] at H
  refine aw_ifT ?_ (decide_eq_true c3)
  refine aw_skip<|ac_blkN<|ac_next<|aw_grp1<|wk_start<|kv g0 (ldBA 4 [.row 2,.lit (.int .i64 t1.2.1),.lit (.int .i64 t1.2.2.1),.lit (.int .i64 t1.2.2.2)])<|ks g0 (stB 4 [.row 2,.lit (.int .i64 t1.2.1),.lit (.int .i64 t1.2.2.1),.lit (.int .i64 t1.2.2.2)])<|wk_end<|ac_next<|aw_ret ?_
  obtain rfl:=Option.some.inj H
  exact acr hE [.cell 4 67] (rcA 4 .nil) (.one _) [(0,2)] 9999
 rw [if_neg c3] at H
 refine aw_ifF ?_ (decide_eq_false c3)
 refine aw_cut1 (J:=fun K_=>∀ (k_ : Nat) (p7 : Bool),k_ ≤ k→impl_Refilled.j0 k_ l0_0 a0_1 a0_2 a0_3 a1 t1 p7 = some r→ACont E 36 ⟨[(1,.lit (.int .i64 a1)),(2,.box 0 0),(4,.box 1 0),(5,.box 3 0),(17,.lit (.bool p7))],[(0,.box 67 [.sl .o 4 (l0_0.map e63),.lit (.int .i64 a0_1),.lit (.int .i64 a0_2),.lit (.int .i64 a0_3)]),(1,.box 67 [.lit (.slice none 0 0),.lit (.int .i64 0),.lit (.int .i64 0),.lit (.int .i64 0)]),(2,.row 63 4 (t1.1.map e63)),(3,.box 67 [.row 2,.lit (.int .i64 t1.2.1),.lit (.int .i64 t1.2.2.1),.lit (.int .i64 t1.2.2.2)])]⟩ K_) ?_ ?_
 ·intro K_ hJ10
  refine wk_start<|kv g0 (faB 1 1)<|kv g0 ldB<|kv g0 geq<|kv g0 mv ?_
  by_cases c4 : a0_1 ≥ 5
  ·rw [if_pos c4] at H
   refine kx (hF (decide_eq_true c4)) ?_
   refine kx (hF (decide_eq_true c4)) ?_
   refine kv g0 (pkT (decide_eq_true c4))<|kv g0 mv<|kx (hF rfl) ?_
   refine kx (hF rfl) ?_
   refine kx (hF rfl) ?_
   refine ku (neT (hF rfl)) ?_
   refine ku neU ?_
   refine ku neU ?_
   refine kx (hF rfl) ?_
   refine kv g0 (pkT rfl)<|kv g0 asg<|wk_end<|ac_k ?_
   exact acw hE [(0,0),(1,1),(2,2),(3,3)] 9999 (hJ10 k true (Nat.le_refl _) H)
  rw [if_neg c4] at H
  refine kv (g1 (decide_eq_false c4)) mv<|kv (g1 (decide_eq_false c4)) gtr ?_
  refine kv g0 (pkF (decide_eq_false c4))<|kv g0 mv ?_
  by_cases c5 : a1 > 5
  ·rw [if_pos c5] at H
   refine kx (hF (decide_eq_true c5)) ?_
   refine kx (hF (decide_eq_true c5)) ?_
   refine kx (hF (decide_eq_true c5)) ?_
   refine ku (neT (hF (decide_eq_true c5))) ?_
   refine ku neU ?_
   refine ku neU ?_
   refine kx (hF (decide_eq_true c5)) ?_
   refine kv g0 (pkT (decide_eq_true c5))<|kv g0 asg<|wk_end<|ac_k ?_
   exact acw hE [(0,0),(1,1),(2,2),(3,3)] 9999 (hJ10 k true (Nat.le_refl _) H)
  rw [if_neg c5] at H
  refine kv (g1 (decide_eq_false c5)) (faB 1 1)<|kv (g1 (decide_eq_false c5)) ldB<|kv (g1 (decide_eq_false c5)) geq<|kv (g1 (decide_eq_false c5)) mv ?_
  by_cases c6 : a0_1 ≥ 0
  ·rw [if_pos c6] at H
   refine kv (g1 (decide_eq_true c6)) mv<|kv (g1 (decide_eq_true c6)) geq ?_
   refine kv (g1 (decide_eq_false c5)) (pkT (decide_eq_true c6)) ?_
   refine kv g0 (pkF (decide_eq_false c5))<|kv g0 asg<|wk_end<|ac_k ?_
   exact acw hE [(0,0),(1,1),(2,2),(3,3)] 9999 (hJ10 k (decide (a1 ≥ 5)) (Nat.le_refl _) H)
  rw [if_neg c6] at H
  refine kx (hT (decide_eq_false c6)) ?_
  refine kx (hT (decide_eq_false c6)) ?_
  refine kv (g1 (decide_eq_false c5)) (pkF (decide_eq_false c6)) ?_
  refine kv g0 (pkF (decide_eq_false c5))<|kv g0 asg<|wk_end<|ac_k ?_
  exact acw hE [(0,0),(1,1),(2,2),(3,3)] 9999 (hJ10 k false (Nat.le_refl _) H)
 intro k_ p7 hk_ H
 rcases k_ with _ | k8
 ·rw [impl_Refilled.j0.eq_1] at H;cases H
 have hk8 : k8 ≤ k:=by omega
 clear hk_
 rw [impl_Refilled.j0.eq_2] at H
 by_cases c9 : p7 = true
 ·rw [if_pos c9] at H
  refine aw_ifT ?_ c9
  refine wk_start<|kv g0 (faB 1 1)<|ks g0 (stB 1 [.row 2,.lit (.int .i64 5),.lit (.int .i64 t1.2.2.1),.lit (.int .i64 t1.2.2.2)])<|wk_end<|ac_blkN<|ac_next<|aw_grp1<|wk_start<|kv g0 (ldBA 4 [.row 2,.lit (.int .i64 5),.lit (.int .i64 t1.2.2.1),.lit (.int .i64 t1.2.2.2)])<|ks g0 (stB 4 [.row 2,.lit (.int .i64 5),.lit (.int .i64 t1.2.2.1),.lit (.int .i64 t1.2.2.2)])<|wk_end<|ac_next<|aw_ret ?_
  obtain rfl:=Option.some.inj H
  exact acr hE [.cell 4 67] (rcA 4 .nil) (.one _) [(0,2)] 9999
 rw [if_neg c9] at H
 refine aw_ifF ?_ (bF c9)
 refine wk_start<|kv g0 (faB 1 1)<|kv g0 ldB<|kv g0 mv<|kv g0 add6<|kv g0 min_<|kv g0 (faB 1 1)<|ks g0 (stB 1 [.row 2,.lit (.int .i64 (min 5 (wrap64 (a0_1 + a1)))),.lit (.int .i64 t1.2.2.1),.lit (.int .i64 t1.2.2.2)])<|wk_end<|ac_blkN<|ac_next<|aw_grp1<|wk_start<|kv g0 (ldBA 4 [.row 2,.lit (.int .i64 (min 5 (wrap64 (a0_1 + a1)))),.lit (.int .i64 t1.2.2.1),.lit (.int .i64 t1.2.2.2)])<|ks g0 (stB 4 [.row 2,.lit (.int .i64 (min 5 (wrap64 (a0_1 + a1)))),.lit (.int .i64 t1.2.2.1),.lit (.int .i64 t1.2.2.2)])<|wk_end<|ac_next<|aw_ret ?_
 obtain rfl:=Option.some.inj H
 exact acr hE [.cell 4 67] (rcA 4 .nil) (.one _) [(0,2)] 9999
/-! impl_World_later -/
def impl_World_later.l0 : Nat→(List (List (List S234)))→(List S67)→(List S65)→(List S139)→(List Int)→(List S154)→Int→(List Int)→(List S151)→Int→(List Int)→(List S59)→Int→(List S67)→Int→Option ((List (List (List S234))) × (List S67) × (List S65) × (List S139) × (List Int) × (List S154) × Int × (List Int) × (List S151) × Int × (List Int) × (List S59))
 | 0,_,_,_,_,_,_,_,_,_,_,_,_,_,_,_=>none
 | k7 + 1,l0_0,l0_1,l0_2,l0_3,l0_4,l0_5,a0_6,l0_7,l0_8,a0_9,l0_10,l0_11,a1,q5,p6=>if p6 < (l0_1.length : Int) then if 0 ≤ p6 then (if p6 < (q5.length : Int) then ((impl_Refilled.f k7 ((rd_T67 q5 p6).f0) ((rd_T67 q5 p6).f1) ((rd_T67 q5 p6).f2) ((rd_T67 q5 p6).f3) a1).bind fun t11=>impl_World_later.l0 k7 l0_0 l0_1 l0_2 l0_3 l0_4 l0_5 a0_6 l0_7 l0_8 a0_9 l0_10 l0_11 a1 (q5.set p6.toNat (⟨t11.1,t11.2.1,t11.2.2.1,t11.2.2.2⟩ : S67)) (wrap64 (p6 + 1))) else none) else none else some (l0_0,q5,l0_2,l0_3,l0_4,l0_5,a0_6,l0_7,l0_8,wrap64 (a0_9 + a1),l0_10,l0_11)
def impl_World_later.f (k : Nat) (l0_0 : List (List (List S234))) (l0_1 : List S67) (l0_2 : List S65) (l0_3 : List S139) (l0_4 : List Int) (l0_5 : List S154) (a0_6 : Int) (l0_7 : List Int) (l0_8 : List S151) (a0_9 : Int) (l0_10 : List Int) (l0_11 : List S59) (a1 : Int) : Option ((List (List (List S234))) × (List S67) × (List S65) × (List S139) × (List Int) × (List S154) × Int × (List Int) × (List S151) × Int × (List Int) × (List S59)):=impl_World_later.l0 k l0_0 l0_1 l0_2 l0_3 l0_4 l0_5 a0_6 l0_7 l0_8 a0_9 l0_10 l0_11 a1 l0_1 0
theorem impl_World_later.ok {k : Nat} {l0_0 : List (List (List S234))} {l0_1 : List S67} {l0_2 : List S65} {l0_3 : List S139} {l0_4 : List Int} {l0_5 : List S154} {a0_6 : Int} {l0_7 : List Int} {l0_8 : List S151} {a0_9 : Int} {l0_10 : List Int} {l0_11 : List S59} {a1 : Int} {r : (List (List (List S234))) × (List S67) × (List S65) × (List S139) × (List Int) × (List S154) × Int × (List Int) × (List S151) × Int × (List Int) × (List S59)} (H : impl_World_later.f k l0_0 l0_1 l0_2 l0_3 l0_4 l0_5 a0_6 l0_7 l0_8 a0_9 l0_10 l0_11 a1 = some r) : ACalls Tryz.prog 66 [(0,.box 45 [.row 1,.row 2,.row 3,.row 4,.row 5,.row 6,.lit (.int .i64 a0_6),.row 7,.row 8,.lit (.int .i64 a0_9),.row 9,.row 10]),(1,.drow false [.own 147 [.own 234 []]] 145 1 (l0_0.map (eL 1 (eL 4 (e234))))),(2,.drow false ds67 67 4 (l0_1.map e67)),(3,.drow false ds65 65 5 (l0_2.map e65)),(4,.row 139 6 (l0_3.map e139)),(5,.row 3 1 (l0_4.map (eI .i64))),(6,.row 154 6 (l0_5.map e154)),(7,.row 3 1 (l0_7.map (eI .i64))),(8,.row 151 3 (l0_8.map e151)),(9,.row 3 1 (l0_10.map (eI .i64))),(10,.row 59 4 (l0_11.map e59))] [.box 0 0,.lit (.int .i64 a1)] [(0,.box 45 [.row 1,.row 2,.row 3,.row 4,.row 5,.row 6,.lit (.int .i64 r.2.2.2.2.2.2.1),.row 7,.row 8,.lit (.int .i64 r.2.2.2.2.2.2.2.2.2.1),.row 9,.row 10]),(1,.drow false [.own 147 [.own 234 []]] 145 1 (r.1.map (eL 1 (eL 4 (e234))))),(2,.drow false ds67 67 4 (r.2.1.map e67)),(3,.drow false ds65 65 5 (r.2.2.1.map e65)),(4,.row 139 6 (r.2.2.2.1.map e139)),(5,.row 3 1 (r.2.2.2.2.1.map (eI .i64))),(6,.row 154 6 (r.2.2.2.2.2.1.map e154)),(7,.row 3 1 (r.2.2.2.2.2.2.2.1.map (eI .i64))),(8,.row 151 3 (r.2.2.2.2.2.2.2.2.1.map e151)),(9,.row 3 1 (r.2.2.2.2.2.2.2.2.2.2.1.map (eI .i64))),(10,.row 59 4 (r.2.2.2.2.2.2.2.2.2.2.2.map e59))] (.tup []):=by
 refine acalls (fn:=Tryz.f66) (nt:=38) Tryz.func66 rfl rfl (Nat.le_of_ble_eq_true rfl) fun E hE=>?_
 rw [impl_World_later.f] at H
 refine aw_grp1<|wk_start<|kv g0 mv<|kv g0 mv<|kv g0 nilB<|kv g0 (faB 9 9)<|kv g0 ldB<|kv g0 mv<|kv g0 add6<|kv g0 nilB<|kv g0 (faB 9 9)<|ks g0 (stB 1 [.row 1,.row 2,.row 3,.row 4,.row 5,.row 6,.lit (.int .i64 a0_6),.row 7,.row 8,.lit (.int .i64 (wrap64 (a0_9 + a1))),.row 9,.row 10])<|wk_end<|ac_next<|aw_grp1<|wk_start<|kv g0 mv<|kv g0 nilB<|kv g0 (faB 1 1)<|kv g0 ldB<|kv g0 (lnD lenE)<|kv g0 mv<|wk_end<|ac_next<|aw_block ?_
 refine aw_loop2 (fun (k_ : Nat) (q5 : List S67) (p6 : Int)=>k_ ≤ k∧impl_World_later.l0 k_ l0_0 l0_1 l0_2 l0_3 l0_4 l0_5 a0_6 l0_7 l0_8 a0_9 l0_10 l0_11 a1 q5 p6 = some r) (fun (q5 : List S67) (p6 : Int)=>⟨[(0,.box 0 0),(1,.lit (.int .i64 a1)),(18,.lit (.int .i64 (l0_1.length : Int))),(19,.lit (.int .i64 p6))],[(0,.box 45 [.row 1,.row 2,.row 3,.row 4,.row 5,.row 6,.lit (.int .i64 a0_6),.row 7,.row 8,.lit (.int .i64 (wrap64 (a0_9 + a1))),.row 9,.row 10]),(1,.drow false [.own 147 [.own 234 []]] 145 1 (l0_0.map (eL 1 (eL 4 (e234))))),(2,.drow false ds67 67 4 (q5.map e67)),(3,.drow false ds65 65 5 (l0_2.map e65)),(4,.row 139 6 (l0_3.map e139)),(5,.row 3 1 (l0_4.map (eI .i64))),(6,.row 154 6 (l0_5.map e154)),(7,.row 3 1 (l0_7.map (eI .i64))),(8,.row 151 3 (l0_8.map e151)),(9,.row 3 1 (l0_10.map (eI .i64))),(10,.row 59 4 (l0_11.map e59))]⟩) k l0_1 0 ⟨Nat.le_refl _,H⟩ (fun K_ h_=>acw hE [(0,0),(1,1),(2,2),(3,3),(4,4),(5,5),(6,6),(7,7),(8,8),(9,9),(10,10)] 9999 h_) (fun _ _=>by intro h_;have h_:=h_.2;rw [impl_World_later.l0.eq_1] at h_;cases h_) ?_
 intro k7 q5 p6 hq_ K13 hK14
 have hk7:=hq_.1
 have H:=hq_.2
 clear hq_
 rw [impl_World_later.l0.eq_2] at H
 refine aw_grp1<|wk_start<|kv g0 lss<|wk_end<|ac_next<|aw_grp1 ?_
 by_cases c8 : p6 < (l0_1.length : Int)
 ·rw [if_pos c8] at H
  refine aw_ifT ?_ (decide_eq_true c8)
  refine aw_skip<|ac_next<|aw_grp1<|aw_block<|aw_grp1<|wk_start<|kv g0 mv<|kv g0 asg<|wk_end<|ac_next<|wk_start<|kv g0 mv<|kv g0 nilB<|kv g0 (faB 1 1)<|kv g0 ldB<|kv g0 mv<|kv g0 mv<|kv g0 nilB<|kv g0 (faB 1 1)<|kv g0 ldB<|kv g0 mv ?_
  obtain ⟨c9,H⟩:=of_if H
  obtain ⟨c10,H⟩:=of_if H
  refine kv g0 (ixD 67 c9 (ltE c10))<|kcS2 33 (.agg [.row 11,.lit (.int .i64 ((rd_T67 q5 p6).f1)),.lit (.int .i64 ((rd_T67 q5 p6).f2)),.lit (.int .i64 ((rd_T67 q5 p6).f3))]) [(2,.drow true ds67 67 4 ((q5.map e67).set p6.toNat (.agg [.row 11,.lit (.int .i64 ((rd_T67 q5 p6).f1)),.lit (.int .i64 ((rd_T67 q5 p6).f2)),.lit (.int .i64 ((rd_T67 q5 p6).f3))]))),(11,.row 63 4 (((rd_T67 q5 p6).f0).map e63))] g0 (okv_gh (tk 2 11 0 (.agg [.row 11,.lit (.int .i64 ((rd_T67 q5 p6).f1)),.lit (.int .i64 ((rd_T67 q5 p6).f2)),.lit (.int .i64 ((rd_T67 q5 p6).f3))]) (getE (f:=e67) (z:=z67) c9 c10) rfl rfl) (ldDA 4 [.row 11,.lit (.int .i64 ((rd_T67 q5 p6).f1)),.lit (.int .i64 ((rd_T67 q5 p6).f2)),.lit (.int .i64 ((rd_T67 q5 p6).f3))] (setXG (f:=e67) (X:=.agg [.row 11,.lit (.int .i64 ((rd_T67 q5 p6).f1)),.lit (.int .i64 ((rd_T67 q5 p6).f2)),.lit (.int .i64 ((rd_T67 q5 p6).f3))]) c9 c10) rfl)).owp rfl rfl<|kv g0 mv ?_
  obtain ⟨t11,A12,H⟩:=of_bind H
  refine kcS1 35 (.agg [.row 12,.lit (.int .i64 t11.2.1),.lit (.int .i64 t11.2.2.1),.lit (.int .i64 t11.2.2.2)]) [(12,.row 63 4 (t11.1.map e63))] g0 (cal (impl_Refilled.ok A12) [12] 9999 .n (hf:=Tryz.func155)) rfl rfl<|kv g0 (ixD 67 c9 (ltS (ltE c10)))<|ks g0 (stD 4 ds67 0 4 [.row 12,.lit (.int .i64 t11.2.1),.lit (.int .i64 t11.2.2.1),.lit (.int .i64 t11.2.2.2)] (.agg [.row 12,.lit (.int .i64 t11.2.1),.lit (.int .i64 t11.2.2.1),.lit (.int .i64 t11.2.2.2)]) (setXG (f:=e67) (X:=.agg [.row 11,.lit (.int .i64 ((rd_T67 q5 p6).f1)),.lit (.int .i64 ((rd_T67 q5 p6).f2)),.lit (.int .i64 ((rd_T67 q5 p6).f3))]) c9 c10) setXX)<|wk_end_draw hM (by kernel_rfl)<|ac_blkN<|ac_next<|wk_start<|kv g0 add6<|kv g0 mv<|wk_end<|ac_g2 (pk 2 12 0 (.agg [.sl .n 4 (t11.1.map e63),.lit (.int .i64 t11.2.1),.lit (.int .i64 t11.2.2.1),.lit (.int .i64 t11.2.2.2)]) (setXG (f:=e67) (X:=.agg [.row 12,.lit (.int .i64 t11.2.1),.lit (.int .i64 t11.2.2.1),.lit (.int .i64 t11.2.2.2)]) c9 c10) setXX rfl)<|ac_g1 (sealD 2 (setSeal (f:=e67) p6.toNat (⟨t11.1,t11.2.1,t11.2.2.1,t11.2.2.2⟩ : S67)) cl67)<|ac_k ?_
  exact acw hE [(0,0),(1,1),(2,2),(3,3),(4,4),(5,5),(6,6),(7,7),(8,8),(9,9),(10,10)] 9999 (hK14 k7 (q5.set p6.toNat (⟨t11.1,t11.2.1,t11.2.2.1,t11.2.2.2⟩ : S67)) (wrap64 (p6 + 1)) (Nat.le_refl _) ⟨by omega,H⟩)
 rw [if_neg c8] at H
 refine aw_ifF ?_ (decide_eq_false c8)
 refine aw_exit<|ac_then<|ac_then<|ac_hit rfl ?_
 obtain rfl:=Option.some.inj H
 refine ac_end_n ?_
 exact acr hE [] .nil .none [(0,0),(1,1),(2,2),(3,3),(4,4),(5,5),(6,6),(7,7),(8,8),(9,9),(10,10)] 9999
/-! impl_Drained -/
def impl_Drained.f (l0_0 : List S63) (a0_1 : Int) (a0_2 : Int) (a0_3 : Int) : Option ((List S63) × Int × Int × Int × Int × Int × Int × Int × Bool):=(impl_copyRing.f l0_0 a0_1 a0_2 a0_3).bind fun t1=>if (t1.1.length : Int) > 0 then (if 0 < (t1.1.length : Int) then if 1 ≤ (t1.1.length : Int) then ((impl_copyItems.f (t1.1.drop 1)).bind fun t6=>some (t6,t1.2.1,t1.2.2.1,t1.2.2.2,(rd_T63 t1.1 0).f0,(rd_T63 t1.1 0).f1,(rd_T63 t1.1 0).f2,(rd_T63 t1.1 0).f3,true)) else none else none) else if t1.2.2.1 = 0 then some (t1.1,t1.2.1,t1.2.2.1,t1.2.2.2,0,0,0,0,false) else some (t1.1,t1.2.1,0,t1.2.2.2,2,0,0,t1.2.2.1,true)
theorem impl_Drained.ok {l0_0 : List S63} {a0_1 : Int} {a0_2 : Int} {a0_3 : Int} {r : (List S63) × Int × Int × Int × Int × Int × Int × Int × Bool} (H : impl_Drained.f l0_0 a0_1 a0_2 a0_3 = some r) : ACalls Tryz.prog 219 [] [.agg [.sl .o 4 (l0_0.map e63),.lit (.int .i64 a0_1),.lit (.int .i64 a0_2),.lit (.int .i64 a0_3)]] [(0,.row 63 4 (r.1.map e63))] (.tup [.agg [.row 0,.lit (.int .i64 r.2.1),.lit (.int .i64 r.2.2.1),.lit (.int .i64 r.2.2.2.1)],.agg [.lit (.int .i64 r.2.2.2.2.1),.lit (.int .i64 r.2.2.2.2.2.1),.lit (.int .i64 r.2.2.2.2.2.2.1),.lit (.int .i64 r.2.2.2.2.2.2.2.1)],.lit (.bool r.2.2.2.2.2.2.2.2)]):=by
 refine acalls (fn:=Tryz.f219) (nt:=38) Tryz.func219 rfl rfl (Nat.le_of_ble_eq_true rfl) fun E hE=>?_
 rw [impl_Drained.f] at H
 refine aw_grp1<|wk_start<|kb g0 (bxA 0)<|kb g0 (alc 1 [.slice none 0 0,.int .i64 0,.int .i64 0,.int .i64 0] [.lit (.slice none 0 0),.lit (.int .i64 0),.lit (.int .i64 0),.lit (.int .i64 0)])<|kb g0 (alc 2 [.int .i64 0,.int .i64 0,.int .i64 0,.int .i64 0] [.lit (.int .i64 0),.lit (.int .i64 0),.lit (.int .i64 0),.lit (.int .i64 0)])<|kv g0 asg<|wk_end<|ac_next<|aw_grp1<|wk_start<|kv g0 (ldBA 4 [.sl .o 4 (l0_0.map e63),.lit (.int .i64 a0_1),.lit (.int .i64 a0_2),.lit (.int .i64 a0_3)]) ?_
 obtain ⟨t1,A2,H⟩:=of_bind H
 refine kcS1 9 (.agg [.row 3,.lit (.int .i64 t1.2.1),.lit (.int .i64 t1.2.2.1),.lit (.int .i64 t1.2.2.2)]) [(3,.row 63 4 (t1.1.map e63))] g0 (cal (impl_copyRing.ok A2) [3] 9999 .n (hf:=Tryz.func153)) rfl rfl<|kb g0 (alc 4 [.slice none 0 0,.int .i64 0,.int .i64 0,.int .i64 0] [.lit (.slice none 0 0),.lit (.int .i64 0),.lit (.int .i64 0),.lit (.int .i64 0)])<|ks g0 (stB 4 [.row 3,.lit (.int .i64 t1.2.1),.lit (.int .i64 t1.2.2.1),.lit (.int .i64 t1.2.2.2)])<|wk_end<|ac_next<|aw_grp1<|aw_block<|aw_grp1<|wk_start<|kv g0 (faB 0 0)<|kv g0 ldB<|kv g0 (lnR lenE)<|kv g0 gtr<|kv g0 asg<|wk_end<|ac_next ?_
 by_cases c3 : (t1.1.length : Int) > 0
 ·rw [if_pos c3] at H
  refine aw_ifT ?_ (decide_eq_true c3)
  refine aw_grp1<|wk_start<|kv g0 (faB 0 0)<|kv g0 ldB ?_
  obtain ⟨c4,H⟩:=of_if H
  refine kv g0 (ixR 63 (by decide : (0 : Int) ≤ 0) (ltE c4))<|kv g0 (ldEA 4 (e63 (rd_T63 t1.1 0)) [.lit (.int .i64 ((rd_T63 t1.1 0).f0)),.lit (.int .i64 ((rd_T63 t1.1 0).f1)),.lit (.int .i64 ((rd_T63 t1.1 0).f2)),.lit (.int .i64 ((rd_T63 t1.1 0).f3))] (getE (z:=z63) (by decide : (0 : Int) ≤ 0) c4))<|kb g0 (alc 5 [.int .i64 0,.int .i64 0,.int .i64 0,.int .i64 0] [.lit (.int .i64 0),.lit (.int .i64 0),.lit (.int .i64 0),.lit (.int .i64 0)])<|ks g0 (stB 4 [.lit (.int .i64 ((rd_T63 t1.1 0).f0)),.lit (.int .i64 ((rd_T63 t1.1 0).f1)),.lit (.int .i64 ((rd_T63 t1.1 0).f2)),.lit (.int .i64 ((rd_T63 t1.1 0).f3))])<|wk_end<|ac_next<|aw_grp1<|wk_start<|kv g0 (faB 0 0)<|kv g0 ldB ?_
  obtain ⟨c5,H⟩:=of_if H
  refine kv g0 (srL 63 (by decide : (0 : Int) ≤ 1) c5) ?_
  obtain ⟨t6,A7,H⟩:=of_bind H
  refine kcS1 22 (.row 6) [(6,.row 63 4 (t6.map e63))] g0 (cal (impl_copyItems.ok A7) [6] 9999 .n (hf:=Tryz.func160) (hargs:=by rw [← mapD];rfl)) rfl rfl<|kv g0 (faB 0 0)<|ks g0 (stB 1 [.row 6,.lit (.int .i64 t1.2.1),.lit (.int .i64 t1.2.2.1),.lit (.int .i64 t1.2.2.2)])<|wk_end<|ac_next<|aw_grp1<|wk_start<|kv g0 (ldBA 4 [.row 6,.lit (.int .i64 t1.2.1),.lit (.int .i64 t1.2.2.1),.lit (.int .i64 t1.2.2.2)])<|kv g0 (ldBA 4 [.lit (.int .i64 ((rd_T63 t1.1 0).f0)),.lit (.int .i64 ((rd_T63 t1.1 0).f1)),.lit (.int .i64 ((rd_T63 t1.1 0).f2)),.lit (.int .i64 ((rd_T63 t1.1 0).f3))])<|ks g0 (stB 4 [.row 6,.lit (.int .i64 t1.2.1),.lit (.int .i64 t1.2.2.1),.lit (.int .i64 t1.2.2.2)])<|ks g0 (stB 4 [.lit (.int .i64 ((rd_T63 t1.1 0).f0)),.lit (.int .i64 ((rd_T63 t1.1 0).f1)),.lit (.int .i64 ((rd_T63 t1.1 0).f2)),.lit (.int .i64 ((rd_T63 t1.1 0).f3))])<|kv g0 asg<|wk_end_draw hM (by kernel_rfl)<|ac_next<|aw_ret<|ac_blkR<|ac_thenR ?_
  obtain rfl:=Option.some.inj H
  exact acr hE [.cell 2 67,.cell 3 63,.tmp 4] (rcA 4 (rcA 4 (.tmp .nil))) (.many _ _ _) [(0,6)] 9999
 rw [if_neg c3] at H
 refine aw_ifF ?_ (decide_eq_false c3)
 refine aw_grp1<|wk_start<|kv g0 (faB 2 2)<|kv g0 ldB<|kv g0 neq<|kv g0 asg<|wk_end<|ac_next ?_
 by_cases c8 : t1.2.2.1 = 0
 ·rw [if_pos c8] at H
  refine aw_ifF ?_ (eM c8)
  refine aw_skip<|ac_blkN<|ac_next<|aw_grp1<|wk_start<|kv g0 (ldBA 4 [.row 3,.lit (.int .i64 t1.2.1),.lit (.int .i64 t1.2.2.1),.lit (.int .i64 t1.2.2.2)])<|kv g0 (bld [(0,1),(1,1),(2,1),(3,1)] [.int .i64 0,.int .i64 0,.int .i64 0,.int .i64 0] [.lit (.int .i64 0),.lit (.int .i64 0),.lit (.int .i64 0),.lit (.int .i64 0)])<|ks g0 (stB 4 [.row 3,.lit (.int .i64 t1.2.1),.lit (.int .i64 t1.2.2.1),.lit (.int .i64 t1.2.2.2)])<|ks g0 (stB 4 [.lit (.int .i64 0),.lit (.int .i64 0),.lit (.int .i64 0),.lit (.int .i64 0)])<|kv g0 asg<|wk_end<|ac_next<|aw_ret ?_
  obtain rfl:=Option.some.inj H
  exact acr hE [.cell 2 67,.cell 3 63,.tmp 4] (rcA 4 (rcA 4 (.tmp .nil))) (.many _ _ _) [(0,3)] 9999
 rw [if_neg c8] at H
 refine aw_ifT ?_ (eN c8)
 refine aw_grp1<|wk_start<|kv g0 (faB 2 2)<|kv g0 ldB<|kv g0 (bld [(0,1),(1,1),(2,1),(3,1)] [.int .i64 0,.int .i64 0,.int .i64 0,.int .i64 0] [.lit (.int .i64 2),.lit (.int .i64 0),.lit (.int .i64 0),.lit (.int .i64 t1.2.2.1)])<|kb g0 (alc 7 [.int .i64 0,.int .i64 0,.int .i64 0,.int .i64 0] [.lit (.int .i64 0),.lit (.int .i64 0),.lit (.int .i64 0),.lit (.int .i64 0)])<|ks g0 (stB 4 [.lit (.int .i64 2),.lit (.int .i64 0),.lit (.int .i64 0),.lit (.int .i64 t1.2.2.1)])<|wk_end<|ac_next<|aw_grp1<|wk_start<|kv g0 (faB 2 2)<|ks g0 (stB 1 [.row 3,.lit (.int .i64 t1.2.1),.lit (.int .i64 0),.lit (.int .i64 t1.2.2.2)])<|wk_end<|ac_next<|aw_grp1<|wk_start<|kv g0 (ldBA 4 [.row 3,.lit (.int .i64 t1.2.1),.lit (.int .i64 0),.lit (.int .i64 t1.2.2.2)])<|kv g0 (ldBA 4 [.lit (.int .i64 2),.lit (.int .i64 0),.lit (.int .i64 0),.lit (.int .i64 t1.2.2.1)])<|ks g0 (stB 4 [.row 3,.lit (.int .i64 t1.2.1),.lit (.int .i64 0),.lit (.int .i64 t1.2.2.2)])<|ks g0 (stB 4 [.lit (.int .i64 2),.lit (.int .i64 0),.lit (.int .i64 0),.lit (.int .i64 t1.2.2.1)])<|kv g0 asg<|wk_end_draw hM (by kernel_rfl)<|ac_next<|aw_ret<|ac_blkR<|ac_thenR ?_
 obtain rfl:=Option.some.inj H
 exact acr hE [.cell 2 67,.cell 3 63,.tmp 4] (rcA 4 (rcA 4 (.tmp .nil))) (.many _ _ _) [(0,3)] 9999
/-! impl_isPid -/
def impl_isPid.f (a0 : Int) : Option (Bool):=(impl_within.f a0 0 2).bind fun t1=>some t1
theorem impl_isPid.ok {a0 : Int} {r : Bool} (H : impl_isPid.f a0 = some r) : ACalls Tryz.prog 221 [] [.lit (.int .i64 a0)] [] (.lit (.bool r)):=by
 refine acalls (fn:=Tryz.f221) (nt:=5) Tryz.func221 rfl rfl (Nat.le_of_ble_eq_true rfl) fun E hE=>?_
 rw [impl_isPid.f] at H
 refine aw_grp1<|wk_start<|kv g0 asg<|wk_end<|ac_next<|aw_grp1<|wk_start<|kv g0 mv ?_
 obtain ⟨t1,A2,H⟩:=of_bind H
 refine kcS0 4 (.lit (.bool t1)) [] g0 (cal (impl_within.ok A2) [] 9999 .n (hf:=Tryz.func64)) rfl rfl<|kv g0 asg<|wk_end<|ac_next<|aw_ret ?_
 obtain rfl:=Option.some.inj H
 exact acr hE [.tmp 2] (.tmp .nil) (.one _) [] 9999
/-! impl_HalfOk -/
def impl_HalfOk.f (a0 : Int) : Option (Bool):=(impl_within.f a0 0 4294967295).bind fun t1=>some t1
theorem impl_HalfOk.ok {a0 : Int} {r : Bool} (H : impl_HalfOk.f a0 = some r) : ACalls Tryz.prog 206 [] [.lit (.int .i64 a0)] [] (.lit (.bool r)):=by
 refine acalls (fn:=Tryz.f206) (nt:=5) Tryz.func206 rfl rfl (Nat.le_of_ble_eq_true rfl) fun E hE=>?_
 rw [impl_HalfOk.f] at H
 refine aw_grp1<|wk_start<|kv g0 asg<|wk_end<|ac_next<|aw_grp1<|wk_start<|kv g0 mv ?_
 obtain ⟨t1,A2,H⟩:=of_bind H
 refine kcS0 4 (.lit (.bool t1)) [] g0 (cal (impl_within.ok A2) [] 9999 .n (hf:=Tryz.func64)) rfl rfl<|kv g0 asg<|wk_end<|ac_next<|aw_ret ?_
 obtain rfl:=Option.some.inj H
 exact acr hE [.tmp 2] (.tmp .nil) (.one _) [] 9999
/-! impl_ItemOk -/
def impl_ItemOk.f (a0_0 : Int) (a0_1 : Int) (a0_2 : Int) (a0_3 : Int) : Option (Bool):=if a0_0 = 1 then ((impl_HalfOk.f a0_1).bind fun t2=>(if t2 = true then ((impl_HalfOk.f a0_2).bind fun t5=>(if t5 = true then some (a0_3 == 0) else some false)) else some false)) else if a0_0 = 2 then ((impl_within.f a0_3 1 1000000000).bind fun t9=>(if t9 = true then (if a0_1 = 0 then some (a0_2 == 0) else some false) else some false)) else some false
theorem impl_ItemOk.ok {a0_0 : Int} {a0_1 : Int} {a0_2 : Int} {a0_3 : Int} {r : Bool} (H : impl_ItemOk.f a0_0 a0_1 a0_2 a0_3 = some r) : ACalls Tryz.prog 223 [] [.agg [.lit (.int .i64 a0_0),.lit (.int .i64 a0_1),.lit (.int .i64 a0_2),.lit (.int .i64 a0_3)]] [] (.lit (.bool r)):=by
 refine acalls (fn:=Tryz.f223) (nt:=35) Tryz.func223 rfl rfl (Nat.le_of_ble_eq_true rfl) fun E hE=>?_
 rw [impl_ItemOk.f] at H
 refine aw_grp1<|wk_start<|kb g0 (bxA 0)<|kv g0 asg<|wk_end<|ac_next<|aw_grp1<|aw_grp1<|wk_start<|kv g0 (faB 0 0)<|kv g0 ldB<|wk_end<|ac_next<|aw_block<|aw_grp1<|wk_start<|kv g0 eql<|kv g0 asg<|wk_end<|ac_next ?_
 by_cases c1 : a0_0 = 1
 ·rw [if_pos c1] at H
  refine aw_ifT ?_ (eT c1)
  refine aw_grp1<|wk_start<|kv g0 (faB 1 1)<|kv g0 ldB ?_
  obtain ⟨t2,A3,H⟩:=of_bind H
  refine kcS0 9 (.lit (.bool t2)) [] g0 (cal (impl_HalfOk.ok A3) [] 9999 .n (hf:=Tryz.func206)) rfl rfl<|kv g0 mv ?_
  by_cases c4 : t2 = true
  ·rw [if_pos c4] at H
   refine kv (g1 c4) (faB 2 2)<|kv (g1 c4) ldB ?_
   obtain ⟨t5,A6,H⟩:=of_bind H
   refine kcS0 13 (.lit (.bool t5)) [] (g1 c4) (cal (impl_HalfOk.ok A6) [] 9999 .n (hf:=Tryz.func206)) rfl rfl ?_
   refine kv g0 (pkT c4)<|kv g0 mv ?_
   by_cases c7 : t5 = true
   ·rw [if_pos c7] at H
    refine kv (g1 c7) (faB 3 3)<|kv (g1 c7) ldB<|kv (g1 c7) eql ?_
    refine kv g0 (pkT c7)<|kv g0 asg<|wk_end<|ac_next<|aw_ret<|ac_blkR<|ac_thenR ?_
    obtain rfl:=Option.some.inj H
    exact acr hE [.tmp 2] (.tmp .nil) (.one _) [] 9999
   rw [if_neg c7] at H
   refine kx (hT (bF c7)) ?_
   refine kx (hT (bF c7)) ?_
   refine kx (hT (bF c7)) ?_
   refine kv g0 (pkF (bF c7))<|kv g0 asg<|wk_end<|ac_next<|aw_ret<|ac_blkR<|ac_thenR ?_
   obtain rfl:=Option.some.inj H
   exact acr hE [.tmp 2] (.tmp .nil) (.one _) [] 9999
  rw [if_neg c4] at H
  refine kx (hT (bF c4)) ?_
  refine kx (hT (bF c4)) ?_
  refine kx (hT (bF c4)) ?_
  refine kv g0 (pkF (bF c4))<|kv g0 mv<|kx (hT rfl) ?_
  refine kx (hT rfl) ?_
  refine kx (hT rfl) ?_
  refine kv g0 (pkF rfl)<|kv g0 asg<|wk_end<|ac_next<|aw_ret<|ac_blkR<|ac_thenR ?_
  obtain rfl:=Option.some.inj H
  exact acr hE [.tmp 2] (.tmp .nil) (.one _) [] 9999
 rw [if_neg c1] at H
 refine aw_ifF ?_ (eF c1)
 refine aw_grp1<|wk_start<|kv g0 eql<|kv g0 asg<|wk_end<|ac_next ?_
 by_cases c8 : a0_0 = 2
 ·rw [if_pos c8] at H
  refine aw_ifT ?_ (eT c8)
  refine aw_grp1<|wk_start<|kv g0 (faB 3 3)<|kv g0 ldB ?_
  obtain ⟨t9,A10,H⟩:=of_bind H
  refine kcS0 24 (.lit (.bool t9)) [] g0 (cal (impl_within.ok A10) [] 9999 .n (hf:=Tryz.func64)) rfl rfl<|kv g0 mv ?_
  by_cases c11 : t9 = true
  ·rw [if_pos c11] at H
   refine kv (g1 c11) (faB 1 1)<|kv (g1 c11) ldB<|kv (g1 c11) eql ?_
   refine kv g0 (pkT c11)<|kv g0 mv ?_
   by_cases c12 : a0_1 = 0
   ·rw [if_pos c12] at H
    refine kv (g1 (eT c12)) (faB 2 2)<|kv (g1 (eT c12)) ldB<|kv (g1 (eT c12)) eql ?_
    refine kv g0 (pkT (eT c12))<|kv g0 asg<|wk_end<|ac_next<|aw_ret<|ac_blkR<|ac_thenR ?_
    obtain rfl:=Option.some.inj H
    exact acr hE [.tmp 2] (.tmp .nil) (.one _) [] 9999
   rw [if_neg c12] at H
   refine kx (hT (eF c12)) ?_
   refine kx (hT (eF c12)) ?_
   refine kx (hT (eF c12)) ?_
   refine kv g0 (pkF (eF c12))<|kv g0 asg<|wk_end<|ac_next<|aw_ret<|ac_blkR<|ac_thenR ?_
   obtain rfl:=Option.some.inj H
   exact acr hE [.tmp 2] (.tmp .nil) (.one _) [] 9999
  rw [if_neg c11] at H
  refine kx (hT (bF c11)) ?_
  refine kx (hT (bF c11)) ?_
  refine kx (hT (bF c11)) ?_
  refine kv g0 (pkF (bF c11))<|kv g0 mv<|kx (hT rfl) ?_
  refine kx (hT rfl) ?_
  refine kx (hT rfl) ?_
  refine kv g0 (pkF rfl)<|kv g0 asg<|wk_end<|ac_next<|aw_ret<|ac_blkR<|ac_thenR ?_
  obtain rfl:=Option.some.inj H
  exact acr hE [.tmp 2] (.tmp .nil) (.one _) [] 9999
 rw [if_neg c8] at H
 refine aw_ifF ?_ (eF c8)
 refine aw_skip<|ac_blkN<|ac_next<|aw_grp1<|wk_start<|kv g0 asg<|wk_end<|ac_next<|aw_ret ?_
 obtain rfl:=Option.some.inj H
 exact acr hE [.tmp 2] (.tmp .nil) (.one _) [] 9999
/-! impl_areItems -/
def impl_areItems.l0 : Nat→(List S63)→Int→Option (Bool)
 | 0,_,_=>none
 | k7 + 1,l0,p6=>if p6 < (l0.length : Int) then if 0 ≤ p6 then (impl_ItemOk.f ((rd_T63 l0 p6).f0) ((rd_T63 l0 p6).f1) ((rd_T63 l0 p6).f2) ((rd_T63 l0 p6).f3)).bind fun t10=>if t10 = true then impl_areItems.l0 k7 l0 (wrap64 (p6 + 1)) else some false else none else some true
def impl_areItems.f (k : Nat) (l0 : List S63) : Option (Bool):=impl_areItems.l0 k l0 0
theorem impl_areItems.ok {k : Nat} {l0 : List S63} {r : Bool} (H : impl_areItems.f k l0 = some r) : ACalls Tryz.prog 222 [] [.sl .o 4 (l0.map e63)] [] (.lit (.bool r)):=by
 refine acalls (fn:=Tryz.f222) (nt:=15) Tryz.func222 rfl rfl (Nat.le_of_ble_eq_true rfl) fun E hE=>?_
 rw [impl_areItems.f] at H
 refine aw_grp1<|wk_start<|kv g0 asg<|wk_end<|ac_next<|aw_grp1<|aw_grp1<|wk_start<|kv g0 mv<|kv g0 (lnS lenE)<|kv g0 mv<|wk_end<|ac_next<|aw_block ?_
 refine aw_loop1 (fun (k_ : Nat) (p6 : Int)=>k_ ≤ k∧impl_areItems.l0 k_ l0 p6 = some r) (fun (p6 : Int)=>⟨[(5,.sl .o 4 (l0.map e63)),(6,.lit (.int .i64 (l0.length : Int))),(7,.lit (.int .i64 p6))],[]⟩) k 0 ⟨Nat.le_refl _,H⟩ (fun K_ h_=>acw hE [] 9999 h_) (fun _=>by intro h_;have h_:=h_.2;rw [impl_areItems.l0.eq_1] at h_;cases h_) ?_
 intro k7 p6 hq_ K13 hK14
 have hk7:=hq_.1
 have H:=hq_.2
 clear hq_
 rw [impl_areItems.l0.eq_2] at H
 refine aw_grp1<|wk_start<|kv g0 lss<|wk_end<|ac_next<|aw_grp1 ?_
 by_cases c8 : p6 < (l0.length : Int)
 ·rw [if_pos c8] at H
  refine aw_ifT ?_ (decide_eq_true c8)
  refine aw_skip<|ac_next<|aw_grp1<|aw_block<|aw_grp1<|wk_start ?_
  obtain ⟨c9,H⟩:=of_if H
  refine kv g0 (ixS 63 (e63 (rd_T63 l0 p6)) c9 (getE (z:=z63) c9 c8))<|kv g0 (ldRA 4 [.lit (.int .i64 ((rd_T63 l0 p6).f0)),.lit (.int .i64 ((rd_T63 l0 p6).f1)),.lit (.int .i64 ((rd_T63 l0 p6).f2)),.lit (.int .i64 ((rd_T63 l0 p6).f3))])<|kb g0 (alc 0 [.int .i64 0,.int .i64 0,.int .i64 0,.int .i64 0] [.lit (.int .i64 0),.lit (.int .i64 0),.lit (.int .i64 0),.lit (.int .i64 0)])<|ks g0 (stB 4 [.lit (.int .i64 ((rd_T63 l0 p6).f0)),.lit (.int .i64 ((rd_T63 l0 p6).f1)),.lit (.int .i64 ((rd_T63 l0 p6).f2)),.lit (.int .i64 ((rd_T63 l0 p6).f3))])<|wk_end<|ac_next<|aw_grp1<|wk_start<|kv g0 (ldBA 4 [.lit (.int .i64 ((rd_T63 l0 p6).f0)),.lit (.int .i64 ((rd_T63 l0 p6).f1)),.lit (.int .i64 ((rd_T63 l0 p6).f2)),.lit (.int .i64 ((rd_T63 l0 p6).f3))]) ?_
  obtain ⟨t10,A11,H⟩:=of_bind H
  refine kcS0 12 (.lit (.bool t10)) [] g0 (cal (impl_ItemOk.ok A11) [] 9999 .n (hf:=Tryz.func223)) rfl rfl<|kv g0 not_<|wk_end<|ac_next ?_
  by_cases c12 : t10 = true
  ·rw [if_pos c12] at H
   refine aw_ifF ?_ (nF c12)
   refine aw_skip<|ac_blkN<|ac_next<|wk_start<|kv g0 add6<|kv g0 mv<|wk_end<|ac_k ?_
   exact acw hE [] 9999 (hK14 k7 (wrap64 (p6 + 1)) (Nat.le_refl _) ⟨by omega,H⟩)
  rw [if_neg c12] at H
  refine aw_ifT ?_ (nT (bF c12))
  refine aw_grp1<|wk_start<|kv g0 asg<|wk_end<|ac_next<|aw_ret<|ac_blkR<|ac_thenR<|ac_thenR<|ac_blkR<|ac_thenR ?_
  obtain rfl:=Option.some.inj H
  exact acr hE [.tmp 2] (.tmp .nil) (.one _) [] 9999
 rw [if_neg c8] at H
 refine aw_ifF ?_ (decide_eq_false c8)
 refine aw_exit<|ac_then<|ac_then<|ac_hit rfl<|ac_next<|aw_grp1<|wk_start<|kv g0 asg<|wk_end<|ac_next<|aw_ret ?_
 obtain rfl:=Option.some.inj H
 exact acr hE [.tmp 2] (.tmp .nil) (.one _) [] 9999
/-! impl_SenderOk -/
def impl_SenderOk.f (k : Nat) (a0_0 : Int) (a0_1 : Int) (l0_2 : List S63) (a0_3 : Int) (a0_4 : Int) : Option (Bool):=(impl_isPid.f a0_0).bind fun t1=>(if t1 = true then ((impl_within.f a0_1 1 1000000000).bind fun t4=>(if t4 = true then (if (l0_2.length : Int) ≤ 3 then ((impl_areItems.f k l0_2).bind fun t8=>(if t8 = true then ((impl_within.f a0_3 0 1000000000).bind fun t11=>(if t11 = true then (if a0_4 = 1 then some true else (if a0_4 = 2 then some true else some (a0_4 == 4))) else some false)) else some false)) else some false) else some false)) else some false)
theorem impl_SenderOk.ok {k : Nat} {a0_0 : Int} {a0_1 : Int} {l0_2 : List S63} {a0_3 : Int} {a0_4 : Int} {r : Bool} (H : impl_SenderOk.f k a0_0 a0_1 l0_2 a0_3 a0_4 = some r) : ACalls Tryz.prog 157 [] [.agg [.lit (.int .i64 a0_0),.lit (.int .i64 a0_1),.sl .o 4 (l0_2.map e63),.lit (.int .i64 a0_3),.lit (.int .i64 a0_4)]] [] (.lit (.bool r)):=by
 refine acalls (fn:=Tryz.f157) (nt:=42) Tryz.func157 rfl rfl (Nat.le_of_ble_eq_true rfl) fun E hE=>?_
 rw [impl_SenderOk.f] at H
 refine aw_grp1<|wk_start<|kb g0 (bxA 0)<|kv g0 asg<|wk_end<|ac_next<|aw_grp1<|wk_start<|kv g0 (faB 0 0)<|kv g0 ldB ?_
 obtain ⟨t1,A2,H⟩:=of_bind H
 refine kcS0 5 (.lit (.bool t1)) [] g0 (cal (impl_isPid.ok A2) [] 9999 .n (hf:=Tryz.func221)) rfl rfl<|kv g0 mv ?_
 by_cases c3 : t1 = true
 ·rw [if_pos c3] at H
  refine kv (g1 c3) (faB 1 1)<|kv (g1 c3) ldB ?_
  obtain ⟨t4,A5,H⟩:=of_bind H
  refine kcS0 9 (.lit (.bool t4)) [] (g1 c3) (cal (impl_within.ok A5) [] 9999 .n (hf:=Tryz.func64)) rfl rfl ?_
  refine kv g0 (pkT c3)<|kv g0 mv ?_
  by_cases c6 : t4 = true
  ·rw [if_pos c6] at H
   refine kv (g1 c6) (faB 2 2)<|kv (g1 c6) ldB<|kv (g1 c6) (lnS lenE)<|kv (g1 c6) leq ?_
   refine kv g0 (pkT c6)<|kv g0 mv ?_
   by_cases c7 : (l0_2.length : Int) ≤ 3
   ·rw [if_pos c7] at H
    refine kv (g1 (decide_eq_true c7)) (faB 2 2)<|kv (g1 (decide_eq_true c7)) ldB ?_
    obtain ⟨t8,A9,H⟩:=of_bind H
    refine kcS0 20 (.lit (.bool t8)) [] (g1 (decide_eq_true c7)) (cal (impl_areItems.ok A9) [] 9999 .n (hf:=Tryz.func222)) rfl rfl ?_
    refine kv g0 (pkT (decide_eq_true c7))<|kv g0 mv ?_
    by_cases c10 : t8 = true
    ·rw [if_pos c10] at H
     refine kv (g1 c10) (faB 3 3)<|kv (g1 c10) ldB ?_
     obtain ⟨t11,A12,H⟩:=of_bind H
     refine kcS0 25 (.lit (.bool t11)) [] (g1 c10) (cal (impl_within.ok A12) [] 9999 .n (hf:=Tryz.func64)) rfl rfl ?_
     refine kv g0 (pkT c10)<|kv g0 mv ?_
     by_cases c13 : t11 = true
     ·rw [if_pos c13] at H
      refine kv (g1 c13) (faB 4 4)<|kv (g1 c13) ldB<|kv (g1 c13) eql<|kv (g1 c13) mv ?_
      by_cases c14 : a0_4 = 1
      ·rw [if_pos c14] at H
       refine kx (hF (eT c14)) ?_
       refine kx (hF (eT c14)) ?_
       refine kx (hF (eT c14)) ?_
       refine kv (g1 c13) (pkT (eT c14))<|kv (g1 c13) mv<|kx (hF rfl) ?_
       refine kx (hF rfl) ?_
       refine kx (hF rfl) ?_
       refine kv (g1 c13) (pkT rfl) ?_
       refine kv g0 (pkT c13)<|kv g0 asg<|wk_end<|ac_next<|aw_ret ?_
       obtain rfl:=Option.some.inj H
       exact acr hE [.tmp 2] (.tmp .nil) (.one _) [] 9999
      rw [if_neg c14] at H
      refine kv (g1 (eF c14)) (faB 4 4)<|kv (g1 (eF c14)) ldB<|kv (g1 (eF c14)) eql ?_
      refine kv (g1 c13) (pkF (eF c14))<|kv (g1 c13) mv ?_
      by_cases c15 : a0_4 = 2
      ·rw [if_pos c15] at H
       refine kx (hF (eT c15)) ?_
       refine kx (hF (eT c15)) ?_
       refine kx (hF (eT c15)) ?_
       refine kv (g1 c13) (pkT (eT c15)) ?_
       refine kv g0 (pkT c13)<|kv g0 asg<|wk_end<|ac_next<|aw_ret ?_
       obtain rfl:=Option.some.inj H
       exact acr hE [.tmp 2] (.tmp .nil) (.one _) [] 9999
      rw [if_neg c15] at H
      refine kv (g1 (eF c15)) (faB 4 4)<|kv (g1 (eF c15)) ldB<|kv (g1 (eF c15)) eql ?_
      refine kv (g1 c13) (pkF (eF c15)) ?_
      refine kv g0 (pkT c13)<|kv g0 asg<|wk_end<|ac_next<|aw_ret ?_
      obtain rfl:=Option.some.inj H
      exact acr hE [.tmp 2] (.tmp .nil) (.one _) [] 9999
     rw [if_neg c13] at H
     refine kx (hT (bF c13)) ?_
     refine kx (hT (bF c13)) ?_
     refine kx (hT (bF c13)) ?_
     refine ku (neT (hT (bF c13))) ?_
     refine ku neU ?_
     refine ku neU ?_
     refine ku neU ?_
     refine kx (hT (bF c13)) ?_
     refine ku (neT (hT (bF c13))) ?_
     refine ku neU ?_
     refine ku neU ?_
     refine ku neU ?_
     refine kx (hT (bF c13)) ?_
     refine kv g0 (pkF (bF c13))<|kv g0 asg<|wk_end<|ac_next<|aw_ret ?_
     obtain rfl:=Option.some.inj H
     exact acr hE [.tmp 2] (.tmp .nil) (.one _) [] 9999
    rw [if_neg c10] at H
    refine kx (hT (bF c10)) ?_
    refine kx (hT (bF c10)) ?_
    refine kx (hT (bF c10)) ?_
    refine kv g0 (pkF (bF c10))<|kv g0 mv<|kx (hT rfl) ?_
    refine kx (hT rfl) ?_
    refine kx (hT rfl) ?_
    refine ku (neT (hT rfl)) ?_
    refine ku neU ?_
    refine ku neU ?_
    refine ku neU ?_
    refine kx (hT rfl) ?_
    refine ku (neT (hT rfl)) ?_
    refine ku neU ?_
    refine ku neU ?_
    refine ku neU ?_
    refine kx (hT rfl) ?_
    refine kv g0 (pkF rfl)<|kv g0 asg<|wk_end<|ac_next<|aw_ret ?_
    obtain rfl:=Option.some.inj H
    exact acr hE [.tmp 2] (.tmp .nil) (.one _) [] 9999
   rw [if_neg c7] at H
   refine kx (hT (decide_eq_false c7)) ?_
   refine kx (hT (decide_eq_false c7)) ?_
   refine kx (hT (decide_eq_false c7)) ?_
   refine kv g0 (pkF (decide_eq_false c7))<|kv g0 mv<|kx (hT rfl) ?_
   refine kx (hT rfl) ?_
   refine kx (hT rfl) ?_
   refine kv g0 (pkF rfl)<|kv g0 mv<|kx (hT rfl) ?_
   refine kx (hT rfl) ?_
   refine kx (hT rfl) ?_
   refine ku (neT (hT rfl)) ?_
   refine ku neU ?_
   refine ku neU ?_
   refine ku neU ?_
   refine kx (hT rfl) ?_
   refine ku (neT (hT rfl)) ?_
   refine ku neU ?_
   refine ku neU ?_
   refine ku neU ?_
   refine kx (hT rfl) ?_
   refine kv g0 (pkF rfl)<|kv g0 asg<|wk_end<|ac_next<|aw_ret ?_
   obtain rfl:=Option.some.inj H
   exact acr hE [.tmp 2] (.tmp .nil) (.one _) [] 9999
  rw [if_neg c6] at H
  refine kx (hT (bF c6)) ?_
  refine kx (hT (bF c6)) ?_
  refine kx (hT (bF c6)) ?_
  refine kx (hT (bF c6)) ?_
  refine kv g0 (pkF (bF c6))<|kv g0 mv<|kx (hT rfl) ?_
  refine kx (hT rfl) ?_
  refine kx (hT rfl) ?_
  refine kv g0 (pkF rfl)<|kv g0 mv<|kx (hT rfl) ?_
  refine kx (hT rfl) ?_
  refine kx (hT rfl) ?_
  refine kv g0 (pkF rfl)<|kv g0 mv<|kx (hT rfl) ?_
  refine kx (hT rfl) ?_
  refine kx (hT rfl) ?_
  refine ku (neT (hT rfl)) ?_
  refine ku neU ?_
  refine ku neU ?_
  refine ku neU ?_
  refine kx (hT rfl) ?_
  refine ku (neT (hT rfl)) ?_
  refine ku neU ?_
  refine ku neU ?_
  refine ku neU ?_
  refine kx (hT rfl) ?_
  refine kv g0 (pkF rfl)<|kv g0 asg<|wk_end<|ac_next<|aw_ret ?_
  obtain rfl:=Option.some.inj H
  exact acr hE [.tmp 2] (.tmp .nil) (.one _) [] 9999
 rw [if_neg c3] at H
 refine kx (hT (bF c3)) ?_
 refine kx (hT (bF c3)) ?_
 refine kx (hT (bF c3)) ?_
 refine kv g0 (pkF (bF c3))<|kv g0 mv<|kx (hT rfl) ?_
 refine kx (hT rfl) ?_
 refine kx (hT rfl) ?_
 refine kx (hT rfl) ?_
 refine kv g0 (pkF rfl)<|kv g0 mv<|kx (hT rfl) ?_
 refine kx (hT rfl) ?_
 refine kx (hT rfl) ?_
 refine kv g0 (pkF rfl)<|kv g0 mv<|kx (hT rfl) ?_
 refine kx (hT rfl) ?_
 refine kx (hT rfl) ?_
 refine kv g0 (pkF rfl)<|kv g0 mv<|kx (hT rfl) ?_
 refine kx (hT rfl) ?_
 refine kx (hT rfl) ?_
 refine ku (neT (hT rfl)) ?_
 refine ku neU ?_
 refine ku neU ?_
 refine ku neU ?_
 refine kx (hT rfl) ?_
 refine ku (neT (hT rfl)) ?_
 refine ku neU ?_
 refine ku neU ?_
 refine ku neU ?_
 refine kx (hT rfl) ?_
 refine kv g0 (pkF rfl)<|kv g0 asg<|wk_end<|ac_next<|aw_ret ?_
 obtain rfl:=Option.some.inj H
 exact acr hE [.tmp 2] (.tmp .nil) (.one _) [] 9999
/-! impl_RingOk -/
def impl_RingOk.l0 : Nat→(List S63)→Int→Int→Int→Int→Int→Option (Bool)
 | 0,_,_,_,_,_,_=>none
 | k19 + 1,l0_0,a0_1,a0_2,a0_3,p17,p18=>if p18 < (l0_0.length : Int) then if 0 ≤ p18 then if ((rd_T63 l0_0 p18).f0) = 1 then impl_RingOk.l0 k19 l0_0 a0_1 a0_2 a0_3 (wrap64 (p17 + 1)) (wrap64 (p18 + 1)) else impl_RingOk.l0 k19 l0_0 a0_1 a0_2 a0_3 (wrap64 (p17 + ((rd_T63 l0_0 p18).f3))) (wrap64 (p18 + 1)) else none else some (decide (p17 ≤ a0_3))
def impl_RingOk.f (k : Nat) (l0_0 : List S63) (a0_1 : Int) (a0_2 : Int) (a0_3 : Int) : Option (Bool):=if (l0_0.length : Int) > 4 then some false else ((impl_areItems.f k l0_0).bind fun t2=>(if t2 = true then ((impl_within.f a0_1 0 5).bind fun t5=>(if t5 = true then ((impl_within.f a0_2 0 1000000000).bind fun t8=>(if t8 = true then ((impl_within.f a0_3 0 1000000000).bind fun t11=>if t11 = true then impl_RingOk.l0 k l0_0 a0_1 a0_2 a0_3 a0_2 0 else some false) else some false)) else some false)) else some false))
theorem impl_RingOk.ok {k : Nat} {l0_0 : List S63} {a0_1 : Int} {a0_2 : Int} {a0_3 : Int} {r : Bool} (H : impl_RingOk.f k l0_0 a0_1 a0_2 a0_3 = some r) : ACalls Tryz.prog 220 [] [.agg [.sl .o 4 (l0_0.map e63),.lit (.int .i64 a0_1),.lit (.int .i64 a0_2),.lit (.int .i64 a0_3)]] [] (.lit (.bool r)):=by
 refine acalls (fn:=Tryz.f220) (nt:=57) Tryz.func220 rfl rfl (Nat.le_of_ble_eq_true rfl) fun E hE=>?_
 rw [impl_RingOk.f] at H
 refine aw_grp1<|wk_start<|kb g0 (bxA 0)<|kv g0 asg<|wk_end<|ac_next<|aw_grp1<|aw_grp1<|wk_start<|kv g0 (faB 0 0)<|kv g0 ldB<|kv g0 (lnS lenE)<|kv g0 gtr<|kv g0 mv ?_
 by_cases c1 : (l0_0.length : Int) > 4
 ·rw [if_pos c1] at H
  refine kx (hF (decide_eq_true c1)) ?_
  refine kx (hF (decide_eq_true c1)) ?_
  refine kx (hF (decide_eq_true c1)) ?_
  refine kx (hF (decide_eq_true c1)) ?_
  refine kv g0 (pkT (decide_eq_true c1))<|kv g0 mv<|kx (hF rfl) ?_
  refine kx (hF rfl) ?_
  refine kx (hF rfl) ?_
  refine kx (hF rfl) ?_
  refine kv g0 (pkT rfl)<|kv g0 mv<|kx (hF rfl) ?_
  refine kx (hF rfl) ?_
  refine kx (hF rfl) ?_
  refine kx (hF rfl) ?_
  refine kv g0 (pkT rfl)<|kv g0 mv<|kx (hF rfl) ?_
  refine kx (hF rfl) ?_
  refine kx (hF rfl) ?_
  refine kx (hF rfl) ?_
  refine kv g0 (pkT rfl)<|wk_end<|ac_next ?_
  refine aw_ifT ?_ rfl
  refine aw_grp1<|wk_start<|kv g0 asg<|wk_end<|ac_next<|aw_ret<|ac_thenR ?_
  obtain rfl:=Option.some.inj H
  exact acr hE [.tmp 2] (.tmp .nil) (.one _) [] 9999
 rw [if_neg c1] at H
 refine kv (g1 (decide_eq_false c1)) (faB 0 0)<|kv (g1 (decide_eq_false c1)) ldB ?_
 obtain ⟨t2,A3,H⟩:=of_bind H
 refine kcS0 13 (.lit (.bool t2)) [] (g1 (decide_eq_false c1)) (cal (impl_areItems.ok A3) [] 9999 .n (hf:=Tryz.func222)) rfl rfl<|kv (g1 (decide_eq_false c1)) not_ ?_
 refine kv g0 (pkF (decide_eq_false c1))<|kv g0 mv ?_
 by_cases c4 : t2 = true
 ·rw [if_pos c4] at H
  refine kv (g1 (nF c4)) (faB 1 1)<|kv (g1 (nF c4)) ldB ?_
  obtain ⟨t5,A6,H⟩:=of_bind H
  refine kcS0 19 (.lit (.bool t5)) [] (g1 (nF c4)) (cal (impl_within.ok A6) [] 9999 .n (hf:=Tryz.func64)) rfl rfl<|kv (g1 (nF c4)) not_ ?_
  refine kv g0 (pkF (nF c4))<|kv g0 mv ?_
  by_cases c7 : t5 = true
  ·rw [if_pos c7] at H
   refine kv (g1 (nF c7)) (faB 2 2)<|kv (g1 (nF c7)) ldB ?_
   obtain ⟨t8,A9,H⟩:=of_bind H
   refine kcS0 25 (.lit (.bool t8)) [] (g1 (nF c7)) (cal (impl_within.ok A9) [] 9999 .n (hf:=Tryz.func64)) rfl rfl<|kv (g1 (nF c7)) not_ ?_
   refine kv g0 (pkF (nF c7))<|kv g0 mv ?_
   by_cases c10 : t8 = true
   ·rw [if_pos c10] at H
    refine kv (g1 (nF c10)) (faB 3 3)<|kv (g1 (nF c10)) ldB ?_
    obtain ⟨t11,A12,H⟩:=of_bind H
    refine kcS0 31 (.lit (.bool t11)) [] (g1 (nF c10)) (cal (impl_within.ok A12) [] 9999 .n (hf:=Tryz.func64)) rfl rfl<|kv (g1 (nF c10)) not_ ?_
    refine kv g0 (pkF (nF c10))<|wk_end<|ac_next ?_
    by_cases c13 : t11 = true
    ·rw [if_pos c13] at H
     refine aw_ifF ?_ (nF c13)
     refine aw_skip<|ac_next<|aw_grp1<|wk_start<|kv g0 (faB 2 2)<|kv g0 ldB<|kv g0 asg<|wk_end<|ac_next<|aw_grp1<|aw_grp1<|wk_start<|kv g0 (faB 0 0)<|kv g0 ldB<|kv g0 (lnS lenE)<|kv g0 mv<|wk_end<|ac_next<|aw_block ?_
     refine aw_loop2 (fun (k_ : Nat) (p17 : Int) (p18 : Int)=>k_ ≤ k∧impl_RingOk.l0 k_ l0_0 a0_1 a0_2 a0_3 p17 p18 = some r) (fun (p17 : Int) (p18 : Int)=>⟨[(1,.box 0 0),(3,.lit (.int .i64 p17)),(37,.sl .o 4 (l0_0.map e63)),(38,.lit (.int .i64 (l0_0.length : Int))),(39,.lit (.int .i64 p18))],[(0,.box 67 [.sl .o 4 (l0_0.map e63),.lit (.int .i64 a0_1),.lit (.int .i64 a0_2),.lit (.int .i64 a0_3)])]⟩) k a0_2 0 ⟨Nat.le_refl _,H⟩ (fun K_ h_=>acw hE [(0,0)] 9999 h_) (fun _ _=>by intro h_;have h_:=h_.2;rw [impl_RingOk.l0.eq_1] at h_;cases h_) ?_
     intro k19 p17 p18 hq_ K23 hK24
     have hk19:=hq_.1
     have H:=hq_.2
     clear hq_
     rw [impl_RingOk.l0.eq_2] at H
     refine aw_grp1<|wk_start<|kv g0 lss<|wk_end<|ac_next<|aw_grp1 ?_
     by_cases c20 : p18 < (l0_0.length : Int)
     ·rw [if_pos c20] at H
      refine aw_ifT ?_ (decide_eq_true c20)
      refine aw_skip<|ac_next<|aw_grp1<|aw_block<|aw_grp1<|wk_start ?_
      obtain ⟨c21,H⟩:=of_if H
      refine kv g0 (ixS 63 (e63 (rd_T63 l0_0 p18)) c21 (getE (z:=z63) c21 c20))<|kv g0 (ldRA 4 [.lit (.int .i64 ((rd_T63 l0_0 p18).f0)),.lit (.int .i64 ((rd_T63 l0_0 p18).f1)),.lit (.int .i64 ((rd_T63 l0_0 p18).f2)),.lit (.int .i64 ((rd_T63 l0_0 p18).f3))])<|kb g0 (alc 1 [.int .i64 0,.int .i64 0,.int .i64 0,.int .i64 0] [.lit (.int .i64 0),.lit (.int .i64 0),.lit (.int .i64 0),.lit (.int .i64 0)])<|ks g0 (stB 4 [.lit (.int .i64 ((rd_T63 l0_0 p18).f0)),.lit (.int .i64 ((rd_T63 l0_0 p18).f1)),.lit (.int .i64 ((rd_T63 l0_0 p18).f2)),.lit (.int .i64 ((rd_T63 l0_0 p18).f3))])<|wk_end<|ac_next<|aw_grp1<|wk_start<|kv g0 (faB 0 0)<|kv g0 ldB<|kv g0 eql<|wk_end<|ac_next ?_
      by_cases c22 : ((rd_T63 l0_0 p18).f0) = 1
      ·rw [if_pos c22] at H
       refine aw_ifT ?_ (eT c22)
       refine wk_start<|kv g0 mv<|kv g0 add6<|kv g0 asg<|wk_end<|ac_blkN<|ac_next<|wk_start<|kv g0 add6<|kv g0 mv<|wk_end<|ac_k ?_
       exact acw hE [(0,0)] 9999 (hK24 k19 (wrap64 (p17 + 1)) (wrap64 (p18 + 1)) (Nat.le_refl _) ⟨by omega,H⟩)
      rw [if_neg c22] at H
      refine aw_ifF ?_ (eF c22)
      refine wk_start<|kv g0 mv<|kv g0 (faB 3 3)<|kv g0 ldB<|kv g0 add6<|kv g0 asg<|wk_end<|ac_blkN<|ac_next<|wk_start<|kv g0 add6<|kv g0 mv<|wk_end<|ac_k ?_
      exact acw hE [(0,0)] 9999 (hK24 k19 (wrap64 (p17 + ((rd_T63 l0_0 p18).f3))) (wrap64 (p18 + 1)) (Nat.le_refl _) ⟨by omega,H⟩)
     rw [if_neg c20] at H
     refine aw_ifF ?_ (decide_eq_false c20)
     refine aw_exit<|ac_then<|ac_then<|ac_hit rfl<|ac_next<|aw_grp1<|wk_start<|kv g0 mv<|kv g0 (faB 3 3)<|kv g0 ldB<|kv g0 leq<|kv g0 asg<|wk_end<|ac_next<|aw_ret ?_
     obtain rfl:=Option.some.inj H
     exact acr hE [.tmp 2] (.tmp .nil) (.one _) [] 9999
    rw [if_neg c13] at H
    refine aw_ifT ?_ (nT (bF c13))
    refine aw_grp1<|wk_start<|kv g0 asg<|wk_end<|ac_next<|aw_ret<|ac_thenR ?_
    obtain rfl:=Option.some.inj H
    exact acr hE [.tmp 2] (.tmp .nil) (.one _) [] 9999
   rw [if_neg c10] at H
   refine kx (hF (nT (bF c10))) ?_
   refine kx (hF (nT (bF c10))) ?_
   refine kx (hF (nT (bF c10))) ?_
   refine kx (hF (nT (bF c10))) ?_
   refine kv g0 (pkT (nT (bF c10)))<|wk_end<|ac_next ?_
   refine aw_ifT ?_ rfl
   refine aw_grp1<|wk_start<|kv g0 asg<|wk_end<|ac_next<|aw_ret<|ac_thenR ?_
   obtain rfl:=Option.some.inj H
   exact acr hE [.tmp 2] (.tmp .nil) (.one _) [] 9999
  rw [if_neg c7] at H
  refine kx (hF (nT (bF c7))) ?_
  refine kx (hF (nT (bF c7))) ?_
  refine kx (hF (nT (bF c7))) ?_
  refine kx (hF (nT (bF c7))) ?_
  refine kv g0 (pkT (nT (bF c7)))<|kv g0 mv<|kx (hF rfl) ?_
  refine kx (hF rfl) ?_
  refine kx (hF rfl) ?_
  refine kx (hF rfl) ?_
  refine kv g0 (pkT rfl)<|wk_end<|ac_next ?_
  refine aw_ifT ?_ rfl
  refine aw_grp1<|wk_start<|kv g0 asg<|wk_end<|ac_next<|aw_ret<|ac_thenR ?_
  obtain rfl:=Option.some.inj H
  exact acr hE [.tmp 2] (.tmp .nil) (.one _) [] 9999
 rw [if_neg c4] at H
 refine kx (hF (nT (bF c4))) ?_
 refine kx (hF (nT (bF c4))) ?_
 refine kx (hF (nT (bF c4))) ?_
 refine kx (hF (nT (bF c4))) ?_
 refine kv g0 (pkT (nT (bF c4)))<|kv g0 mv<|kx (hF rfl) ?_
 refine kx (hF rfl) ?_
 refine kx (hF rfl) ?_
 refine kx (hF rfl) ?_
 refine kv g0 (pkT rfl)<|kv g0 mv<|kx (hF rfl) ?_
 refine kx (hF rfl) ?_
 refine kx (hF rfl) ?_
 refine kx (hF rfl) ?_
 refine kv g0 (pkT rfl)<|wk_end<|ac_next ?_
 refine aw_ifT ?_ rfl
 refine aw_grp1<|wk_start<|kv g0 asg<|wk_end<|ac_next<|aw_ret<|ac_thenR ?_
 obtain rfl:=Option.some.inj H
 exact acr hE [.tmp 2] (.tmp .nil) (.one _) [] 9999
/-! impl_Taken -/
def impl_Taken.j0 : Nat→Int→Int→(List S63)→Int→Int→(List S63)→Int→Int→Int→Int→((List S63) × Int × Int × Int × Int × Int × Int × Int × Bool)→Bool→Option (Int × Int × (List S63) × Int × Int × (List S63) × Int × Int × Int × Bool)
 | 0,_,_,_,_,_,_,_,_,_,_,_,_=>none
 | k14 + 1,a0_0,a0_1,l0_2,a0_3,a0_4,l1_0,a1_1,a1_2,a1_3,a2,t1,p13=>if p13 = true then ((impl_copySender.f a0_0 a0_1 l0_2 a0_3 a0_4).bind fun t16=>((impl_copyRing.f l1_0 a1_1 a1_2 a1_3).bind fun t18=>some (t16.1,t16.2.1,t16.2.2.1,t16.2.2.2.1,t16.2.2.2.2,t18.1,t18.2.1,t18.2.2.1,t18.2.2.2,false))) else (impl_copySender.f a0_0 a0_1 l0_2 a0_3 a0_4).bind fun t21=>if t21.2.2.1.length + ([(⟨t1.2.2.2.2.1,t1.2.2.2.2.2.1,t1.2.2.2.2.2.2.1,t1.2.2.2.2.2.2.2.1⟩ : S63)] : List S63).length < 4398046511104 then some (t21.1,t21.2.1,t21.2.2.1 ++ ([(⟨t1.2.2.2.2.1,t1.2.2.2.2.2.1,t1.2.2.2.2.2.2.1,t1.2.2.2.2.2.2.2.1⟩ : S63)] : List S63),a2,1,t1.1,t1.2.1,t1.2.2.1,t1.2.2.2.1,true) else none
def impl_Taken.f (k : Nat) (a0_0 : Int) (a0_1 : Int) (l0_2 : List S63) (a0_3 : Int) (a0_4 : Int) (l1_0 : List S63) (a1_1 : Int) (a1_2 : Int) (a1_3 : Int) (a2 : Int) : Option (Int × Int × (List S63) × Int × Int × (List S63) × Int × Int × Int × Bool):=(impl_Drained.f l1_0 a1_1 a1_2 a1_3).bind fun t1=>(impl_SenderOk.f k a0_0 a0_1 l0_2 a0_3 a0_4).bind fun t3=>(if t3 = true then ((impl_RingOk.f k l1_0 a1_1 a1_2 a1_3).bind fun t6=>(if t6 = true then (if (l0_2.length : Int) = 3 then impl_Taken.j0 k a0_0 a0_1 l0_2 a0_3 a0_4 l1_0 a1_1 a1_2 a1_3 a2 t1 true else (if t1.2.2.2.2.2.2.2.2 = true then ((impl_within.f a2 0 1000000000).bind fun t11=>impl_Taken.j0 k a0_0 a0_1 l0_2 a0_3 a0_4 l1_0 a1_1 a1_2 a1_3 a2 t1 (!t11)) else impl_Taken.j0 k a0_0 a0_1 l0_2 a0_3 a0_4 l1_0 a1_1 a1_2 a1_3 a2 t1 true)) else impl_Taken.j0 k a0_0 a0_1 l0_2 a0_3 a0_4 l1_0 a1_1 a1_2 a1_3 a2 t1 true)) else impl_Taken.j0 k a0_0 a0_1 l0_2 a0_3 a0_4 l1_0 a1_1 a1_2 a1_3 a2 t1 true)
theorem impl_Taken.ok {k : Nat} {a0_0 : Int} {a0_1 : Int} {l0_2 : List S63} {a0_3 : Int} {a0_4 : Int} {l1_0 : List S63} {a1_1 : Int} {a1_2 : Int} {a1_3 : Int} {a2 : Int} {r : Int × Int × (List S63) × Int × Int × (List S63) × Int × Int × Int × Bool} (H : impl_Taken.f k a0_0 a0_1 l0_2 a0_3 a0_4 l1_0 a1_1 a1_2 a1_3 a2 = some r) : ACalls Tryz.prog 156 [] [.agg [.lit (.int .i64 a0_0),.lit (.int .i64 a0_1),.sl .o 4 (l0_2.map e63),.lit (.int .i64 a0_3),.lit (.int .i64 a0_4)],.agg [.sl .o 4 (l1_0.map e63),.lit (.int .i64 a1_1),.lit (.int .i64 a1_2),.lit (.int .i64 a1_3)],.lit (.int .i64 a2)] [(0,.row 63 4 (r.2.2.1.map e63)),(1,.row 63 4 (r.2.2.2.2.2.1.map e63))] (.tup [.agg [.lit (.int .i64 r.1),.lit (.int .i64 r.2.1),.row 0,.lit (.int .i64 r.2.2.2.1),.lit (.int .i64 r.2.2.2.2.1)],.agg [.row 1,.lit (.int .i64 r.2.2.2.2.2.2.1),.lit (.int .i64 r.2.2.2.2.2.2.2.1),.lit (.int .i64 r.2.2.2.2.2.2.2.2.1)],.lit (.bool r.2.2.2.2.2.2.2.2.2)]):=by
 refine acalls (fn:=Tryz.f156) (nt:=59) Tryz.func156 rfl rfl (Nat.le_of_ble_eq_true rfl) fun E hE=>?_
 rw [impl_Taken.f] at H
 refine aw_grp1<|wk_start<|kb g0 (bxA 0)<|kb g0 (bxA 1)<|kb g0 (alc 2 [.int .i64 0,.int .i64 0,.slice none 0 0,.int .i64 0,.int .i64 0] [.lit (.int .i64 0),.lit (.int .i64 0),.lit (.slice none 0 0),.lit (.int .i64 0),.lit (.int .i64 0)])<|kb g0 (alc 3 [.slice none 0 0,.int .i64 0,.int .i64 0,.int .i64 0] [.lit (.slice none 0 0),.lit (.int .i64 0),.lit (.int .i64 0),.lit (.int .i64 0)])<|kv g0 asg<|wk_end<|ac_next<|aw_grp1<|wk_start<|kv g0 (ldBA 4 [.sl .o 4 (l1_0.map e63),.lit (.int .i64 a1_1),.lit (.int .i64 a1_2),.lit (.int .i64 a1_3)]) ?_
 obtain ⟨t1,A2,H⟩:=of_bind H
 refine kcS1 15 (.tup [.agg [.row 4,.lit (.int .i64 t1.2.1),.lit (.int .i64 t1.2.2.1),.lit (.int .i64 t1.2.2.2.1)],.agg [.lit (.int .i64 t1.2.2.2.2.1),.lit (.int .i64 t1.2.2.2.2.2.1),.lit (.int .i64 t1.2.2.2.2.2.2.1),.lit (.int .i64 t1.2.2.2.2.2.2.2.1)],.lit (.bool t1.2.2.2.2.2.2.2.2)]) [(4,.row 63 4 (t1.1.map e63))] g0 (cal (impl_Drained.ok A2) [4] 9999 .n (hf:=Tryz.func219)) rfl rfl<|kv g0 mv<|kv g0 ext<|kv g0 ext<|kv g0 ext<|kb g0 (alc 5 [.slice none 0 0,.int .i64 0,.int .i64 0,.int .i64 0] [.lit (.slice none 0 0),.lit (.int .i64 0),.lit (.int .i64 0),.lit (.int .i64 0)])<|kb g0 (alc 6 [.int .i64 0,.int .i64 0,.int .i64 0,.int .i64 0] [.lit (.int .i64 0),.lit (.int .i64 0),.lit (.int .i64 0),.lit (.int .i64 0)])<|ks g0 (stB 4 [.row 4,.lit (.int .i64 t1.2.1),.lit (.int .i64 t1.2.2.1),.lit (.int .i64 t1.2.2.2.1)])<|ks g0 (stB 4 [.lit (.int .i64 t1.2.2.2.2.1),.lit (.int .i64 t1.2.2.2.2.2.1),.lit (.int .i64 t1.2.2.2.2.2.2.1),.lit (.int .i64 t1.2.2.2.2.2.2.2.1)])<|kv g0 asg<|wk_end<|ac_next<|aw_grp1 ?_
 refine aw_cut1 (J:=fun K_=>∀ (k_ : Nat) (p13 : Bool),k_ ≤ k→impl_Taken.j0 k_ a0_0 a0_1 l0_2 a0_3 a0_4 l1_0 a1_1 a1_2 a1_3 a2 t1 p13 = some r→ACont E 59 ⟨[(2,.lit (.int .i64 a2)),(3,.box 0 0),(4,.box 1 0),(6,.box 2 0),(7,.box 3 0),(9,.box 5 0),(10,.box 6 0),(41,.lit (.bool p13))],[(0,.box 65 [.lit (.int .i64 a0_0),.lit (.int .i64 a0_1),.sl .o 4 (l0_2.map e63),.lit (.int .i64 a0_3),.lit (.int .i64 a0_4)]),(1,.box 67 [.sl .o 4 (l1_0.map e63),.lit (.int .i64 a1_1),.lit (.int .i64 a1_2),.lit (.int .i64 a1_3)]),(2,.box 65 [.lit (.int .i64 0),.lit (.int .i64 0),.lit (.slice none 0 0),.lit (.int .i64 0),.lit (.int .i64 0)]),(3,.box 67 [.lit (.slice none 0 0),.lit (.int .i64 0),.lit (.int .i64 0),.lit (.int .i64 0)]),(4,.row 63 4 (t1.1.map e63)),(5,.box 67 [.row 4,.lit (.int .i64 t1.2.1),.lit (.int .i64 t1.2.2.1),.lit (.int .i64 t1.2.2.2.1)]),(6,.box 63 [.lit (.int .i64 t1.2.2.2.2.1),.lit (.int .i64 t1.2.2.2.2.2.1),.lit (.int .i64 t1.2.2.2.2.2.2.1),.lit (.int .i64 t1.2.2.2.2.2.2.2.1)])]⟩ K_) ?_ ?_
 ·intro K_ hJ20
  refine wk_start<|kv g0 (ldBA 5 [.lit (.int .i64 a0_0),.lit (.int .i64 a0_1),.sl .o 4 (l0_2.map e63),.lit (.int .i64 a0_3),.lit (.int .i64 a0_4)]) ?_
  obtain ⟨t3,A4,H⟩:=of_bind H
  refine kcS0 20 (.lit (.bool t3)) [] g0 (cal (impl_SenderOk.ok A4) [] 9999 .n (hf:=Tryz.func157)) rfl rfl<|kv g0 not_<|kv g0 mv ?_
  by_cases c5 : t3 = true
  ·rw [if_pos c5] at H
   refine kv (g1 (nF c5)) (ldBA 4 [.sl .o 4 (l1_0.map e63),.lit (.int .i64 a1_1),.lit (.int .i64 a1_2),.lit (.int .i64 a1_3)]) ?_
   obtain ⟨t6,A7,H⟩:=of_bind H
   refine kcS0 24 (.lit (.bool t6)) [] (g1 (nF c5)) (cal (impl_RingOk.ok A7) [] 9999 .n (hf:=Tryz.func220)) rfl rfl<|kv (g1 (nF c5)) not_ ?_
   refine kv g0 (pkF (nF c5))<|kv g0 mv ?_
   by_cases c8 : t6 = true
   ·rw [if_pos c8] at H
    refine kv (g1 (nF c8)) (faB 2 2)<|kv (g1 (nF c8)) ldB<|kv (g1 (nF c8)) (lnS lenE)<|kv (g1 (nF c8)) eql ?_
    refine kv g0 (pkF (nF c8))<|kv g0 mv ?_
    by_cases c9 : (l0_2.length : Int) = 3
    ·rw [if_pos c9] at H
     refine kx (hF (eT c9)) ?_
     refine kx (hF (eT c9)) ?_
     refine kv g0 (pkT (eT c9))<|kv g0 mv<|kx (hF rfl) ?_
     refine kx (hF rfl) ?_
     refine kx (hF rfl) ?_
     refine kv g0 (pkT rfl)<|wk_end<|ac_k ?_
     exact acw hE [(0,0),(1,1),(2,2),(3,3),(4,4),(5,5),(6,6)] 9999 (hJ20 k true (Nat.le_refl _) H)
    rw [if_neg c9] at H
    refine kv (g1 (eF c9)) mv<|kv (g1 (eF c9)) not_ ?_
    refine kv g0 (pkF (eF c9))<|kv g0 mv ?_
    by_cases c10 : t1.2.2.2.2.2.2.2.2 = true
    ·rw [if_pos c10] at H
     refine kv (g1 (nF c10)) mv ?_
     obtain ⟨t11,A12,H⟩:=of_bind H
     refine kcS0 39 (.lit (.bool t11)) [] (g1 (nF c10)) (cal (impl_within.ok A12) [] 9999 .n (hf:=Tryz.func64)) rfl rfl<|kv (g1 (nF c10)) not_ ?_
     refine kv g0 (pkF (nF c10))<|wk_end<|ac_k ?_
     exact acw hE [(0,0),(1,1),(2,2),(3,3),(4,4),(5,5),(6,6)] 9999 (hJ20 k (!t11) (Nat.le_refl _) H)
    rw [if_neg c10] at H
    refine kx (hF (nT (bF c10))) ?_
    refine kx (hF (nT (bF c10))) ?_
    refine kx (hF (nT (bF c10))) ?_
    refine kv g0 (pkT (nT (bF c10)))<|wk_end<|ac_k ?_
    exact acw hE [(0,0),(1,1),(2,2),(3,3),(4,4),(5,5),(6,6)] 9999 (hJ20 k true (Nat.le_refl _) H)
   rw [if_neg c8] at H
   refine kx (hF (nT (bF c8))) ?_
   refine kx (hF (nT (bF c8))) ?_
   refine kx (hF (nT (bF c8))) ?_
   refine kx (hF (nT (bF c8))) ?_
   refine kv g0 (pkT (nT (bF c8)))<|kv g0 mv<|kx (hF rfl) ?_
   refine kx (hF rfl) ?_
   refine kv g0 (pkT rfl)<|kv g0 mv<|kx (hF rfl) ?_
   refine kx (hF rfl) ?_
   refine kx (hF rfl) ?_
   refine kv g0 (pkT rfl)<|wk_end<|ac_k ?_
   exact acw hE [(0,0),(1,1),(2,2),(3,3),(4,4),(5,5),(6,6)] 9999 (hJ20 k true (Nat.le_refl _) H)
  rw [if_neg c5] at H
  refine kx (hF (nT (bF c5))) ?_
  refine kx (hF (nT (bF c5))) ?_
  refine kx (hF (nT (bF c5))) ?_
  refine kv g0 (pkT (nT (bF c5)))<|kv g0 mv<|kx (hF rfl) ?_
  refine kx (hF rfl) ?_
  refine kx (hF rfl) ?_
  refine kx (hF rfl) ?_
  refine kv g0 (pkT rfl)<|kv g0 mv<|kx (hF rfl) ?_
  refine kx (hF rfl) ?_
  refine kv g0 (pkT rfl)<|kv g0 mv<|kx (hF rfl) ?_
  refine kx (hF rfl) ?_
  refine kx (hF rfl) ?_
  refine kv g0 (pkT rfl)<|wk_end<|ac_k ?_
  exact acw hE [(0,0),(1,1),(2,2),(3,3),(4,4),(5,5),(6,6)] 9999 (hJ20 k true (Nat.le_refl _) H)
 intro k_ p13 hk_ H
 rcases k_ with _ | k14
 ·rw [impl_Taken.j0.eq_1] at H;cases H
 have hk14 : k14 ≤ k:=by omega
 clear hk_
 rw [impl_Taken.j0.eq_2] at H
 by_cases c15 : p13 = true
 ·rw [if_pos c15] at H
  refine aw_ifT ?_ c15
  refine aw_grp1<|wk_start<|kv g0 (ldBA 5 [.lit (.int .i64 a0_0),.lit (.int .i64 a0_1),.sl .o 4 (l0_2.map e63),.lit (.int .i64 a0_3),.lit (.int .i64 a0_4)]) ?_
  obtain ⟨t16,A17,H⟩:=of_bind H
  refine kcS1 43 (.agg [.lit (.int .i64 t16.1),.lit (.int .i64 t16.2.1),.row 7,.lit (.int .i64 t16.2.2.2.1),.lit (.int .i64 t16.2.2.2.2)]) [(7,.row 63 4 (t16.2.2.1.map e63))] g0 (cal (impl_copySender.ok A17) [7] 9999 .n (hf:=Tryz.func154)) rfl rfl<|kv g0 (ldBA 4 [.sl .o 4 (l1_0.map e63),.lit (.int .i64 a1_1),.lit (.int .i64 a1_2),.lit (.int .i64 a1_3)]) ?_
  obtain ⟨t18,A19,H⟩:=of_bind H
  refine kcS1 45 (.agg [.row 8,.lit (.int .i64 t18.2.1),.lit (.int .i64 t18.2.2.1),.lit (.int .i64 t18.2.2.2)]) [(8,.row 63 4 (t18.1.map e63))] g0 (cal (impl_copyRing.ok A19) [8] 9999 .n (hf:=Tryz.func153)) rfl rfl<|ks g0 (stB 5 [.lit (.int .i64 t16.1),.lit (.int .i64 t16.2.1),.row 7,.lit (.int .i64 t16.2.2.2.1),.lit (.int .i64 t16.2.2.2.2)])<|ks g0 (stB 4 [.row 8,.lit (.int .i64 t18.2.1),.lit (.int .i64 t18.2.2.1),.lit (.int .i64 t18.2.2.2)])<|kv g0 asg<|wk_end_draw hM (by kernel_rfl)<|ac_next<|aw_ret<|ac_thenR ?_
  obtain rfl:=Option.some.inj H
  exact acr hE [.cell 6 65,.cell 7 67,.tmp 8] (rcA 5 (rcA 4 (.tmp .nil))) (.many _ _ _) [(0,7),(1,8)] 9999
 rw [if_neg c15] at H
 refine aw_ifF ?_ (bF c15)
 refine aw_skip<|ac_next<|aw_grp1<|wk_start<|kv g0 (ldBA 5 [.lit (.int .i64 a0_0),.lit (.int .i64 a0_1),.sl .o 4 (l0_2.map e63),.lit (.int .i64 a0_3),.lit (.int .i64 a0_4)]) ?_
 obtain ⟨t21,A22,H⟩:=of_bind H
 refine kcS1 47 (.agg [.lit (.int .i64 t21.1),.lit (.int .i64 t21.2.1),.row 9,.lit (.int .i64 t21.2.2.2.1),.lit (.int .i64 t21.2.2.2.2)]) [(9,.row 63 4 (t21.2.2.1.map e63))] g0 (cal (impl_copySender.ok A22) [9] 9999 .n (hf:=Tryz.func154)) rfl rfl<|kb g0 (alc 10 [.int .i64 0,.int .i64 0,.slice none 0 0,.int .i64 0,.int .i64 0] [.lit (.int .i64 0),.lit (.int .i64 0),.lit (.slice none 0 0),.lit (.int .i64 0),.lit (.int .i64 0)])<|ks g0 (stB 5 [.lit (.int .i64 t21.1),.lit (.int .i64 t21.2.1),.row 9,.lit (.int .i64 t21.2.2.2.1),.lit (.int .i64 t21.2.2.2.2)])<|wk_end<|ac_next<|aw_grp1<|wk_start<|kv g0 (faB 2 2)<|kv g0 ldB<|kv g0 (ldBA 4 [.lit (.int .i64 t1.2.2.2.2.1),.lit (.int .i64 t1.2.2.2.2.2.1),.lit (.int .i64 t1.2.2.2.2.2.2.1),.lit (.int .i64 t1.2.2.2.2.2.2.2.1)])<|kb g0 (bsl 11 63 4 [.int .i64 0,.int .i64 0,.int .i64 0,.int .i64 0] (([(⟨t1.2.2.2.2.1,t1.2.2.2.2.2.1,t1.2.2.2.2.2.2.1,t1.2.2.2.2.2.2.2.1⟩ : S63)] : List S63).map e63)) ?_
 obtain ⟨c23,H⟩:=of_if H
 refine kc g0 (apR 12 63 4 32 [.int .i64 0,.int .i64 0,.int .i64 0,.int .i64 0] ((t21.2.2.1 ++ ([(⟨t1.2.2.2.2.1,t1.2.2.2.2.2.1,t1.2.2.2.2.2.2.1,t1.2.2.2.2.2.2.2.1⟩ : S63)] : List S63)).map e63) (.row rfl) (apb c23 rfl) appE)<|kv g0 (faB 2 2)<|ks g0 (stB 1 [.lit (.int .i64 t21.1),.lit (.int .i64 t21.2.1),.row 12,.lit (.int .i64 t21.2.2.2.1),.lit (.int .i64 t21.2.2.2.2)])<|wk_end<|ac_next<|aw_grp1<|wk_start<|kv g0 mv<|kv g0 (faB 3 3)<|ks g0 (stB 1 [.lit (.int .i64 t21.1),.lit (.int .i64 t21.2.1),.row 12,.lit (.int .i64 a2),.lit (.int .i64 t21.2.2.2.2)])<|wk_end<|ac_next<|aw_grp1<|wk_start<|kv g0 (faB 4 4)<|ks g0 (stB 1 [.lit (.int .i64 t21.1),.lit (.int .i64 t21.2.1),.row 12,.lit (.int .i64 a2),.lit (.int .i64 1)])<|wk_end<|ac_next<|aw_grp1<|wk_start<|kv g0 (ldBA 5 [.lit (.int .i64 t21.1),.lit (.int .i64 t21.2.1),.row 12,.lit (.int .i64 a2),.lit (.int .i64 1)])<|kv g0 (ldBA 4 [.row 4,.lit (.int .i64 t1.2.1),.lit (.int .i64 t1.2.2.1),.lit (.int .i64 t1.2.2.2.1)])<|ks g0 (stB 5 [.lit (.int .i64 t21.1),.lit (.int .i64 t21.2.1),.row 12,.lit (.int .i64 a2),.lit (.int .i64 1)])<|ks g0 (stB 4 [.row 4,.lit (.int .i64 t1.2.1),.lit (.int .i64 t1.2.2.1),.lit (.int .i64 t1.2.2.2.1)])<|kv g0 asg<|wk_end_draw hM (by kernel_rfl)<|ac_next<|aw_ret ?_
 obtain rfl:=Option.some.inj H
 exact acr hE [.cell 6 65,.cell 7 67,.tmp 8] (rcA 5 (rcA 4 (.tmp .nil))) (.many _ _ _) [(0,12),(1,4)] 9999
/-! impl_World_drain -/
def impl_World_drain.f (k : Nat) (l0_0 : List (List (List S234))) (l0_1 : List S67) (l0_2 : List S65) (l0_3 : List S139) (l0_4 : List Int) (l0_5 : List S154) (a0_6 : Int) (l0_7 : List Int) (l0_8 : List S151) (a0_9 : Int) (l0_10 : List Int) (l0_11 : List S59) (a1 : Int) : Option (Bool × (List (List (List S234))) × (List S67) × (List S65) × (List S139) × (List Int) × (List S154) × Int × (List Int) × (List S151) × Int × (List Int) × (List S59)):=if 0 ≤ a1 then (if a1 < (l0_2.length : Int) then (if a1 < (l0_1.length : Int) then ((impl_Taken.f k ((rd_T65 l0_2 a1).f0) ((rd_T65 l0_2 a1).f1) ((rd_T65 l0_2 a1).f2) ((rd_T65 l0_2 a1).f3) ((rd_T65 l0_2 a1).f4) ((rd_T67 l0_1 a1).f0) ((rd_T67 l0_1 a1).f1) ((rd_T67 l0_1 a1).f2) ((rd_T67 l0_1 a1).f3) a0_9).bind fun t4=>some (t4.2.2.2.2.2.2.2.2.2,l0_0,l0_1.set a1.toNat (⟨t4.2.2.2.2.2.1,t4.2.2.2.2.2.2.1,t4.2.2.2.2.2.2.2.1,t4.2.2.2.2.2.2.2.2.1⟩ : S67),l0_2.set a1.toNat (⟨t4.1,t4.2.1,t4.2.2.1,t4.2.2.2.1,t4.2.2.2.2.1⟩ : S65),l0_3,l0_4,l0_5,a0_6,l0_7,l0_8,a0_9,l0_10,l0_11)) else none) else none) else none
theorem impl_World_drain.ok {k : Nat} {l0_0 : List (List (List S234))} {l0_1 : List S67} {l0_2 : List S65} {l0_3 : List S139} {l0_4 : List Int} {l0_5 : List S154} {a0_6 : Int} {l0_7 : List Int} {l0_8 : List S151} {a0_9 : Int} {l0_10 : List Int} {l0_11 : List S59} {a1 : Int} {r : Bool × (List (List (List S234))) × (List S67) × (List S65) × (List S139) × (List Int) × (List S154) × Int × (List Int) × (List S151) × Int × (List Int) × (List S59)} (H : impl_World_drain.f k l0_0 l0_1 l0_2 l0_3 l0_4 l0_5 a0_6 l0_7 l0_8 a0_9 l0_10 l0_11 a1 = some r) : ACalls Tryz.prog 67 [(0,.box 45 [.row 1,.row 2,.row 3,.row 4,.row 5,.row 6,.lit (.int .i64 a0_6),.row 7,.row 8,.lit (.int .i64 a0_9),.row 9,.row 10]),(1,.drow false [.own 147 [.own 234 []]] 145 1 (l0_0.map (eL 1 (eL 4 (e234))))),(2,.drow false ds67 67 4 (l0_1.map e67)),(3,.drow false ds65 65 5 (l0_2.map e65)),(4,.row 139 6 (l0_3.map e139)),(5,.row 3 1 (l0_4.map (eI .i64))),(6,.row 154 6 (l0_5.map e154)),(7,.row 3 1 (l0_7.map (eI .i64))),(8,.row 151 3 (l0_8.map e151)),(9,.row 3 1 (l0_10.map (eI .i64))),(10,.row 59 4 (l0_11.map e59))] [.box 0 0,.lit (.int .i64 a1)] [(0,.box 45 [.row 1,.row 2,.row 3,.row 4,.row 5,.row 6,.lit (.int .i64 r.2.2.2.2.2.2.2.1),.row 7,.row 8,.lit (.int .i64 r.2.2.2.2.2.2.2.2.2.2.1),.row 9,.row 10]),(1,.drow false [.own 147 [.own 234 []]] 145 1 (r.2.1.map (eL 1 (eL 4 (e234))))),(2,.drow false ds67 67 4 (r.2.2.1.map e67)),(3,.drow false ds65 65 5 (r.2.2.2.1.map e65)),(4,.row 139 6 (r.2.2.2.2.1.map e139)),(5,.row 3 1 (r.2.2.2.2.2.1.map (eI .i64))),(6,.row 154 6 (r.2.2.2.2.2.2.1.map e154)),(7,.row 3 1 (r.2.2.2.2.2.2.2.2.1.map (eI .i64))),(8,.row 151 3 (r.2.2.2.2.2.2.2.2.2.1.map e151)),(9,.row 3 1 (r.2.2.2.2.2.2.2.2.2.2.2.1.map (eI .i64))),(10,.row 59 4 (r.2.2.2.2.2.2.2.2.2.2.2.2.map e59))] (.lit (.bool r.1)):=by
 refine acalls (fn:=Tryz.f67) (nt:=46) Tryz.func67 rfl rfl (Nat.le_of_ble_eq_true rfl) fun E hE=>?_
 rw [impl_World_drain.f] at H
 refine aw_grp1<|wk_start<|kv g0 asg<|wk_end<|ac_next<|aw_grp1<|wk_start<|kv g0 mv<|kv g0 nilB<|kv g0 (faB 2 2)<|kv g0 ldB<|kv g0 mv ?_
 obtain ⟨c1,H⟩:=of_if H
 obtain ⟨c2,H⟩:=of_if H
 refine kv g0 (ixD 65 c1 (ltE c2))<|kcS2 15 (.agg [.lit (.int .i64 ((rd_T65 l0_2 a1).f0)),.lit (.int .i64 ((rd_T65 l0_2 a1).f1)),.row 11,.lit (.int .i64 ((rd_T65 l0_2 a1).f3)),.lit (.int .i64 ((rd_T65 l0_2 a1).f4))]) [(3,.drow true ds65 65 5 ((l0_2.map e65).set a1.toNat (.agg [.lit (.int .i64 ((rd_T65 l0_2 a1).f0)),.lit (.int .i64 ((rd_T65 l0_2 a1).f1)),.row 11,.lit (.int .i64 ((rd_T65 l0_2 a1).f3)),.lit (.int .i64 ((rd_T65 l0_2 a1).f4))]))),(11,.row 63 4 (((rd_T65 l0_2 a1).f2).map e63))] g0 (okv_gh (tk 3 11 2 (.agg [.lit (.int .i64 ((rd_T65 l0_2 a1).f0)),.lit (.int .i64 ((rd_T65 l0_2 a1).f1)),.row 11,.lit (.int .i64 ((rd_T65 l0_2 a1).f3)),.lit (.int .i64 ((rd_T65 l0_2 a1).f4))]) (getE (f:=e65) (z:=z65) c1 c2) rfl rfl) (ldDA 5 [.lit (.int .i64 ((rd_T65 l0_2 a1).f0)),.lit (.int .i64 ((rd_T65 l0_2 a1).f1)),.row 11,.lit (.int .i64 ((rd_T65 l0_2 a1).f3)),.lit (.int .i64 ((rd_T65 l0_2 a1).f4))] (setXG (f:=e65) (X:=.agg [.lit (.int .i64 ((rd_T65 l0_2 a1).f0)),.lit (.int .i64 ((rd_T65 l0_2 a1).f1)),.row 11,.lit (.int .i64 ((rd_T65 l0_2 a1).f3)),.lit (.int .i64 ((rd_T65 l0_2 a1).f4))]) c1 c2) rfl)).owp rfl rfl<|kv g0 mv<|kv g0 nilB<|kv g0 (faB 1 1)<|kv g0 ldB<|kv g0 mv ?_
 obtain ⟨c3,H⟩:=of_if H
 refine kv g0 (ixD 67 c1 (ltE c3))<|kcS2 22 (.agg [.row 12,.lit (.int .i64 ((rd_T67 l0_1 a1).f1)),.lit (.int .i64 ((rd_T67 l0_1 a1).f2)),.lit (.int .i64 ((rd_T67 l0_1 a1).f3))]) [(2,.drow true ds67 67 4 ((l0_1.map e67).set a1.toNat (.agg [.row 12,.lit (.int .i64 ((rd_T67 l0_1 a1).f1)),.lit (.int .i64 ((rd_T67 l0_1 a1).f2)),.lit (.int .i64 ((rd_T67 l0_1 a1).f3))]))),(12,.row 63 4 (((rd_T67 l0_1 a1).f0).map e63))] g0 (okv_gh (tk 2 12 0 (.agg [.row 12,.lit (.int .i64 ((rd_T67 l0_1 a1).f1)),.lit (.int .i64 ((rd_T67 l0_1 a1).f2)),.lit (.int .i64 ((rd_T67 l0_1 a1).f3))]) (getE (f:=e67) (z:=z67) c1 c3) rfl rfl) (ldDA 4 [.row 12,.lit (.int .i64 ((rd_T67 l0_1 a1).f1)),.lit (.int .i64 ((rd_T67 l0_1 a1).f2)),.lit (.int .i64 ((rd_T67 l0_1 a1).f3))] (setXG (f:=e67) (X:=.agg [.row 12,.lit (.int .i64 ((rd_T67 l0_1 a1).f1)),.lit (.int .i64 ((rd_T67 l0_1 a1).f2)),.lit (.int .i64 ((rd_T67 l0_1 a1).f3))]) c1 c3) rfl)).owp rfl rfl<|kv g0 mv<|kv g0 nilB<|kv g0 (faB 9 9)<|kv g0 ldB ?_
 obtain ⟨t4,A5,H⟩:=of_bind H
 refine kcS2 27 (.tup [.agg [.lit (.int .i64 t4.1),.lit (.int .i64 t4.2.1),.row 13,.lit (.int .i64 t4.2.2.2.1),.lit (.int .i64 t4.2.2.2.2.1)],.agg [.row 14,.lit (.int .i64 t4.2.2.2.2.2.2.1),.lit (.int .i64 t4.2.2.2.2.2.2.2.1),.lit (.int .i64 t4.2.2.2.2.2.2.2.2.1)],.lit (.bool t4.2.2.2.2.2.2.2.2.2)]) [(13,.row 63 4 (t4.2.2.1.map e63)),(14,.row 63 4 (t4.2.2.2.2.2.1.map e63))] g0 (cal (impl_Taken.ok A5) [13,14] 9999 .n (hf:=Tryz.func156)) rfl rfl<|kv g0 mv<|kv g0 ext<|kv g0 ext<|kv g0 ext<|kb g0 (alc 15 [.int .i64 0,.int .i64 0,.slice none 0 0,.int .i64 0,.int .i64 0] [.lit (.int .i64 0),.lit (.int .i64 0),.lit (.slice none 0 0),.lit (.int .i64 0),.lit (.int .i64 0)])<|kb g0 (alc 16 [.slice none 0 0,.int .i64 0,.int .i64 0,.int .i64 0] [.lit (.slice none 0 0),.lit (.int .i64 0),.lit (.int .i64 0),.lit (.int .i64 0)])<|ks g0 (stB 5 [.lit (.int .i64 t4.1),.lit (.int .i64 t4.2.1),.row 13,.lit (.int .i64 t4.2.2.2.1),.lit (.int .i64 t4.2.2.2.2.1)])<|ks g0 (stB 4 [.row 14,.lit (.int .i64 t4.2.2.2.2.2.2.1),.lit (.int .i64 t4.2.2.2.2.2.2.2.1),.lit (.int .i64 t4.2.2.2.2.2.2.2.2.1)])<|kv g0 asg<|wk_end_draw hM (by kernel_rfl)<|ac_next<|aw_grp1<|wk_start<|kv g0 mv<|kv g0 nilB<|kv g0 (faB 2 2)<|kv g0 ldB<|kv g0 mv<|kv g0 (ldBA 5 [.lit (.int .i64 t4.1),.lit (.int .i64 t4.2.1),.row 13,.lit (.int .i64 t4.2.2.2.1),.lit (.int .i64 t4.2.2.2.2.1)])<|kv g0 (ixD 65 c1 (ltS (ltE c2)))<|ks g0 (stD 5 ds65 0 5 [.lit (.int .i64 t4.1),.lit (.int .i64 t4.2.1),.row 13,.lit (.int .i64 t4.2.2.2.1),.lit (.int .i64 t4.2.2.2.2.1)] (.agg [.lit (.int .i64 t4.1),.lit (.int .i64 t4.2.1),.row 13,.lit (.int .i64 t4.2.2.2.1),.lit (.int .i64 t4.2.2.2.2.1)]) (setXG (f:=e65) (X:=.agg [.lit (.int .i64 ((rd_T65 l0_2 a1).f0)),.lit (.int .i64 ((rd_T65 l0_2 a1).f1)),.row 11,.lit (.int .i64 ((rd_T65 l0_2 a1).f3)),.lit (.int .i64 ((rd_T65 l0_2 a1).f4))]) c1 c2) setXX)<|wk_end_draw hM (by kernel_rfl)<|ac_next<|aw_grp1<|wk_start<|kv g0 mv<|kv g0 nilB<|kv g0 (faB 1 1)<|kv g0 ldB<|kv g0 mv<|kv g0 (ldBA 4 [.row 14,.lit (.int .i64 t4.2.2.2.2.2.2.1),.lit (.int .i64 t4.2.2.2.2.2.2.2.1),.lit (.int .i64 t4.2.2.2.2.2.2.2.2.1)])<|kv g0 (ixD 67 c1 (ltS (ltE c3)))<|ks g0 (stD 4 ds67 0 4 [.row 14,.lit (.int .i64 t4.2.2.2.2.2.2.1),.lit (.int .i64 t4.2.2.2.2.2.2.2.1),.lit (.int .i64 t4.2.2.2.2.2.2.2.2.1)] (.agg [.row 14,.lit (.int .i64 t4.2.2.2.2.2.2.1),.lit (.int .i64 t4.2.2.2.2.2.2.2.1),.lit (.int .i64 t4.2.2.2.2.2.2.2.2.1)]) (setXG (f:=e67) (X:=.agg [.row 12,.lit (.int .i64 ((rd_T67 l0_1 a1).f1)),.lit (.int .i64 ((rd_T67 l0_1 a1).f2)),.lit (.int .i64 ((rd_T67 l0_1 a1).f3))]) c1 c3) setXX)<|wk_end_draw hM (by kernel_rfl)<|ac_next<|aw_grp1<|wk_start<|kv g0 mv<|kv g0 asg ?_
 refine wk_end<|ac_next<|aw_ret<|ac_g2 (pk 2 14 0 (.agg [.sl .n 4 (t4.2.2.2.2.2.1.map e63),.lit (.int .i64 t4.2.2.2.2.2.2.1),.lit (.int .i64 t4.2.2.2.2.2.2.2.1),.lit (.int .i64 t4.2.2.2.2.2.2.2.2.1)]) (setXG (f:=e67) (X:=.agg [.row 14,.lit (.int .i64 t4.2.2.2.2.2.2.1),.lit (.int .i64 t4.2.2.2.2.2.2.2.1),.lit (.int .i64 t4.2.2.2.2.2.2.2.2.1)]) c1 c3) setXX rfl)<|ac_g1 (sealD 2 (setSeal (f:=e67) a1.toNat (⟨t4.2.2.2.2.2.1,t4.2.2.2.2.2.2.1,t4.2.2.2.2.2.2.2.1,t4.2.2.2.2.2.2.2.2.1⟩ : S67)) cl67)<|ac_g2 (pk 3 13 2 (.agg [.lit (.int .i64 t4.1),.lit (.int .i64 t4.2.1),.sl .n 4 (t4.2.2.1.map e63),.lit (.int .i64 t4.2.2.2.1),.lit (.int .i64 t4.2.2.2.2.1)]) (setXG (f:=e65) (X:=.agg [.lit (.int .i64 t4.1),.lit (.int .i64 t4.2.1),.row 13,.lit (.int .i64 t4.2.2.2.1),.lit (.int .i64 t4.2.2.2.2.1)]) c1 c2) setXX rfl)<|ac_g1 (sealD 3 (setSeal (f:=e65) a1.toNat (⟨t4.1,t4.2.1,t4.2.2.1,t4.2.2.2.1,t4.2.2.2.2.1⟩ : S65)) cl65) ?_
 obtain rfl:=Option.some.inj H
 exact acr hE [.tmp 4] (.tmp .nil) (.one _) [(0,0),(1,1),(2,2),(3,3),(4,4),(5,5),(6,6),(7,7),(8,8),(9,9),(10,10)] 9999
/-! impl_Again -/
def impl_Again.f (k : Nat) (a0_0 : Int) (a0_1 : Int) (l0_2 : List S63) (a0_3 : Int) (a0_4 : Int) (a1 : Int) : Option (Int × Int × (List S63) × Int × Int × Bool):=(impl_copySender.f a0_0 a0_1 l0_2 a0_3 a0_4).bind fun t1=>(impl_SenderOk.f k a0_0 a0_1 l0_2 a0_3 a0_4).bind fun t3=>(if t3 = true then (if (l0_2.length : Int) = 0 then some (t1.1,t1.2.1,t1.2.2.1,t1.2.2.2.1,t1.2.2.2.2,false) else if (wrap64 (a0_3 + a0_4)) > a1 then some (t1.1,t1.2.1,t1.2.2.1,t1.2.2.2.1,t1.2.2.2.2,false) else some (t1.1,t1.2.1,t1.2.2.1,a1,min 4 (wrap64 (2 * a0_4)),true)) else some (t1.1,t1.2.1,t1.2.2.1,t1.2.2.2.1,t1.2.2.2.2,false))
theorem impl_Again.ok {k : Nat} {a0_0 : Int} {a0_1 : Int} {l0_2 : List S63} {a0_3 : Int} {a0_4 : Int} {a1 : Int} {r : Int × Int × (List S63) × Int × Int × Bool} (H : impl_Again.f k a0_0 a0_1 l0_2 a0_3 a0_4 a1 = some r) : ACalls Tryz.prog 68 [] [.agg [.lit (.int .i64 a0_0),.lit (.int .i64 a0_1),.sl .o 4 (l0_2.map e63),.lit (.int .i64 a0_3),.lit (.int .i64 a0_4)],.lit (.int .i64 a1)] [(0,.row 63 4 (r.2.2.1.map e63))] (.tup [.agg [.lit (.int .i64 r.1),.lit (.int .i64 r.2.1),.row 0,.lit (.int .i64 r.2.2.2.1),.lit (.int .i64 r.2.2.2.2.1)],.lit (.bool r.2.2.2.2.2)]):=by
 refine acalls (fn:=Tryz.f68) (nt:=36) Tryz.func68 rfl rfl (Nat.le_of_ble_eq_true rfl) fun E hE=>?_
 rw [impl_Again.f] at H
 refine aw_grp1<|wk_start<|kb g0 (bxA 0)<|kb g0 (alc 1 [.int .i64 0,.int .i64 0,.slice none 0 0,.int .i64 0,.int .i64 0] [.lit (.int .i64 0),.lit (.int .i64 0),.lit (.slice none 0 0),.lit (.int .i64 0),.lit (.int .i64 0)])<|kv g0 asg<|wk_end<|ac_next<|aw_grp1<|wk_start<|kv g0 (ldBA 5 [.lit (.int .i64 a0_0),.lit (.int .i64 a0_1),.sl .o 4 (l0_2.map e63),.lit (.int .i64 a0_3),.lit (.int .i64 a0_4)]) ?_
 obtain ⟨t1,A2,H⟩:=of_bind H
 refine kcS1 8 (.agg [.lit (.int .i64 t1.1),.lit (.int .i64 t1.2.1),.row 2,.lit (.int .i64 t1.2.2.2.1),.lit (.int .i64 t1.2.2.2.2)]) [(2,.row 63 4 (t1.2.2.1.map e63))] g0 (cal (impl_copySender.ok A2) [2] 9999 .n (hf:=Tryz.func154)) rfl rfl<|kb g0 (alc 3 [.int .i64 0,.int .i64 0,.slice none 0 0,.int .i64 0,.int .i64 0] [.lit (.int .i64 0),.lit (.int .i64 0),.lit (.slice none 0 0),.lit (.int .i64 0),.lit (.int .i64 0)])<|ks g0 (stB 5 [.lit (.int .i64 t1.1),.lit (.int .i64 t1.2.1),.row 2,.lit (.int .i64 t1.2.2.2.1),.lit (.int .i64 t1.2.2.2.2)])<|wk_end<|ac_next<|aw_grp1<|aw_grp1<|wk_start<|kv g0 (ldBA 5 [.lit (.int .i64 a0_0),.lit (.int .i64 a0_1),.sl .o 4 (l0_2.map e63),.lit (.int .i64 a0_3),.lit (.int .i64 a0_4)]) ?_
 obtain ⟨t3,A4,H⟩:=of_bind H
 refine kcS0 10 (.lit (.bool t3)) [] g0 (cal (impl_SenderOk.ok A4) [] 9999 .n (hf:=Tryz.func157)) rfl rfl<|kv g0 not_<|kv g0 mv ?_
 by_cases c5 : t3 = true
 ·rw [if_pos c5] at H
  refine kv (g1 (nF c5)) (faB 2 2)<|kv (g1 (nF c5)) ldB<|kv (g1 (nF c5)) (lnS lenE)<|kv (g1 (nF c5)) eql ?_
  refine kv g0 (pkF (nF c5))<|kv g0 mv ?_
  by_cases c6 : (l0_2.length : Int) = 0
  ·rw [if_pos c6] at H
   refine kx (hF (eT c6)) ?_
   refine kx (hF (eT c6)) ?_
   refine kx (hF (eT c6)) ?_
   refine kx (hF (eT c6)) ?_
   refine kx (hF (eT c6)) ?_
   refine kx (hF (eT c6)) ?_
   refine kx (hF (eT c6)) ?_
   refine kv g0 (pkT (eT c6))<|wk_end<|ac_next ?_
   refine aw_ifT ?_ rfl
   refine aw_grp1<|wk_start<|kv g0 (ldBA 5 [.lit (.int .i64 t1.1),.lit (.int .i64 t1.2.1),.row 2,.lit (.int .i64 t1.2.2.2.1),.lit (.int .i64 t1.2.2.2.2)])<|ks g0 (stB 5 [.lit (.int .i64 t1.1),.lit (.int .i64 t1.2.1),.row 2,.lit (.int .i64 t1.2.2.2.1),.lit (.int .i64 t1.2.2.2.2)])<|kv g0 asg<|wk_end<|ac_next<|aw_ret<|ac_thenR ?_
   obtain rfl:=Option.some.inj H
   exact acr hE [.cell 4 65,.tmp 5] (rcA 5 (.tmp .nil)) (.many _ _ _) [(0,2)] 9999
  rw [if_neg c6] at H
  refine kv (g1 (eF c6)) (faB 3 3)<|kv (g1 (eF c6)) ldB<|kv (g1 (eF c6)) (faB 4 4)<|kv (g1 (eF c6)) ldB<|kv (g1 (eF c6)) add6<|kv (g1 (eF c6)) mv<|kv (g1 (eF c6)) gtr ?_
  refine kv g0 (pkF (eF c6))<|wk_end<|ac_next ?_
  by_cases c7 : (wrap64 (a0_3 + a0_4)) > a1
  ·rw [if_pos c7] at H
   refine aw_ifT ?_ (decide_eq_true c7)
   refine aw_grp1<|wk_start<|kv g0 (ldBA 5 [.lit (.int .i64 t1.1),.lit (.int .i64 t1.2.1),.row 2,.lit (.int .i64 t1.2.2.2.1),.lit (.int .i64 t1.2.2.2.2)])<|ks g0 (stB 5 [.lit (.int .i64 t1.1),.lit (.int .i64 t1.2.1),.row 2,.lit (.int .i64 t1.2.2.2.1),.lit (.int .i64 t1.2.2.2.2)])<|kv g0 asg<|wk_end<|ac_next<|aw_ret<|ac_thenR ?_
   obtain rfl:=Option.some.inj H
   exact acr hE [.cell 4 65,.tmp 5] (rcA 5 (.tmp .nil)) (.many _ _ _) [(0,2)] 9999
  rw [if_neg c7] at H
  refine aw_ifF ?_ (decide_eq_false c7)
  refine aw_skip<|ac_next<|aw_grp1<|wk_start<|kv g0 mv<|kv g0 (faB 3 3)<|ks g0 (stB 1 [.lit (.int .i64 t1.1),.lit (.int .i64 t1.2.1),.row 2,.lit (.int .i64 a1),.lit (.int .i64 t1.2.2.2.2)])<|wk_end<|ac_next<|aw_grp1<|wk_start<|kv g0 (faB 4 4)<|kv g0 ldB<|kv g0 mul6<|kv g0 min_<|kv g0 (faB 4 4)<|ks g0 (stB 1 [.lit (.int .i64 t1.1),.lit (.int .i64 t1.2.1),.row 2,.lit (.int .i64 a1),.lit (.int .i64 (min 4 (wrap64 (2 * a0_4))))])<|wk_end<|ac_next<|aw_grp1<|wk_start<|kv g0 (ldBA 5 [.lit (.int .i64 t1.1),.lit (.int .i64 t1.2.1),.row 2,.lit (.int .i64 a1),.lit (.int .i64 (min 4 (wrap64 (2 * a0_4))))])<|ks g0 (stB 5 [.lit (.int .i64 t1.1),.lit (.int .i64 t1.2.1),.row 2,.lit (.int .i64 a1),.lit (.int .i64 (min 4 (wrap64 (2 * a0_4))))])<|kv g0 asg<|wk_end<|ac_next<|aw_ret ?_
  obtain rfl:=Option.some.inj H
  exact acr hE [.cell 4 65,.tmp 5] (rcA 5 (.tmp .nil)) (.many _ _ _) [(0,2)] 9999
 rw [if_neg c5] at H
 refine kx (hF (nT (bF c5))) ?_
 refine kx (hF (nT (bF c5))) ?_
 refine kx (hF (nT (bF c5))) ?_
 refine kx (hF (nT (bF c5))) ?_
 refine kv g0 (pkT (nT (bF c5)))<|kv g0 mv<|kx (hF rfl) ?_
 refine kx (hF rfl) ?_
 refine kx (hF rfl) ?_
 refine kx (hF rfl) ?_
 refine kx (hF rfl) ?_
 refine kx (hF rfl) ?_
 refine kx (hF rfl) ?_
 refine kv g0 (pkT rfl)<|wk_end<|ac_next ?_
 refine aw_ifT ?_ rfl
 refine aw_grp1<|wk_start<|kv g0 (ldBA 5 [.lit (.int .i64 t1.1),.lit (.int .i64 t1.2.1),.row 2,.lit (.int .i64 t1.2.2.2.1),.lit (.int .i64 t1.2.2.2.2)])<|ks g0 (stB 5 [.lit (.int .i64 t1.1),.lit (.int .i64 t1.2.1),.row 2,.lit (.int .i64 t1.2.2.2.1),.lit (.int .i64 t1.2.2.2.2)])<|kv g0 asg<|wk_end<|ac_next<|aw_ret<|ac_thenR ?_
 obtain rfl:=Option.some.inj H
 exact acr hE [.cell 4 65,.tmp 5] (rcA 5 (.tmp .nil)) (.many _ _ _) [(0,2)] 9999
/-! impl_Says -/
def impl_Says.l0 : Nat→Int→Int→(List S63)→Int→Int→(List S109)→Int→Option ((List S109))
 | 0,_,_,_,_,_,_,_=>none
 | k9 + 1,a0_0,a0_1,l0_2,a0_3,a0_4,q7,p8=>if p8 < (l0_2.length : Int) then if 0 ≤ p8 then if q7.length + ([(⟨1,a0_0,wrap64 (a0_1 + p8),(⟨(rd_T63 l0_2 p8).f0,(rd_T63 l0_2 p8).f1,(rd_T63 l0_2 p8).f2,(rd_T63 l0_2 p8).f3⟩ : S63)⟩ : S109)] : List S109).length < 2513169434916 then impl_Says.l0 k9 a0_0 a0_1 l0_2 a0_3 a0_4 (q7 ++ ([(⟨1,a0_0,wrap64 (a0_1 + p8),(⟨(rd_T63 l0_2 p8).f0,(rd_T63 l0_2 p8).f1,(rd_T63 l0_2 p8).f2,(rd_T63 l0_2 p8).f3⟩ : S63)⟩ : S109)] : List S109)) (wrap64 (p8 + 1)) else none else none else some q7
def impl_Says.f (k : Nat) (a0_0 : Int) (a0_1 : Int) (l0_2 : List S63) (a0_3 : Int) (a0_4 : Int) : Option ((List S109)):=(impl_SenderOk.f k a0_0 a0_1 l0_2 a0_3 a0_4).bind fun t1=>if t1 = true then impl_Says.l0 k a0_0 a0_1 l0_2 a0_3 a0_4 ([] : List S109) 0 else some ([] : List S109)
theorem impl_Says.ok {k : Nat} {a0_0 : Int} {a0_1 : Int} {l0_2 : List S63} {a0_3 : Int} {a0_4 : Int} {r : (List S109)} (H : impl_Says.f k a0_0 a0_1 l0_2 a0_3 a0_4 = some r) : ACalls Tryz.prog 69 [] [.agg [.lit (.int .i64 a0_0),.lit (.int .i64 a0_1),.sl .o 4 (l0_2.map e63),.lit (.int .i64 a0_3),.lit (.int .i64 a0_4)]] [(0,.row 109 7 (r.map e109))] (.row 0):=by
 refine acalls (fn:=Tryz.f69) (nt:=32) Tryz.func69 rfl rfl (Nat.le_of_ble_eq_true rfl) fun E hE=>?_
 rw [impl_Says.f] at H
 refine aw_grp1<|wk_start<|kb g0 (bxA 0)<|kv g0 asg<|wk_end<|ac_next<|aw_grp1<|wk_start<|kb g0 (bsl 1 109 7 [.int .i64 0,.int .i64 0,.int .i64 0,.int .i64 0,.int .i64 0,.int .i64 0,.int .i64 0] (([] : List S109).map e109))<|kv g0 asg<|wk_end<|ac_next<|aw_grp1<|aw_grp1<|wk_start<|kv g0 (ldBA 5 [.lit (.int .i64 a0_0),.lit (.int .i64 a0_1),.sl .o 4 (l0_2.map e63),.lit (.int .i64 a0_3),.lit (.int .i64 a0_4)]) ?_
 obtain ⟨t1,A2,H⟩:=of_bind H
 refine kcS0 8 (.lit (.bool t1)) [] g0 (cal (impl_SenderOk.ok A2) [] 9999 .n (hf:=Tryz.func157)) rfl rfl<|kv g0 not_<|wk_end<|ac_next ?_
 by_cases c3 : t1 = true
 ·rw [if_pos c3] at H
  refine aw_ifF ?_ (nF c3)
  refine aw_skip<|ac_next<|aw_grp1<|aw_grp1<|wk_start<|kv g0 (faB 2 2)<|kv g0 ldB<|kv g0 (lnS lenE)<|kv g0 mv<|wk_end<|ac_next<|aw_block ?_
  refine aw_loop2 (fun (k_ : Nat) (q7 : List S109) (p8 : Int)=>k_ ≤ k∧impl_Says.l0 k_ a0_0 a0_1 l0_2 a0_3 a0_4 q7 p8 = some r) (fun (q7 : List S109) (p8 : Int)=>⟨[(1,.box 0 0),(3,.row 1),(12,.sl .o 4 (l0_2.map e63)),(13,.lit (.int .i64 (l0_2.length : Int))),(14,.lit (.int .i64 p8))],[(0,.box 65 [.lit (.int .i64 a0_0),.lit (.int .i64 a0_1),.sl .o 4 (l0_2.map e63),.lit (.int .i64 a0_3),.lit (.int .i64 a0_4)]),(1,.row 109 7 (q7.map e109))]⟩) k ([] : List S109) 0 ⟨Nat.le_refl _,H⟩ (fun K_ h_=>acw hE [(0,0),(1,1)] 9999 h_) (fun _ _=>by intro h_;have h_:=h_.2;rw [impl_Says.l0.eq_1] at h_;cases h_) ?_
  intro k9 q7 p8 hq_ K13 hK14
  have hk9:=hq_.1
  have H:=hq_.2
  clear hq_
  rw [impl_Says.l0.eq_2] at H
  refine aw_grp1<|wk_start<|kv g0 lss<|wk_end<|ac_next<|aw_grp1 ?_
  by_cases c10 : p8 < (l0_2.length : Int)
  ·rw [if_pos c10] at H
   refine aw_ifT ?_ (decide_eq_true c10)
   refine aw_skip<|ac_next<|aw_grp1<|aw_block<|aw_grp1<|wk_start<|kv g0 mv ?_
   obtain ⟨c11,H⟩:=of_if H
   refine kv g0 (ixS 63 (e63 (rd_T63 l0_2 p8)) c11 (getE (z:=z63) c11 c10))<|kv g0 (ldRA 4 [.lit (.int .i64 ((rd_T63 l0_2 p8).f0)),.lit (.int .i64 ((rd_T63 l0_2 p8).f1)),.lit (.int .i64 ((rd_T63 l0_2 p8).f2)),.lit (.int .i64 ((rd_T63 l0_2 p8).f3))])<|kb g0 (alc 2 [.int .i64 0,.int .i64 0,.int .i64 0,.int .i64 0] [.lit (.int .i64 0),.lit (.int .i64 0),.lit (.int .i64 0),.lit (.int .i64 0)])<|kv g0 asg<|ks g0 (stB 4 [.lit (.int .i64 ((rd_T63 l0_2 p8).f0)),.lit (.int .i64 ((rd_T63 l0_2 p8).f1)),.lit (.int .i64 ((rd_T63 l0_2 p8).f2)),.lit (.int .i64 ((rd_T63 l0_2 p8).f3))])<|wk_end<|ac_next<|wk_start<|kv g0 mv<|kv g0 (faB 0 0)<|kv g0 ldB<|kv g0 (faB 1 1)<|kv g0 ldB<|kv g0 mv<|kv g0 add6<|kv g0 (ldBA 4 [.lit (.int .i64 ((rd_T63 l0_2 p8).f0)),.lit (.int .i64 ((rd_T63 l0_2 p8).f1)),.lit (.int .i64 ((rd_T63 l0_2 p8).f2)),.lit (.int .i64 ((rd_T63 l0_2 p8).f3))])<|kv g0 (bld [(0,1),(1,1),(2,1),(3,4)] [.int .i64 0,.int .i64 0,.int .i64 0,.int .i64 0,.int .i64 0,.int .i64 0,.int .i64 0] [.lit (.int .i64 1),.lit (.int .i64 a0_0),.lit (.int .i64 (wrap64 (a0_1 + p8))),.lit (.int .i64 ((rd_T63 l0_2 p8).f0)),.lit (.int .i64 ((rd_T63 l0_2 p8).f1)),.lit (.int .i64 ((rd_T63 l0_2 p8).f2)),.lit (.int .i64 ((rd_T63 l0_2 p8).f3))])<|kb g0 (bsl 3 109 7 [.int .i64 0,.int .i64 0,.int .i64 0,.int .i64 0,.int .i64 0,.int .i64 0,.int .i64 0] (([(⟨1,a0_0,wrap64 (a0_1 + p8),(⟨(rd_T63 l0_2 p8).f0,(rd_T63 l0_2 p8).f1,(rd_T63 l0_2 p8).f2,(rd_T63 l0_2 p8).f3⟩ : S63)⟩ : S109)] : List S109).map e109)) ?_
   obtain ⟨c12,H⟩:=of_if H
   refine kc g0 (apR 4 109 7 56 [.int .i64 0,.int .i64 0,.int .i64 0,.int .i64 0,.int .i64 0,.int .i64 0,.int .i64 0] ((q7 ++ ([(⟨1,a0_0,wrap64 (a0_1 + p8),(⟨(rd_T63 l0_2 p8).f0,(rd_T63 l0_2 p8).f1,(rd_T63 l0_2 p8).f2,(rd_T63 l0_2 p8).f3⟩ : S63)⟩ : S109)] : List S109)).map e109) (.row rfl) (apb c12 rfl) appE)<|kv g0 asg<|wk_end<|ac_blkN<|ac_next<|wk_start<|kv g0 add6<|kv g0 mv<|wk_end<|ac_k ?_
   exact acw hE [(0,0),(1,4)] 9999 (hK14 k9 (q7 ++ ([(⟨1,a0_0,wrap64 (a0_1 + p8),(⟨(rd_T63 l0_2 p8).f0,(rd_T63 l0_2 p8).f1,(rd_T63 l0_2 p8).f2,(rd_T63 l0_2 p8).f3⟩ : S63)⟩ : S109)] : List S109)) (wrap64 (p8 + 1)) (Nat.le_refl _) ⟨by omega,H⟩)
  rw [if_neg c10] at H
  refine aw_ifF ?_ (decide_eq_false c10)
  refine aw_exit<|ac_then<|ac_then<|ac_hit rfl<|ac_next<|aw_grp1<|wk_start<|kv g0 mv<|kv g0 asg<|wk_end<|ac_next<|aw_ret ?_
  obtain rfl:=Option.some.inj H
  exact acr hE [.tmp 2] (.tmp .nil) (.one _) [(0,1)] 9999
 rw [if_neg c3] at H
 refine aw_ifT ?_ (nT (bF c3))
 refine aw_grp1<|wk_start<|kv g0 mv<|kv g0 asg<|wk_end<|ac_next<|aw_ret<|ac_thenR ?_
 obtain rfl:=Option.some.inj H
 exact acr hE [.tmp 2] (.tmp .nil) (.one _) [(0,1)] 9999
/-! impl_FrameOk -/
def impl_FrameOk.f (a0_0 : Int) (a0_1 : Int) (a0_2 : Int) (a0_3 : Int) (a0_4 : Int) (a0_5 : Int) (a0_6 : Int) : Option (Bool):=(impl_isPid.f a0_1).bind fun t1=>(if t1 = true then ((impl_within.f a0_2 1 1000000000).bind fun t4=>if t4 = true then if a0_0 = 1 then ((impl_ItemOk.f a0_3 a0_4 a0_5 a0_6).bind fun t8=>some t8) else if a0_0 = 2 then some (a0_3 == 0 && (a0_4 == 0 && (a0_5 == 0 && (a0_6 == 0)))) else some false else some false) else some false)
theorem impl_FrameOk.ok {a0_0 : Int} {a0_1 : Int} {a0_2 : Int} {a0_3 : Int} {a0_4 : Int} {a0_5 : Int} {a0_6 : Int} {r : Bool} (H : impl_FrameOk.f a0_0 a0_1 a0_2 a0_3 a0_4 a0_5 a0_6 = some r) : ACalls Tryz.prog 158 [] [.agg [.lit (.int .i64 a0_0),.lit (.int .i64 a0_1),.lit (.int .i64 a0_2),.lit (.int .i64 a0_3),.lit (.int .i64 a0_4),.lit (.int .i64 a0_5),.lit (.int .i64 a0_6)]] [] (.lit (.bool r)):=by
 refine acalls (fn:=Tryz.f158) (nt:=26) Tryz.func158 rfl rfl (Nat.le_of_ble_eq_true rfl) fun E hE=>?_
 rw [impl_FrameOk.f] at H
 refine aw_grp1<|wk_start<|kb g0 (bxA 0)<|kv g0 asg<|wk_end<|ac_next<|aw_grp1<|aw_grp1<|wk_start<|kv g0 (faB 1 1)<|kv g0 ldB ?_
 obtain ⟨t1,A2,H⟩:=of_bind H
 refine kcS0 5 (.lit (.bool t1)) [] g0 (cal (impl_isPid.ok A2) [] 9999 .n (hf:=Tryz.func221)) rfl rfl<|kv g0 not_<|kv g0 mv ?_
 by_cases c3 : t1 = true
 ·rw [if_pos c3] at H
  refine kv (g1 (nF c3)) (faB 2 2)<|kv (g1 (nF c3)) ldB ?_
  obtain ⟨t4,A5,H⟩:=of_bind H
  refine kcS0 10 (.lit (.bool t4)) [] (g1 (nF c3)) (cal (impl_within.ok A5) [] 9999 .n (hf:=Tryz.func64)) rfl rfl<|kv (g1 (nF c3)) not_ ?_
  refine kv g0 (pkF (nF c3))<|wk_end<|ac_next ?_
  by_cases c6 : t4 = true
  ·rw [if_pos c6] at H
   refine aw_ifF ?_ (nF c6)
   refine aw_skip<|ac_next<|aw_grp1<|aw_grp1<|wk_start<|kv g0 (faB 0 0)<|kv g0 ldB<|wk_end<|ac_next<|aw_block<|aw_grp1<|wk_start<|kv g0 eql<|kv g0 asg<|wk_end<|ac_next ?_
   by_cases c7 : a0_0 = 1
   ·rw [if_pos c7] at H
    refine aw_ifT ?_ (eT c7)
    refine aw_grp1<|wk_start<|kv g0 (faB 3 3)<|kv g0 (ldBA 4 [.lit (.int .i64 a0_3),.lit (.int .i64 a0_4),.lit (.int .i64 a0_5),.lit (.int .i64 a0_6)]) ?_
    obtain ⟨t8,A9,H⟩:=of_bind H
    refine kcS0 19 (.lit (.bool t8)) [] g0 (cal (impl_ItemOk.ok A9) [] 9999 .n (hf:=Tryz.func223)) rfl rfl<|kv g0 asg<|wk_end<|ac_next<|aw_ret<|ac_blkR<|ac_thenR ?_
    obtain rfl:=Option.some.inj H
    exact acr hE [.tmp 2] (.tmp .nil) (.one _) [] 9999
   rw [if_neg c7] at H
   refine aw_ifF ?_ (eF c7)
   refine aw_grp1<|wk_start<|kv g0 eql<|kv g0 asg<|wk_end<|ac_next ?_
   by_cases c10 : a0_0 = 2
   ·rw [if_pos c10] at H
    refine aw_ifT ?_ (eT c10)
    refine aw_grp1<|wk_start<|kv g0 (faB 3 3)<|kv g0 (ldBA 4 [.lit (.int .i64 a0_3),.lit (.int .i64 a0_4),.lit (.int .i64 a0_5),.lit (.int .i64 a0_6)])<|kv g0 (bld [(0,1),(1,1),(2,1),(3,1)] [.int .i64 0,.int .i64 0,.int .i64 0,.int .i64 0] [.lit (.int .i64 0),.lit (.int .i64 0),.lit (.int .i64 0),.lit (.int .i64 0)]) ?_
    refine kv g0 (eqS (fun w=>eq63 _ w a0_3 a0_4 a0_5 a0_6 0 0 0 0)) ?_
    refine kv g0 asg<|wk_end<|ac_next<|aw_ret<|ac_blkR<|ac_thenR ?_
    obtain rfl:=Option.some.inj H
    exact acr hE [.tmp 2] (.tmp .nil) (.one _) [] 9999
   rw [if_neg c10] at H
   refine aw_ifF ?_ (eF c10)
   refine aw_skip<|ac_blkN<|ac_next<|aw_grp1<|wk_start<|kv g0 asg<|wk_end<|ac_next<|aw_ret ?_
   obtain rfl:=Option.some.inj H
   exact acr hE [.tmp 2] (.tmp .nil) (.one _) [] 9999
  rw [if_neg c6] at H
  refine aw_ifT ?_ (nT (bF c6))
  refine aw_grp1<|wk_start<|kv g0 asg<|wk_end<|ac_next<|aw_ret<|ac_thenR ?_
  obtain rfl:=Option.some.inj H
  exact acr hE [.tmp 2] (.tmp .nil) (.one _) [] 9999
 rw [if_neg c3] at H
 refine kx (hF (nT (bF c3))) ?_
 refine kx (hF (nT (bF c3))) ?_
 refine kx (hF (nT (bF c3))) ?_
 refine kx (hF (nT (bF c3))) ?_
 refine kv g0 (pkT (nT (bF c3)))<|wk_end<|ac_next ?_
 refine aw_ifT ?_ rfl
 refine aw_grp1<|wk_start<|kv g0 asg<|wk_end<|ac_next<|aw_ret<|ac_thenR ?_
 obtain rfl:=Option.some.inj H
 exact acr hE [.tmp 2] (.tmp .nil) (.one _) [] 9999
/-! impl_earlyAt -/
def impl_earlyAt.l0 : Nat→(List S154)→Int→Int→Int→Option (Int)
 | 0,_,_,_,_=>none
 | k6 + 1,l0,a1,a2,p5=>if p5 < (l0.length : Int) then if 0 ≤ p5 then if ((rd_T154 l0 p5).f0) = a1 then if ((rd_T154 l0 p5).f1) = a2 then some p5 else impl_earlyAt.l0 k6 l0 a1 a2 (wrap64 (p5 + 1)) else impl_earlyAt.l0 k6 l0 a1 a2 (wrap64 (p5 + 1)) else none else some (-1)
def impl_earlyAt.f (k : Nat) (l0 : List S154) (a1 : Int) (a2 : Int) : Option (Int):=impl_earlyAt.l0 k l0 a1 a2 0
theorem impl_earlyAt.ok {k : Nat} {l0 : List S154} {a1 : Int} {a2 : Int} {r : Int} (H : impl_earlyAt.f k l0 a1 a2 = some r) : ACalls Tryz.prog 159 [] [.sl .o 6 (l0.map e154),.lit (.int .i64 a1),.lit (.int .i64 a2)] [] (.lit (.int .i64 r)):=by
 refine acalls (fn:=Tryz.f159) (nt:=28) Tryz.func159 rfl rfl (Nat.le_of_ble_eq_true rfl) fun E hE=>?_
 rw [impl_earlyAt.f] at H
 refine aw_grp1<|wk_start<|kv g0 asg<|wk_end<|ac_next<|aw_grp1<|aw_grp1<|wk_start<|kv g0 mv<|kv g0 (lnS lenE)<|kv g0 mv<|wk_end<|ac_next<|aw_block ?_
 refine aw_loop1 (fun (k_ : Nat) (p5 : Int)=>k_ ≤ k∧impl_earlyAt.l0 k_ l0 a1 a2 p5 = some r) (fun (p5 : Int)=>⟨[(1,.lit (.int .i64 a1)),(2,.lit (.int .i64 a2)),(9,.sl .o 6 (l0.map e154)),(10,.lit (.int .i64 (l0.length : Int))),(11,.lit (.int .i64 p5))],[]⟩) k 0 ⟨Nat.le_refl _,H⟩ (fun K_ h_=>acw hE [] 9999 h_) (fun _=>by intro h_;have h_:=h_.2;rw [impl_earlyAt.l0.eq_1] at h_;cases h_) ?_
 intro k6 p5 hq_ K11 hK12
 have hk6:=hq_.1
 have H:=hq_.2
 clear hq_
 rw [impl_earlyAt.l0.eq_2] at H
 refine aw_grp1<|wk_start<|kv g0 lss<|wk_end<|ac_next<|aw_grp1 ?_
 by_cases c7 : p5 < (l0.length : Int)
 ·rw [if_pos c7] at H
  refine aw_ifT ?_ (decide_eq_true c7)
  refine aw_skip<|ac_next<|aw_grp1<|aw_block<|aw_grp1<|wk_start<|kv g0 mv ?_
  obtain ⟨c8,H⟩:=of_if H
  refine kv g0 (ixS 154 (e154 (rd_T154 l0 p5)) c8 (getE (z:=z154) c8 c7))<|kv g0 (ldRA 6 [.lit (.int .i64 ((rd_T154 l0 p5).f0)),.lit (.int .i64 ((rd_T154 l0 p5).f1)),.lit (.int .i64 ((rd_T154 l0 p5).f2.f0)),.lit (.int .i64 ((rd_T154 l0 p5).f2.f1)),.lit (.int .i64 ((rd_T154 l0 p5).f2.f2)),.lit (.int .i64 ((rd_T154 l0 p5).f2.f3))])<|kb g0 (alc 0 [.int .i64 0,.int .i64 0,.int .i64 0,.int .i64 0,.int .i64 0,.int .i64 0] [.lit (.int .i64 0),.lit (.int .i64 0),.lit (.int .i64 0),.lit (.int .i64 0),.lit (.int .i64 0),.lit (.int .i64 0)])<|kv g0 asg<|ks g0 (stB 6 [.lit (.int .i64 ((rd_T154 l0 p5).f0)),.lit (.int .i64 ((rd_T154 l0 p5).f1)),.lit (.int .i64 ((rd_T154 l0 p5).f2.f0)),.lit (.int .i64 ((rd_T154 l0 p5).f2.f1)),.lit (.int .i64 ((rd_T154 l0 p5).f2.f2)),.lit (.int .i64 ((rd_T154 l0 p5).f2.f3))])<|wk_end<|ac_next<|aw_grp1<|wk_start<|kv g0 (faB 0 0)<|kv g0 ldB<|kv g0 mv<|kv g0 eql<|kv g0 mv ?_
  by_cases c9 : ((rd_T154 l0 p5).f0) = a1
  ·rw [if_pos c9] at H
   refine kv (g1 (eT c9)) (faB 1 1)<|kv (g1 (eT c9)) ldB<|kv (g1 (eT c9)) mv<|kv (g1 (eT c9)) eql ?_
   refine kv g0 (pkT (eT c9))<|wk_end<|ac_next ?_
   by_cases c10 : ((rd_T154 l0 p5).f1) = a2
   ·rw [if_pos c10] at H
    refine aw_ifT ?_ (eT c10)
    refine aw_grp1<|wk_start<|kv g0 mv<|kv g0 asg<|wk_end<|ac_next<|aw_ret<|ac_blkR<|ac_thenR<|ac_thenR<|ac_blkR<|ac_thenR ?_
    obtain rfl:=Option.some.inj H
    exact acr hE [.tmp 6] (.tmp .nil) (.one _) [] 9999
   rw [if_neg c10] at H
   refine aw_ifF ?_ (eF c10)
   refine aw_skip<|ac_blkN<|ac_next<|wk_start<|kv g0 add6<|kv g0 mv<|wk_end<|ac_k ?_
   exact acw hE [] 9999 (hK12 k6 (wrap64 (p5 + 1)) (Nat.le_refl _) ⟨by omega,H⟩)
  rw [if_neg c9] at H
  refine kx (hT (eF c9)) ?_
  refine kx (hT (eF c9)) ?_
  refine kx (hT (eF c9)) ?_
  refine kx (hT (eF c9)) ?_
  refine kv g0 (pkF (eF c9))<|wk_end<|ac_next ?_
  refine aw_ifF ?_ rfl
  refine aw_skip<|ac_blkN<|ac_next<|wk_start<|kv g0 add6<|kv g0 mv<|wk_end<|ac_k ?_
  exact acw hE [] 9999 (hK12 k6 (wrap64 (p5 + 1)) (Nat.le_refl _) ⟨by omega,H⟩)
 rw [if_neg c7] at H
 refine aw_ifF ?_ (decide_eq_false c7)
 refine aw_exit<|ac_then<|ac_then<|ac_hit rfl<|ac_next<|aw_grp1<|wk_start<|kv g0 asg<|wk_end<|ac_next<|aw_ret ?_
 obtain rfl:=Option.some.inj H
 exact acr hE [.tmp 6] (.tmp .nil) (.one _) [] 9999
end Go.Proofs.YtkkglhhkpihmgaaGreat.PFnExactCalmWorld
