import Derived.Test.YtkkglhhkpihmgaaGreatPFnExactCalmWorldx0
set_option linter.unusedVariables false
set_option linter.unusedSimpArgs false
set_option maxRecDepth 100000
namespace Go.Proofs.YtkkglhhkpihmgaaGreat.PFnExactCalmWorld
open Go Go.RowKit Go.Proofs.YtkkglhhkpihmgaaGreatA
/-! laws_szInsS -/
def laws_szInsS.f (l0 : List S308) (a1 : Int) : Option (Int):=if (wrap64 (a1 - (l0.length : Int))) < 0 then some (-1) else some (wrap64 (a1 - (l0.length : Int)))
theorem laws_szInsS.ok {l0 : List S308} {a1 : Int} {r : Int} (H : laws_szInsS.f l0 a1 = some r) : ACalls Tryz.prog 211 [] [.sl .o 4 (l0.map e308),.lit (.int .i64 a1)] [] (.lit (.int .i64 r)):=by
 refine acalls (fn:=Tryz.f211) (nt:=12) Tryz.func211 rfl rfl (Nat.le_of_ble_eq_true rfl) fun E hE=>?_
 rw [laws_szInsS.f] at H
 refine aw_grp1<|wk_start<|kv g0 asg<|wk_end<|ac_next<|aw_grp1<|wk_start<|kv g0 mv<|kv g0 mv<|kv g0 (lnS lenE)<|kv g0 sub6<|kv g0 asg<|wk_end<|ac_next<|aw_grp1<|aw_grp1<|wk_start<|kv g0 mv<|kv g0 lss<|wk_end<|ac_next ?_
 by_cases c1 : (wrap64 (a1 - (l0.length : Int))) < 0
 ·rw [if_pos c1] at H
  refine aw_ifT ?_ (decide_eq_true c1)
  refine aw_grp1<|wk_start<|kv g0 asg<|wk_end<|ac_next<|aw_ret<|ac_thenR ?_
  obtain rfl:=Option.some.inj H
  exact acr hE [.tmp 4] (.tmp .nil) (.one _) [] 9999
 rw [if_neg c1] at H
 refine aw_ifF ?_ (decide_eq_false c1)
 refine aw_skip<|ac_next<|aw_grp1<|wk_start<|kv g0 mv<|kv g0 asg<|wk_end<|ac_next<|aw_ret ?_
 obtain rfl:=Option.some.inj H
 exact acr hE [.tmp 4] (.tmp .nil) (.one _) [] 9999
/-! laws_szInsSS -/
def laws_szInsSS.l0 : Nat→(List (List S308))→Int→Int→Option (Int)
 | 0,_,_,_=>none
 | k9 + 1,l0,p7,p8=>if p8 < (l0.length : Int) then if 0 ≤ p8 then ((laws_szInsS.f (rdOf ([] : List S308) l0 p8) p7).bind fun t12=>if t12 < 0 then some (-1) else laws_szInsSS.l0 k9 l0 t12 (wrap64 (p8 + 1))) else none else some p7
def laws_szInsSS.f (k : Nat) (l0 : List (List S308)) (a1 : Int) : Option (Int):=if (wrap64 (a1 - (l0.length : Int))) < 0 then some (-1) else laws_szInsSS.l0 k l0 (wrap64 (a1 - (l0.length : Int))) 0
theorem laws_szInsSS.ok {k : Nat} {l0 : List (List S308)} {a1 : Int} {r : Int} (H : laws_szInsSS.f k l0 a1 = some r) : ACalls Tryz.prog 127 [] [.sl .o 1 (l0.map (eL 4 (e308))),.lit (.int .i64 a1)] [] (.lit (.int .i64 r)):=by
 refine acalls (fn:=Tryz.f127) (nt:=27) Tryz.func127 rfl rfl (Nat.le_of_ble_eq_true rfl) fun E hE=>?_
 rw [laws_szInsSS.f] at H
 refine aw_grp1<|wk_start<|kv g0 asg<|wk_end<|ac_next<|aw_grp1<|wk_start<|kv g0 mv<|kv g0 mv<|kv g0 (lnS lenE)<|kv g0 sub6<|kv g0 asg<|wk_end<|ac_next<|aw_grp1<|aw_grp1<|wk_start<|kv g0 mv<|kv g0 lss<|wk_end<|ac_next ?_
 by_cases c1 : (wrap64 (a1 - (l0.length : Int))) < 0
 ·rw [if_pos c1] at H
  refine aw_ifT ?_ (decide_eq_true c1)
  refine aw_grp1<|wk_start<|kv g0 asg<|wk_end<|ac_next<|aw_ret<|ac_thenR ?_
  obtain rfl:=Option.some.inj H
  exact acr hE [.tmp 4] (.tmp .nil) (.one _) [] 9999
 rw [if_neg c1] at H
 refine aw_ifF ?_ (decide_eq_false c1)
 refine aw_skip<|ac_next<|aw_grp1<|aw_grp1<|wk_start<|kv g0 asg<|wk_end<|ac_next<|aw_block ?_
 refine aw_loop2 (fun (k_ : Nat) (p7 : Int) (p8 : Int)=>k_ ≤ k∧laws_szInsSS.l0 k_ l0 p7 p8 = some r) (fun (p7 : Int) (p8 : Int)=>⟨[(0,.sl .o 1 (l0.map (eL 4 (e308)))),(1,.lit (.int .i64 p7)),(5,.lit (.int .i64 p8))],[]⟩) k (wrap64 (a1 - (l0.length : Int))) 0 ⟨Nat.le_refl _,H⟩ (fun K_ h_=>acw hE [] 9999 h_) (fun _ _=>by intro h_;have h_:=h_.2;rw [laws_szInsSS.l0.eq_1] at h_;cases h_) ?_
 intro k9 p7 p8 hq_ K15 hK16
 have hk9:=hq_.1
 have H:=hq_.2
 clear hq_
 rw [laws_szInsSS.l0.eq_2] at H
 refine aw_grp1<|aw_grp1<|wk_start<|kv g0 mv<|kv g0 mv<|kv g0 (lnS lenE)<|kv g0 lss<|wk_end<|ac_next ?_
 by_cases c10 : p8 < (l0.length : Int)
 ·rw [if_pos c10] at H
  refine aw_ifT ?_ (decide_eq_true c10)
  refine aw_skip<|ac_next<|aw_grp1<|aw_block<|aw_grp1<|wk_start<|kv g0 mv<|kv g0 mv ?_
  obtain ⟨c11,H⟩:=of_if H
  refine kv g0 (ixS 260 (eL 4 e308 (rdOf ([] : List S308) l0 p8)) c11 (getE (z:=([] : List S308)) c11 c10))<|kv g0 (ldR (.sl .o 4 ((rdOf ([] : List S308) l0 p8).map e308)))<|kv g0 mv ?_
  obtain ⟨t12,A13,H⟩:=of_bind H
  refine kcS0 23 (.lit (.int .i64 t12)) [] g0 (cal (laws_szInsS.ok A13) [] 9999 .n (hf:=Tryz.func211)) rfl rfl<|kv g0 asg<|wk_end<|ac_next<|aw_grp1<|wk_start<|kv g0 mv<|kv g0 lss<|wk_end<|ac_next ?_
  by_cases c14 : t12 < 0
  ·rw [if_pos c14] at H
   refine aw_ifT ?_ (decide_eq_true c14)
   refine aw_grp1<|wk_start<|kv g0 asg<|wk_end<|ac_next<|aw_ret<|ac_blkR<|ac_thenR<|ac_thenR<|ac_blkR<|ac_thenR ?_
   obtain rfl:=Option.some.inj H
   exact acr hE [.tmp 4] (.tmp .nil) (.one _) [] 9999
  rw [if_neg c14] at H
  refine aw_ifF ?_ (decide_eq_false c14)
  refine aw_skip<|ac_blkN<|ac_next<|wk_start<|kv g0 mv<|kv g0 add6<|kv g0 asg<|wk_end<|ac_k ?_
  exact acw hE [] 9999 (hK16 k9 t12 (wrap64 (p8 + 1)) (Nat.le_refl _) ⟨by omega,H⟩)
 rw [if_neg c10] at H
 refine aw_ifF ?_ (decide_eq_false c10)
 refine aw_exit<|ac_then<|ac_then<|ac_hit rfl<|ac_next<|aw_grp1<|wk_start<|kv g0 mv<|kv g0 asg<|wk_end<|ac_next<|aw_ret ?_
 obtain rfl:=Option.some.inj H
 exact acr hE [.tmp 4] (.tmp .nil) (.one _) [] 9999
/-! laws_szInsSSS -/
def laws_szInsSSS.l0 : Nat→(List (List (List S308)))→Int→Int→Option (Int)
 | 0,_,_,_=>none
 | k9 + 1,l0,p7,p8=>if p8 < (l0.length : Int) then if 0 ≤ p8 then ((laws_szInsSS.f k9 (rdOf ([] : List (List S308)) l0 p8) p7).bind fun t12=>if t12 < 0 then some (-1) else laws_szInsSSS.l0 k9 l0 t12 (wrap64 (p8 + 1))) else none else some p7
def laws_szInsSSS.f (k : Nat) (l0 : List (List (List S308))) (a1 : Int) : Option (Int):=if (wrap64 (a1 - (l0.length : Int))) < 0 then some (-1) else laws_szInsSSS.l0 k l0 (wrap64 (a1 - (l0.length : Int))) 0
theorem laws_szInsSSS.ok {k : Nat} {l0 : List (List (List S308))} {a1 : Int} {r : Int} (H : laws_szInsSSS.f k l0 a1 = some r) : ACalls Tryz.prog 39 [] [.sl .o 1 (l0.map (eL 1 (eL 4 (e308)))),.lit (.int .i64 a1)] [] (.lit (.int .i64 r)):=by
 refine acalls (fn:=Tryz.f39) (nt:=27) Tryz.func39 rfl rfl (Nat.le_of_ble_eq_true rfl) fun E hE=>?_
 rw [laws_szInsSSS.f] at H
 refine aw_grp1<|wk_start<|kv g0 asg<|wk_end<|ac_next<|aw_grp1<|wk_start<|kv g0 mv<|kv g0 mv<|kv g0 (lnS lenE)<|kv g0 sub6<|kv g0 asg<|wk_end<|ac_next<|aw_grp1<|aw_grp1<|wk_start<|kv g0 mv<|kv g0 lss<|wk_end<|ac_next ?_
 by_cases c1 : (wrap64 (a1 - (l0.length : Int))) < 0
 ·rw [if_pos c1] at H
  refine aw_ifT ?_ (decide_eq_true c1)
  refine aw_grp1<|wk_start<|kv g0 asg<|wk_end<|ac_next<|aw_ret<|ac_thenR ?_
  obtain rfl:=Option.some.inj H
  exact acr hE [.tmp 4] (.tmp .nil) (.one _) [] 9999
 rw [if_neg c1] at H
 refine aw_ifF ?_ (decide_eq_false c1)
 refine aw_skip<|ac_next<|aw_grp1<|aw_grp1<|wk_start<|kv g0 asg<|wk_end<|ac_next<|aw_block ?_
 refine aw_loop2 (fun (k_ : Nat) (p7 : Int) (p8 : Int)=>k_ ≤ k∧laws_szInsSSS.l0 k_ l0 p7 p8 = some r) (fun (p7 : Int) (p8 : Int)=>⟨[(0,.sl .o 1 (l0.map (eL 1 (eL 4 (e308))))),(1,.lit (.int .i64 p7)),(5,.lit (.int .i64 p8))],[]⟩) k (wrap64 (a1 - (l0.length : Int))) 0 ⟨Nat.le_refl _,H⟩ (fun K_ h_=>acw hE [] 9999 h_) (fun _ _=>by intro h_;have h_:=h_.2;rw [laws_szInsSSS.l0.eq_1] at h_;cases h_) ?_
 intro k9 p7 p8 hq_ K15 hK16
 have hk9:=hq_.1
 have H:=hq_.2
 clear hq_
 rw [laws_szInsSSS.l0.eq_2] at H
 refine aw_grp1<|aw_grp1<|wk_start<|kv g0 mv<|kv g0 mv<|kv g0 (lnS lenE)<|kv g0 lss<|wk_end<|ac_next ?_
 by_cases c10 : p8 < (l0.length : Int)
 ·rw [if_pos c10] at H
  refine aw_ifT ?_ (decide_eq_true c10)
  refine aw_skip<|ac_next<|aw_grp1<|aw_block<|aw_grp1<|wk_start<|kv g0 mv<|kv g0 mv ?_
  obtain ⟨c11,H⟩:=of_if H
  refine kv g0 (ixS 183 (eL 1 (eL 4 e308) (rdOf ([] : List (List S308)) l0 p8)) c11 (getE (z:=([] : List (List S308))) c11 c10))<|kv g0 (ldR (.sl .o 1 ((rdOf ([] : List (List S308)) l0 p8).map (eL 4 e308))))<|kv g0 mv ?_
  obtain ⟨t12,A13,H⟩:=of_bind H
  refine kcS0 23 (.lit (.int .i64 t12)) [] g0 (cal (laws_szInsSS.ok A13) [] 9999 .n (hf:=Tryz.func127)) rfl rfl<|kv g0 asg<|wk_end<|ac_next<|aw_grp1<|wk_start<|kv g0 mv<|kv g0 lss<|wk_end<|ac_next ?_
  by_cases c14 : t12 < 0
  ·rw [if_pos c14] at H
   refine aw_ifT ?_ (decide_eq_true c14)
   refine aw_grp1<|wk_start<|kv g0 asg<|wk_end<|ac_next<|aw_ret<|ac_blkR<|ac_thenR<|ac_thenR<|ac_blkR<|ac_thenR ?_
   obtain rfl:=Option.some.inj H
   exact acr hE [.tmp 4] (.tmp .nil) (.one _) [] 9999
  rw [if_neg c14] at H
  refine aw_ifF ?_ (decide_eq_false c14)
  refine aw_skip<|ac_blkN<|ac_next<|wk_start<|kv g0 mv<|kv g0 add6<|kv g0 asg<|wk_end<|ac_k ?_
  exact acw hE [] 9999 (hK16 k9 t12 (wrap64 (p8 + 1)) (Nat.le_refl _) ⟨by omega,H⟩)
 rw [if_neg c10] at H
 refine aw_ifF ?_ (decide_eq_false c10)
 refine aw_exit<|ac_then<|ac_then<|ac_hit rfl<|ac_next<|aw_grp1<|wk_start<|kv g0 mv<|kv g0 asg<|wk_end<|ac_next<|aw_ret ?_
 obtain rfl:=Option.some.inj H
 exact acr hE [.tmp 4] (.tmp .nil) (.one _) [] 9999
/-! laws_szItemS -/
def laws_szItemS.f (l0 : List S266) (a1 : Int) : Option (Int):=if (wrap64 (a1 - (l0.length : Int))) < 0 then some (-1) else some (wrap64 (a1 - (l0.length : Int)))
theorem laws_szItemS.ok {l0 : List S266} {a1 : Int} {r : Int} (H : laws_szItemS.f l0 a1 = some r) : ACalls Tryz.prog 212 [] [.sl .o 4 (l0.map e266),.lit (.int .i64 a1)] [] (.lit (.int .i64 r)):=by
 refine acalls (fn:=Tryz.f212) (nt:=12) Tryz.func212 rfl rfl (Nat.le_of_ble_eq_true rfl) fun E hE=>?_
 rw [laws_szItemS.f] at H
 refine aw_grp1<|wk_start<|kv g0 asg<|wk_end<|ac_next<|aw_grp1<|wk_start<|kv g0 mv<|kv g0 mv<|kv g0 (lnS lenE)<|kv g0 sub6<|kv g0 asg<|wk_end<|ac_next<|aw_grp1<|aw_grp1<|wk_start<|kv g0 mv<|kv g0 lss<|wk_end<|ac_next ?_
 by_cases c1 : (wrap64 (a1 - (l0.length : Int))) < 0
 ·rw [if_pos c1] at H
  refine aw_ifT ?_ (decide_eq_true c1)
  refine aw_grp1<|wk_start<|kv g0 asg<|wk_end<|ac_next<|aw_ret<|ac_thenR ?_
  obtain rfl:=Option.some.inj H
  exact acr hE [.tmp 4] (.tmp .nil) (.one _) [] 9999
 rw [if_neg c1] at H
 refine aw_ifF ?_ (decide_eq_false c1)
 refine aw_skip<|ac_next<|aw_grp1<|wk_start<|kv g0 mv<|kv g0 asg<|wk_end<|ac_next<|aw_ret ?_
 obtain rfl:=Option.some.inj H
 exact acr hE [.tmp 4] (.tmp .nil) (.one _) [] 9999
/-! laws_szRing -/
def laws_szRing.f (l0_0 : List S266) (a0_1 : Int) (a0_2 : Int) (a0_3 : Int) (a1 : Int) : Option (Int):=(laws_szItemS.f l0_0 a1).bind fun t1=>if t1 < 0 then some (-1) else some t1
theorem laws_szRing.ok {l0_0 : List S266} {a0_1 : Int} {a0_2 : Int} {a0_3 : Int} {a1 : Int} {r : Int} (H : laws_szRing.f l0_0 a0_1 a0_2 a0_3 a1 = some r) : ACalls Tryz.prog 128 [] [.agg [.sl .o 4 (l0_0.map e266),.lit (.int .i64 a0_1),.lit (.int .i64 a0_2),.lit (.int .i64 a0_3)],.lit (.int .i64 a1)] [] (.lit (.int .i64 r)):=by
 refine acalls (fn:=Tryz.f128) (nt:=12) Tryz.func128 rfl rfl (Nat.le_of_ble_eq_true rfl) fun E hE=>?_
 rw [laws_szRing.f] at H
 refine aw_grp1<|wk_start<|kb g0 (bxA 0)<|kv g0 asg<|wk_end<|ac_next<|aw_grp1<|wk_start<|kv g0 (faB 0 0)<|kv g0 ldB<|kv g0 mv ?_
 obtain ⟨t1,A2,H⟩:=of_bind H
 refine kcS0 8 (.lit (.int .i64 t1)) [] g0 (cal (laws_szItemS.ok A2) [] 9999 .n (hf:=Tryz.func212)) rfl rfl<|kv g0 asg<|wk_end<|ac_next<|aw_grp1<|aw_grp1<|wk_start<|kv g0 mv<|kv g0 lss<|wk_end<|ac_next ?_
 by_cases c3 : t1 < 0
 ·rw [if_pos c3] at H
  refine aw_ifT ?_ (decide_eq_true c3)
  refine aw_grp1<|wk_start<|kv g0 asg<|wk_end<|ac_next<|aw_ret<|ac_thenR ?_
  obtain rfl:=Option.some.inj H
  exact acr hE [.tmp 4] (.tmp .nil) (.one _) [] 9999
 rw [if_neg c3] at H
 refine aw_ifF ?_ (decide_eq_false c3)
 refine aw_skip<|ac_next<|aw_grp1<|wk_start<|kv g0 mv<|kv g0 asg<|wk_end<|ac_next<|aw_ret ?_
 obtain rfl:=Option.some.inj H
 exact acr hE [.tmp 4] (.tmp .nil) (.one _) [] 9999
/-! laws_szRingS -/
def laws_szRingS.l0 : Nat→(List S187)→Int→Int→Option (Int)
 | 0,_,_,_=>none
 | k9 + 1,l0,p7,p8=>if p8 < (l0.length : Int) then if 0 ≤ p8 then ((laws_szRing.f ((rd_T187 l0 p8).f0) ((rd_T187 l0 p8).f1) ((rd_T187 l0 p8).f2) ((rd_T187 l0 p8).f3) p7).bind fun t12=>if t12 < 0 then some (-1) else laws_szRingS.l0 k9 l0 t12 (wrap64 (p8 + 1))) else none else some p7
def laws_szRingS.f (k : Nat) (l0 : List S187) (a1 : Int) : Option (Int):=if (wrap64 (a1 - (l0.length : Int))) < 0 then some (-1) else laws_szRingS.l0 k l0 (wrap64 (a1 - (l0.length : Int))) 0
theorem laws_szRingS.ok {k : Nat} {l0 : List S187} {a1 : Int} {r : Int} (H : laws_szRingS.f k l0 a1 = some r) : ACalls Tryz.prog 40 [] [.sl .o 4 (l0.map e187),.lit (.int .i64 a1)] [] (.lit (.int .i64 r)):=by
 refine acalls (fn:=Tryz.f40) (nt:=27) Tryz.func40 rfl rfl (Nat.le_of_ble_eq_true rfl) fun E hE=>?_
 rw [laws_szRingS.f] at H
 refine aw_grp1<|wk_start<|kv g0 asg<|wk_end<|ac_next<|aw_grp1<|wk_start<|kv g0 mv<|kv g0 mv<|kv g0 (lnS lenE)<|kv g0 sub6<|kv g0 asg<|wk_end<|ac_next<|aw_grp1<|aw_grp1<|wk_start<|kv g0 mv<|kv g0 lss<|wk_end<|ac_next ?_
 by_cases c1 : (wrap64 (a1 - (l0.length : Int))) < 0
 ·rw [if_pos c1] at H
  refine aw_ifT ?_ (decide_eq_true c1)
  refine aw_grp1<|wk_start<|kv g0 asg<|wk_end<|ac_next<|aw_ret<|ac_thenR ?_
  obtain rfl:=Option.some.inj H
  exact acr hE [.tmp 4] (.tmp .nil) (.one _) [] 9999
 rw [if_neg c1] at H
 refine aw_ifF ?_ (decide_eq_false c1)
 refine aw_skip<|ac_next<|aw_grp1<|aw_grp1<|wk_start<|kv g0 asg<|wk_end<|ac_next<|aw_block ?_
 refine aw_loop2 (fun (k_ : Nat) (p7 : Int) (p8 : Int)=>k_ ≤ k∧laws_szRingS.l0 k_ l0 p7 p8 = some r) (fun (p7 : Int) (p8 : Int)=>⟨[(0,.sl .o 4 (l0.map e187)),(1,.lit (.int .i64 p7)),(5,.lit (.int .i64 p8))],[]⟩) k (wrap64 (a1 - (l0.length : Int))) 0 ⟨Nat.le_refl _,H⟩ (fun K_ h_=>acw hE [] 9999 h_) (fun _ _=>by intro h_;have h_:=h_.2;rw [laws_szRingS.l0.eq_1] at h_;cases h_) ?_
 intro k9 p7 p8 hq_ K15 hK16
 have hk9:=hq_.1
 have H:=hq_.2
 clear hq_
 rw [laws_szRingS.l0.eq_2] at H
 refine aw_grp1<|aw_grp1<|wk_start<|kv g0 mv<|kv g0 mv<|kv g0 (lnS lenE)<|kv g0 lss<|wk_end<|ac_next ?_
 by_cases c10 : p8 < (l0.length : Int)
 ·rw [if_pos c10] at H
  refine aw_ifT ?_ (decide_eq_true c10)
  refine aw_skip<|ac_next<|aw_grp1<|aw_block<|aw_grp1<|wk_start<|kv g0 mv<|kv g0 mv ?_
  obtain ⟨c11,H⟩:=of_if H
  refine kv g0 (ixS 187 (e187 (rd_T187 l0 p8)) c11 (getE (z:=z187) c11 c10))<|kv g0 (ldRA 4 [.sl .o 4 (((rd_T187 l0 p8).f0).map e266),.lit (.int .i64 ((rd_T187 l0 p8).f1)),.lit (.int .i64 ((rd_T187 l0 p8).f2)),.lit (.int .i64 ((rd_T187 l0 p8).f3))])<|kv g0 mv ?_
  obtain ⟨t12,A13,H⟩:=of_bind H
  refine kcS0 23 (.lit (.int .i64 t12)) [] g0 (cal (laws_szRing.ok A13) [] 9999 .n (hf:=Tryz.func128)) rfl rfl<|kv g0 asg<|wk_end<|ac_next<|aw_grp1<|wk_start<|kv g0 mv<|kv g0 lss<|wk_end<|ac_next ?_
  by_cases c14 : t12 < 0
  ·rw [if_pos c14] at H
   refine aw_ifT ?_ (decide_eq_true c14)
   refine aw_grp1<|wk_start<|kv g0 asg<|wk_end<|ac_next<|aw_ret<|ac_blkR<|ac_thenR<|ac_thenR<|ac_blkR<|ac_thenR ?_
   obtain rfl:=Option.some.inj H
   exact acr hE [.tmp 4] (.tmp .nil) (.one _) [] 9999
  rw [if_neg c14] at H
  refine aw_ifF ?_ (decide_eq_false c14)
  refine aw_skip<|ac_blkN<|ac_next<|wk_start<|kv g0 mv<|kv g0 add6<|kv g0 asg<|wk_end<|ac_k ?_
  exact acw hE [] 9999 (hK16 k9 t12 (wrap64 (p8 + 1)) (Nat.le_refl _) ⟨by omega,H⟩)
 rw [if_neg c10] at H
 refine aw_ifF ?_ (decide_eq_false c10)
 refine aw_exit<|ac_then<|ac_then<|ac_hit rfl<|ac_next<|aw_grp1<|wk_start<|kv g0 mv<|kv g0 asg<|wk_end<|ac_next<|aw_ret ?_
 obtain rfl:=Option.some.inj H
 exact acr hE [.tmp 4] (.tmp .nil) (.one _) [] 9999
/-! laws_szSender -/
def laws_szSender.f (a0_0 : Int) (a0_1 : Int) (l0_2 : List S266) (a0_3 : Int) (a0_4 : Int) (a1 : Int) : Option (Int):=(laws_szItemS.f l0_2 a1).bind fun t1=>if t1 < 0 then some (-1) else some t1
theorem laws_szSender.ok {a0_0 : Int} {a0_1 : Int} {l0_2 : List S266} {a0_3 : Int} {a0_4 : Int} {a1 : Int} {r : Int} (H : laws_szSender.f a0_0 a0_1 l0_2 a0_3 a0_4 a1 = some r) : ACalls Tryz.prog 129 [] [.agg [.lit (.int .i64 a0_0),.lit (.int .i64 a0_1),.sl .o 4 (l0_2.map e266),.lit (.int .i64 a0_3),.lit (.int .i64 a0_4)],.lit (.int .i64 a1)] [] (.lit (.int .i64 r)):=by
 refine acalls (fn:=Tryz.f129) (nt:=12) Tryz.func129 rfl rfl (Nat.le_of_ble_eq_true rfl) fun E hE=>?_
 rw [laws_szSender.f] at H
 refine aw_grp1<|wk_start<|kb g0 (bxA 0)<|kv g0 asg<|wk_end<|ac_next<|aw_grp1<|wk_start<|kv g0 (faB 2 2)<|kv g0 ldB<|kv g0 mv ?_
 obtain ⟨t1,A2,H⟩:=of_bind H
 refine kcS0 8 (.lit (.int .i64 t1)) [] g0 (cal (laws_szItemS.ok A2) [] 9999 .n (hf:=Tryz.func212)) rfl rfl<|kv g0 asg<|wk_end<|ac_next<|aw_grp1<|aw_grp1<|wk_start<|kv g0 mv<|kv g0 lss<|wk_end<|ac_next ?_
 by_cases c3 : t1 < 0
 ·rw [if_pos c3] at H
  refine aw_ifT ?_ (decide_eq_true c3)
  refine aw_grp1<|wk_start<|kv g0 asg<|wk_end<|ac_next<|aw_ret<|ac_thenR ?_
  obtain rfl:=Option.some.inj H
  exact acr hE [.tmp 4] (.tmp .nil) (.one _) [] 9999
 rw [if_neg c3] at H
 refine aw_ifF ?_ (decide_eq_false c3)
 refine aw_skip<|ac_next<|aw_grp1<|wk_start<|kv g0 mv<|kv g0 asg<|wk_end<|ac_next<|aw_ret ?_
 obtain rfl:=Option.some.inj H
 exact acr hE [.tmp 4] (.tmp .nil) (.one _) [] 9999
/-! laws_szSenderS -/
def laws_szSenderS.l0 : Nat→(List S190)→Int→Int→Option (Int)
 | 0,_,_,_=>none
 | k9 + 1,l0,p7,p8=>if p8 < (l0.length : Int) then if 0 ≤ p8 then ((laws_szSender.f ((rd_T190 l0 p8).f0) ((rd_T190 l0 p8).f1) ((rd_T190 l0 p8).f2) ((rd_T190 l0 p8).f3) ((rd_T190 l0 p8).f4) p7).bind fun t12=>if t12 < 0 then some (-1) else laws_szSenderS.l0 k9 l0 t12 (wrap64 (p8 + 1))) else none else some p7
def laws_szSenderS.f (k : Nat) (l0 : List S190) (a1 : Int) : Option (Int):=if (wrap64 (a1 - (l0.length : Int))) < 0 then some (-1) else laws_szSenderS.l0 k l0 (wrap64 (a1 - (l0.length : Int))) 0
theorem laws_szSenderS.ok {k : Nat} {l0 : List S190} {a1 : Int} {r : Int} (H : laws_szSenderS.f k l0 a1 = some r) : ACalls Tryz.prog 41 [] [.sl .o 5 (l0.map e190),.lit (.int .i64 a1)] [] (.lit (.int .i64 r)):=by
 refine acalls (fn:=Tryz.f41) (nt:=27) Tryz.func41 rfl rfl (Nat.le_of_ble_eq_true rfl) fun E hE=>?_
 rw [laws_szSenderS.f] at H
 refine aw_grp1<|wk_start<|kv g0 asg<|wk_end<|ac_next<|aw_grp1<|wk_start<|kv g0 mv<|kv g0 mv<|kv g0 (lnS lenE)<|kv g0 sub6<|kv g0 asg<|wk_end<|ac_next<|aw_grp1<|aw_grp1<|wk_start<|kv g0 mv<|kv g0 lss<|wk_end<|ac_next ?_
 by_cases c1 : (wrap64 (a1 - (l0.length : Int))) < 0
 ·rw [if_pos c1] at H
  refine aw_ifT ?_ (decide_eq_true c1)
  refine aw_grp1<|wk_start<|kv g0 asg<|wk_end<|ac_next<|aw_ret<|ac_thenR ?_
  obtain rfl:=Option.some.inj H
  exact acr hE [.tmp 4] (.tmp .nil) (.one _) [] 9999
 rw [if_neg c1] at H
 refine aw_ifF ?_ (decide_eq_false c1)
 refine aw_skip<|ac_next<|aw_grp1<|aw_grp1<|wk_start<|kv g0 asg<|wk_end<|ac_next<|aw_block ?_
 refine aw_loop2 (fun (k_ : Nat) (p7 : Int) (p8 : Int)=>k_ ≤ k∧laws_szSenderS.l0 k_ l0 p7 p8 = some r) (fun (p7 : Int) (p8 : Int)=>⟨[(0,.sl .o 5 (l0.map e190)),(1,.lit (.int .i64 p7)),(5,.lit (.int .i64 p8))],[]⟩) k (wrap64 (a1 - (l0.length : Int))) 0 ⟨Nat.le_refl _,H⟩ (fun K_ h_=>acw hE [] 9999 h_) (fun _ _=>by intro h_;have h_:=h_.2;rw [laws_szSenderS.l0.eq_1] at h_;cases h_) ?_
 intro k9 p7 p8 hq_ K15 hK16
 have hk9:=hq_.1
 have H:=hq_.2
 clear hq_
 rw [laws_szSenderS.l0.eq_2] at H
 refine aw_grp1<|aw_grp1<|wk_start<|kv g0 mv<|kv g0 mv<|kv g0 (lnS lenE)<|kv g0 lss<|wk_end<|ac_next ?_
 by_cases c10 : p8 < (l0.length : Int)
 ·rw [if_pos c10] at H
  refine aw_ifT ?_ (decide_eq_true c10)
  refine aw_skip<|ac_next<|aw_grp1<|aw_block<|aw_grp1<|wk_start<|kv g0 mv<|kv g0 mv ?_
  obtain ⟨c11,H⟩:=of_if H
  refine kv g0 (ixS 190 (e190 (rd_T190 l0 p8)) c11 (getE (z:=z190) c11 c10))<|kv g0 (ldRA 5 [.lit (.int .i64 ((rd_T190 l0 p8).f0)),.lit (.int .i64 ((rd_T190 l0 p8).f1)),.sl .o 4 (((rd_T190 l0 p8).f2).map e266),.lit (.int .i64 ((rd_T190 l0 p8).f3)),.lit (.int .i64 ((rd_T190 l0 p8).f4))])<|kv g0 mv ?_
  obtain ⟨t12,A13,H⟩:=of_bind H
  refine kcS0 23 (.lit (.int .i64 t12)) [] g0 (cal (laws_szSender.ok A13) [] 9999 .n (hf:=Tryz.func129)) rfl rfl<|kv g0 asg<|wk_end<|ac_next<|aw_grp1<|wk_start<|kv g0 mv<|kv g0 lss<|wk_end<|ac_next ?_
  by_cases c14 : t12 < 0
  ·rw [if_pos c14] at H
   refine aw_ifT ?_ (decide_eq_true c14)
   refine aw_grp1<|wk_start<|kv g0 asg<|wk_end<|ac_next<|aw_ret<|ac_blkR<|ac_thenR<|ac_thenR<|ac_blkR<|ac_thenR ?_
   obtain rfl:=Option.some.inj H
   exact acr hE [.tmp 4] (.tmp .nil) (.one _) [] 9999
  rw [if_neg c14] at H
  refine aw_ifF ?_ (decide_eq_false c14)
  refine aw_skip<|ac_blkN<|ac_next<|wk_start<|kv g0 mv<|kv g0 add6<|kv g0 asg<|wk_end<|ac_k ?_
  exact acw hE [] 9999 (hK16 k9 t12 (wrap64 (p8 + 1)) (Nat.le_refl _) ⟨by omega,H⟩)
 rw [if_neg c10] at H
 refine aw_ifF ?_ (decide_eq_false c10)
 refine aw_exit<|ac_then<|ac_then<|ac_hit rfl<|ac_next<|aw_grp1<|wk_start<|kv g0 mv<|kv g0 asg<|wk_end<|ac_next<|aw_ret ?_
 obtain rfl:=Option.some.inj H
 exact acr hE [.tmp 4] (.tmp .nil) (.one _) [] 9999
/-! laws_szEntryS -/
def laws_szEntryS.f (l0 : List S268) (a1 : Int) : Option (Int):=if (wrap64 (a1 - (l0.length : Int))) < 0 then some (-1) else some (wrap64 (a1 - (l0.length : Int)))
theorem laws_szEntryS.ok {l0 : List S268} {a1 : Int} {r : Int} (H : laws_szEntryS.f l0 a1 = some r) : ACalls Tryz.prog 130 [] [.sl .o 6 (l0.map e268),.lit (.int .i64 a1)] [] (.lit (.int .i64 r)):=by
 refine acalls (fn:=Tryz.f130) (nt:=12) Tryz.func130 rfl rfl (Nat.le_of_ble_eq_true rfl) fun E hE=>?_
 rw [laws_szEntryS.f] at H
 refine aw_grp1<|wk_start<|kv g0 asg<|wk_end<|ac_next<|aw_grp1<|wk_start<|kv g0 mv<|kv g0 mv<|kv g0 (lnS lenE)<|kv g0 sub6<|kv g0 asg<|wk_end<|ac_next<|aw_grp1<|aw_grp1<|wk_start<|kv g0 mv<|kv g0 lss<|wk_end<|ac_next ?_
 by_cases c1 : (wrap64 (a1 - (l0.length : Int))) < 0
 ·rw [if_pos c1] at H
  refine aw_ifT ?_ (decide_eq_true c1)
  refine aw_grp1<|wk_start<|kv g0 asg<|wk_end<|ac_next<|aw_ret<|ac_thenR ?_
  obtain rfl:=Option.some.inj H
  exact acr hE [.tmp 4] (.tmp .nil) (.one _) [] 9999
 rw [if_neg c1] at H
 refine aw_ifF ?_ (decide_eq_false c1)
 refine aw_skip<|ac_next<|aw_grp1<|wk_start<|kv g0 mv<|kv g0 asg<|wk_end<|ac_next<|aw_ret ?_
 obtain rfl:=Option.some.inj H
 exact acr hE [.tmp 4] (.tmp .nil) (.one _) [] 9999
/-! laws_szIntS -/
def laws_szIntS.f (l0 : List Int) (a1 : Int) : Option (Int):=if (wrap64 (a1 - (l0.length : Int))) < 0 then some (-1) else some (wrap64 (a1 - (l0.length : Int)))
theorem laws_szIntS.ok {l0 : List Int} {a1 : Int} {r : Int} (H : laws_szIntS.f l0 a1 = some r) : ACalls Tryz.prog 44 [] [.sl .o 1 (l0.map (eI .i64)),.lit (.int .i64 a1)] [] (.lit (.int .i64 r)):=by
 refine acalls (fn:=Tryz.f44) (nt:=12) Tryz.func44 rfl rfl (Nat.le_of_ble_eq_true rfl) fun E hE=>?_
 rw [laws_szIntS.f] at H
 refine aw_grp1<|wk_start<|kv g0 asg<|wk_end<|ac_next<|aw_grp1<|wk_start<|kv g0 mv<|kv g0 mv<|kv g0 (lnS lenE)<|kv g0 sub6<|kv g0 asg<|wk_end<|ac_next<|aw_grp1<|aw_grp1<|wk_start<|kv g0 mv<|kv g0 lss<|wk_end<|ac_next ?_
 by_cases c1 : (wrap64 (a1 - (l0.length : Int))) < 0
 ·rw [if_pos c1] at H
  refine aw_ifT ?_ (decide_eq_true c1)
  refine aw_grp1<|wk_start<|kv g0 asg<|wk_end<|ac_next<|aw_ret<|ac_thenR ?_
  obtain rfl:=Option.some.inj H
  exact acr hE [.tmp 4] (.tmp .nil) (.one _) [] 9999
 rw [if_neg c1] at H
 refine aw_ifF ?_ (decide_eq_false c1)
 refine aw_skip<|ac_next<|aw_grp1<|wk_start<|kv g0 mv<|kv g0 asg<|wk_end<|ac_next<|aw_ret ?_
 obtain rfl:=Option.some.inj H
 exact acr hE [.tmp 4] (.tmp .nil) (.one _) [] 9999
/-! laws_szEarlyS -/
def laws_szEarlyS.f (l0 : List S270) (a1 : Int) : Option (Int):=if (wrap64 (a1 - (l0.length : Int))) < 0 then some (-1) else some (wrap64 (a1 - (l0.length : Int)))
theorem laws_szEarlyS.ok {l0 : List S270} {a1 : Int} {r : Int} (H : laws_szEarlyS.f l0 a1 = some r) : ACalls Tryz.prog 131 [] [.sl .o 6 (l0.map e270),.lit (.int .i64 a1)] [] (.lit (.int .i64 r)):=by
 refine acalls (fn:=Tryz.f131) (nt:=12) Tryz.func131 rfl rfl (Nat.le_of_ble_eq_true rfl) fun E hE=>?_
 rw [laws_szEarlyS.f] at H
 refine aw_grp1<|wk_start<|kv g0 asg<|wk_end<|ac_next<|aw_grp1<|wk_start<|kv g0 mv<|kv g0 mv<|kv g0 (lnS lenE)<|kv g0 sub6<|kv g0 asg<|wk_end<|ac_next<|aw_grp1<|aw_grp1<|wk_start<|kv g0 mv<|kv g0 lss<|wk_end<|ac_next ?_
 by_cases c1 : (wrap64 (a1 - (l0.length : Int))) < 0
 ·rw [if_pos c1] at H
  refine aw_ifT ?_ (decide_eq_true c1)
  refine aw_grp1<|wk_start<|kv g0 asg<|wk_end<|ac_next<|aw_ret<|ac_thenR ?_
  obtain rfl:=Option.some.inj H
  exact acr hE [.tmp 4] (.tmp .nil) (.one _) [] 9999
 rw [if_neg c1] at H
 refine aw_ifF ?_ (decide_eq_false c1)
 refine aw_skip<|ac_next<|aw_grp1<|wk_start<|kv g0 mv<|kv g0 asg<|wk_end<|ac_next<|aw_ret ?_
 obtain rfl:=Option.some.inj H
 exact acr hE [.tmp 4] (.tmp .nil) (.one _) [] 9999
/-! laws_szKeeper -/
def laws_szKeeper.f (l0_0 : List S268) (l0_1 : List Int) (l0_2 : List S270) (a0_3 : Int) (l0_4 : List Int) (a1 : Int) : Option (Int):=(laws_szEntryS.f l0_0 a1).bind fun t1=>if t1 < 0 then some (-1) else (laws_szIntS.f l0_1 t1).bind fun t4=>if t4 < 0 then some (-1) else (laws_szEarlyS.f l0_2 t4).bind fun t7=>if t7 < 0 then some (-1) else (laws_szIntS.f l0_4 t7).bind fun t10=>if t10 < 0 then some (-1) else some t10
theorem laws_szKeeper.ok {l0_0 : List S268} {l0_1 : List Int} {l0_2 : List S270} {a0_3 : Int} {l0_4 : List Int} {a1 : Int} {r : Int} (H : laws_szKeeper.f l0_0 l0_1 l0_2 a0_3 l0_4 a1 = some r) : ACalls Tryz.prog 42 [] [.agg [.sl .o 6 (l0_0.map e268),.sl .o 1 (l0_1.map (eI .i64)),.sl .o 6 (l0_2.map e270),.lit (.int .i64 a0_3),.sl .o 1 (l0_4.map (eI .i64))],.lit (.int .i64 a1)] [] (.lit (.int .i64 r)):=by
 refine acalls (fn:=Tryz.f42) (nt:=30) Tryz.func42 rfl rfl (Nat.le_of_ble_eq_true rfl) fun E hE=>?_
 rw [laws_szKeeper.f] at H
 refine aw_grp1<|wk_start<|kb g0 (bxA 0)<|kv g0 asg<|wk_end<|ac_next<|aw_grp1<|wk_start<|kv g0 (faB 0 0)<|kv g0 ldB<|kv g0 mv ?_
 obtain ⟨t1,A2,H⟩:=of_bind H
 refine kcS0 8 (.lit (.int .i64 t1)) [] g0 (cal (laws_szEntryS.ok A2) [] 9999 .n (hf:=Tryz.func130)) rfl rfl<|kv g0 asg<|wk_end<|ac_next<|aw_grp1<|aw_grp1<|wk_start<|kv g0 mv<|kv g0 lss<|wk_end<|ac_next ?_
 by_cases c3 : t1 < 0
 ·rw [if_pos c3] at H
  refine aw_ifT ?_ (decide_eq_true c3)
  refine aw_grp1<|wk_start<|kv g0 asg<|wk_end<|ac_next<|aw_ret<|ac_thenR ?_
  obtain rfl:=Option.some.inj H
  exact acr hE [.tmp 4] (.tmp .nil) (.one _) [] 9999
 rw [if_neg c3] at H
 refine aw_ifF ?_ (decide_eq_false c3)
 refine aw_skip<|ac_next<|aw_grp1<|wk_start<|kv g0 (faB 1 1)<|kv g0 ldB<|kv g0 mv ?_
 obtain ⟨t4,A5,H⟩:=of_bind H
 refine kcS0 14 (.lit (.int .i64 t4)) [] g0 (cal (laws_szIntS.ok A5) [] 9999 .n (hf:=Tryz.func44)) rfl rfl<|kv g0 asg<|wk_end<|ac_next<|aw_grp1<|aw_grp1<|wk_start<|kv g0 mv<|kv g0 lss<|wk_end<|ac_next ?_
 by_cases c6 : t4 < 0
 ·rw [if_pos c6] at H
  refine aw_ifT ?_ (decide_eq_true c6)
  refine aw_grp1<|wk_start<|kv g0 asg<|wk_end<|ac_next<|aw_ret<|ac_thenR ?_
  obtain rfl:=Option.some.inj H
  exact acr hE [.tmp 4] (.tmp .nil) (.one _) [] 9999
 rw [if_neg c6] at H
 refine aw_ifF ?_ (decide_eq_false c6)
 refine aw_skip<|ac_next<|aw_grp1<|wk_start<|kv g0 (faB 2 2)<|kv g0 ldB<|kv g0 mv ?_
 obtain ⟨t7,A8,H⟩:=of_bind H
 refine kcS0 20 (.lit (.int .i64 t7)) [] g0 (cal (laws_szEarlyS.ok A8) [] 9999 .n (hf:=Tryz.func131)) rfl rfl<|kv g0 asg<|wk_end<|ac_next<|aw_grp1<|aw_grp1<|wk_start<|kv g0 mv<|kv g0 lss<|wk_end<|ac_next ?_
 by_cases c9 : t7 < 0
 ·rw [if_pos c9] at H
  refine aw_ifT ?_ (decide_eq_true c9)
  refine aw_grp1<|wk_start<|kv g0 asg<|wk_end<|ac_next<|aw_ret<|ac_thenR ?_
  obtain rfl:=Option.some.inj H
  exact acr hE [.tmp 4] (.tmp .nil) (.one _) [] 9999
 rw [if_neg c9] at H
 refine aw_ifF ?_ (decide_eq_false c9)
 refine aw_skip<|ac_next<|aw_grp1<|wk_start<|kv g0 (faB 4 4)<|kv g0 ldB<|kv g0 mv ?_
 obtain ⟨t10,A11,H⟩:=of_bind H
 refine kcS0 26 (.lit (.int .i64 t10)) [] g0 (cal (laws_szIntS.ok A11) [] 9999 .n (hf:=Tryz.func44)) rfl rfl<|kv g0 asg<|wk_end<|ac_next<|aw_grp1<|aw_grp1<|wk_start<|kv g0 mv<|kv g0 lss<|wk_end<|ac_next ?_
 by_cases c12 : t10 < 0
 ·rw [if_pos c12] at H
  refine aw_ifT ?_ (decide_eq_true c12)
  refine aw_grp1<|wk_start<|kv g0 asg<|wk_end<|ac_next<|aw_ret<|ac_thenR ?_
  obtain rfl:=Option.some.inj H
  exact acr hE [.tmp 4] (.tmp .nil) (.one _) [] 9999
 rw [if_neg c12] at H
 refine aw_ifF ?_ (decide_eq_false c12)
 refine aw_skip<|ac_next<|aw_grp1<|wk_start<|kv g0 mv<|kv g0 asg<|wk_end<|ac_next<|aw_ret ?_
 obtain rfl:=Option.some.inj H
 exact acr hE [.tmp 4] (.tmp .nil) (.one _) [] 9999
/-! laws_szLetter -/
def laws_szLetter.f (a0_0 : Bool) (a0_1 : ByteArray) (a0_2 : Bool) (a1 : Int) : Option (Int):=if (wrap64 (a1 - (a0_1.size : Int))) < 0 then some (-1) else some (wrap64 (a1 - (a0_1.size : Int)))
theorem laws_szLetter.ok {a0_0 : Bool} {a0_1 : ByteArray} {a0_2 : Bool} {a1 : Int} {r : Int} (H : laws_szLetter.f a0_0 a0_1 a0_2 a1 = some r) : ACalls Tryz.prog 132 [] [.agg [.lit (.bool a0_0),.lit (.string a0_1),.lit (.bool a0_2)],.lit (.int .i64 a1)] [] (.lit (.int .i64 r)):=by
 refine acalls (fn:=Tryz.f132) (nt:=13) Tryz.func132 rfl rfl (Nat.le_of_ble_eq_true rfl) fun E hE=>?_
 rw [laws_szLetter.f] at H
 refine aw_grp1<|wk_start<|kb g0 (bxA 0)<|kv g0 asg<|wk_end<|ac_next<|aw_grp1<|wk_start<|kv g0 mv<|kv g0 (faB 1 1)<|kv g0 ldB<|kv g0 lnT<|kv g0 sub6<|kv g0 asg<|wk_end<|ac_next<|aw_grp1<|aw_grp1<|wk_start<|kv g0 mv<|kv g0 lss<|wk_end<|ac_next ?_
 by_cases c1 : (wrap64 (a1 - (a0_1.size : Int))) < 0
 ·rw [if_pos c1] at H
  refine aw_ifT ?_ (decide_eq_true c1)
  refine aw_grp1<|wk_start<|kv g0 asg<|wk_end<|ac_next<|aw_ret<|ac_thenR ?_
  obtain rfl:=Option.some.inj H
  exact acr hE [.tmp 4] (.tmp .nil) (.one _) [] 9999
 rw [if_neg c1] at H
 refine aw_ifF ?_ (decide_eq_false c1)
 refine aw_skip<|ac_next<|aw_grp1<|wk_start<|kv g0 mv<|kv g0 asg<|wk_end<|ac_next<|aw_ret ?_
 obtain rfl:=Option.some.inj H
 exact acr hE [.tmp 4] (.tmp .nil) (.one _) [] 9999
/-! laws_szLetterS -/
def laws_szLetterS.l0 : Nat→(List S194)→Int→Int→Option (Int)
 | 0,_,_,_=>none
 | k9 + 1,l0,p7,p8=>if p8 < (l0.length : Int) then if 0 ≤ p8 then ((laws_szLetter.f ((rd_T194 l0 p8).f0) ((rd_T194 l0 p8).f1) ((rd_T194 l0 p8).f2) p7).bind fun t12=>if t12 < 0 then some (-1) else laws_szLetterS.l0 k9 l0 t12 (wrap64 (p8 + 1))) else none else some p7
def laws_szLetterS.f (k : Nat) (l0 : List S194) (a1 : Int) : Option (Int):=if (wrap64 (a1 - (l0.length : Int))) < 0 then some (-1) else laws_szLetterS.l0 k l0 (wrap64 (a1 - (l0.length : Int))) 0
theorem laws_szLetterS.ok {k : Nat} {l0 : List S194} {a1 : Int} {r : Int} (H : laws_szLetterS.f k l0 a1 = some r) : ACalls Tryz.prog 43 [] [.sl .o 3 (l0.map e194),.lit (.int .i64 a1)] [] (.lit (.int .i64 r)):=by
 refine acalls (fn:=Tryz.f43) (nt:=27) Tryz.func43 rfl rfl (Nat.le_of_ble_eq_true rfl) fun E hE=>?_
 rw [laws_szLetterS.f] at H
 refine aw_grp1<|wk_start<|kv g0 asg<|wk_end<|ac_next<|aw_grp1<|wk_start<|kv g0 mv<|kv g0 mv<|kv g0 (lnS lenE)<|kv g0 sub6<|kv g0 asg<|wk_end<|ac_next<|aw_grp1<|aw_grp1<|wk_start<|kv g0 mv<|kv g0 lss<|wk_end<|ac_next ?_
 by_cases c1 : (wrap64 (a1 - (l0.length : Int))) < 0
 ·rw [if_pos c1] at H
  refine aw_ifT ?_ (decide_eq_true c1)
  refine aw_grp1<|wk_start<|kv g0 asg<|wk_end<|ac_next<|aw_ret<|ac_thenR ?_
  obtain rfl:=Option.some.inj H
  exact acr hE [.tmp 4] (.tmp .nil) (.one _) [] 9999
 rw [if_neg c1] at H
 refine aw_ifF ?_ (decide_eq_false c1)
 refine aw_skip<|ac_next<|aw_grp1<|aw_grp1<|wk_start<|kv g0 asg<|wk_end<|ac_next<|aw_block ?_
 refine aw_loop2 (fun (k_ : Nat) (p7 : Int) (p8 : Int)=>k_ ≤ k∧laws_szLetterS.l0 k_ l0 p7 p8 = some r) (fun (p7 : Int) (p8 : Int)=>⟨[(0,.sl .o 3 (l0.map e194)),(1,.lit (.int .i64 p7)),(5,.lit (.int .i64 p8))],[]⟩) k (wrap64 (a1 - (l0.length : Int))) 0 ⟨Nat.le_refl _,H⟩ (fun K_ h_=>acw hE [] 9999 h_) (fun _ _=>by intro h_;have h_:=h_.2;rw [laws_szLetterS.l0.eq_1] at h_;cases h_) ?_
 intro k9 p7 p8 hq_ K15 hK16
 have hk9:=hq_.1
 have H:=hq_.2
 clear hq_
 rw [laws_szLetterS.l0.eq_2] at H
 refine aw_grp1<|aw_grp1<|wk_start<|kv g0 mv<|kv g0 mv<|kv g0 (lnS lenE)<|kv g0 lss<|wk_end<|ac_next ?_
 by_cases c10 : p8 < (l0.length : Int)
 ·rw [if_pos c10] at H
  refine aw_ifT ?_ (decide_eq_true c10)
  refine aw_skip<|ac_next<|aw_grp1<|aw_block<|aw_grp1<|wk_start<|kv g0 mv<|kv g0 mv ?_
  obtain ⟨c11,H⟩:=of_if H
  refine kv g0 (ixS 194 (e194 (rd_T194 l0 p8)) c11 (getE (z:=z194) c11 c10))<|kv g0 (ldRA 3 [.lit (.bool ((rd_T194 l0 p8).f0)),.lit (.string ((rd_T194 l0 p8).f1)),.lit (.bool ((rd_T194 l0 p8).f2))])<|kv g0 mv ?_
  obtain ⟨t12,A13,H⟩:=of_bind H
  refine kcS0 23 (.lit (.int .i64 t12)) [] g0 (cal (laws_szLetter.ok A13) [] 9999 .n (hf:=Tryz.func132)) rfl rfl<|kv g0 asg<|wk_end<|ac_next<|aw_grp1<|wk_start<|kv g0 mv<|kv g0 lss<|wk_end<|ac_next ?_
  by_cases c14 : t12 < 0
  ·rw [if_pos c14] at H
   refine aw_ifT ?_ (decide_eq_true c14)
   refine aw_grp1<|wk_start<|kv g0 asg<|wk_end<|ac_next<|aw_ret<|ac_blkR<|ac_thenR<|ac_thenR<|ac_blkR<|ac_thenR ?_
   obtain rfl:=Option.some.inj H
   exact acr hE [.tmp 4] (.tmp .nil) (.one _) [] 9999
  rw [if_neg c14] at H
  refine aw_ifF ?_ (decide_eq_false c14)
  refine aw_skip<|ac_blkN<|ac_next<|wk_start<|kv g0 mv<|kv g0 add6<|kv g0 asg<|wk_end<|ac_k ?_
  exact acw hE [] 9999 (hK16 k9 t12 (wrap64 (p8 + 1)) (Nat.le_refl _) ⟨by omega,H⟩)
 rw [if_neg c10] at H
 refine aw_ifF ?_ (decide_eq_false c10)
 refine aw_exit<|ac_then<|ac_then<|ac_hit rfl<|ac_next<|aw_grp1<|wk_start<|kv g0 mv<|kv g0 asg<|wk_end<|ac_next<|aw_ret ?_
 obtain rfl:=Option.some.inj H
 exact acr hE [.tmp 4] (.tmp .nil) (.one _) [] 9999
/-! laws_szSeenS -/
def laws_szSeenS.f (l0 : List S210) (a1 : Int) : Option (Int):=if (wrap64 (a1 - (l0.length : Int))) < 0 then some (-1) else some (wrap64 (a1 - (l0.length : Int)))
theorem laws_szSeenS.ok {l0 : List S210} {a1 : Int} {r : Int} (H : laws_szSeenS.f l0 a1 = some r) : ACalls Tryz.prog 45 [] [.sl .o 4 (l0.map e210),.lit (.int .i64 a1)] [] (.lit (.int .i64 r)):=by
 refine acalls (fn:=Tryz.f45) (nt:=12) Tryz.func45 rfl rfl (Nat.le_of_ble_eq_true rfl) fun E hE=>?_
 rw [laws_szSeenS.f] at H
 refine aw_grp1<|wk_start<|kv g0 asg<|wk_end<|ac_next<|aw_grp1<|wk_start<|kv g0 mv<|kv g0 mv<|kv g0 (lnS lenE)<|kv g0 sub6<|kv g0 asg<|wk_end<|ac_next<|aw_grp1<|aw_grp1<|wk_start<|kv g0 mv<|kv g0 lss<|wk_end<|ac_next ?_
 by_cases c1 : (wrap64 (a1 - (l0.length : Int))) < 0
 ·rw [if_pos c1] at H
  refine aw_ifT ?_ (decide_eq_true c1)
  refine aw_grp1<|wk_start<|kv g0 asg<|wk_end<|ac_next<|aw_ret<|ac_thenR ?_
  obtain rfl:=Option.some.inj H
  exact acr hE [.tmp 4] (.tmp .nil) (.one _) [] 9999
 rw [if_neg c1] at H
 refine aw_ifF ?_ (decide_eq_false c1)
 refine aw_skip<|ac_next<|aw_grp1<|wk_start<|kv g0 mv<|kv g0 asg<|wk_end<|ac_next<|aw_ret ?_
 obtain rfl:=Option.some.inj H
 exact acr hE [.tmp 4] (.tmp .nil) (.one _) [] 9999
/-! laws_szWorld -/
def laws_szWorld.f (k : Nat) (l0_0 : List (List (List S308))) (l0_1 : List S187) (l0_2 : List S190) (l0_3 : List S268) (l0_4 : List Int) (l0_5 : List S270) (a0_6 : Int) (l0_7 : List Int) (l0_8 : List S194) (a0_9 : Int) (l0_10 : List Int) (l0_11 : List S210) (a1 : Int) : Option (Int):=(laws_szInsSSS.f k l0_0 a1).bind fun t1=>if t1 < 0 then some (-1) else (laws_szRingS.f k l0_1 t1).bind fun t4=>if t4 < 0 then some (-1) else (laws_szSenderS.f k l0_2 t4).bind fun t7=>if t7 < 0 then some (-1) else (laws_szKeeper.f l0_3 l0_4 l0_5 a0_6 l0_7 t7).bind fun t10=>if t10 < 0 then some (-1) else (laws_szLetterS.f k l0_8 t10).bind fun t13=>if t13 < 0 then some (-1) else (laws_szIntS.f l0_10 t13).bind fun t16=>if t16 < 0 then some (-1) else (laws_szSeenS.f l0_11 t16).bind fun t19=>if t19 < 0 then some (-1) else some t19
theorem laws_szWorld.ok {k : Nat} {l0_0 : List (List (List S308))} {l0_1 : List S187} {l0_2 : List S190} {l0_3 : List S268} {l0_4 : List Int} {l0_5 : List S270} {a0_6 : Int} {l0_7 : List Int} {l0_8 : List S194} {a0_9 : Int} {l0_10 : List Int} {l0_11 : List S210} {a1 : Int} {r : Int} (H : laws_szWorld.f k l0_0 l0_1 l0_2 l0_3 l0_4 l0_5 a0_6 l0_7 l0_8 a0_9 l0_10 l0_11 a1 = some r) : ACalls Tryz.prog 8 [] [.agg [.sl .o 1 (l0_0.map (eL 1 (eL 4 (e308)))),.sl .o 4 (l0_1.map e187),.sl .o 5 (l0_2.map e190),.sl .o 6 (l0_3.map e268),.sl .o 1 (l0_4.map (eI .i64)),.sl .o 6 (l0_5.map e270),.lit (.int .i64 a0_6),.sl .o 1 (l0_7.map (eI .i64)),.sl .o 3 (l0_8.map e194),.lit (.int .i64 a0_9),.sl .o 1 (l0_10.map (eI .i64)),.sl .o 4 (l0_11.map e210)],.lit (.int .i64 a1)] [] (.lit (.int .i64 r)):=by
 refine acalls (fn:=Tryz.f8) (nt:=48) Tryz.func8 rfl rfl (Nat.le_of_ble_eq_true rfl) fun E hE=>?_
 rw [laws_szWorld.f] at H
 refine aw_grp1<|wk_start<|kb g0 (bxA 0)<|kv g0 asg<|wk_end<|ac_next<|aw_grp1<|wk_start<|kv g0 (faB 0 0)<|kv g0 ldB<|kv g0 mv ?_
 obtain ⟨t1,A2,H⟩:=of_bind H
 refine kcS0 8 (.lit (.int .i64 t1)) [] g0 (cal (laws_szInsSSS.ok A2) [] 9999 .n (hf:=Tryz.func39)) rfl rfl<|kv g0 asg<|wk_end<|ac_next<|aw_grp1<|aw_grp1<|wk_start<|kv g0 mv<|kv g0 lss<|wk_end<|ac_next ?_
 by_cases c3 : t1 < 0
 ·rw [if_pos c3] at H
  refine aw_ifT ?_ (decide_eq_true c3)
  refine aw_grp1<|wk_start<|kv g0 asg<|wk_end<|ac_next<|aw_ret<|ac_thenR ?_
  obtain rfl:=Option.some.inj H
  exact acr hE [.tmp 4] (.tmp .nil) (.one _) [] 9999
 rw [if_neg c3] at H
 refine aw_ifF ?_ (decide_eq_false c3)
 refine aw_skip<|ac_next<|aw_grp1<|wk_start<|kv g0 (faB 1 1)<|kv g0 ldB<|kv g0 mv ?_
 obtain ⟨t4,A5,H⟩:=of_bind H
 refine kcS0 14 (.lit (.int .i64 t4)) [] g0 (cal (laws_szRingS.ok A5) [] 9999 .n (hf:=Tryz.func40)) rfl rfl<|kv g0 asg<|wk_end<|ac_next<|aw_grp1<|aw_grp1<|wk_start<|kv g0 mv<|kv g0 lss<|wk_end<|ac_next ?_
 by_cases c6 : t4 < 0
 ·rw [if_pos c6] at H
  refine aw_ifT ?_ (decide_eq_true c6)
  refine aw_grp1<|wk_start<|kv g0 asg<|wk_end<|ac_next<|aw_ret<|ac_thenR ?_
  obtain rfl:=Option.some.inj H
  exact acr hE [.tmp 4] (.tmp .nil) (.one _) [] 9999
 rw [if_neg c6] at H
 refine aw_ifF ?_ (decide_eq_false c6)
 refine aw_skip<|ac_next<|aw_grp1<|wk_start<|kv g0 (faB 2 2)<|kv g0 ldB<|kv g0 mv ?_
 obtain ⟨t7,A8,H⟩:=of_bind H
 refine kcS0 20 (.lit (.int .i64 t7)) [] g0 (cal (laws_szSenderS.ok A8) [] 9999 .n (hf:=Tryz.func41)) rfl rfl<|kv g0 asg<|wk_end<|ac_next<|aw_grp1<|aw_grp1<|wk_start<|kv g0 mv<|kv g0 lss<|wk_end<|ac_next ?_
 by_cases c9 : t7 < 0
 ·rw [if_pos c9] at H
  refine aw_ifT ?_ (decide_eq_true c9)
  refine aw_grp1<|wk_start<|kv g0 asg<|wk_end<|ac_next<|aw_ret<|ac_thenR ?_
  obtain rfl:=Option.some.inj H
  exact acr hE [.tmp 4] (.tmp .nil) (.one _) [] 9999
 rw [if_neg c9] at H
 refine aw_ifF ?_ (decide_eq_false c9)
 refine aw_skip<|ac_next<|aw_grp1<|wk_start<|kv g0 (faB 3 3)<|kv g0 (ldBA 5 [.sl .o 6 (l0_3.map e268),.sl .o 1 (l0_4.map (eI .i64)),.sl .o 6 (l0_5.map e270),.lit (.int .i64 a0_6),.sl .o 1 (l0_7.map (eI .i64))])<|kv g0 mv ?_
 obtain ⟨t10,A11,H⟩:=of_bind H
 refine kcS0 26 (.lit (.int .i64 t10)) [] g0 (cal (laws_szKeeper.ok A11) [] 9999 .n (hf:=Tryz.func42)) rfl rfl<|kv g0 asg<|wk_end<|ac_next<|aw_grp1<|aw_grp1<|wk_start<|kv g0 mv<|kv g0 lss<|wk_end<|ac_next ?_
 by_cases c12 : t10 < 0
 ·rw [if_pos c12] at H
  refine aw_ifT ?_ (decide_eq_true c12)
  refine aw_grp1<|wk_start<|kv g0 asg<|wk_end<|ac_next<|aw_ret<|ac_thenR ?_
  obtain rfl:=Option.some.inj H
  exact acr hE [.tmp 4] (.tmp .nil) (.one _) [] 9999
 rw [if_neg c12] at H
 refine aw_ifF ?_ (decide_eq_false c12)
 refine aw_skip<|ac_next<|aw_grp1<|wk_start<|kv g0 (faB 8 8)<|kv g0 ldB<|kv g0 mv ?_
 obtain ⟨t13,A14,H⟩:=of_bind H
 refine kcS0 32 (.lit (.int .i64 t13)) [] g0 (cal (laws_szLetterS.ok A14) [] 9999 .n (hf:=Tryz.func43)) rfl rfl<|kv g0 asg<|wk_end<|ac_next<|aw_grp1<|aw_grp1<|wk_start<|kv g0 mv<|kv g0 lss<|wk_end<|ac_next ?_
 by_cases c15 : t13 < 0
 ·rw [if_pos c15] at H
  refine aw_ifT ?_ (decide_eq_true c15)
  refine aw_grp1<|wk_start<|kv g0 asg<|wk_end<|ac_next<|aw_ret<|ac_thenR ?_
  obtain rfl:=Option.some.inj H
  exact acr hE [.tmp 4] (.tmp .nil) (.one _) [] 9999
 rw [if_neg c15] at H
 refine aw_ifF ?_ (decide_eq_false c15)
 refine aw_skip<|ac_next<|aw_grp1<|wk_start<|kv g0 (faB 10 10)<|kv g0 ldB<|kv g0 mv ?_
 obtain ⟨t16,A17,H⟩:=of_bind H
 refine kcS0 38 (.lit (.int .i64 t16)) [] g0 (cal (laws_szIntS.ok A17) [] 9999 .n (hf:=Tryz.func44)) rfl rfl<|kv g0 asg<|wk_end<|ac_next<|aw_grp1<|aw_grp1<|wk_start<|kv g0 mv<|kv g0 lss<|wk_end<|ac_next ?_
 by_cases c18 : t16 < 0
 ·rw [if_pos c18] at H
  refine aw_ifT ?_ (decide_eq_true c18)
  refine aw_grp1<|wk_start<|kv g0 asg<|wk_end<|ac_next<|aw_ret<|ac_thenR ?_
  obtain rfl:=Option.some.inj H
  exact acr hE [.tmp 4] (.tmp .nil) (.one _) [] 9999
 rw [if_neg c18] at H
 refine aw_ifF ?_ (decide_eq_false c18)
 refine aw_skip<|ac_next<|aw_grp1<|wk_start<|kv g0 (faB 11 11)<|kv g0 ldB<|kv g0 mv ?_
 obtain ⟨t19,A20,H⟩:=of_bind H
 refine kcS0 44 (.lit (.int .i64 t19)) [] g0 (cal (laws_szSeenS.ok A20) [] 9999 .n (hf:=Tryz.func45)) rfl rfl<|kv g0 asg<|wk_end<|ac_next<|aw_grp1<|aw_grp1<|wk_start<|kv g0 mv<|kv g0 lss<|wk_end<|ac_next ?_
 by_cases c21 : t19 < 0
 ·rw [if_pos c21] at H
  refine aw_ifT ?_ (decide_eq_true c21)
  refine aw_grp1<|wk_start<|kv g0 asg<|wk_end<|ac_next<|aw_ret<|ac_thenR ?_
  obtain rfl:=Option.some.inj H
  exact acr hE [.tmp 4] (.tmp .nil) (.one _) [] 9999
 rw [if_neg c21] at H
 refine aw_ifF ?_ (decide_eq_false c21)
 refine aw_skip<|ac_next<|aw_grp1<|wk_start<|kv g0 mv<|kv g0 asg<|wk_end<|ac_next<|aw_ret ?_
 obtain rfl:=Option.some.inj H
 exact acr hE [.tmp 4] (.tmp .nil) (.one _) [] 9999
/-! laws_toIns -/
def laws_toIns.f (a0_0 : Int) (a0_1 : Int) (a0_2 : Int) (a0_3 : Int) : Option (Int × Int × Int × Int):=some (a0_0,a0_1,a0_2,a0_3)
theorem laws_toIns.ok {a0_0 : Int} {a0_1 : Int} {a0_2 : Int} {a0_3 : Int} {r : Int × Int × Int × Int} (H : laws_toIns.f a0_0 a0_1 a0_2 a0_3 = some r) : ACalls Tryz.prog 263 [] [.agg [.lit (.int .i64 a0_0),.lit (.int .i64 a0_1),.lit (.int .i64 a0_2),.lit (.int .i64 a0_3)]] [] (.agg [.lit (.int .i64 r.1),.lit (.int .i64 r.2.1),.lit (.int .i64 r.2.2.1),.lit (.int .i64 r.2.2.2)]):=by
 refine acalls (fn:=Tryz.f263) (nt:=17) Tryz.func263 rfl rfl (Nat.le_of_ble_eq_true rfl) fun E hE=>?_
 rw [laws_toIns.f] at H
 refine aw_grp1<|wk_start<|kb g0 (bxA 0)<|kb g0 (alc 1 [.int .i64 0,.int .i64 0,.int .i64 0,.int .i64 0] [.lit (.int .i64 0),.lit (.int .i64 0),.lit (.int .i64 0),.lit (.int .i64 0)])<|wk_end<|ac_next<|aw_grp1<|wk_start<|kb g0 (alc 2 [.int .i64 0,.int .i64 0,.int .i64 0,.int .i64 0] [.lit (.int .i64 0),.lit (.int .i64 0),.lit (.int .i64 0),.lit (.int .i64 0)])<|wk_end<|ac_next<|aw_grp1<|wk_start<|kv g0 (faB 0 0)<|kv g0 ldB<|kv g0 (faB 0 0)<|ks g0 (stB 1 [.lit (.int .i64 a0_0),.lit (.int .i64 0),.lit (.int .i64 0),.lit (.int .i64 0)])<|wk_end<|ac_next<|aw_grp1<|wk_start<|kv g0 (faB 1 1)<|kv g0 ldB<|kv g0 (faB 1 1)<|ks g0 (stB 1 [.lit (.int .i64 a0_0),.lit (.int .i64 a0_1),.lit (.int .i64 0),.lit (.int .i64 0)])<|wk_end<|ac_next<|aw_grp1<|wk_start<|kv g0 (faB 2 2)<|kv g0 ldB<|kv g0 (faB 2 2)<|ks g0 (stB 1 [.lit (.int .i64 a0_0),.lit (.int .i64 a0_1),.lit (.int .i64 a0_2),.lit (.int .i64 0)])<|wk_end<|ac_next<|aw_grp1<|wk_start<|kv g0 (faB 3 3)<|kv g0 ldB<|kv g0 (faB 3 3) ?_
 refine ks g0 (stB 1 [.lit (.int .i64 a0_0),.lit (.int .i64 a0_1),.lit (.int .i64 a0_2),.lit (.int .i64 a0_3)])<|wk_end<|ac_next<|aw_grp1<|wk_start<|kv g0 (ldBA 4 [.lit (.int .i64 a0_0),.lit (.int .i64 a0_1),.lit (.int .i64 a0_2),.lit (.int .i64 a0_3)])<|ks g0 (stB 4 [.lit (.int .i64 a0_0),.lit (.int .i64 a0_1),.lit (.int .i64 a0_2),.lit (.int .i64 a0_3)])<|wk_end<|ac_next<|aw_ret ?_
 obtain rfl:=Option.some.inj H
 exact acr hE [.cell 2 234] (rcA 4 .nil) (.one _) [] 9999
/-! laws_toInsS -/
def laws_toInsS.l0 : Nat→(List S308)→(List S234)→Int→Option ((List S234))
 | 0,_,_,_=>none
 | k10 + 1,l0,q8,p9=>if p9 < (l0.length : Int) then if 0 ≤ p9 then ((laws_toIns.f ((rd_T308 l0 p9).f0) ((rd_T308 l0 p9).f1) ((rd_T308 l0 p9).f2) ((rd_T308 l0 p9).f3)).bind fun t13=>(if p9 < (q8.length : Int) then laws_toInsS.l0 k10 l0 (q8.set p9.toNat (⟨t13.1,t13.2.1,t13.2.2.1,t13.2.2.2⟩ : S234)) (wrap64 (p9 + 1)) else none)) else none else some q8
def laws_toInsS.f (k : Nat) (l0 : List S308) : Option ((List S234)):=if 0 ≤ (l0.length : Int) then (if (l0.length : Int).toNat ≤ 8796093022208 then laws_toInsS.l0 k l0 (List.replicate (l0.length : Int).toNat z234) 0 else none) else none
theorem laws_toInsS.ok {k : Nat} {l0 : List S308} {r : (List S234)} (H : laws_toInsS.f k l0 = some r) : ACalls Tryz.prog 215 [] [.sl .o 4 (l0.map e308)] [(0,.row 234 4 (r.map e234))] (.row 0):=by
 refine acalls (fn:=Tryz.f215) (nt:=23) Tryz.func215 rfl rfl (Nat.le_of_ble_eq_true rfl) fun E hE=>?_
 rw [laws_toInsS.f] at H
 refine aw_grp1<|wk_start<|kv g0 asg<|wk_end<|ac_next<|aw_grp1<|wk_start<|kv g0 mv<|kv g0 (lnS lenE) ?_
 obtain ⟨c1,H⟩:=of_if H
 obtain ⟨c2,H⟩:=of_if H
 refine kb g0 (mks 0 234 4 32 [.int .i64 0,.int .i64 0,.int .i64 0,.int .i64 0] (e234 z234) ((List.replicate (l0.length : Int).toNat z234).map e234) c1 (mkb c2 rfl) repE)<|kv g0 asg<|wk_end<|ac_next<|aw_grp1<|aw_grp1<|wk_start<|kv g0 asg<|wk_end<|ac_next<|aw_block ?_
 refine aw_loop2 (fun (k_ : Nat) (q8 : List S234) (p9 : Int)=>k_ ≤ k∧laws_toInsS.l0 k_ l0 q8 p9 = some r) (fun (q8 : List S234) (p9 : Int)=>⟨[(0,.sl .o 4 (l0.map e308)),(3,.row 0),(4,.lit (.int .i64 p9))],[(0,.row 234 4 (q8.map e234))]⟩) k (List.replicate (l0.length : Int).toNat z234) 0 ⟨Nat.le_refl _,H⟩ (fun K_ h_=>acw hE [(0,0)] 9999 h_) (fun _ _=>by intro h_;have h_:=h_.2;rw [laws_toInsS.l0.eq_1] at h_;cases h_) ?_
 intro k10 q8 p9 hq_ K16 hK17
 have hk10:=hq_.1
 have H:=hq_.2
 clear hq_
 rw [laws_toInsS.l0.eq_2] at H
 refine aw_grp1<|aw_grp1<|wk_start<|kv g0 mv<|kv g0 mv<|kv g0 (lnS lenE)<|kv g0 lss<|wk_end<|ac_next ?_
 by_cases c11 : p9 < (l0.length : Int)
 ·rw [if_pos c11] at H
  refine aw_ifT ?_ (decide_eq_true c11)
  refine aw_skip<|ac_next<|aw_grp1<|aw_block<|wk_start<|kv g0 mv<|kv g0 mv<|kv g0 mv<|kv g0 mv ?_
  obtain ⟨c12,H⟩:=of_if H
  refine kv g0 (ixS 308 (e308 (rd_T308 l0 p9)) c12 (getE (z:=z308) c12 c11))<|kv g0 (ldRA 4 [.lit (.int .i64 ((rd_T308 l0 p9).f0)),.lit (.int .i64 ((rd_T308 l0 p9).f1)),.lit (.int .i64 ((rd_T308 l0 p9).f2)),.lit (.int .i64 ((rd_T308 l0 p9).f3))]) ?_
  obtain ⟨t13,A14,H⟩:=of_bind H
  refine kcS0 20 (.agg [.lit (.int .i64 t13.1),.lit (.int .i64 t13.2.1),.lit (.int .i64 t13.2.2.1),.lit (.int .i64 t13.2.2.2)]) [] g0 (cal (laws_toIns.ok A14) [] 9999 .n (hf:=Tryz.func263)) rfl rfl ?_
  obtain ⟨c15,H⟩:=of_if H
  refine kv g0 (ixR 234 c12 (ltE c15))<|ks g0 (stE 4 (e234 (⟨t13.1,t13.2.1,t13.2.2.1,t13.2.2.2⟩ : S234)) ((q8.set p9.toNat (⟨t13.1,t13.2.1,t13.2.2.1,t13.2.2.2⟩ : S234)).map e234) (getE (z:=z234) c12 c15) setE)<|wk_end<|ac_blkN<|ac_next<|wk_start<|kv g0 mv<|kv g0 add6<|kv g0 asg<|wk_end<|ac_k ?_
  exact acw hE [(0,0)] 9999 (hK17 k10 (q8.set p9.toNat (⟨t13.1,t13.2.1,t13.2.2.1,t13.2.2.2⟩ : S234)) (wrap64 (p9 + 1)) (Nat.le_refl _) ⟨by omega,H⟩)
 rw [if_neg c11] at H
 refine aw_ifF ?_ (decide_eq_false c11)
 refine aw_exit<|ac_then<|ac_then<|ac_hit rfl<|ac_next<|aw_grp1<|wk_start<|kv g0 mv<|kv g0 asg<|wk_end<|ac_next<|aw_ret ?_
 obtain rfl:=Option.some.inj H
 exact acr hE [.tmp 2] (.tmp .nil) (.one _) [(0,0)] 9999
/-! laws_toInsSS -/
def laws_toInsSS.l0 : Nat→(List (List S308))→(List (List S234))→Int→Option ((List (List S234)))
 | 0,_,_,_=>none
 | k10 + 1,l0,q8,p9=>if p9 < (l0.length : Int) then if 0 ≤ p9 then ((laws_toInsS.f k10 (rdOf ([] : List S308) l0 p9)).bind fun t13=>(if p9 < (q8.length : Int) then laws_toInsSS.l0 k10 l0 (q8.set p9.toNat t13) (wrap64 (p9 + 1)) else none)) else none else some q8
def laws_toInsSS.f (k : Nat) (l0 : List (List S308)) : Option ((List (List S234))):=if 0 ≤ (l0.length : Int) then (if (l0.length : Int).toNat ≤ 11728124029610 then laws_toInsSS.l0 k l0 (List.replicate (l0.length : Int).toNat ([] : List S234)) 0 else none) else none
theorem laws_toInsSS.ok {k : Nat} {l0 : List (List S308)} {r : (List (List S234))} (H : laws_toInsSS.f k l0 = some r) : ACalls Tryz.prog 143 [] [.sl .o 1 (l0.map (eL 4 (e308)))] [(0,.drow false [.own 234 []] 147 1 (r.map (eL 4 (e234))))] (.row 0):=by
 refine acalls (fn:=Tryz.f143) (nt:=23) Tryz.func143 rfl rfl (Nat.le_of_ble_eq_true rfl) fun E hE=>?_
 rw [laws_toInsSS.f] at H
 refine aw_grp1<|wk_start<|kv g0 asg<|wk_end<|ac_next<|aw_grp1<|wk_start<|kv g0 mv<|kv g0 (lnS lenE) ?_
 obtain ⟨c1,H⟩:=of_if H
 obtain ⟨c2,H⟩:=of_if H
 refine kb g0 (mksD 0 147 1 24 [.own 234 []] [.slice none 0 0] (eL 4 e234 ([] : List S234)) ((List.replicate (l0.length : Int).toNat ([] : List S234)).map (eL 4 e234)) c1 (mkb c2 rfl) repE)<|kv g0 asg<|wk_end<|ac_next<|aw_grp1<|aw_grp1<|wk_start<|kv g0 asg<|wk_end<|ac_next<|aw_block<|ac_g1 (sealD 0 rfl clL) ?_
 refine aw_loop2 (fun (k_ : Nat) (q8 : List (List S234)) (p9 : Int)=>k_ ≤ k∧laws_toInsSS.l0 k_ l0 q8 p9 = some r) (fun (q8 : List (List S234)) (p9 : Int)=>⟨[(0,.sl .o 1 (l0.map (eL 4 (e308)))),(3,.row 0),(4,.lit (.int .i64 p9))],[(0,.drow false [.own 234 []] 147 1 (q8.map (eL 4 (e234))))]⟩) k (List.replicate (l0.length : Int).toNat ([] : List S234)) 0 ⟨Nat.le_refl _,H⟩ (fun K_ h_=>acw hE [(0,0)] 9999 h_) (fun _ _=>by intro h_;have h_:=h_.2;rw [laws_toInsSS.l0.eq_1] at h_;cases h_) ?_
 intro k10 q8 p9 hq_ K16 hK17
 have hk10:=hq_.1
 have H:=hq_.2
 clear hq_
 rw [laws_toInsSS.l0.eq_2] at H
 refine aw_grp1<|aw_grp1<|wk_start<|kv g0 mv<|kv g0 mv<|kv g0 (lnS lenE)<|kv g0 lss<|wk_end<|ac_next ?_
 by_cases c11 : p9 < (l0.length : Int)
 ·rw [if_pos c11] at H
  refine aw_ifT ?_ (decide_eq_true c11)
  refine aw_skip<|ac_next<|aw_grp1<|aw_block<|wk_start<|kv g0 mv<|kv g0 mv<|kv g0 mv<|kv g0 mv ?_
  obtain ⟨c12,H⟩:=of_if H
  refine kv g0 (ixS 260 (eL 4 e308 (rdOf ([] : List S308) l0 p9)) c12 (getE (z:=([] : List S308)) c12 c11))<|kv g0 (ldR (.sl .o 4 ((rdOf ([] : List S308) l0 p9).map e308))) ?_
  obtain ⟨t13,A14,H⟩:=of_bind H
  refine kcS1 20 (.row 1) [(1,.row 234 4 (t13.map e234))] g0 (cal (laws_toInsS.ok A14) [1] 9999 .n (hf:=Tryz.func215)) rfl rfl ?_
  obtain ⟨c15,H⟩:=of_if H
  refine kv g0 (ixD 147 c12 (ltE c15))<|ks g0 (stD 1 [.own 234 []] 0 1 [.row 1] (.row 1) (getE (f:=eL 4 e234) (z:=([] : List S234)) c12 c15) rfl)<|wk_end<|ac_blkN<|ac_next<|wk_start<|kv g0 mv<|kv g0 add6<|kv g0 asg<|wk_end<|ac_g2 (pk 0 1 0 (.sl .n 4 (t13.map e234)) (setXG (f:=eL 4 e234) (X:=.row 1) c12 c15) setXX rfl)<|ac_g1 (sealD 0 (setSeal (f:=eL 4 e234) p9.toNat t13) clL)<|ac_k ?_
  exact acw hE [(0,0)] 9999 (hK17 k10 (q8.set p9.toNat t13) (wrap64 (p9 + 1)) (Nat.le_refl _) ⟨by omega,H⟩)
 rw [if_neg c11] at H
 refine aw_ifF ?_ (decide_eq_false c11)
 refine aw_exit<|ac_then<|ac_then<|ac_hit rfl<|ac_next<|aw_grp1<|wk_start<|kv g0 mv<|kv g0 asg<|wk_end<|ac_next<|aw_ret ?_
 obtain rfl:=Option.some.inj H
 exact acr hE [.tmp 2] (.tmp .nil) (.one _) [(0,0)] 9999
/-! laws_toInsSSS -/
def laws_toInsSSS.l0 : Nat→(List (List (List S308)))→(List (List (List S234)))→Int→Option ((List (List (List S234))))
 | 0,_,_,_=>none
 | k10 + 1,l0,q8,p9=>if p9 < (l0.length : Int) then if 0 ≤ p9 then ((laws_toInsSS.f k10 (rdOf ([] : List (List S308)) l0 p9)).bind fun t13=>(if p9 < (q8.length : Int) then laws_toInsSSS.l0 k10 l0 (q8.set p9.toNat t13) (wrap64 (p9 + 1)) else none)) else none else some q8
def laws_toInsSSS.f (k : Nat) (l0 : List (List (List S308))) : Option ((List (List (List S234)))):=if 0 ≤ (l0.length : Int) then (if (l0.length : Int).toNat ≤ 11728124029610 then laws_toInsSSS.l0 k l0 (List.replicate (l0.length : Int).toNat ([] : List (List S234))) 0 else none) else none
theorem laws_toInsSSS.ok {k : Nat} {l0 : List (List (List S308))} {r : (List (List (List S234)))} (H : laws_toInsSSS.f k l0 = some r) : ACalls Tryz.prog 56 [] [.sl .o 1 (l0.map (eL 1 (eL 4 (e308))))] [(0,.drow false [.own 147 [.own 234 []]] 145 1 (r.map (eL 1 (eL 4 (e234)))))] (.row 0):=by
 refine acalls (fn:=Tryz.f56) (nt:=23) Tryz.func56 rfl rfl (Nat.le_of_ble_eq_true rfl) fun E hE=>?_
 rw [laws_toInsSSS.f] at H
 refine aw_grp1<|wk_start<|kv g0 asg<|wk_end<|ac_next<|aw_grp1<|wk_start<|kv g0 mv<|kv g0 (lnS lenE) ?_
 obtain ⟨c1,H⟩:=of_if H
 obtain ⟨c2,H⟩:=of_if H
 refine kb g0 (mksD 0 145 1 24 [.own 147 [.own 234 []]] [.slice none 0 0] (eL 1 (eL 4 e234) ([] : List (List S234))) ((List.replicate (l0.length : Int).toNat ([] : List (List S234))).map (eL 1 (eL 4 e234))) c1 (mkb c2 rfl) repE)<|kv g0 asg<|wk_end<|ac_next<|aw_grp1<|aw_grp1<|wk_start<|kv g0 asg<|wk_end<|ac_next<|aw_block<|ac_g1 (sealD 0 rfl clL) ?_
 refine aw_loop2 (fun (k_ : Nat) (q8 : List (List (List S234))) (p9 : Int)=>k_ ≤ k∧laws_toInsSSS.l0 k_ l0 q8 p9 = some r) (fun (q8 : List (List (List S234))) (p9 : Int)=>⟨[(0,.sl .o 1 (l0.map (eL 1 (eL 4 (e308))))),(3,.row 0),(4,.lit (.int .i64 p9))],[(0,.drow false [.own 147 [.own 234 []]] 145 1 (q8.map (eL 1 (eL 4 (e234)))))]⟩) k (List.replicate (l0.length : Int).toNat ([] : List (List S234))) 0 ⟨Nat.le_refl _,H⟩ (fun K_ h_=>acw hE [(0,0)] 9999 h_) (fun _ _=>by intro h_;have h_:=h_.2;rw [laws_toInsSSS.l0.eq_1] at h_;cases h_) ?_
 intro k10 q8 p9 hq_ K16 hK17
 have hk10:=hq_.1
 have H:=hq_.2
 clear hq_
 rw [laws_toInsSSS.l0.eq_2] at H
 refine aw_grp1<|aw_grp1<|wk_start<|kv g0 mv<|kv g0 mv<|kv g0 (lnS lenE)<|kv g0 lss<|wk_end<|ac_next ?_
 by_cases c11 : p9 < (l0.length : Int)
 ·rw [if_pos c11] at H
  refine aw_ifT ?_ (decide_eq_true c11)
  refine aw_skip<|ac_next<|aw_grp1<|aw_block<|wk_start<|kv g0 mv<|kv g0 mv<|kv g0 mv<|kv g0 mv ?_
  obtain ⟨c12,H⟩:=of_if H
  refine kv g0 (ixS 183 (eL 1 (eL 4 e308) (rdOf ([] : List (List S308)) l0 p9)) c12 (getE (z:=([] : List (List S308))) c12 c11))<|kv g0 (ldR (.sl .o 1 ((rdOf ([] : List (List S308)) l0 p9).map (eL 4 e308)))) ?_
  obtain ⟨t13,A14,H⟩:=of_bind H
  refine kcS1 20 (.row 1) [(1,.drow false [.own 234 []] 147 1 (t13.map (eL 4 e234)))] g0 (cal (laws_toInsSS.ok A14) [1] 9999 .n (hf:=Tryz.func143)) rfl rfl ?_
  obtain ⟨c15,H⟩:=of_if H
  refine kv g0 (ixD 145 c12 (ltE c15))<|ks g0 (stD 1 [.own 147 [.own 234 []]] 0 1 [.row 1] (.row 1) (getE (f:=eL 1 (eL 4 e234)) (z:=([] : List (List S234))) c12 c15) rfl)<|wk_end<|ac_blkN<|ac_next<|wk_start<|kv g0 mv<|kv g0 add6<|kv g0 asg<|wk_end<|ac_g2 (pk 0 1 0 (.sl .n 1 (t13.map (eL 4 e234))) (setXG (f:=eL 1 (eL 4 e234)) (X:=.row 1) c12 c15) setXX rfl)<|ac_g1 (sealD 0 (setSeal (f:=eL 1 (eL 4 e234)) p9.toNat t13) clL)<|ac_k ?_
  exact acw hE [(0,0)] 9999 (hK17 k10 (q8.set p9.toNat t13) (wrap64 (p9 + 1)) (Nat.le_refl _) ⟨by omega,H⟩)
 rw [if_neg c11] at H
 refine aw_ifF ?_ (decide_eq_false c11)
 refine aw_exit<|ac_then<|ac_then<|ac_hit rfl<|ac_next<|aw_grp1<|wk_start<|kv g0 mv<|kv g0 asg<|wk_end<|ac_next<|aw_ret ?_
 obtain rfl:=Option.some.inj H
 exact acr hE [.tmp 2] (.tmp .nil) (.one _) [(0,0)] 9999
/-! laws_toItem -/
def laws_toItem.f (a0_0 : Int) (a0_1 : Int) (a0_2 : Int) (a0_3 : Int) : Option (Int × Int × Int × Int):=some (a0_0,a0_1,a0_2,a0_3)
theorem laws_toItem.ok {a0_0 : Int} {a0_1 : Int} {a0_2 : Int} {a0_3 : Int} {r : Int × Int × Int × Int} (H : laws_toItem.f a0_0 a0_1 a0_2 a0_3 = some r) : ACalls Tryz.prog 264 [] [.agg [.lit (.int .i64 a0_0),.lit (.int .i64 a0_1),.lit (.int .i64 a0_2),.lit (.int .i64 a0_3)]] [] (.agg [.lit (.int .i64 r.1),.lit (.int .i64 r.2.1),.lit (.int .i64 r.2.2.1),.lit (.int .i64 r.2.2.2)]):=by
 refine acalls (fn:=Tryz.f264) (nt:=17) Tryz.func264 rfl rfl (Nat.le_of_ble_eq_true rfl) fun E hE=>?_
 rw [laws_toItem.f] at H
 refine aw_grp1<|wk_start<|kb g0 (bxA 0)<|kb g0 (alc 1 [.int .i64 0,.int .i64 0,.int .i64 0,.int .i64 0] [.lit (.int .i64 0),.lit (.int .i64 0),.lit (.int .i64 0),.lit (.int .i64 0)])<|wk_end<|ac_next<|aw_grp1<|wk_start<|kb g0 (alc 2 [.int .i64 0,.int .i64 0,.int .i64 0,.int .i64 0] [.lit (.int .i64 0),.lit (.int .i64 0),.lit (.int .i64 0),.lit (.int .i64 0)])<|wk_end<|ac_next<|aw_grp1<|wk_start<|kv g0 (faB 0 0)<|kv g0 ldB<|kv g0 (faB 0 0)<|ks g0 (stB 1 [.lit (.int .i64 a0_0),.lit (.int .i64 0),.lit (.int .i64 0),.lit (.int .i64 0)])<|wk_end<|ac_next<|aw_grp1<|wk_start<|kv g0 (faB 1 1)<|kv g0 ldB<|kv g0 (faB 1 1)<|ks g0 (stB 1 [.lit (.int .i64 a0_0),.lit (.int .i64 a0_1),.lit (.int .i64 0),.lit (.int .i64 0)])<|wk_end<|ac_next<|aw_grp1<|wk_start<|kv g0 (faB 2 2)<|kv g0 ldB<|kv g0 (faB 2 2)<|ks g0 (stB 1 [.lit (.int .i64 a0_0),.lit (.int .i64 a0_1),.lit (.int .i64 a0_2),.lit (.int .i64 0)])<|wk_end<|ac_next<|aw_grp1<|wk_start<|kv g0 (faB 3 3)<|kv g0 ldB<|kv g0 (faB 3 3) ?_
 refine ks g0 (stB 1 [.lit (.int .i64 a0_0),.lit (.int .i64 a0_1),.lit (.int .i64 a0_2),.lit (.int .i64 a0_3)])<|wk_end<|ac_next<|aw_grp1<|wk_start<|kv g0 (ldBA 4 [.lit (.int .i64 a0_0),.lit (.int .i64 a0_1),.lit (.int .i64 a0_2),.lit (.int .i64 a0_3)])<|ks g0 (stB 4 [.lit (.int .i64 a0_0),.lit (.int .i64 a0_1),.lit (.int .i64 a0_2),.lit (.int .i64 a0_3)])<|wk_end<|ac_next<|aw_ret ?_
 obtain rfl:=Option.some.inj H
 exact acr hE [.cell 2 63] (rcA 4 .nil) (.one _) [] 9999
/-! laws_toItemS -/
def laws_toItemS.l0 : Nat→(List S266)→(List S63)→Int→Option ((List S63))
 | 0,_,_,_=>none
 | k10 + 1,l0,q8,p9=>if p9 < (l0.length : Int) then if 0 ≤ p9 then ((laws_toItem.f ((rd_T266 l0 p9).f0) ((rd_T266 l0 p9).f1) ((rd_T266 l0 p9).f2) ((rd_T266 l0 p9).f3)).bind fun t13=>(if p9 < (q8.length : Int) then laws_toItemS.l0 k10 l0 (q8.set p9.toNat (⟨t13.1,t13.2.1,t13.2.2.1,t13.2.2.2⟩ : S63)) (wrap64 (p9 + 1)) else none)) else none else some q8
def laws_toItemS.f (k : Nat) (l0 : List S266) : Option ((List S63)):=if 0 ≤ (l0.length : Int) then (if (l0.length : Int).toNat ≤ 8796093022208 then laws_toItemS.l0 k l0 (List.replicate (l0.length : Int).toNat z63) 0 else none) else none
theorem laws_toItemS.ok {k : Nat} {l0 : List S266} {r : (List S63)} (H : laws_toItemS.f k l0 = some r) : ACalls Tryz.prog 216 [] [.sl .o 4 (l0.map e266)] [(0,.row 63 4 (r.map e63))] (.row 0):=by
 refine acalls (fn:=Tryz.f216) (nt:=23) Tryz.func216 rfl rfl (Nat.le_of_ble_eq_true rfl) fun E hE=>?_
 rw [laws_toItemS.f] at H
 refine aw_grp1<|wk_start<|kv g0 asg<|wk_end<|ac_next<|aw_grp1<|wk_start<|kv g0 mv<|kv g0 (lnS lenE) ?_
 obtain ⟨c1,H⟩:=of_if H
 obtain ⟨c2,H⟩:=of_if H
 refine kb g0 (mks 0 63 4 32 [.int .i64 0,.int .i64 0,.int .i64 0,.int .i64 0] (e63 z63) ((List.replicate (l0.length : Int).toNat z63).map e63) c1 (mkb c2 rfl) repE)<|kv g0 asg<|wk_end<|ac_next<|aw_grp1<|aw_grp1<|wk_start<|kv g0 asg<|wk_end<|ac_next<|aw_block ?_
 refine aw_loop2 (fun (k_ : Nat) (q8 : List S63) (p9 : Int)=>k_ ≤ k∧laws_toItemS.l0 k_ l0 q8 p9 = some r) (fun (q8 : List S63) (p9 : Int)=>⟨[(0,.sl .o 4 (l0.map e266)),(3,.row 0),(4,.lit (.int .i64 p9))],[(0,.row 63 4 (q8.map e63))]⟩) k (List.replicate (l0.length : Int).toNat z63) 0 ⟨Nat.le_refl _,H⟩ (fun K_ h_=>acw hE [(0,0)] 9999 h_) (fun _ _=>by intro h_;have h_:=h_.2;rw [laws_toItemS.l0.eq_1] at h_;cases h_) ?_
 intro k10 q8 p9 hq_ K16 hK17
 have hk10:=hq_.1
 have H:=hq_.2
 clear hq_
 rw [laws_toItemS.l0.eq_2] at H
 refine aw_grp1<|aw_grp1<|wk_start<|kv g0 mv<|kv g0 mv<|kv g0 (lnS lenE)<|kv g0 lss<|wk_end<|ac_next ?_
 by_cases c11 : p9 < (l0.length : Int)
 ·rw [if_pos c11] at H
  refine aw_ifT ?_ (decide_eq_true c11)
  refine aw_skip<|ac_next<|aw_grp1<|aw_block<|wk_start<|kv g0 mv<|kv g0 mv<|kv g0 mv<|kv g0 mv ?_
  obtain ⟨c12,H⟩:=of_if H
  refine kv g0 (ixS 266 (e266 (rd_T266 l0 p9)) c12 (getE (z:=z266) c12 c11))<|kv g0 (ldRA 4 [.lit (.int .i64 ((rd_T266 l0 p9).f0)),.lit (.int .i64 ((rd_T266 l0 p9).f1)),.lit (.int .i64 ((rd_T266 l0 p9).f2)),.lit (.int .i64 ((rd_T266 l0 p9).f3))]) ?_
  obtain ⟨t13,A14,H⟩:=of_bind H
  refine kcS0 20 (.agg [.lit (.int .i64 t13.1),.lit (.int .i64 t13.2.1),.lit (.int .i64 t13.2.2.1),.lit (.int .i64 t13.2.2.2)]) [] g0 (cal (laws_toItem.ok A14) [] 9999 .n (hf:=Tryz.func264)) rfl rfl ?_
  obtain ⟨c15,H⟩:=of_if H
  refine kv g0 (ixR 63 c12 (ltE c15))<|ks g0 (stE 4 (e63 (⟨t13.1,t13.2.1,t13.2.2.1,t13.2.2.2⟩ : S63)) ((q8.set p9.toNat (⟨t13.1,t13.2.1,t13.2.2.1,t13.2.2.2⟩ : S63)).map e63) (getE (z:=z63) c12 c15) setE)<|wk_end<|ac_blkN<|ac_next<|wk_start<|kv g0 mv<|kv g0 add6<|kv g0 asg<|wk_end<|ac_k ?_
  exact acw hE [(0,0)] 9999 (hK17 k10 (q8.set p9.toNat (⟨t13.1,t13.2.1,t13.2.2.1,t13.2.2.2⟩ : S63)) (wrap64 (p9 + 1)) (Nat.le_refl _) ⟨by omega,H⟩)
 rw [if_neg c11] at H
 refine aw_ifF ?_ (decide_eq_false c11)
 refine aw_exit<|ac_then<|ac_then<|ac_hit rfl<|ac_next<|aw_grp1<|wk_start<|kv g0 mv<|kv g0 asg<|wk_end<|ac_next<|aw_ret ?_
 obtain rfl:=Option.some.inj H
 exact acr hE [.tmp 2] (.tmp .nil) (.one _) [(0,0)] 9999
/-! laws_toRing -/
def laws_toRing.f (k : Nat) (l0_0 : List S266) (a0_1 : Int) (a0_2 : Int) (a0_3 : Int) : Option ((List S63) × Int × Int × Int):=(laws_toItemS.f k l0_0).bind fun t1=>some (t1,a0_1,a0_2,a0_3)
theorem laws_toRing.ok {k : Nat} {l0_0 : List S266} {a0_1 : Int} {a0_2 : Int} {a0_3 : Int} {r : (List S63) × Int × Int × Int} (H : laws_toRing.f k l0_0 a0_1 a0_2 a0_3 = some r) : ACalls Tryz.prog 144 [] [.agg [.sl .o 4 (l0_0.map e266),.lit (.int .i64 a0_1),.lit (.int .i64 a0_2),.lit (.int .i64 a0_3)]] [(0,.row 63 4 (r.1.map e63))] (.agg [.row 0,.lit (.int .i64 r.2.1),.lit (.int .i64 r.2.2.1),.lit (.int .i64 r.2.2.2)]):=by
 refine acalls (fn:=Tryz.f144) (nt:=18) Tryz.func144 rfl rfl (Nat.le_of_ble_eq_true rfl) fun E hE=>?_
 rw [laws_toRing.f] at H
 refine aw_grp1<|wk_start<|kb g0 (bxA 0)<|kb g0 (alc 1 [.slice none 0 0,.int .i64 0,.int .i64 0,.int .i64 0] [.lit (.slice none 0 0),.lit (.int .i64 0),.lit (.int .i64 0),.lit (.int .i64 0)])<|wk_end<|ac_next<|aw_grp1<|wk_start<|kb g0 (alc 2 [.slice none 0 0,.int .i64 0,.int .i64 0,.int .i64 0] [.lit (.slice none 0 0),.lit (.int .i64 0),.lit (.int .i64 0),.lit (.int .i64 0)])<|wk_end<|ac_next<|aw_grp1<|wk_start<|kv g0 (faB 0 0)<|kv g0 ldB ?_
 obtain ⟨t1,A2,H⟩:=of_bind H
 refine kcS1 6 (.row 3) [(3,.row 63 4 (t1.map e63))] g0 (cal (laws_toItemS.ok A2) [3] 9999 .n (hf:=Tryz.func216)) rfl rfl<|kv g0 (faB 0 0)<|ks g0 (stB 1 [.row 3,.lit (.int .i64 0),.lit (.int .i64 0),.lit (.int .i64 0)])<|wk_end<|ac_next<|aw_grp1<|wk_start<|kv g0 (faB 1 1)<|kv g0 ldB<|kv g0 (faB 1 1)<|ks g0 (stB 1 [.row 3,.lit (.int .i64 a0_1),.lit (.int .i64 0),.lit (.int .i64 0)])<|wk_end<|ac_next<|aw_grp1<|wk_start<|kv g0 (faB 2 2)<|kv g0 ldB<|kv g0 (faB 2 2)<|ks g0 (stB 1 [.row 3,.lit (.int .i64 a0_1),.lit (.int .i64 a0_2),.lit (.int .i64 0)])<|wk_end<|ac_next<|aw_grp1<|wk_start<|kv g0 (faB 3 3)<|kv g0 ldB<|kv g0 (faB 3 3)<|ks g0 (stB 1 [.row 3,.lit (.int .i64 a0_1),.lit (.int .i64 a0_2),.lit (.int .i64 a0_3)])<|wk_end<|ac_next<|aw_grp1<|wk_start<|kv g0 (ldBA 4 [.row 3,.lit (.int .i64 a0_1),.lit (.int .i64 a0_2),.lit (.int .i64 a0_3)])<|ks g0 (stB 4 [.row 3,.lit (.int .i64 a0_1),.lit (.int .i64 a0_2),.lit (.int .i64 a0_3)])<|wk_end<|ac_next<|aw_ret ?_
 obtain rfl:=Option.some.inj H
 exact acr hE [.cell 2 67] (rcA 4 .nil) (.one _) [(0,3)] 9999
/-! laws_toRingS -/
def laws_toRingS.l0 : Nat→(List S187)→(List S67)→Int→Option ((List S67))
 | 0,_,_,_=>none
 | k10 + 1,l0,q8,p9=>if p9 < (l0.length : Int) then if 0 ≤ p9 then ((laws_toRing.f k10 ((rd_T187 l0 p9).f0) ((rd_T187 l0 p9).f1) ((rd_T187 l0 p9).f2) ((rd_T187 l0 p9).f3)).bind fun t13=>(if p9 < (q8.length : Int) then laws_toRingS.l0 k10 l0 (q8.set p9.toNat (⟨t13.1,t13.2.1,t13.2.2.1,t13.2.2.2⟩ : S67)) (wrap64 (p9 + 1)) else none)) else none else some q8
def laws_toRingS.f (k : Nat) (l0 : List S187) : Option ((List S67)):=if 0 ≤ (l0.length : Int) then (if (l0.length : Int).toNat ≤ 5864062014805 then laws_toRingS.l0 k l0 (List.replicate (l0.length : Int).toNat z67) 0 else none) else none
theorem laws_toRingS.ok {k : Nat} {l0 : List S187} {r : (List S67)} (H : laws_toRingS.f k l0 = some r) : ACalls Tryz.prog 57 [] [.sl .o 4 (l0.map e187)] [(0,.drow false ds67 67 4 (r.map e67))] (.row 0):=by
 refine acalls (fn:=Tryz.f57) (nt:=23) Tryz.func57 rfl rfl (Nat.le_of_ble_eq_true rfl) fun E hE=>?_
 rw [laws_toRingS.f] at H
 refine aw_grp1<|wk_start<|kv g0 asg<|wk_end<|ac_next<|aw_grp1<|wk_start<|kv g0 mv<|kv g0 (lnS lenE) ?_
 obtain ⟨c1,H⟩:=of_if H
 obtain ⟨c2,H⟩:=of_if H
 refine kb g0 (mksD 0 67 4 48 ds67 [.slice none 0 0,.int .i64 0,.int .i64 0,.int .i64 0] (e67 z67) ((List.replicate (l0.length : Int).toNat z67).map e67) c1 (mkb c2 rfl) repE)<|kv g0 asg<|wk_end<|ac_next<|aw_grp1<|aw_grp1<|wk_start<|kv g0 asg<|wk_end<|ac_next<|aw_block<|ac_g1 (sealD 0 rfl cl67) ?_
 refine aw_loop2 (fun (k_ : Nat) (q8 : List S67) (p9 : Int)=>k_ ≤ k∧laws_toRingS.l0 k_ l0 q8 p9 = some r) (fun (q8 : List S67) (p9 : Int)=>⟨[(0,.sl .o 4 (l0.map e187)),(3,.row 0),(4,.lit (.int .i64 p9))],[(0,.drow false ds67 67 4 (q8.map e67))]⟩) k (List.replicate (l0.length : Int).toNat z67) 0 ⟨Nat.le_refl _,H⟩ (fun K_ h_=>acw hE [(0,0)] 9999 h_) (fun _ _=>by intro h_;have h_:=h_.2;rw [laws_toRingS.l0.eq_1] at h_;cases h_) ?_
 intro k10 q8 p9 hq_ K16 hK17
 have hk10:=hq_.1
 have H:=hq_.2
 clear hq_
 rw [laws_toRingS.l0.eq_2] at H
 refine aw_grp1<|aw_grp1<|wk_start<|kv g0 mv<|kv g0 mv<|kv g0 (lnS lenE)<|kv g0 lss<|wk_end<|ac_next ?_
 by_cases c11 : p9 < (l0.length : Int)
 ·rw [if_pos c11] at H
  refine aw_ifT ?_ (decide_eq_true c11)
  refine aw_skip<|ac_next<|aw_grp1<|aw_block<|wk_start<|kv g0 mv<|kv g0 mv<|kv g0 mv<|kv g0 mv ?_
  obtain ⟨c12,H⟩:=of_if H
  refine kv g0 (ixS 187 (e187 (rd_T187 l0 p9)) c12 (getE (z:=z187) c12 c11))<|kv g0 (ldRA 4 [.sl .o 4 (((rd_T187 l0 p9).f0).map e266),.lit (.int .i64 ((rd_T187 l0 p9).f1)),.lit (.int .i64 ((rd_T187 l0 p9).f2)),.lit (.int .i64 ((rd_T187 l0 p9).f3))]) ?_
  obtain ⟨t13,A14,H⟩:=of_bind H
  refine kcS1 20 (.agg [.row 1,.lit (.int .i64 t13.2.1),.lit (.int .i64 t13.2.2.1),.lit (.int .i64 t13.2.2.2)]) [(1,.row 63 4 (t13.1.map e63))] g0 (cal (laws_toRing.ok A14) [1] 9999 .n (hf:=Tryz.func144)) rfl rfl ?_
  obtain ⟨c15,H⟩:=of_if H
  refine kv g0 (ixD 67 c12 (ltE c15))<|ks g0 (stD 4 ds67 0 4 [.row 1,.lit (.int .i64 t13.2.1),.lit (.int .i64 t13.2.2.1),.lit (.int .i64 t13.2.2.2)] (.agg [.row 1,.lit (.int .i64 t13.2.1),.lit (.int .i64 t13.2.2.1),.lit (.int .i64 t13.2.2.2)]) (getE (f:=e67) (z:=z67) c12 c15) rfl)<|wk_end<|ac_blkN<|ac_next<|wk_start<|kv g0 mv<|kv g0 add6<|kv g0 asg<|wk_end<|ac_g2 (pk 0 1 0 (.agg [.sl .n 4 (t13.1.map e63),.lit (.int .i64 t13.2.1),.lit (.int .i64 t13.2.2.1),.lit (.int .i64 t13.2.2.2)]) (setXG (f:=e67) (X:=.agg [.row 1,.lit (.int .i64 t13.2.1),.lit (.int .i64 t13.2.2.1),.lit (.int .i64 t13.2.2.2)]) c12 c15) setXX rfl)<|ac_g1 (sealD 0 (setSeal (f:=e67) p9.toNat (⟨t13.1,t13.2.1,t13.2.2.1,t13.2.2.2⟩ : S67)) cl67)<|ac_k ?_
  exact acw hE [(0,0)] 9999 (hK17 k10 (q8.set p9.toNat (⟨t13.1,t13.2.1,t13.2.2.1,t13.2.2.2⟩ : S67)) (wrap64 (p9 + 1)) (Nat.le_refl _) ⟨by omega,H⟩)
 rw [if_neg c11] at H
 refine aw_ifF ?_ (decide_eq_false c11)
 refine aw_exit<|ac_then<|ac_then<|ac_hit rfl<|ac_next<|aw_grp1<|wk_start<|kv g0 mv<|kv g0 asg<|wk_end<|ac_next<|aw_ret ?_
 obtain rfl:=Option.some.inj H
 exact acr hE [.tmp 2] (.tmp .nil) (.one _) [(0,0)] 9999
/-! laws_toSender -/
def laws_toSender.f (k : Nat) (a0_0 : Int) (a0_1 : Int) (l0_2 : List S266) (a0_3 : Int) (a0_4 : Int) : Option (Int × Int × (List S63) × Int × Int):=(laws_toItemS.f k l0_2).bind fun t1=>some (a0_0,a0_1,t1,a0_3,a0_4)
theorem laws_toSender.ok {k : Nat} {a0_0 : Int} {a0_1 : Int} {l0_2 : List S266} {a0_3 : Int} {a0_4 : Int} {r : Int × Int × (List S63) × Int × Int} (H : laws_toSender.f k a0_0 a0_1 l0_2 a0_3 a0_4 = some r) : ACalls Tryz.prog 145 [] [.agg [.lit (.int .i64 a0_0),.lit (.int .i64 a0_1),.sl .o 4 (l0_2.map e266),.lit (.int .i64 a0_3),.lit (.int .i64 a0_4)]] [(0,.row 63 4 (r.2.2.1.map e63))] (.agg [.lit (.int .i64 r.1),.lit (.int .i64 r.2.1),.row 0,.lit (.int .i64 r.2.2.2.1),.lit (.int .i64 r.2.2.2.2)]):=by
 refine acalls (fn:=Tryz.f145) (nt:=21) Tryz.func145 rfl rfl (Nat.le_of_ble_eq_true rfl) fun E hE=>?_
 rw [laws_toSender.f] at H
 refine aw_grp1<|wk_start<|kb g0 (bxA 0)<|kb g0 (alc 1 [.int .i64 0,.int .i64 0,.slice none 0 0,.int .i64 0,.int .i64 0] [.lit (.int .i64 0),.lit (.int .i64 0),.lit (.slice none 0 0),.lit (.int .i64 0),.lit (.int .i64 0)])<|wk_end<|ac_next<|aw_grp1<|wk_start<|kb g0 (alc 2 [.int .i64 0,.int .i64 0,.slice none 0 0,.int .i64 0,.int .i64 0] [.lit (.int .i64 0),.lit (.int .i64 0),.lit (.slice none 0 0),.lit (.int .i64 0),.lit (.int .i64 0)])<|wk_end<|ac_next<|aw_grp1<|wk_start<|kv g0 (faB 0 0)<|kv g0 ldB<|kv g0 (faB 0 0)<|ks g0 (stB 1 [.lit (.int .i64 a0_0),.lit (.int .i64 0),.lit (.slice none 0 0),.lit (.int .i64 0),.lit (.int .i64 0)])<|wk_end<|ac_next<|aw_grp1<|wk_start<|kv g0 (faB 1 1)<|kv g0 ldB<|kv g0 (faB 1 1)<|ks g0 (stB 1 [.lit (.int .i64 a0_0),.lit (.int .i64 a0_1),.lit (.slice none 0 0),.lit (.int .i64 0),.lit (.int .i64 0)])<|wk_end<|ac_next<|aw_grp1<|wk_start<|kv g0 (faB 2 2)<|kv g0 ldB ?_
 obtain ⟨t1,A2,H⟩:=of_bind H
 refine kcS1 12 (.row 3) [(3,.row 63 4 (t1.map e63))] g0 (cal (laws_toItemS.ok A2) [3] 9999 .n (hf:=Tryz.func216)) rfl rfl<|kv g0 (faB 2 2)<|ks g0 (stB 1 [.lit (.int .i64 a0_0),.lit (.int .i64 a0_1),.row 3,.lit (.int .i64 0),.lit (.int .i64 0)])<|wk_end<|ac_next<|aw_grp1<|wk_start<|kv g0 (faB 3 3)<|kv g0 ldB<|kv g0 (faB 3 3)<|ks g0 (stB 1 [.lit (.int .i64 a0_0),.lit (.int .i64 a0_1),.row 3,.lit (.int .i64 a0_3),.lit (.int .i64 0)])<|wk_end<|ac_next<|aw_grp1<|wk_start<|kv g0 (faB 4 4)<|kv g0 ldB<|kv g0 (faB 4 4)<|ks g0 (stB 1 [.lit (.int .i64 a0_0),.lit (.int .i64 a0_1),.row 3,.lit (.int .i64 a0_3),.lit (.int .i64 a0_4)])<|wk_end<|ac_next<|aw_grp1<|wk_start<|kv g0 (ldBA 5 [.lit (.int .i64 a0_0),.lit (.int .i64 a0_1),.row 3,.lit (.int .i64 a0_3),.lit (.int .i64 a0_4)])<|ks g0 (stB 5 [.lit (.int .i64 a0_0),.lit (.int .i64 a0_1),.row 3,.lit (.int .i64 a0_3),.lit (.int .i64 a0_4)])<|wk_end<|ac_next<|aw_ret ?_
 obtain rfl:=Option.some.inj H
 exact acr hE [.cell 2 65] (rcA 5 .nil) (.one _) [(0,3)] 9999
/-! laws_toSenderS -/
def laws_toSenderS.l0 : Nat→(List S190)→(List S65)→Int→Option ((List S65))
 | 0,_,_,_=>none
 | k10 + 1,l0,q8,p9=>if p9 < (l0.length : Int) then if 0 ≤ p9 then ((laws_toSender.f k10 ((rd_T190 l0 p9).f0) ((rd_T190 l0 p9).f1) ((rd_T190 l0 p9).f2) ((rd_T190 l0 p9).f3) ((rd_T190 l0 p9).f4)).bind fun t13=>(if p9 < (q8.length : Int) then laws_toSenderS.l0 k10 l0 (q8.set p9.toNat (⟨t13.1,t13.2.1,t13.2.2.1,t13.2.2.2.1,t13.2.2.2.2⟩ : S65)) (wrap64 (p9 + 1)) else none)) else none else some q8
def laws_toSenderS.f (k : Nat) (l0 : List S190) : Option ((List S65)):=if 0 ≤ (l0.length : Int) then (if (l0.length : Int).toNat ≤ 5026338869833 then laws_toSenderS.l0 k l0 (List.replicate (l0.length : Int).toNat z65) 0 else none) else none
theorem laws_toSenderS.ok {k : Nat} {l0 : List S190} {r : (List S65)} (H : laws_toSenderS.f k l0 = some r) : ACalls Tryz.prog 58 [] [.sl .o 5 (l0.map e190)] [(0,.drow false ds65 65 5 (r.map e65))] (.row 0):=by
 refine acalls (fn:=Tryz.f58) (nt:=23) Tryz.func58 rfl rfl (Nat.le_of_ble_eq_true rfl) fun E hE=>?_
 rw [laws_toSenderS.f] at H
 refine aw_grp1<|wk_start<|kv g0 asg<|wk_end<|ac_next<|aw_grp1<|wk_start<|kv g0 mv<|kv g0 (lnS lenE) ?_
 obtain ⟨c1,H⟩:=of_if H
 obtain ⟨c2,H⟩:=of_if H
 refine kb g0 (mksD 0 65 5 56 ds65 [.int .i64 0,.int .i64 0,.slice none 0 0,.int .i64 0,.int .i64 0] (e65 z65) ((List.replicate (l0.length : Int).toNat z65).map e65) c1 (mkb c2 rfl) repE)<|kv g0 asg<|wk_end<|ac_next<|aw_grp1<|aw_grp1<|wk_start<|kv g0 asg<|wk_end<|ac_next<|aw_block<|ac_g1 (sealD 0 rfl cl65) ?_
 refine aw_loop2 (fun (k_ : Nat) (q8 : List S65) (p9 : Int)=>k_ ≤ k∧laws_toSenderS.l0 k_ l0 q8 p9 = some r) (fun (q8 : List S65) (p9 : Int)=>⟨[(0,.sl .o 5 (l0.map e190)),(3,.row 0),(4,.lit (.int .i64 p9))],[(0,.drow false ds65 65 5 (q8.map e65))]⟩) k (List.replicate (l0.length : Int).toNat z65) 0 ⟨Nat.le_refl _,H⟩ (fun K_ h_=>acw hE [(0,0)] 9999 h_) (fun _ _=>by intro h_;have h_:=h_.2;rw [laws_toSenderS.l0.eq_1] at h_;cases h_) ?_
 intro k10 q8 p9 hq_ K16 hK17
 have hk10:=hq_.1
 have H:=hq_.2
 clear hq_
 rw [laws_toSenderS.l0.eq_2] at H
 refine aw_grp1<|aw_grp1<|wk_start<|kv g0 mv<|kv g0 mv<|kv g0 (lnS lenE)<|kv g0 lss<|wk_end<|ac_next ?_
 by_cases c11 : p9 < (l0.length : Int)
 ·rw [if_pos c11] at H
  refine aw_ifT ?_ (decide_eq_true c11)
  refine aw_skip<|ac_next<|aw_grp1<|aw_block<|wk_start<|kv g0 mv<|kv g0 mv<|kv g0 mv<|kv g0 mv ?_
  obtain ⟨c12,H⟩:=of_if H
  refine kv g0 (ixS 190 (e190 (rd_T190 l0 p9)) c12 (getE (z:=z190) c12 c11))<|kv g0 (ldRA 5 [.lit (.int .i64 ((rd_T190 l0 p9).f0)),.lit (.int .i64 ((rd_T190 l0 p9).f1)),.sl .o 4 (((rd_T190 l0 p9).f2).map e266),.lit (.int .i64 ((rd_T190 l0 p9).f3)),.lit (.int .i64 ((rd_T190 l0 p9).f4))]) ?_
  obtain ⟨t13,A14,H⟩:=of_bind H
  refine kcS1 20 (.agg [.lit (.int .i64 t13.1),.lit (.int .i64 t13.2.1),.row 1,.lit (.int .i64 t13.2.2.2.1),.lit (.int .i64 t13.2.2.2.2)]) [(1,.row 63 4 (t13.2.2.1.map e63))] g0 (cal (laws_toSender.ok A14) [1] 9999 .n (hf:=Tryz.func145)) rfl rfl ?_
  obtain ⟨c15,H⟩:=of_if H
  refine kv g0 (ixD 65 c12 (ltE c15))<|ks g0 (stD 5 ds65 0 5 [.lit (.int .i64 t13.1),.lit (.int .i64 t13.2.1),.row 1,.lit (.int .i64 t13.2.2.2.1),.lit (.int .i64 t13.2.2.2.2)] (.agg [.lit (.int .i64 t13.1),.lit (.int .i64 t13.2.1),.row 1,.lit (.int .i64 t13.2.2.2.1),.lit (.int .i64 t13.2.2.2.2)]) (getE (f:=e65) (z:=z65) c12 c15) rfl)<|wk_end<|ac_blkN<|ac_next<|wk_start<|kv g0 mv<|kv g0 add6<|kv g0 asg<|wk_end<|ac_g2 (pk 0 1 2 (.agg [.lit (.int .i64 t13.1),.lit (.int .i64 t13.2.1),.sl .n 4 (t13.2.2.1.map e63),.lit (.int .i64 t13.2.2.2.1),.lit (.int .i64 t13.2.2.2.2)]) (setXG (f:=e65) (X:=.agg [.lit (.int .i64 t13.1),.lit (.int .i64 t13.2.1),.row 1,.lit (.int .i64 t13.2.2.2.1),.lit (.int .i64 t13.2.2.2.2)]) c12 c15) setXX rfl)<|ac_g1 (sealD 0 (setSeal (f:=e65) p9.toNat (⟨t13.1,t13.2.1,t13.2.2.1,t13.2.2.2.1,t13.2.2.2.2⟩ : S65)) cl65)<|ac_k ?_
  exact acw hE [(0,0)] 9999 (hK17 k10 (q8.set p9.toNat (⟨t13.1,t13.2.1,t13.2.2.1,t13.2.2.2.1,t13.2.2.2.2⟩ : S65)) (wrap64 (p9 + 1)) (Nat.le_refl _) ⟨by omega,H⟩)
 rw [if_neg c11] at H
 refine aw_ifF ?_ (decide_eq_false c11)
 refine aw_exit<|ac_then<|ac_then<|ac_hit rfl<|ac_next<|aw_grp1<|wk_start<|kv g0 mv<|kv g0 asg<|wk_end<|ac_next<|aw_ret ?_
 obtain rfl:=Option.some.inj H
 exact acr hE [.tmp 2] (.tmp .nil) (.one _) [(0,0)] 9999
/-! laws_toEntry -/
def laws_toEntry.f (a0_0 : Int) (a0_1 : Int) (a0_2 : Int) (a0_3 : Int) (a0_4 : Int) (a0_5 : Int) : Option (Int × Int × Int × Int × Int × Int):=(laws_toItem.f a0_2 a0_3 a0_4 a0_5).bind fun t1=>some (a0_0,a0_1,t1.1,t1.2.1,t1.2.2.1,t1.2.2.2)
theorem laws_toEntry.ok {a0_0 : Int} {a0_1 : Int} {a0_2 : Int} {a0_3 : Int} {a0_4 : Int} {a0_5 : Int} {r : Int × Int × Int × Int × Int × Int} (H : laws_toEntry.f a0_0 a0_1 a0_2 a0_3 a0_4 a0_5 = some r) : ACalls Tryz.prog 217 [] [.agg [.lit (.int .i64 a0_0),.lit (.int .i64 a0_1),.lit (.int .i64 a0_2),.lit (.int .i64 a0_3),.lit (.int .i64 a0_4),.lit (.int .i64 a0_5)]] [] (.agg [.lit (.int .i64 r.1),.lit (.int .i64 r.2.1),.lit (.int .i64 r.2.2.1),.lit (.int .i64 r.2.2.2.1),.lit (.int .i64 r.2.2.2.2.1),.lit (.int .i64 r.2.2.2.2.2)]):=by
 refine acalls (fn:=Tryz.f217) (nt:=15) Tryz.func217 rfl rfl (Nat.le_of_ble_eq_true rfl) fun E hE=>?_
 rw [laws_toEntry.f] at H
 refine aw_grp1<|wk_start<|kb g0 (bxA 0)<|kb g0 (alc 1 [.int .i64 0,.int .i64 0,.int .i64 0,.int .i64 0,.int .i64 0,.int .i64 0] [.lit (.int .i64 0),.lit (.int .i64 0),.lit (.int .i64 0),.lit (.int .i64 0),.lit (.int .i64 0),.lit (.int .i64 0)])<|wk_end<|ac_next<|aw_grp1<|wk_start<|kb g0 (alc 2 [.int .i64 0,.int .i64 0,.int .i64 0,.int .i64 0,.int .i64 0,.int .i64 0] [.lit (.int .i64 0),.lit (.int .i64 0),.lit (.int .i64 0),.lit (.int .i64 0),.lit (.int .i64 0),.lit (.int .i64 0)])<|wk_end<|ac_next<|aw_grp1<|wk_start<|kv g0 (faB 0 0)<|kv g0 ldB<|kv g0 (faB 0 0)<|ks g0 (stB 1 [.lit (.int .i64 a0_0),.lit (.int .i64 0),.lit (.int .i64 0),.lit (.int .i64 0),.lit (.int .i64 0),.lit (.int .i64 0)])<|wk_end<|ac_next<|aw_grp1<|wk_start<|kv g0 (faB 1 1)<|kv g0 ldB<|kv g0 (faB 1 1)<|ks g0 (stB 1 [.lit (.int .i64 a0_0),.lit (.int .i64 a0_1),.lit (.int .i64 0),.lit (.int .i64 0),.lit (.int .i64 0),.lit (.int .i64 0)])<|wk_end<|ac_next<|aw_grp1<|wk_start<|kv g0 (faB 2 2)<|kv g0 (ldBA 4 [.lit (.int .i64 a0_2),.lit (.int .i64 a0_3),.lit (.int .i64 a0_4),.lit (.int .i64 a0_5)]) ?_
 obtain ⟨t1,A2,H⟩:=of_bind H
 refine kcS0 12 (.agg [.lit (.int .i64 t1.1),.lit (.int .i64 t1.2.1),.lit (.int .i64 t1.2.2.1),.lit (.int .i64 t1.2.2.2)]) [] g0 (cal (laws_toItem.ok A2) [] 9999 .n (hf:=Tryz.func264)) rfl rfl<|kv g0 (faB 2 2)<|ks g0 (stB 4 [.lit (.int .i64 a0_0),.lit (.int .i64 a0_1),.lit (.int .i64 t1.1),.lit (.int .i64 t1.2.1),.lit (.int .i64 t1.2.2.1),.lit (.int .i64 t1.2.2.2)])<|wk_end<|ac_next<|aw_grp1<|wk_start<|kv g0 (ldBA 6 [.lit (.int .i64 a0_0),.lit (.int .i64 a0_1),.lit (.int .i64 t1.1),.lit (.int .i64 t1.2.1),.lit (.int .i64 t1.2.2.1),.lit (.int .i64 t1.2.2.2)])<|ks g0 (stB 6 [.lit (.int .i64 a0_0),.lit (.int .i64 a0_1),.lit (.int .i64 t1.1),.lit (.int .i64 t1.2.1),.lit (.int .i64 t1.2.2.1),.lit (.int .i64 t1.2.2.2)])<|wk_end<|ac_next<|aw_ret ?_
 obtain rfl:=Option.some.inj H
 exact acr hE [.cell 2 139] (rcA 6 .nil) (.one _) [] 9999
/-! laws_toEntryS -/
def laws_toEntryS.l0 : Nat→(List S268)→(List S139)→Int→Option ((List S139))
 | 0,_,_,_=>none
 | k10 + 1,l0,q8,p9=>if p9 < (l0.length : Int) then if 0 ≤ p9 then ((laws_toEntry.f ((rd_T268 l0 p9).f0) ((rd_T268 l0 p9).f1) ((rd_T268 l0 p9).f2.f0) ((rd_T268 l0 p9).f2.f1) ((rd_T268 l0 p9).f2.f2) ((rd_T268 l0 p9).f2.f3)).bind fun t13=>(if p9 < (q8.length : Int) then laws_toEntryS.l0 k10 l0 (q8.set p9.toNat (⟨t13.1,t13.2.1,(⟨t13.2.2.1,t13.2.2.2.1,t13.2.2.2.2.1,t13.2.2.2.2.2⟩ : S63)⟩ : S139)) (wrap64 (p9 + 1)) else none)) else none else some q8
def laws_toEntryS.f (k : Nat) (l0 : List S268) : Option ((List S139)):=if 0 ≤ (l0.length : Int) then (if (l0.length : Int).toNat ≤ 5864062014805 then laws_toEntryS.l0 k l0 (List.replicate (l0.length : Int).toNat z139) 0 else none) else none
theorem laws_toEntryS.ok {k : Nat} {l0 : List S268} {r : (List S139)} (H : laws_toEntryS.f k l0 = some r) : ACalls Tryz.prog 146 [] [.sl .o 6 (l0.map e268)] [(0,.row 139 6 (r.map e139))] (.row 0):=by
 refine acalls (fn:=Tryz.f146) (nt:=23) Tryz.func146 rfl rfl (Nat.le_of_ble_eq_true rfl) fun E hE=>?_
 rw [laws_toEntryS.f] at H
 refine aw_grp1<|wk_start<|kv g0 asg<|wk_end<|ac_next<|aw_grp1<|wk_start<|kv g0 mv<|kv g0 (lnS lenE) ?_
 obtain ⟨c1,H⟩:=of_if H
 obtain ⟨c2,H⟩:=of_if H
 refine kb g0 (mks 0 139 6 48 [.int .i64 0,.int .i64 0,.int .i64 0,.int .i64 0,.int .i64 0,.int .i64 0] (e139 z139) ((List.replicate (l0.length : Int).toNat z139).map e139) c1 (mkb c2 rfl) repE)<|kv g0 asg<|wk_end<|ac_next<|aw_grp1<|aw_grp1<|wk_start<|kv g0 asg<|wk_end<|ac_next<|aw_block ?_
 refine aw_loop2 (fun (k_ : Nat) (q8 : List S139) (p9 : Int)=>k_ ≤ k∧laws_toEntryS.l0 k_ l0 q8 p9 = some r) (fun (q8 : List S139) (p9 : Int)=>⟨[(0,.sl .o 6 (l0.map e268)),(3,.row 0),(4,.lit (.int .i64 p9))],[(0,.row 139 6 (q8.map e139))]⟩) k (List.replicate (l0.length : Int).toNat z139) 0 ⟨Nat.le_refl _,H⟩ (fun K_ h_=>acw hE [(0,0)] 9999 h_) (fun _ _=>by intro h_;have h_:=h_.2;rw [laws_toEntryS.l0.eq_1] at h_;cases h_) ?_
 intro k10 q8 p9 hq_ K16 hK17
 have hk10:=hq_.1
 have H:=hq_.2
 clear hq_
 rw [laws_toEntryS.l0.eq_2] at H
 refine aw_grp1<|aw_grp1<|wk_start<|kv g0 mv<|kv g0 mv<|kv g0 (lnS lenE)<|kv g0 lss<|wk_end<|ac_next ?_
 by_cases c11 : p9 < (l0.length : Int)
 ·rw [if_pos c11] at H
  refine aw_ifT ?_ (decide_eq_true c11)
  refine aw_skip<|ac_next<|aw_grp1<|aw_block<|wk_start<|kv g0 mv<|kv g0 mv<|kv g0 mv<|kv g0 mv ?_
  obtain ⟨c12,H⟩:=of_if H
  refine kv g0 (ixS 268 (e268 (rd_T268 l0 p9)) c12 (getE (z:=z268) c12 c11))<|kv g0 (ldRA 6 [.lit (.int .i64 ((rd_T268 l0 p9).f0)),.lit (.int .i64 ((rd_T268 l0 p9).f1)),.lit (.int .i64 ((rd_T268 l0 p9).f2.f0)),.lit (.int .i64 ((rd_T268 l0 p9).f2.f1)),.lit (.int .i64 ((rd_T268 l0 p9).f2.f2)),.lit (.int .i64 ((rd_T268 l0 p9).f2.f3))]) ?_
  obtain ⟨t13,A14,H⟩:=of_bind H
  refine kcS0 20 (.agg [.lit (.int .i64 t13.1),.lit (.int .i64 t13.2.1),.lit (.int .i64 t13.2.2.1),.lit (.int .i64 t13.2.2.2.1),.lit (.int .i64 t13.2.2.2.2.1),.lit (.int .i64 t13.2.2.2.2.2)]) [] g0 (cal (laws_toEntry.ok A14) [] 9999 .n (hf:=Tryz.func217)) rfl rfl ?_
  obtain ⟨c15,H⟩:=of_if H
  refine kv g0 (ixR 139 c12 (ltE c15))<|ks g0 (stE 6 (e139 (⟨t13.1,t13.2.1,(⟨t13.2.2.1,t13.2.2.2.1,t13.2.2.2.2.1,t13.2.2.2.2.2⟩ : S63)⟩ : S139)) ((q8.set p9.toNat (⟨t13.1,t13.2.1,(⟨t13.2.2.1,t13.2.2.2.1,t13.2.2.2.2.1,t13.2.2.2.2.2⟩ : S63)⟩ : S139)).map e139) (getE (z:=z139) c12 c15) setE)<|wk_end<|ac_blkN<|ac_next<|wk_start<|kv g0 mv<|kv g0 add6<|kv g0 asg<|wk_end<|ac_k ?_
  exact acw hE [(0,0)] 9999 (hK17 k10 (q8.set p9.toNat (⟨t13.1,t13.2.1,(⟨t13.2.2.1,t13.2.2.2.1,t13.2.2.2.2.1,t13.2.2.2.2.2⟩ : S63)⟩ : S139)) (wrap64 (p9 + 1)) (Nat.le_refl _) ⟨by omega,H⟩)
 rw [if_neg c11] at H
 refine aw_ifF ?_ (decide_eq_false c11)
 refine aw_exit<|ac_then<|ac_then<|ac_hit rfl<|ac_next<|aw_grp1<|wk_start<|kv g0 mv<|kv g0 asg<|wk_end<|ac_next<|aw_ret ?_
 obtain rfl:=Option.some.inj H
 exact acr hE [.tmp 2] (.tmp .nil) (.one _) [(0,0)] 9999
/-! laws_toIntS -/
def laws_toIntS.l0 : Nat→(List Int)→(List Int)→Int→Option ((List Int))
 | 0,_,_,_=>none
 | k8 + 1,l0,q6,p7=>if p7 < (l0.length : Int) then if 0 ≤ p7 then (if p7 < (q6.length : Int) then laws_toIntS.l0 k8 l0 (q6.set p7.toNat (rd l0 p7)) (wrap64 (p7 + 1)) else none) else none else some q6
def laws_toIntS.f (k : Nat) (l0 : List Int) : Option ((List Int)):=if 0 ≤ (l0.length : Int) then (if (l0.length : Int).toNat ≤ 35184372088832 then laws_toIntS.l0 k l0 (List.replicate (l0.length : Int).toNat (0 : Int)) 0 else none) else none
theorem laws_toIntS.ok {k : Nat} {l0 : List Int} {r : (List Int)} (H : laws_toIntS.f k l0 = some r) : ACalls Tryz.prog 61 [] [.sl .o 1 (l0.map (eI .i64))] [(0,.row 3 1 (r.map (eI .i64)))] (.row 0):=by
 refine acalls (fn:=Tryz.f61) (nt:=22) Tryz.func61 rfl rfl (Nat.le_of_ble_eq_true rfl) fun E hE=>?_
 rw [laws_toIntS.f] at H
 refine aw_grp1<|wk_start<|kv g0 asg<|wk_end<|ac_next<|aw_grp1<|wk_start<|kv g0 mv<|kv g0 (lnS lenE) ?_
 obtain ⟨c1,H⟩:=of_if H
 obtain ⟨c2,H⟩:=of_if H
 refine kb g0 (mks 0 3 1 8 [.int .i64 0] (eI .i64 (0 : Int)) ((List.replicate (l0.length : Int).toNat (0 : Int)).map (eI .i64)) c1 (mkb c2 rfl) repE)<|kv g0 asg<|wk_end<|ac_next<|aw_grp1<|aw_grp1<|wk_start<|kv g0 asg<|wk_end<|ac_next<|aw_block ?_
 refine aw_loop2 (fun (k_ : Nat) (q6 : List Int) (p7 : Int)=>k_ ≤ k∧laws_toIntS.l0 k_ l0 q6 p7 = some r) (fun (q6 : List Int) (p7 : Int)=>⟨[(0,.sl .o 1 (l0.map (eI .i64))),(3,.row 0),(4,.lit (.int .i64 p7))],[(0,.row 3 1 (q6.map (eI .i64)))]⟩) k (List.replicate (l0.length : Int).toNat (0 : Int)) 0 ⟨Nat.le_refl _,H⟩ (fun K_ h_=>acw hE [(0,0)] 9999 h_) (fun _ _=>by intro h_;have h_:=h_.2;rw [laws_toIntS.l0.eq_1] at h_;cases h_) ?_
 intro k8 q6 p7 hq_ K12 hK13
 have hk8:=hq_.1
 have H:=hq_.2
 clear hq_
 rw [laws_toIntS.l0.eq_2] at H
 refine aw_grp1<|aw_grp1<|wk_start<|kv g0 mv<|kv g0 mv<|kv g0 (lnS lenE)<|kv g0 lss<|wk_end<|ac_next ?_
 by_cases c9 : p7 < (l0.length : Int)
 ·rw [if_pos c9] at H
  refine aw_ifT ?_ (decide_eq_true c9)
  refine aw_skip<|ac_next<|aw_grp1<|aw_block<|wk_start<|kv g0 mv<|kv g0 mv<|kv g0 mv<|kv g0 mv ?_
  obtain ⟨c10,H⟩:=of_if H
  refine kv g0 (ixS 3 (eI .i64 (rd l0 p7)) c10 (getE (z:=(0 : Int)) c10 c9))<|kv g0 (ldR (.lit (.int .i64 (rd l0 p7)))) ?_
  obtain ⟨c11,H⟩:=of_if H
  refine kv g0 (ixR 3 c10 (ltE c11))<|ks g0 (stE 1 (eI .i64 (rd l0 p7)) ((q6.set p7.toNat (rd l0 p7)).map (eI .i64)) (getE (z:=(0 : Int)) c10 c11) setE)<|wk_end<|ac_blkN<|ac_next<|wk_start<|kv g0 mv<|kv g0 add6<|kv g0 asg<|wk_end<|ac_k ?_
  exact acw hE [(0,0)] 9999 (hK13 k8 (q6.set p7.toNat (rd l0 p7)) (wrap64 (p7 + 1)) (Nat.le_refl _) ⟨by omega,H⟩)
 rw [if_neg c9] at H
 refine aw_ifF ?_ (decide_eq_false c9)
 refine aw_exit<|ac_then<|ac_then<|ac_hit rfl<|ac_next<|aw_grp1<|wk_start<|kv g0 mv<|kv g0 asg<|wk_end<|ac_next<|aw_ret ?_
 obtain rfl:=Option.some.inj H
 exact acr hE [.tmp 2] (.tmp .nil) (.one _) [(0,0)] 9999
/-! laws_toEarly -/
def laws_toEarly.f (a0_0 : Int) (a0_1 : Int) (a0_2 : Int) (a0_3 : Int) (a0_4 : Int) (a0_5 : Int) : Option (Int × Int × Int × Int × Int × Int):=(laws_toItem.f a0_2 a0_3 a0_4 a0_5).bind fun t1=>some (a0_0,a0_1,t1.1,t1.2.1,t1.2.2.1,t1.2.2.2)
theorem laws_toEarly.ok {a0_0 : Int} {a0_1 : Int} {a0_2 : Int} {a0_3 : Int} {a0_4 : Int} {a0_5 : Int} {r : Int × Int × Int × Int × Int × Int} (H : laws_toEarly.f a0_0 a0_1 a0_2 a0_3 a0_4 a0_5 = some r) : ACalls Tryz.prog 218 [] [.agg [.lit (.int .i64 a0_0),.lit (.int .i64 a0_1),.lit (.int .i64 a0_2),.lit (.int .i64 a0_3),.lit (.int .i64 a0_4),.lit (.int .i64 a0_5)]] [] (.agg [.lit (.int .i64 r.1),.lit (.int .i64 r.2.1),.lit (.int .i64 r.2.2.1),.lit (.int .i64 r.2.2.2.1),.lit (.int .i64 r.2.2.2.2.1),.lit (.int .i64 r.2.2.2.2.2)]):=by
 refine acalls (fn:=Tryz.f218) (nt:=15) Tryz.func218 rfl rfl (Nat.le_of_ble_eq_true rfl) fun E hE=>?_
 rw [laws_toEarly.f] at H
 refine aw_grp1<|wk_start<|kb g0 (bxA 0)<|kb g0 (alc 1 [.int .i64 0,.int .i64 0,.int .i64 0,.int .i64 0,.int .i64 0,.int .i64 0] [.lit (.int .i64 0),.lit (.int .i64 0),.lit (.int .i64 0),.lit (.int .i64 0),.lit (.int .i64 0),.lit (.int .i64 0)])<|wk_end<|ac_next<|aw_grp1<|wk_start<|kb g0 (alc 2 [.int .i64 0,.int .i64 0,.int .i64 0,.int .i64 0,.int .i64 0,.int .i64 0] [.lit (.int .i64 0),.lit (.int .i64 0),.lit (.int .i64 0),.lit (.int .i64 0),.lit (.int .i64 0),.lit (.int .i64 0)])<|wk_end<|ac_next<|aw_grp1<|wk_start<|kv g0 (faB 0 0)<|kv g0 ldB<|kv g0 (faB 0 0)<|ks g0 (stB 1 [.lit (.int .i64 a0_0),.lit (.int .i64 0),.lit (.int .i64 0),.lit (.int .i64 0),.lit (.int .i64 0),.lit (.int .i64 0)])<|wk_end<|ac_next<|aw_grp1<|wk_start<|kv g0 (faB 1 1)<|kv g0 ldB<|kv g0 (faB 1 1)<|ks g0 (stB 1 [.lit (.int .i64 a0_0),.lit (.int .i64 a0_1),.lit (.int .i64 0),.lit (.int .i64 0),.lit (.int .i64 0),.lit (.int .i64 0)])<|wk_end<|ac_next<|aw_grp1<|wk_start<|kv g0 (faB 2 2)<|kv g0 (ldBA 4 [.lit (.int .i64 a0_2),.lit (.int .i64 a0_3),.lit (.int .i64 a0_4),.lit (.int .i64 a0_5)]) ?_
 obtain ⟨t1,A2,H⟩:=of_bind H
 refine kcS0 12 (.agg [.lit (.int .i64 t1.1),.lit (.int .i64 t1.2.1),.lit (.int .i64 t1.2.2.1),.lit (.int .i64 t1.2.2.2)]) [] g0 (cal (laws_toItem.ok A2) [] 9999 .n (hf:=Tryz.func264)) rfl rfl<|kv g0 (faB 2 2)<|ks g0 (stB 4 [.lit (.int .i64 a0_0),.lit (.int .i64 a0_1),.lit (.int .i64 t1.1),.lit (.int .i64 t1.2.1),.lit (.int .i64 t1.2.2.1),.lit (.int .i64 t1.2.2.2)])<|wk_end<|ac_next<|aw_grp1<|wk_start<|kv g0 (ldBA 6 [.lit (.int .i64 a0_0),.lit (.int .i64 a0_1),.lit (.int .i64 t1.1),.lit (.int .i64 t1.2.1),.lit (.int .i64 t1.2.2.1),.lit (.int .i64 t1.2.2.2)])<|ks g0 (stB 6 [.lit (.int .i64 a0_0),.lit (.int .i64 a0_1),.lit (.int .i64 t1.1),.lit (.int .i64 t1.2.1),.lit (.int .i64 t1.2.2.1),.lit (.int .i64 t1.2.2.2)])<|wk_end<|ac_next<|aw_ret ?_
 obtain rfl:=Option.some.inj H
 exact acr hE [.cell 2 154] (rcA 6 .nil) (.one _) [] 9999
/-! laws_toEarlyS -/
def laws_toEarlyS.l0 : Nat→(List S270)→(List S154)→Int→Option ((List S154))
 | 0,_,_,_=>none
 | k10 + 1,l0,q8,p9=>if p9 < (l0.length : Int) then if 0 ≤ p9 then ((laws_toEarly.f ((rd_T270 l0 p9).f0) ((rd_T270 l0 p9).f1) ((rd_T270 l0 p9).f2.f0) ((rd_T270 l0 p9).f2.f1) ((rd_T270 l0 p9).f2.f2) ((rd_T270 l0 p9).f2.f3)).bind fun t13=>(if p9 < (q8.length : Int) then laws_toEarlyS.l0 k10 l0 (q8.set p9.toNat (⟨t13.1,t13.2.1,(⟨t13.2.2.1,t13.2.2.2.1,t13.2.2.2.2.1,t13.2.2.2.2.2⟩ : S63)⟩ : S154)) (wrap64 (p9 + 1)) else none)) else none else some q8
def laws_toEarlyS.f (k : Nat) (l0 : List S270) : Option ((List S154)):=if 0 ≤ (l0.length : Int) then (if (l0.length : Int).toNat ≤ 5864062014805 then laws_toEarlyS.l0 k l0 (List.replicate (l0.length : Int).toNat z154) 0 else none) else none
theorem laws_toEarlyS.ok {k : Nat} {l0 : List S270} {r : (List S154)} (H : laws_toEarlyS.f k l0 = some r) : ACalls Tryz.prog 147 [] [.sl .o 6 (l0.map e270)] [(0,.row 154 6 (r.map e154))] (.row 0):=by
 refine acalls (fn:=Tryz.f147) (nt:=23) Tryz.func147 rfl rfl (Nat.le_of_ble_eq_true rfl) fun E hE=>?_
 rw [laws_toEarlyS.f] at H
 refine aw_grp1<|wk_start<|kv g0 asg<|wk_end<|ac_next<|aw_grp1<|wk_start<|kv g0 mv<|kv g0 (lnS lenE) ?_
 obtain ⟨c1,H⟩:=of_if H
 obtain ⟨c2,H⟩:=of_if H
 refine kb g0 (mks 0 154 6 48 [.int .i64 0,.int .i64 0,.int .i64 0,.int .i64 0,.int .i64 0,.int .i64 0] (e154 z154) ((List.replicate (l0.length : Int).toNat z154).map e154) c1 (mkb c2 rfl) repE)<|kv g0 asg<|wk_end<|ac_next<|aw_grp1<|aw_grp1<|wk_start<|kv g0 asg<|wk_end<|ac_next<|aw_block ?_
 refine aw_loop2 (fun (k_ : Nat) (q8 : List S154) (p9 : Int)=>k_ ≤ k∧laws_toEarlyS.l0 k_ l0 q8 p9 = some r) (fun (q8 : List S154) (p9 : Int)=>⟨[(0,.sl .o 6 (l0.map e270)),(3,.row 0),(4,.lit (.int .i64 p9))],[(0,.row 154 6 (q8.map e154))]⟩) k (List.replicate (l0.length : Int).toNat z154) 0 ⟨Nat.le_refl _,H⟩ (fun K_ h_=>acw hE [(0,0)] 9999 h_) (fun _ _=>by intro h_;have h_:=h_.2;rw [laws_toEarlyS.l0.eq_1] at h_;cases h_) ?_
 intro k10 q8 p9 hq_ K16 hK17
 have hk10:=hq_.1
 have H:=hq_.2
 clear hq_
 rw [laws_toEarlyS.l0.eq_2] at H
 refine aw_grp1<|aw_grp1<|wk_start<|kv g0 mv<|kv g0 mv<|kv g0 (lnS lenE)<|kv g0 lss<|wk_end<|ac_next ?_
 by_cases c11 : p9 < (l0.length : Int)
 ·rw [if_pos c11] at H
  refine aw_ifT ?_ (decide_eq_true c11)
  refine aw_skip<|ac_next<|aw_grp1<|aw_block<|wk_start<|kv g0 mv<|kv g0 mv<|kv g0 mv<|kv g0 mv ?_
  obtain ⟨c12,H⟩:=of_if H
  refine kv g0 (ixS 270 (e270 (rd_T270 l0 p9)) c12 (getE (z:=z270) c12 c11))<|kv g0 (ldRA 6 [.lit (.int .i64 ((rd_T270 l0 p9).f0)),.lit (.int .i64 ((rd_T270 l0 p9).f1)),.lit (.int .i64 ((rd_T270 l0 p9).f2.f0)),.lit (.int .i64 ((rd_T270 l0 p9).f2.f1)),.lit (.int .i64 ((rd_T270 l0 p9).f2.f2)),.lit (.int .i64 ((rd_T270 l0 p9).f2.f3))]) ?_
  obtain ⟨t13,A14,H⟩:=of_bind H
  refine kcS0 20 (.agg [.lit (.int .i64 t13.1),.lit (.int .i64 t13.2.1),.lit (.int .i64 t13.2.2.1),.lit (.int .i64 t13.2.2.2.1),.lit (.int .i64 t13.2.2.2.2.1),.lit (.int .i64 t13.2.2.2.2.2)]) [] g0 (cal (laws_toEarly.ok A14) [] 9999 .n (hf:=Tryz.func218)) rfl rfl ?_
  obtain ⟨c15,H⟩:=of_if H
  refine kv g0 (ixR 154 c12 (ltE c15))<|ks g0 (stE 6 (e154 (⟨t13.1,t13.2.1,(⟨t13.2.2.1,t13.2.2.2.1,t13.2.2.2.2.1,t13.2.2.2.2.2⟩ : S63)⟩ : S154)) ((q8.set p9.toNat (⟨t13.1,t13.2.1,(⟨t13.2.2.1,t13.2.2.2.1,t13.2.2.2.2.1,t13.2.2.2.2.2⟩ : S63)⟩ : S154)).map e154) (getE (z:=z154) c12 c15) setE)<|wk_end<|ac_blkN<|ac_next<|wk_start<|kv g0 mv<|kv g0 add6<|kv g0 asg<|wk_end<|ac_k ?_
  exact acw hE [(0,0)] 9999 (hK17 k10 (q8.set p9.toNat (⟨t13.1,t13.2.1,(⟨t13.2.2.1,t13.2.2.2.1,t13.2.2.2.2.1,t13.2.2.2.2.2⟩ : S63)⟩ : S154)) (wrap64 (p9 + 1)) (Nat.le_refl _) ⟨by omega,H⟩)
 rw [if_neg c11] at H
 refine aw_ifF ?_ (decide_eq_false c11)
 refine aw_exit<|ac_then<|ac_then<|ac_hit rfl<|ac_next<|aw_grp1<|wk_start<|kv g0 mv<|kv g0 asg<|wk_end<|ac_next<|aw_ret ?_
 obtain rfl:=Option.some.inj H
 exact acr hE [.tmp 2] (.tmp .nil) (.one _) [(0,0)] 9999
/-! laws_toKeeper -/
def laws_toKeeper.f (k : Nat) (l0_0 : List S268) (l0_1 : List Int) (l0_2 : List S270) (a0_3 : Int) (l0_4 : List Int) : Option ((List S139) × (List Int) × (List S154) × Int × (List Int)):=(laws_toEntryS.f k l0_0).bind fun t1=>(laws_toIntS.f k l0_1).bind fun t3=>(laws_toEarlyS.f k l0_2).bind fun t5=>(laws_toIntS.f k l0_4).bind fun t7=>some (t1,t3,t5,a0_3,t7)
theorem laws_toKeeper.ok {k : Nat} {l0_0 : List S268} {l0_1 : List Int} {l0_2 : List S270} {a0_3 : Int} {l0_4 : List Int} {r : (List S139) × (List Int) × (List S154) × Int × (List Int)} (H : laws_toKeeper.f k l0_0 l0_1 l0_2 a0_3 l0_4 = some r) : ACalls Tryz.prog 59 [] [.agg [.sl .o 6 (l0_0.map e268),.sl .o 1 (l0_1.map (eI .i64)),.sl .o 6 (l0_2.map e270),.lit (.int .i64 a0_3),.sl .o 1 (l0_4.map (eI .i64))]] [(0,.row 139 6 (r.1.map e139)),(1,.row 3 1 (r.2.1.map (eI .i64))),(2,.row 154 6 (r.2.2.1.map e154)),(3,.row 3 1 (r.2.2.2.2.map (eI .i64)))] (.agg [.row 0,.row 1,.row 2,.lit (.int .i64 r.2.2.2.1),.row 3]):=by
 refine acalls (fn:=Tryz.f59) (nt:=24) Tryz.func59 rfl rfl (Nat.le_of_ble_eq_true rfl) fun E hE=>?_
 rw [laws_toKeeper.f] at H
 refine aw_grp1<|wk_start<|kb g0 (bxA 0)<|kb g0 (alc 1 [.slice none 0 0,.slice none 0 0,.slice none 0 0,.int .i64 0,.slice none 0 0] [.lit (.slice none 0 0),.lit (.slice none 0 0),.lit (.slice none 0 0),.lit (.int .i64 0),.lit (.slice none 0 0)])<|wk_end<|ac_next<|aw_grp1<|wk_start<|kb g0 (alc 2 [.slice none 0 0,.slice none 0 0,.slice none 0 0,.int .i64 0,.slice none 0 0] [.lit (.slice none 0 0),.lit (.slice none 0 0),.lit (.slice none 0 0),.lit (.int .i64 0),.lit (.slice none 0 0)])<|wk_end<|ac_next<|aw_grp1<|wk_start<|kv g0 (faB 0 0)<|kv g0 ldB ?_
 obtain ⟨t1,A2,H⟩:=of_bind H
 refine kcS1 6 (.row 3) [(3,.row 139 6 (t1.map e139))] g0 (cal (laws_toEntryS.ok A2) [3] 9999 .n (hf:=Tryz.func146)) rfl rfl<|kv g0 (faB 0 0)<|ks g0 (stB 1 [.row 3,.lit (.slice none 0 0),.lit (.slice none 0 0),.lit (.int .i64 0),.lit (.slice none 0 0)])<|wk_end<|ac_next<|aw_grp1<|wk_start<|kv g0 (faB 1 1)<|kv g0 ldB ?_
 obtain ⟨t3,A4,H⟩:=of_bind H
 refine kcS1 10 (.row 4) [(4,.row 3 1 (t3.map (eI .i64)))] g0 (cal (laws_toIntS.ok A4) [4] 9999 .n (hf:=Tryz.func61)) rfl rfl<|kv g0 (faB 1 1)<|ks g0 (stB 1 [.row 3,.row 4,.lit (.slice none 0 0),.lit (.int .i64 0),.lit (.slice none 0 0)])<|wk_end<|ac_next<|aw_grp1<|wk_start<|kv g0 (faB 2 2)<|kv g0 ldB ?_
 obtain ⟨t5,A6,H⟩:=of_bind H
 refine kcS1 14 (.row 5) [(5,.row 154 6 (t5.map e154))] g0 (cal (laws_toEarlyS.ok A6) [5] 9999 .n (hf:=Tryz.func147)) rfl rfl<|kv g0 (faB 2 2)<|ks g0 (stB 1 [.row 3,.row 4,.row 5,.lit (.int .i64 0),.lit (.slice none 0 0)])<|wk_end<|ac_next<|aw_grp1<|wk_start<|kv g0 (faB 3 3)<|kv g0 ldB<|kv g0 (faB 3 3)<|ks g0 (stB 1 [.row 3,.row 4,.row 5,.lit (.int .i64 a0_3),.lit (.slice none 0 0)])<|wk_end<|ac_next<|aw_grp1<|wk_start<|kv g0 (faB 4 4)<|kv g0 ldB ?_
 obtain ⟨t7,A8,H⟩:=of_bind H
 refine kcS1 21 (.row 6) [(6,.row 3 1 (t7.map (eI .i64)))] g0 (cal (laws_toIntS.ok A8) [6] 9999 .n (hf:=Tryz.func61)) rfl rfl<|kv g0 (faB 4 4)<|ks g0 (stB 1 [.row 3,.row 4,.row 5,.lit (.int .i64 a0_3),.row 6])<|wk_end<|ac_next<|aw_grp1<|wk_start<|kv g0 (ldBA 5 [.row 3,.row 4,.row 5,.lit (.int .i64 a0_3),.row 6])<|ks g0 (stB 5 [.row 3,.row 4,.row 5,.lit (.int .i64 a0_3),.row 6])<|wk_end<|ac_next<|aw_ret ?_
 obtain rfl:=Option.some.inj H
 exact acr hE [.cell 2 41] (rcA 5 .nil) (.one _) [(0,3),(1,4),(2,5),(3,6)] 9999
/-! laws_toLetter -/
def laws_toLetter.f (a0_0 : Bool) (a0_1 : ByteArray) (a0_2 : Bool) : Option (Bool × ByteArray × Bool):=some (a0_0,a0_1,a0_2)
theorem laws_toLetter.ok {a0_0 : Bool} {a0_1 : ByteArray} {a0_2 : Bool} {r : Bool × ByteArray × Bool} (H : laws_toLetter.f a0_0 a0_1 a0_2 = some r) : ACalls Tryz.prog 148 [] [.agg [.lit (.bool a0_0),.lit (.string a0_1),.lit (.bool a0_2)]] [] (.agg [.lit (.bool r.1),.lit (.string r.2.1),.lit (.bool r.2.2)]):=by
 refine acalls (fn:=Tryz.f148) (nt:=14) Tryz.func148 rfl rfl (Nat.le_of_ble_eq_true rfl) fun E hE=>?_
 rw [laws_toLetter.f] at H
 refine aw_grp1<|wk_start<|kb g0 (bxA 0)<|kb g0 (alc 1 [.bool false,.string .empty,.bool false] [.lit (.bool false),.lit (.string ByteArray.empty),.lit (.bool false)])<|wk_end<|ac_next<|aw_grp1<|wk_start<|kb g0 (alc 2 [.bool false,.string .empty,.bool false] [.lit (.bool false),.lit (.string ByteArray.empty),.lit (.bool false)])<|wk_end<|ac_next<|aw_grp1<|wk_start<|kv g0 (faB 0 0)<|kv g0 ldB<|kv g0 (faB 0 0)<|ks g0 (stB 1 [.lit (.bool a0_0),.lit (.string ByteArray.empty),.lit (.bool false)])<|wk_end<|ac_next<|aw_grp1<|wk_start<|kv g0 (faB 1 1)<|kv g0 ldB<|kv g0 (faB 1 1)<|ks g0 (stB 1 [.lit (.bool a0_0),.lit (.string a0_1),.lit (.bool false)])<|wk_end<|ac_next<|aw_grp1<|wk_start<|kv g0 (faB 2 2)<|kv g0 ldB<|kv g0 (faB 2 2)<|ks g0 (stB 1 [.lit (.bool a0_0),.lit (.string a0_1),.lit (.bool a0_2)])<|wk_end<|ac_next<|aw_grp1<|wk_start<|kv g0 (ldBA 3 [.lit (.bool a0_0),.lit (.string a0_1),.lit (.bool a0_2)])<|ks g0 (stB 3 [.lit (.bool a0_0),.lit (.string a0_1),.lit (.bool a0_2)])<|wk_end ?_
 refine ac_next<|aw_ret ?_
 obtain rfl:=Option.some.inj H
 exact acr hE [.cell 2 151] (rcA 3 .nil) (.one _) [] 9999
/-! laws_toLetterS -/
def laws_toLetterS.l0 : Nat→(List S194)→(List S151)→Int→Option ((List S151))
 | 0,_,_,_=>none
 | k10 + 1,l0,q8,p9=>if p9 < (l0.length : Int) then if 0 ≤ p9 then ((laws_toLetter.f ((rd_T194 l0 p9).f0) ((rd_T194 l0 p9).f1) ((rd_T194 l0 p9).f2)).bind fun t13=>(if p9 < (q8.length : Int) then laws_toLetterS.l0 k10 l0 (q8.set p9.toNat (⟨t13.1,t13.2.1,t13.2.2⟩ : S151)) (wrap64 (p9 + 1)) else none)) else none else some q8
def laws_toLetterS.f (k : Nat) (l0 : List S194) : Option ((List S151)):=if 0 ≤ (l0.length : Int) then (if (l0.length : Int).toNat ≤ 8796093022208 then laws_toLetterS.l0 k l0 (List.replicate (l0.length : Int).toNat z151) 0 else none) else none
theorem laws_toLetterS.ok {k : Nat} {l0 : List S194} {r : (List S151)} (H : laws_toLetterS.f k l0 = some r) : ACalls Tryz.prog 60 [] [.sl .o 3 (l0.map e194)] [(0,.row 151 3 (r.map e151))] (.row 0):=by
 refine acalls (fn:=Tryz.f60) (nt:=23) Tryz.func60 rfl rfl (Nat.le_of_ble_eq_true rfl) fun E hE=>?_
 rw [laws_toLetterS.f] at H
 refine aw_grp1<|wk_start<|kv g0 asg<|wk_end<|ac_next<|aw_grp1<|wk_start<|kv g0 mv<|kv g0 (lnS lenE) ?_
 obtain ⟨c1,H⟩:=of_if H
 obtain ⟨c2,H⟩:=of_if H
 refine kb g0 (mks 0 151 3 32 [.bool false,.string .empty,.bool false] (e151 z151) ((List.replicate (l0.length : Int).toNat z151).map e151) c1 (mkb c2 rfl) repE)<|kv g0 asg<|wk_end<|ac_next<|aw_grp1<|aw_grp1<|wk_start<|kv g0 asg<|wk_end<|ac_next<|aw_block ?_
 refine aw_loop2 (fun (k_ : Nat) (q8 : List S151) (p9 : Int)=>k_ ≤ k∧laws_toLetterS.l0 k_ l0 q8 p9 = some r) (fun (q8 : List S151) (p9 : Int)=>⟨[(0,.sl .o 3 (l0.map e194)),(3,.row 0),(4,.lit (.int .i64 p9))],[(0,.row 151 3 (q8.map e151))]⟩) k (List.replicate (l0.length : Int).toNat z151) 0 ⟨Nat.le_refl _,H⟩ (fun K_ h_=>acw hE [(0,0)] 9999 h_) (fun _ _=>by intro h_;have h_:=h_.2;rw [laws_toLetterS.l0.eq_1] at h_;cases h_) ?_
 intro k10 q8 p9 hq_ K16 hK17
 have hk10:=hq_.1
 have H:=hq_.2
 clear hq_
 rw [laws_toLetterS.l0.eq_2] at H
 refine aw_grp1<|aw_grp1<|wk_start<|kv g0 mv<|kv g0 mv<|kv g0 (lnS lenE)<|kv g0 lss<|wk_end<|ac_next ?_
 by_cases c11 : p9 < (l0.length : Int)
 ·rw [if_pos c11] at H
  refine aw_ifT ?_ (decide_eq_true c11)
  refine aw_skip<|ac_next<|aw_grp1<|aw_block<|wk_start<|kv g0 mv<|kv g0 mv<|kv g0 mv<|kv g0 mv ?_
  obtain ⟨c12,H⟩:=of_if H
  refine kv g0 (ixS 194 (e194 (rd_T194 l0 p9)) c12 (getE (z:=z194) c12 c11))<|kv g0 (ldRA 3 [.lit (.bool ((rd_T194 l0 p9).f0)),.lit (.string ((rd_T194 l0 p9).f1)),.lit (.bool ((rd_T194 l0 p9).f2))]) ?_
  obtain ⟨t13,A14,H⟩:=of_bind H
  refine kcS0 20 (.agg [.lit (.bool t13.1),.lit (.string t13.2.1),.lit (.bool t13.2.2)]) [] g0 (cal (laws_toLetter.ok A14) [] 9999 .n (hf:=Tryz.func148)) rfl rfl ?_
  obtain ⟨c15,H⟩:=of_if H
  refine kv g0 (ixR 151 c12 (ltE c15))<|ks g0 (stE 3 (e151 (⟨t13.1,t13.2.1,t13.2.2⟩ : S151)) ((q8.set p9.toNat (⟨t13.1,t13.2.1,t13.2.2⟩ : S151)).map e151) (getE (z:=z151) c12 c15) setE)<|wk_end<|ac_blkN<|ac_next<|wk_start<|kv g0 mv<|kv g0 add6<|kv g0 asg<|wk_end<|ac_k ?_
  exact acw hE [(0,0)] 9999 (hK17 k10 (q8.set p9.toNat (⟨t13.1,t13.2.1,t13.2.2⟩ : S151)) (wrap64 (p9 + 1)) (Nat.le_refl _) ⟨by omega,H⟩)
 rw [if_neg c11] at H
 refine aw_ifF ?_ (decide_eq_false c11)
 refine aw_exit<|ac_then<|ac_then<|ac_hit rfl<|ac_next<|aw_grp1<|wk_start<|kv g0 mv<|kv g0 asg<|wk_end<|ac_next<|aw_ret ?_
 obtain rfl:=Option.some.inj H
 exact acr hE [.tmp 2] (.tmp .nil) (.one _) [(0,0)] 9999
/-! laws_toSeen -/
def laws_toSeen.f (a0_0 : Int) (a0_1 : Int) (a0_2 : Int) (a0_3 : Bool) : Option (Int × Int × Int × Bool):=some (a0_0,a0_1,a0_2,a0_3)
theorem laws_toSeen.ok {a0_0 : Int} {a0_1 : Int} {a0_2 : Int} {a0_3 : Bool} {r : Int × Int × Int × Bool} (H : laws_toSeen.f a0_0 a0_1 a0_2 a0_3 = some r) : ACalls Tryz.prog 149 [] [.agg [.lit (.int .i64 a0_0),.lit (.int .i64 a0_1),.lit (.int .i64 a0_2),.lit (.bool a0_3)]] [] (.agg [.lit (.int .i64 r.1),.lit (.int .i64 r.2.1),.lit (.int .i64 r.2.2.1),.lit (.bool r.2.2.2)]):=by
 refine acalls (fn:=Tryz.f149) (nt:=17) Tryz.func149 rfl rfl (Nat.le_of_ble_eq_true rfl) fun E hE=>?_
 rw [laws_toSeen.f] at H
 refine aw_grp1<|wk_start<|kb g0 (bxA 0)<|kb g0 (alc 1 [.int .i64 0,.int .i64 0,.int .i64 0,.bool false] [.lit (.int .i64 0),.lit (.int .i64 0),.lit (.int .i64 0),.lit (.bool false)])<|wk_end<|ac_next<|aw_grp1<|wk_start<|kb g0 (alc 2 [.int .i64 0,.int .i64 0,.int .i64 0,.bool false] [.lit (.int .i64 0),.lit (.int .i64 0),.lit (.int .i64 0),.lit (.bool false)])<|wk_end<|ac_next<|aw_grp1<|wk_start<|kv g0 (faB 0 0)<|kv g0 ldB<|kv g0 (faB 0 0)<|ks g0 (stB 1 [.lit (.int .i64 a0_0),.lit (.int .i64 0),.lit (.int .i64 0),.lit (.bool false)])<|wk_end<|ac_next<|aw_grp1<|wk_start<|kv g0 (faB 1 1)<|kv g0 ldB<|kv g0 (faB 1 1)<|ks g0 (stB 1 [.lit (.int .i64 a0_0),.lit (.int .i64 a0_1),.lit (.int .i64 0),.lit (.bool false)])<|wk_end<|ac_next<|aw_grp1<|wk_start<|kv g0 (faB 2 2)<|kv g0 ldB<|kv g0 (faB 2 2)<|ks g0 (stB 1 [.lit (.int .i64 a0_0),.lit (.int .i64 a0_1),.lit (.int .i64 a0_2),.lit (.bool false)])<|wk_end<|ac_next<|aw_grp1<|wk_start<|kv g0 (faB 3 3)<|kv g0 ldB<|kv g0 (faB 3 3) ?_
 refine ks g0 (stB 1 [.lit (.int .i64 a0_0),.lit (.int .i64 a0_1),.lit (.int .i64 a0_2),.lit (.bool a0_3)])<|wk_end<|ac_next<|aw_grp1<|wk_start<|kv g0 (ldBA 4 [.lit (.int .i64 a0_0),.lit (.int .i64 a0_1),.lit (.int .i64 a0_2),.lit (.bool a0_3)])<|ks g0 (stB 4 [.lit (.int .i64 a0_0),.lit (.int .i64 a0_1),.lit (.int .i64 a0_2),.lit (.bool a0_3)])<|wk_end<|ac_next<|aw_ret ?_
 obtain rfl:=Option.some.inj H
 exact acr hE [.cell 2 59] (rcA 4 .nil) (.one _) [] 9999
/-! laws_toSeenS -/
def laws_toSeenS.l0 : Nat→(List S210)→(List S59)→Int→Option ((List S59))
 | 0,_,_,_=>none
 | k10 + 1,l0,q8,p9=>if p9 < (l0.length : Int) then if 0 ≤ p9 then ((laws_toSeen.f ((rd_T210 l0 p9).f0) ((rd_T210 l0 p9).f1) ((rd_T210 l0 p9).f2) ((rd_T210 l0 p9).f3)).bind fun t13=>(if p9 < (q8.length : Int) then laws_toSeenS.l0 k10 l0 (q8.set p9.toNat (⟨t13.1,t13.2.1,t13.2.2.1,t13.2.2.2⟩ : S59)) (wrap64 (p9 + 1)) else none)) else none else some q8
def laws_toSeenS.f (k : Nat) (l0 : List S210) : Option ((List S59)):=if 0 ≤ (l0.length : Int) then (if (l0.length : Int).toNat ≤ 8796093022208 then laws_toSeenS.l0 k l0 (List.replicate (l0.length : Int).toNat z59) 0 else none) else none
theorem laws_toSeenS.ok {k : Nat} {l0 : List S210} {r : (List S59)} (H : laws_toSeenS.f k l0 = some r) : ACalls Tryz.prog 62 [] [.sl .o 4 (l0.map e210)] [(0,.row 59 4 (r.map e59))] (.row 0):=by
 refine acalls (fn:=Tryz.f62) (nt:=23) Tryz.func62 rfl rfl (Nat.le_of_ble_eq_true rfl) fun E hE=>?_
 rw [laws_toSeenS.f] at H
 refine aw_grp1<|wk_start<|kv g0 asg<|wk_end<|ac_next<|aw_grp1<|wk_start<|kv g0 mv<|kv g0 (lnS lenE) ?_
 obtain ⟨c1,H⟩:=of_if H
 obtain ⟨c2,H⟩:=of_if H
 refine kb g0 (mks 0 59 4 32 [.int .i64 0,.int .i64 0,.int .i64 0,.bool false] (e59 z59) ((List.replicate (l0.length : Int).toNat z59).map e59) c1 (mkb c2 rfl) repE)<|kv g0 asg<|wk_end<|ac_next<|aw_grp1<|aw_grp1<|wk_start<|kv g0 asg<|wk_end<|ac_next<|aw_block ?_
 refine aw_loop2 (fun (k_ : Nat) (q8 : List S59) (p9 : Int)=>k_ ≤ k∧laws_toSeenS.l0 k_ l0 q8 p9 = some r) (fun (q8 : List S59) (p9 : Int)=>⟨[(0,.sl .o 4 (l0.map e210)),(3,.row 0),(4,.lit (.int .i64 p9))],[(0,.row 59 4 (q8.map e59))]⟩) k (List.replicate (l0.length : Int).toNat z59) 0 ⟨Nat.le_refl _,H⟩ (fun K_ h_=>acw hE [(0,0)] 9999 h_) (fun _ _=>by intro h_;have h_:=h_.2;rw [laws_toSeenS.l0.eq_1] at h_;cases h_) ?_
 intro k10 q8 p9 hq_ K16 hK17
 have hk10:=hq_.1
 have H:=hq_.2
 clear hq_
 rw [laws_toSeenS.l0.eq_2] at H
 refine aw_grp1<|aw_grp1<|wk_start<|kv g0 mv<|kv g0 mv<|kv g0 (lnS lenE)<|kv g0 lss<|wk_end<|ac_next ?_
 by_cases c11 : p9 < (l0.length : Int)
 ·rw [if_pos c11] at H
  refine aw_ifT ?_ (decide_eq_true c11)
  refine aw_skip<|ac_next<|aw_grp1<|aw_block<|wk_start<|kv g0 mv<|kv g0 mv<|kv g0 mv<|kv g0 mv ?_
  obtain ⟨c12,H⟩:=of_if H
  refine kv g0 (ixS 210 (e210 (rd_T210 l0 p9)) c12 (getE (z:=z210) c12 c11))<|kv g0 (ldRA 4 [.lit (.int .i64 ((rd_T210 l0 p9).f0)),.lit (.int .i64 ((rd_T210 l0 p9).f1)),.lit (.int .i64 ((rd_T210 l0 p9).f2)),.lit (.bool ((rd_T210 l0 p9).f3))]) ?_
  obtain ⟨t13,A14,H⟩:=of_bind H
  refine kcS0 20 (.agg [.lit (.int .i64 t13.1),.lit (.int .i64 t13.2.1),.lit (.int .i64 t13.2.2.1),.lit (.bool t13.2.2.2)]) [] g0 (cal (laws_toSeen.ok A14) [] 9999 .n (hf:=Tryz.func149)) rfl rfl ?_
  obtain ⟨c15,H⟩:=of_if H
  refine kv g0 (ixR 59 c12 (ltE c15))<|ks g0 (stE 4 (e59 (⟨t13.1,t13.2.1,t13.2.2.1,t13.2.2.2⟩ : S59)) ((q8.set p9.toNat (⟨t13.1,t13.2.1,t13.2.2.1,t13.2.2.2⟩ : S59)).map e59) (getE (z:=z59) c12 c15) setE)<|wk_end<|ac_blkN<|ac_next<|wk_start<|kv g0 mv<|kv g0 add6<|kv g0 asg<|wk_end<|ac_k ?_
  exact acw hE [(0,0)] 9999 (hK17 k10 (q8.set p9.toNat (⟨t13.1,t13.2.1,t13.2.2.1,t13.2.2.2⟩ : S59)) (wrap64 (p9 + 1)) (Nat.le_refl _) ⟨by omega,H⟩)
 rw [if_neg c11] at H
 refine aw_ifF ?_ (decide_eq_false c11)
 refine aw_exit<|ac_then<|ac_then<|ac_hit rfl<|ac_next<|aw_grp1<|wk_start<|kv g0 mv<|kv g0 asg<|wk_end<|ac_next<|aw_ret ?_
 obtain rfl:=Option.some.inj H
 exact acr hE [.tmp 2] (.tmp .nil) (.one _) [(0,0)] 9999
/-! laws_toWorld -/
def laws_toWorld.f (k : Nat) (l0_0 : List (List (List S308))) (l0_1 : List S187) (l0_2 : List S190) (l0_3 : List S268) (l0_4 : List Int) (l0_5 : List S270) (a0_6 : Int) (l0_7 : List Int) (l0_8 : List S194) (a0_9 : Int) (l0_10 : List Int) (l0_11 : List S210) : Option ((List (List (List S234))) × (List S67) × (List S65) × (List S139) × (List Int) × (List S154) × Int × (List Int) × (List S151) × Int × (List Int) × (List S59)):=(laws_toInsSSS.f k l0_0).bind fun t1=>(laws_toRingS.f k l0_1).bind fun t3=>(laws_toSenderS.f k l0_2).bind fun t5=>(laws_toKeeper.f k l0_3 l0_4 l0_5 a0_6 l0_7).bind fun t7=>(laws_toLetterS.f k l0_8).bind fun t9=>(laws_toIntS.f k l0_10).bind fun t11=>(laws_toSeenS.f k l0_11).bind fun t13=>some (t1,t3,t5,t7.1,t7.2.1,t7.2.2.1,t7.2.2.2.1,t7.2.2.2.2,t9,a0_9,t11,t13)
theorem laws_toWorld.ok {k : Nat} {l0_0 : List (List (List S308))} {l0_1 : List S187} {l0_2 : List S190} {l0_3 : List S268} {l0_4 : List Int} {l0_5 : List S270} {a0_6 : Int} {l0_7 : List Int} {l0_8 : List S194} {a0_9 : Int} {l0_10 : List Int} {l0_11 : List S210} {r : (List (List (List S234))) × (List S67) × (List S65) × (List S139) × (List Int) × (List S154) × Int × (List Int) × (List S151) × Int × (List Int) × (List S59)} (H : laws_toWorld.f k l0_0 l0_1 l0_2 l0_3 l0_4 l0_5 a0_6 l0_7 l0_8 a0_9 l0_10 l0_11 = some r) : ACalls Tryz.prog 10 [] [.agg [.sl .o 1 (l0_0.map (eL 1 (eL 4 (e308)))),.sl .o 4 (l0_1.map e187),.sl .o 5 (l0_2.map e190),.sl .o 6 (l0_3.map e268),.sl .o 1 (l0_4.map (eI .i64)),.sl .o 6 (l0_5.map e270),.lit (.int .i64 a0_6),.sl .o 1 (l0_7.map (eI .i64)),.sl .o 3 (l0_8.map e194),.lit (.int .i64 a0_9),.sl .o 1 (l0_10.map (eI .i64)),.sl .o 4 (l0_11.map e210)]] [(0,.drow false [.own 147 [.own 234 []]] 145 1 (r.1.map (eL 1 (eL 4 (e234))))),(1,.drow false ds67 67 4 (r.2.1.map e67)),(2,.drow false ds65 65 5 (r.2.2.1.map e65)),(3,.row 139 6 (r.2.2.2.1.map e139)),(4,.row 3 1 (r.2.2.2.2.1.map (eI .i64))),(5,.row 154 6 (r.2.2.2.2.2.1.map e154)),(6,.row 3 1 (r.2.2.2.2.2.2.2.1.map (eI .i64))),(7,.row 151 3 (r.2.2.2.2.2.2.2.2.1.map e151)),(8,.row 3 1 (r.2.2.2.2.2.2.2.2.2.2.1.map (eI .i64))),(9,.row 59 4 (r.2.2.2.2.2.2.2.2.2.2.2.map e59))] (.agg [.row 0,.row 1,.row 2,.row 3,.row 4,.row 5,.lit (.int .i64 r.2.2.2.2.2.2.1),.row 6,.row 7,.lit (.int .i64 r.2.2.2.2.2.2.2.2.2.1),.row 8,.row 9]):=by
 refine acalls (fn:=Tryz.f10) (nt:=36) Tryz.func10 rfl rfl (Nat.le_of_ble_eq_true rfl) fun E hE=>?_
 rw [laws_toWorld.f] at H
 refine aw_grp1<|wk_start<|kb g0 (bxA 0)<|kb g0 (alc 1 [.slice none 0 0,.slice none 0 0,.slice none 0 0,.slice none 0 0,.slice none 0 0,.slice none 0 0,.int .i64 0,.slice none 0 0,.slice none 0 0,.int .i64 0,.slice none 0 0,.slice none 0 0] [.lit (.slice none 0 0),.lit (.slice none 0 0),.lit (.slice none 0 0),.lit (.slice none 0 0),.lit (.slice none 0 0),.lit (.slice none 0 0),.lit (.int .i64 0),.lit (.slice none 0 0),.lit (.slice none 0 0),.lit (.int .i64 0),.lit (.slice none 0 0),.lit (.slice none 0 0)])<|wk_end<|ac_next<|aw_grp1<|wk_start<|kb g0 (alc 2 [.slice none 0 0,.slice none 0 0,.slice none 0 0,.slice none 0 0,.slice none 0 0,.slice none 0 0,.int .i64 0,.slice none 0 0,.slice none 0 0,.int .i64 0,.slice none 0 0,.slice none 0 0] [.lit (.slice none 0 0),.lit (.slice none 0 0),.lit (.slice none 0 0),.lit (.slice none 0 0),.lit (.slice none 0 0),.lit (.slice none 0 0),.lit (.int .i64 0),.lit (.slice none 0 0),.lit (.slice none 0 0),.lit (.int .i64 0),.lit (.slice none 0 0),.lit (.slice none 0 0)])<|wk_end<|ac_next<|aw_grp1<|wk_start<|kv g0 (faB 0 0)<|kv g0 ldB ?_
 obtain ⟨t1,A2,H⟩:=of_bind H
 refine kcS1 6 (.row 3) [(3,.drow false [.own 147 [.own 234 []]] 145 1 (t1.map (eL 1 (eL 4 e234))))] g0 (cal (laws_toInsSSS.ok A2) [3] 9999 .n (hf:=Tryz.func56)) rfl rfl<|kv g0 (faB 0 0)<|ks g0 (stB 1 [.row 3,.lit (.slice none 0 0),.lit (.slice none 0 0),.lit (.slice none 0 0),.lit (.slice none 0 0),.lit (.slice none 0 0),.lit (.int .i64 0),.lit (.slice none 0 0),.lit (.slice none 0 0),.lit (.int .i64 0),.lit (.slice none 0 0),.lit (.slice none 0 0)])<|wk_end<|ac_next<|aw_grp1<|wk_start<|kv g0 (faB 1 1)<|kv g0 ldB ?_
 obtain ⟨t3,A4,H⟩:=of_bind H
 refine kcS1 10 (.row 4) [(4,.drow false ds67 67 4 (t3.map e67))] g0 (cal (laws_toRingS.ok A4) [4] 9999 .n (hf:=Tryz.func57)) rfl rfl<|kv g0 (faB 1 1)<|ks g0 (stB 1 [.row 3,.row 4,.lit (.slice none 0 0),.lit (.slice none 0 0),.lit (.slice none 0 0),.lit (.slice none 0 0),.lit (.int .i64 0),.lit (.slice none 0 0),.lit (.slice none 0 0),.lit (.int .i64 0),.lit (.slice none 0 0),.lit (.slice none 0 0)])<|wk_end<|ac_next<|aw_grp1<|wk_start<|kv g0 (faB 2 2)<|kv g0 ldB ?_
 obtain ⟨t5,A6,H⟩:=of_bind H
 refine kcS1 14 (.row 5) [(5,.drow false ds65 65 5 (t5.map e65))] g0 (cal (laws_toSenderS.ok A6) [5] 9999 .n (hf:=Tryz.func58)) rfl rfl<|kv g0 (faB 2 2)<|ks g0 (stB 1 [.row 3,.row 4,.row 5,.lit (.slice none 0 0),.lit (.slice none 0 0),.lit (.slice none 0 0),.lit (.int .i64 0),.lit (.slice none 0 0),.lit (.slice none 0 0),.lit (.int .i64 0),.lit (.slice none 0 0),.lit (.slice none 0 0)])<|wk_end<|ac_next<|aw_grp1<|wk_start<|kv g0 (faB 3 3)<|kv g0 (ldBA 5 [.sl .o 6 (l0_3.map e268),.sl .o 1 (l0_4.map (eI .i64)),.sl .o 6 (l0_5.map e270),.lit (.int .i64 a0_6),.sl .o 1 (l0_7.map (eI .i64))]) ?_
 obtain ⟨t7,A8,H⟩:=of_bind H
 refine kcS4 18 (.agg [.row 6,.row 7,.row 8,.lit (.int .i64 t7.2.2.2.1),.row 9]) [(6,.row 139 6 (t7.1.map e139)),(7,.row 3 1 (t7.2.1.map (eI .i64))),(8,.row 154 6 (t7.2.2.1.map e154)),(9,.row 3 1 (t7.2.2.2.2.map (eI .i64)))] g0 (cal (laws_toKeeper.ok A8) [6,7,8,9] 9999 .n (hf:=Tryz.func59)) rfl rfl<|kv g0 (faB 3 3)<|ks g0 (stB 5 [.row 3,.row 4,.row 5,.row 6,.row 7,.row 8,.lit (.int .i64 t7.2.2.2.1),.row 9,.lit (.slice none 0 0),.lit (.int .i64 0),.lit (.slice none 0 0),.lit (.slice none 0 0)])<|wk_end<|ac_next<|aw_grp1<|wk_start<|kv g0 (faB 8 8)<|kv g0 ldB ?_
 obtain ⟨t9,A10,H⟩:=of_bind H
 refine kcS1 22 (.row 10) [(10,.row 151 3 (t9.map e151))] g0 (cal (laws_toLetterS.ok A10) [10] 9999 .n (hf:=Tryz.func60)) rfl rfl<|kv g0 (faB 8 8)<|ks g0 (stB 1 [.row 3,.row 4,.row 5,.row 6,.row 7,.row 8,.lit (.int .i64 t7.2.2.2.1),.row 9,.row 10,.lit (.int .i64 0),.lit (.slice none 0 0),.lit (.slice none 0 0)])<|wk_end<|ac_next<|aw_grp1<|wk_start<|kv g0 (faB 9 9)<|kv g0 ldB<|kv g0 (faB 9 9)<|ks g0 (stB 1 [.row 3,.row 4,.row 5,.row 6,.row 7,.row 8,.lit (.int .i64 t7.2.2.2.1),.row 9,.row 10,.lit (.int .i64 a0_9),.lit (.slice none 0 0),.lit (.slice none 0 0)])<|wk_end<|ac_next<|aw_grp1<|wk_start<|kv g0 (faB 10 10)<|kv g0 ldB ?_
 obtain ⟨t11,A12,H⟩:=of_bind H
 refine kcS1 29 (.row 11) [(11,.row 3 1 (t11.map (eI .i64)))] g0 (cal (laws_toIntS.ok A12) [11] 9999 .n (hf:=Tryz.func61)) rfl rfl<|kv g0 (faB 10 10)<|ks g0 (stB 1 [.row 3,.row 4,.row 5,.row 6,.row 7,.row 8,.lit (.int .i64 t7.2.2.2.1),.row 9,.row 10,.lit (.int .i64 a0_9),.row 11,.lit (.slice none 0 0)])<|wk_end<|ac_next<|aw_grp1<|wk_start<|kv g0 (faB 11 11)<|kv g0 ldB ?_
 obtain ⟨t13,A14,H⟩:=of_bind H
 refine kcS1 33 (.row 12) [(12,.row 59 4 (t13.map e59))] g0 (cal (laws_toSeenS.ok A14) [12] 9999 .n (hf:=Tryz.func62)) rfl rfl<|kv g0 (faB 11 11)<|ks g0 (stB 1 [.row 3,.row 4,.row 5,.row 6,.row 7,.row 8,.lit (.int .i64 t7.2.2.2.1),.row 9,.row 10,.lit (.int .i64 a0_9),.row 11,.row 12])<|wk_end<|ac_next<|aw_grp1<|wk_start<|kv g0 (ldBA 12 [.row 3,.row 4,.row 5,.row 6,.row 7,.row 8,.lit (.int .i64 t7.2.2.2.1),.row 9,.row 10,.lit (.int .i64 a0_9),.row 11,.row 12])<|ks g0 (stB 12 [.row 3,.row 4,.row 5,.row 6,.row 7,.row 8,.lit (.int .i64 t7.2.2.2.1),.row 9,.row 10,.lit (.int .i64 a0_9),.row 11,.row 12])<|wk_end<|ac_next<|aw_ret ?_
 obtain rfl:=Option.some.inj H
 exact acr hE [.cell 2 45] (rcA 12 .nil) (.one _) [(0,3),(1,4),(2,5),(3,6),(4,7),(5,8),(6,9),(7,10),(8,11),(9,12)] 9999
end Go.Proofs.YtkkglhhkpihmgaaGreat.PFnExactCalmWorld
