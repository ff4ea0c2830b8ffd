import Derived.Test.YtkkglhhkpihmgaaGreatPFnExactCalmWorldx6
set_option linter.unusedVariables false
set_option linter.unusedSimpArgs false
set_option maxRecDepth 100000
namespace Go.Proofs.YtkkglhhkpihmgaaGreat.PFnExactCalmWorld
open Go Go.RowKit Go.Proofs.YtkkglhhkpihmgaaGreatA
/-! laws_heldInsSS -/
def laws_heldInsSS.l0 : Nat→(List (List S234))→Int→Int→Option (Int)
 | 0,_,_,_=>none
 | k8 + 1,l0,p6,p7=>if p7 < (l0.length : Int) then if 0 ≤ p7 then ((laws_heldInsS.f k8 (rdOf ([] : List S234) l0 p7) p6).bind fun t11=>if t11 < 0 then some (-1) else laws_heldInsSS.l0 k8 l0 t11 (wrap64 (p7 + 1))) else none else some p6
def laws_heldInsSS.f (k : Nat) (l0 : List (List S234)) (a1 : Int) : Option (Int):=laws_heldInsSS.l0 k l0 a1 0
theorem laws_heldInsSS.ok {k : Nat} {l0 : List (List S234)} {a1 : Int} {r : Int} (H : laws_heldInsSS.f k l0 a1 = some r) : ACalls Tryz.prog 172 [] [.sl .o 1 (l0.map (eL 4 (e234))),.lit (.int .i64 a1)] [] (.lit (.int .i64 r)):=by
 refine acalls (fn:=Tryz.f172) (nt:=21) Tryz.func172 rfl rfl (Nat.le_of_ble_eq_true rfl) fun E hE=>?_
 rw [laws_heldInsSS.f] at H
 refine aw_grp1<|wk_start<|kv g0 asg<|wk_end<|ac_next<|aw_grp1<|aw_grp1<|wk_start<|kv g0 asg<|wk_end<|ac_next<|aw_block ?_
 refine aw_loop2 (fun (k_ : Nat) (p6 : Int) (p7 : Int)=>k_ ≤ k∧laws_heldInsSS.l0 k_ l0 p6 p7 = some r) (fun (p6 : Int) (p7 : Int)=>⟨[(0,.sl .o 1 (l0.map (eL 4 (e234)))),(1,.lit (.int .i64 p6)),(5,.lit (.int .i64 p7))],[]⟩) k a1 0 ⟨Nat.le_refl _,H⟩ (fun K_ h_=>acw hE [] 9999 h_) (fun _ _=>by intro h_;have h_:=h_.2;rw [laws_heldInsSS.l0.eq_1] at h_;cases h_) ?_
 intro k8 p6 p7 hq_ K14 hK15
 have hk8:=hq_.1
 have H:=hq_.2
 clear hq_
 rw [laws_heldInsSS.l0.eq_2] at H
 refine aw_grp1<|aw_grp1<|wk_start<|kv g0 mv<|kv g0 mv<|kv g0 (lnS lenE)<|kv g0 lss<|wk_end<|ac_next ?_
 by_cases c9 : p7 < (l0.length : Int)
 ·rw [if_pos c9] at H
  refine aw_ifT ?_ (decide_eq_true c9)
  refine aw_skip<|ac_next<|aw_grp1<|aw_block<|aw_grp1<|wk_start<|kv g0 mv<|kv g0 mv ?_
  obtain ⟨c10,H⟩:=of_if H
  refine kv g0 (ixS 147 (eL 4 e234 (rdOf ([] : List S234) l0 p7)) c10 (getE (z:=([] : List S234)) c10 c9))<|kv g0 (ldR (.sl .o 4 ((rdOf ([] : List S234) l0 p7).map e234)))<|kv g0 mv ?_
  obtain ⟨t11,A12,H⟩:=of_bind H
  refine kcS0 17 (.lit (.int .i64 t11)) [] g0 (cal (laws_heldInsS.ok A12) [] 9999 .n (hf:=Tryz.func229)) rfl rfl<|kv g0 asg<|wk_end<|ac_next<|aw_grp1<|wk_start<|kv g0 mv<|kv g0 lss<|wk_end<|ac_next ?_
  by_cases c13 : t11 < 0
  ·rw [if_pos c13] at H
   refine aw_ifT ?_ (decide_eq_true c13)
   refine aw_grp1<|wk_start<|kv g0 asg<|wk_end<|ac_next<|aw_ret<|ac_blkR<|ac_thenR<|ac_thenR<|ac_blkR<|ac_thenR ?_
   obtain rfl:=Option.some.inj H
   exact acr hE [.tmp 4] (.tmp .nil) (.one _) [] 9999
  rw [if_neg c13] at H
  refine aw_ifF ?_ (decide_eq_false c13)
  refine aw_skip<|ac_blkN<|ac_next<|wk_start<|kv g0 mv<|kv g0 add6<|kv g0 asg<|wk_end<|ac_k ?_
  exact acw hE [] 9999 (hK15 k8 t11 (wrap64 (p7 + 1)) (Nat.le_refl _) ⟨by omega,H⟩)
 rw [if_neg c9] at H
 refine aw_ifF ?_ (decide_eq_false c9)
 refine aw_exit<|ac_then<|ac_then<|ac_hit rfl<|ac_next<|aw_grp1<|wk_start<|kv g0 mv<|kv g0 asg<|wk_end<|ac_next<|aw_ret ?_
 obtain rfl:=Option.some.inj H
 exact acr hE [.tmp 4] (.tmp .nil) (.one _) [] 9999
/-! laws_heldInsSSS -/
def laws_heldInsSSS.l0 : Nat→(List (List (List S234)))→Int→Int→Option (Int)
 | 0,_,_,_=>none
 | k8 + 1,l0,p6,p7=>if p7 < (l0.length : Int) then if 0 ≤ p7 then ((laws_heldInsSS.f k8 (rdOf ([] : List (List S234)) l0 p7) p6).bind fun t11=>if t11 < 0 then some (-1) else laws_heldInsSSS.l0 k8 l0 t11 (wrap64 (p7 + 1))) else none else some p6
def laws_heldInsSSS.f (k : Nat) (l0 : List (List (List S234))) (a1 : Int) : Option (Int):=laws_heldInsSSS.l0 k l0 a1 0
theorem laws_heldInsSSS.ok {k : Nat} {l0 : List (List (List S234))} {a1 : Int} {r : Int} (H : laws_heldInsSSS.f k l0 a1 = some r) : ACalls Tryz.prog 86 [] [.sl .o 1 (l0.map (eL 1 (eL 4 (e234)))),.lit (.int .i64 a1)] [] (.lit (.int .i64 r)):=by
 refine acalls (fn:=Tryz.f86) (nt:=21) Tryz.func86 rfl rfl (Nat.le_of_ble_eq_true rfl) fun E hE=>?_
 rw [laws_heldInsSSS.f] at H
 refine aw_grp1<|wk_start<|kv g0 asg<|wk_end<|ac_next<|aw_grp1<|aw_grp1<|wk_start<|kv g0 asg<|wk_end<|ac_next<|aw_block ?_
 refine aw_loop2 (fun (k_ : Nat) (p6 : Int) (p7 : Int)=>k_ ≤ k∧laws_heldInsSSS.l0 k_ l0 p6 p7 = some r) (fun (p6 : Int) (p7 : Int)=>⟨[(0,.sl .o 1 (l0.map (eL 1 (eL 4 (e234))))),(1,.lit (.int .i64 p6)),(5,.lit (.int .i64 p7))],[]⟩) k a1 0 ⟨Nat.le_refl _,H⟩ (fun K_ h_=>acw hE [] 9999 h_) (fun _ _=>by intro h_;have h_:=h_.2;rw [laws_heldInsSSS.l0.eq_1] at h_;cases h_) ?_
 intro k8 p6 p7 hq_ K14 hK15
 have hk8:=hq_.1
 have H:=hq_.2
 clear hq_
 rw [laws_heldInsSSS.l0.eq_2] at H
 refine aw_grp1<|aw_grp1<|wk_start<|kv g0 mv<|kv g0 mv<|kv g0 (lnS lenE)<|kv g0 lss<|wk_end<|ac_next ?_
 by_cases c9 : p7 < (l0.length : Int)
 ·rw [if_pos c9] at H
  refine aw_ifT ?_ (decide_eq_true c9)
  refine aw_skip<|ac_next<|aw_grp1<|aw_block<|aw_grp1<|wk_start<|kv g0 mv<|kv g0 mv ?_
  obtain ⟨c10,H⟩:=of_if H
  refine kv g0 (ixS 145 (eL 1 (eL 4 e234) (rdOf ([] : List (List S234)) l0 p7)) c10 (getE (z:=([] : List (List S234))) c10 c9))<|kv g0 (ldR (.sl .o 1 ((rdOf ([] : List (List S234)) l0 p7).map (eL 4 e234))))<|kv g0 mv ?_
  obtain ⟨t11,A12,H⟩:=of_bind H
  refine kcS0 17 (.lit (.int .i64 t11)) [] g0 (cal (laws_heldInsSS.ok A12) [] 9999 .n (hf:=Tryz.func172)) rfl rfl<|kv g0 asg<|wk_end<|ac_next<|aw_grp1<|wk_start<|kv g0 mv<|kv g0 lss<|wk_end<|ac_next ?_
  by_cases c13 : t11 < 0
  ·rw [if_pos c13] at H
   refine aw_ifT ?_ (decide_eq_true c13)
   refine aw_grp1<|wk_start<|kv g0 asg<|wk_end<|ac_next<|aw_ret<|ac_blkR<|ac_thenR<|ac_thenR<|ac_blkR<|ac_thenR ?_
   obtain rfl:=Option.some.inj H
   exact acr hE [.tmp 4] (.tmp .nil) (.one _) [] 9999
  rw [if_neg c13] at H
  refine aw_ifF ?_ (decide_eq_false c13)
  refine aw_skip<|ac_blkN<|ac_next<|wk_start<|kv g0 mv<|kv g0 add6<|kv g0 asg<|wk_end<|ac_k ?_
  exact acw hE [] 9999 (hK15 k8 t11 (wrap64 (p7 + 1)) (Nat.le_refl _) ⟨by omega,H⟩)
 rw [if_neg c9] at H
 refine aw_ifF ?_ (decide_eq_false c9)
 refine aw_exit<|ac_then<|ac_then<|ac_hit rfl<|ac_next<|aw_grp1<|wk_start<|kv g0 mv<|kv g0 asg<|wk_end<|ac_next<|aw_ret ?_
 obtain rfl:=Option.some.inj H
 exact acr hE [.tmp 4] (.tmp .nil) (.one _) [] 9999
/-! laws_heldItemS -/
def laws_heldItemS.l0 : Nat→(List S63)→Int→Int→Option (Int)
 | 0,_,_,_=>none
 | k9 + 1,l0,p7,p8=>if p8 < (l0.length : Int) then if 0 ≤ p8 then if ((rd_T63 l0 p8).f0) = p7 then if ((rd_T63 l0 p8).f1) = (wrap64 (p7 + 1)) then if ((rd_T63 l0 p8).f2) = (wrap64 ((wrap64 (p7 + 1)) + 1)) then if ((rd_T63 l0 p8).f3) = (wrap64 ((wrap64 ((wrap64 (p7 + 1)) + 1)) + 1)) then laws_heldItemS.l0 k9 l0 (wrap64 ((wrap64 ((wrap64 ((wrap64 (p7 + 1)) + 1)) + 1)) + 1)) (wrap64 (p8 + 1)) else some (-1) else some (-1) else some (-1) else some (-1) else none else some p7
def laws_heldItemS.f (k : Nat) (l0 : List S63) (a1 : Int) : Option (Int):=laws_heldItemS.l0 k l0 a1 0
theorem laws_heldItemS.ok {k : Nat} {l0 : List S63} {a1 : Int} {r : Int} (H : laws_heldItemS.f k l0 a1 = some r) : ACalls Tryz.prog 173 [] [.sl .o 4 (l0.map e63),.lit (.int .i64 a1)] [] (.lit (.int .i64 r)):=by
 refine acalls (fn:=Tryz.f173) (nt:=49) Tryz.func173 rfl rfl (Nat.le_of_ble_eq_true rfl) fun E hE=>?_
 rw [laws_heldItemS.f] at H
 refine aw_grp1<|wk_start<|kv g0 asg<|wk_end<|ac_next<|aw_grp1<|aw_grp1<|wk_start<|kv g0 asg<|wk_end<|ac_next<|aw_block ?_
 refine aw_loop2 (fun (k_ : Nat) (p7 : Int) (p8 : Int)=>k_ ≤ k∧laws_heldItemS.l0 k_ l0 p7 p8 = some r) (fun (p7 : Int) (p8 : Int)=>⟨[(0,.sl .o 4 (l0.map e63)),(1,.lit (.int .i64 p7)),(5,.lit (.int .i64 p8))],[]⟩) k a1 0 ⟨Nat.le_refl _,H⟩ (fun K_ h_=>acw hE [] 9999 h_) (fun _ _=>by intro h_;have h_:=h_.2;rw [laws_heldItemS.l0.eq_1] at h_;cases h_) ?_
 intro k9 p7 p8 hq_ K16 hK17
 have hk9:=hq_.1
 have H:=hq_.2
 clear hq_
 rw [laws_heldItemS.l0.eq_2] at H
 refine aw_grp1<|aw_grp1<|wk_start<|kv g0 mv<|kv g0 mv<|kv g0 (lnS lenE)<|kv g0 lss<|wk_end<|ac_next ?_
 by_cases c10 : p8 < (l0.length : Int)
 ·rw [if_pos c10] at H
  refine aw_ifT ?_ (decide_eq_true c10)
  refine aw_skip<|ac_next<|aw_grp1<|aw_block<|aw_grp1<|aw_grp1<|wk_start<|kv g0 mv<|kv g0 mv ?_
  obtain ⟨c11,H⟩:=of_if H
  refine kv g0 (ixS 63 (e63 (rd_T63 l0 p8)) c11 (getE (z:=z63) c11 c10))<|kv g0 (faR 0 0)<|kv g0 (ldR (.lit (.int .i64 ((rd_T63 l0 p8).f0))))<|kv g0 mv<|kv g0 neq<|wk_end<|ac_next ?_
  by_cases c12 : ((rd_T63 l0 p8).f0) = p7
  ·rw [if_pos c12] at H
   refine aw_ifF ?_ (eM c12)
   refine aw_skip<|ac_next<|aw_grp1<|wk_start<|kv g0 mv<|kv g0 add6<|kv g0 asg<|wk_end<|ac_next<|aw_grp1<|aw_grp1<|wk_start<|kv g0 mv<|kv g0 mv<|kv g0 (ixS 63 (e63 (rd_T63 l0 p8)) c11 (getE (z:=z63) c11 c10))<|kv g0 (faR 1 1)<|kv g0 (ldR (.lit (.int .i64 ((rd_T63 l0 p8).f1))))<|kv g0 mv<|kv g0 neq<|wk_end<|ac_next ?_
   by_cases c13 : ((rd_T63 l0 p8).f1) = (wrap64 (p7 + 1))
   ·rw [if_pos c13] at H
    refine aw_ifF ?_ (eM c13)
    refine aw_skip<|ac_next<|aw_grp1<|wk_start<|kv g0 mv<|kv g0 add6<|kv g0 asg<|wk_end<|ac_next<|aw_grp1<|aw_grp1<|wk_start<|kv g0 mv<|kv g0 mv<|kv g0 (ixS 63 (e63 (rd_T63 l0 p8)) c11 (getE (z:=z63) c11 c10))<|kv g0 (faR 2 2)<|kv g0 (ldR (.lit (.int .i64 ((rd_T63 l0 p8).f2))))<|kv g0 mv<|kv g0 neq<|wk_end<|ac_next ?_
    by_cases c14 : ((rd_T63 l0 p8).f2) = (wrap64 ((wrap64 (p7 + 1)) + 1))
    ·rw [if_pos c14] at H
     refine aw_ifF ?_ (eM c14)
     refine aw_skip<|ac_next<|aw_grp1<|wk_start<|kv g0 mv<|kv g0 add6<|kv g0 asg<|wk_end<|ac_next<|aw_grp1<|aw_grp1<|wk_start<|kv g0 mv<|kv g0 mv<|kv g0 (ixS 63 (e63 (rd_T63 l0 p8)) c11 (getE (z:=z63) c11 c10))<|kv g0 (faR 3 3)<|kv g0 (ldR (.lit (.int .i64 ((rd_T63 l0 p8).f3))))<|kv g0 mv<|kv g0 neq<|wk_end<|ac_next ?_
     by_cases c15 : ((rd_T63 l0 p8).f3) = (wrap64 ((wrap64 ((wrap64 (p7 + 1)) + 1)) + 1))
     ·rw [if_pos c15] at H
      refine aw_ifF ?_ (eM c15)
      refine aw_skip<|ac_next<|wk_start<|kv g0 mv<|kv g0 add6<|kv g0 asg<|wk_end<|ac_blkN<|ac_next<|wk_start<|kv g0 mv<|kv g0 add6<|kv g0 asg<|wk_end<|ac_k ?_
      exact acw hE [] 9999 (hK17 k9 (wrap64 ((wrap64 ((wrap64 ((wrap64 (p7 + 1)) + 1)) + 1)) + 1)) (wrap64 (p8 + 1)) (Nat.le_refl _) ⟨by omega,H⟩)
     rw [if_neg c15] at H
     refine aw_ifT ?_ (eN c15)
     refine aw_grp1<|wk_start<|kv g0 asg<|wk_end<|ac_next<|aw_ret<|ac_thenR<|ac_blkR<|ac_thenR<|ac_thenR<|ac_blkR<|ac_thenR ?_
     obtain rfl:=Option.some.inj H
     exact acr hE [.tmp 4] (.tmp .nil) (.one _) [] 9999
    rw [if_neg c14] at H
    refine aw_ifT ?_ (eN c14)
    refine aw_grp1<|wk_start<|kv g0 asg<|wk_end<|ac_next<|aw_ret<|ac_thenR<|ac_blkR<|ac_thenR<|ac_thenR<|ac_blkR<|ac_thenR ?_
    obtain rfl:=Option.some.inj H
    exact acr hE [.tmp 4] (.tmp .nil) (.one _) [] 9999
   rw [if_neg c13] at H
   refine aw_ifT ?_ (eN c13)
   refine aw_grp1<|wk_start<|kv g0 asg<|wk_end<|ac_next<|aw_ret<|ac_thenR<|ac_blkR<|ac_thenR<|ac_thenR<|ac_blkR<|ac_thenR ?_
   obtain rfl:=Option.some.inj H
   exact acr hE [.tmp 4] (.tmp .nil) (.one _) [] 9999
  rw [if_neg c12] at H
  refine aw_ifT ?_ (eN c12)
  refine aw_grp1<|wk_start<|kv g0 asg<|wk_end<|ac_next<|aw_ret<|ac_thenR<|ac_blkR<|ac_thenR<|ac_thenR<|ac_blkR<|ac_thenR ?_
  obtain rfl:=Option.some.inj H
  exact acr hE [.tmp 4] (.tmp .nil) (.one _) [] 9999
 rw [if_neg c10] at H
 refine aw_ifF ?_ (decide_eq_false c10)
 refine aw_exit<|ac_then<|ac_then<|ac_hit rfl<|ac_next<|aw_grp1<|wk_start<|kv g0 mv<|kv g0 asg<|wk_end<|ac_next<|aw_ret ?_
 obtain rfl:=Option.some.inj H
 exact acr hE [.tmp 4] (.tmp .nil) (.one _) [] 9999
/-! laws_heldRingS -/
def laws_heldRingS.l0 : Nat→(List S67)→Int→Int→Option (Int)
 | 0,_,_,_=>none
 | k11 + 1,l0,p9,p10=>if p10 < (l0.length : Int) then if 0 ≤ p10 then ((laws_heldItemS.f k11 ((rd_T67 l0 p10).f0) p9).bind fun t14=>if t14 < 0 then some (-1) else if ((rd_T67 l0 p10).f1) = t14 then if ((rd_T67 l0 p10).f2) = (wrap64 (t14 + 1)) then if ((rd_T67 l0 p10).f3) = (wrap64 ((wrap64 (t14 + 1)) + 1)) then laws_heldRingS.l0 k11 l0 (wrap64 ((wrap64 ((wrap64 (t14 + 1)) + 1)) + 1)) (wrap64 (p10 + 1)) else some (-1) else some (-1) else some (-1)) else none else some p9
def laws_heldRingS.f (k : Nat) (l0 : List S67) (a1 : Int) : Option (Int):=laws_heldRingS.l0 k l0 a1 0
theorem laws_heldRingS.ok {k : Nat} {l0 : List S67} {a1 : Int} {r : Int} (H : laws_heldRingS.f k l0 a1 = some r) : ACalls Tryz.prog 87 [] [.sl .o 4 (l0.map e67),.lit (.int .i64 a1)] [] (.lit (.int .i64 r)):=by
 refine acalls (fn:=Tryz.f87) (nt:=49) Tryz.func87 rfl rfl (Nat.le_of_ble_eq_true rfl) fun E hE=>?_
 rw [laws_heldRingS.f] at H
 refine aw_grp1<|wk_start<|kv g0 asg<|wk_end<|ac_next<|aw_grp1<|aw_grp1<|wk_start<|kv g0 asg<|wk_end<|ac_next<|aw_block ?_
 refine aw_loop2 (fun (k_ : Nat) (p9 : Int) (p10 : Int)=>k_ ≤ k∧laws_heldRingS.l0 k_ l0 p9 p10 = some r) (fun (p9 : Int) (p10 : Int)=>⟨[(0,.sl .o 4 (l0.map e67)),(1,.lit (.int .i64 p9)),(5,.lit (.int .i64 p10))],[]⟩) k a1 0 ⟨Nat.le_refl _,H⟩ (fun K_ h_=>acw hE [] 9999 h_) (fun _ _=>by intro h_;have h_:=h_.2;rw [laws_heldRingS.l0.eq_1] at h_;cases h_) ?_
 intro k11 p9 p10 hq_ K20 hK21
 have hk11:=hq_.1
 have H:=hq_.2
 clear hq_
 rw [laws_heldRingS.l0.eq_2] at H
 refine aw_grp1<|aw_grp1<|wk_start<|kv g0 mv<|kv g0 mv<|kv g0 (lnS lenE)<|kv g0 lss<|wk_end<|ac_next ?_
 by_cases c12 : p10 < (l0.length : Int)
 ·rw [if_pos c12] at H
  refine aw_ifT ?_ (decide_eq_true c12)
  refine aw_skip<|ac_next<|aw_grp1<|aw_block<|aw_grp1<|wk_start<|kv g0 mv<|kv g0 mv ?_
  obtain ⟨c13,H⟩:=of_if H
  refine kv g0 (ixS 67 (e67 (rd_T67 l0 p10)) c13 (getE (z:=z67) c13 c12))<|kv g0 (faR 0 0)<|kv g0 (ldR (.sl .o 4 (((rd_T67 l0 p10).f0).map e63)))<|kv g0 mv ?_
  obtain ⟨t14,A15,H⟩:=of_bind H
  refine kcS0 18 (.lit (.int .i64 t14)) [] g0 (cal (laws_heldItemS.ok A15) [] 9999 .n (hf:=Tryz.func173)) rfl rfl<|kv g0 asg<|wk_end<|ac_next<|aw_grp1<|aw_grp1<|wk_start<|kv g0 mv<|kv g0 lss<|wk_end<|ac_next ?_
  by_cases c16 : t14 < 0
  ·rw [if_pos c16] at H
   refine aw_ifT ?_ (decide_eq_true c16)
   refine aw_grp1<|wk_start<|kv g0 asg<|wk_end<|ac_next<|aw_ret<|ac_thenR<|ac_blkR<|ac_thenR<|ac_thenR<|ac_blkR<|ac_thenR ?_
   obtain rfl:=Option.some.inj H
   exact acr hE [.tmp 4] (.tmp .nil) (.one _) [] 9999
  rw [if_neg c16] at H
  refine aw_ifF ?_ (decide_eq_false c16)
  refine aw_skip<|ac_next<|aw_grp1<|aw_grp1<|wk_start<|kv g0 mv<|kv g0 mv<|kv g0 (ixS 67 (e67 (rd_T67 l0 p10)) c13 (getE (z:=z67) c13 c12))<|kv g0 (faR 1 1)<|kv g0 (ldR (.lit (.int .i64 ((rd_T67 l0 p10).f1))))<|kv g0 mv<|kv g0 neq<|wk_end<|ac_next ?_
  by_cases c17 : ((rd_T67 l0 p10).f1) = t14
  ·rw [if_pos c17] at H
   refine aw_ifF ?_ (eM c17)
   refine aw_skip<|ac_next<|aw_grp1<|wk_start<|kv g0 mv<|kv g0 add6<|kv g0 asg<|wk_end<|ac_next<|aw_grp1<|aw_grp1<|wk_start<|kv g0 mv<|kv g0 mv<|kv g0 (ixS 67 (e67 (rd_T67 l0 p10)) c13 (getE (z:=z67) c13 c12))<|kv g0 (faR 2 2)<|kv g0 (ldR (.lit (.int .i64 ((rd_T67 l0 p10).f2))))<|kv g0 mv<|kv g0 neq<|wk_end<|ac_next ?_
   by_cases c18 : ((rd_T67 l0 p10).f2) = (wrap64 (t14 + 1))
   ·rw [if_pos c18] at H
    refine aw_ifF ?_ (eM c18)
    refine aw_skip<|ac_next<|aw_grp1<|wk_start<|kv g0 mv<|kv g0 add6<|kv g0 asg<|wk_end<|ac_next<|aw_grp1<|aw_grp1<|wk_start<|kv g0 mv<|kv g0 mv<|kv g0 (ixS 67 (e67 (rd_T67 l0 p10)) c13 (getE (z:=z67) c13 c12))<|kv g0 (faR 3 3)<|kv g0 (ldR (.lit (.int .i64 ((rd_T67 l0 p10).f3))))<|kv g0 mv<|kv g0 neq<|wk_end<|ac_next ?_
    by_cases c19 : ((rd_T67 l0 p10).f3) = (wrap64 ((wrap64 (t14 + 1)) + 1))
    ·rw [if_pos c19] at H
     refine aw_ifF ?_ (eM c19)
     refine aw_skip<|ac_next<|wk_start<|kv g0 mv<|kv g0 add6<|kv g0 asg<|wk_end<|ac_blkN<|ac_next<|wk_start<|kv g0 mv<|kv g0 add6<|kv g0 asg<|wk_end<|ac_k ?_
     exact acw hE [] 9999 (hK21 k11 (wrap64 ((wrap64 ((wrap64 (t14 + 1)) + 1)) + 1)) (wrap64 (p10 + 1)) (Nat.le_refl _) ⟨by omega,H⟩)
    rw [if_neg c19] at H
    refine aw_ifT ?_ (eN c19)
    refine aw_grp1<|wk_start<|kv g0 asg<|wk_end<|ac_next<|aw_ret<|ac_thenR<|ac_blkR<|ac_thenR<|ac_thenR<|ac_blkR<|ac_thenR ?_
    obtain rfl:=Option.some.inj H
    exact acr hE [.tmp 4] (.tmp .nil) (.one _) [] 9999
   rw [if_neg c18] at H
   refine aw_ifT ?_ (eN c18)
   refine aw_grp1<|wk_start<|kv g0 asg<|wk_end<|ac_next<|aw_ret<|ac_thenR<|ac_blkR<|ac_thenR<|ac_thenR<|ac_blkR<|ac_thenR ?_
   obtain rfl:=Option.some.inj H
   exact acr hE [.tmp 4] (.tmp .nil) (.one _) [] 9999
  rw [if_neg c17] at H
  refine aw_ifT ?_ (eN c17)
  refine aw_grp1<|wk_start<|kv g0 asg<|wk_end<|ac_next<|aw_ret<|ac_thenR<|ac_blkR<|ac_thenR<|ac_thenR<|ac_blkR<|ac_thenR ?_
  obtain rfl:=Option.some.inj H
  exact acr hE [.tmp 4] (.tmp .nil) (.one _) [] 9999
 rw [if_neg c12] at H
 refine aw_ifF ?_ (decide_eq_false c12)
 refine aw_exit<|ac_then<|ac_then<|ac_hit rfl<|ac_next<|aw_grp1<|wk_start<|kv g0 mv<|kv g0 asg<|wk_end<|ac_next<|aw_ret ?_
 obtain rfl:=Option.some.inj H
 exact acr hE [.tmp 4] (.tmp .nil) (.one _) [] 9999
/-! laws_heldSenderS -/
def laws_heldSenderS.l0 : Nat→(List S65)→Int→Int→Option (Int)
 | 0,_,_,_=>none
 | k12 + 1,l0,p10,p11=>if p11 < (l0.length : Int) then if 0 ≤ p11 then if ((rd_T65 l0 p11).f0) = p10 then if ((rd_T65 l0 p11).f1) = (wrap64 (p10 + 1)) then (laws_heldItemS.f k12 ((rd_T65 l0 p11).f2) (wrap64 ((wrap64 (p10 + 1)) + 1))).bind fun t17=>if t17 < 0 then some (-1) else if ((rd_T65 l0 p11).f3) = t17 then if ((rd_T65 l0 p11).f4) = (wrap64 (t17 + 1)) then laws_heldSenderS.l0 k12 l0 (wrap64 ((wrap64 (t17 + 1)) + 1)) (wrap64 (p11 + 1)) else some (-1) else some (-1) else some (-1) else some (-1) else none else some p10
def laws_heldSenderS.f (k : Nat) (l0 : List S65) (a1 : Int) : Option (Int):=laws_heldSenderS.l0 k l0 a1 0
theorem laws_heldSenderS.ok {k : Nat} {l0 : List S65} {a1 : Int} {r : Int} (H : laws_heldSenderS.f k l0 a1 = some r) : ACalls Tryz.prog 88 [] [.sl .o 5 (l0.map e65),.lit (.int .i64 a1)] [] (.lit (.int .i64 r)):=by
 refine acalls (fn:=Tryz.f88) (nt:=58) Tryz.func88 rfl rfl (Nat.le_of_ble_eq_true rfl) fun E hE=>?_
 rw [laws_heldSenderS.f] at H
 refine aw_grp1<|wk_start<|kv g0 asg<|wk_end<|ac_next<|aw_grp1<|aw_grp1<|wk_start<|kv g0 asg<|wk_end<|ac_next<|aw_block ?_
 refine aw_loop2 (fun (k_ : Nat) (p10 : Int) (p11 : Int)=>k_ ≤ k∧laws_heldSenderS.l0 k_ l0 p10 p11 = some r) (fun (p10 : Int) (p11 : Int)=>⟨[(0,.sl .o 5 (l0.map e65)),(1,.lit (.int .i64 p10)),(5,.lit (.int .i64 p11))],[]⟩) k a1 0 ⟨Nat.le_refl _,H⟩ (fun K_ h_=>acw hE [] 9999 h_) (fun _ _=>by intro h_;have h_:=h_.2;rw [laws_heldSenderS.l0.eq_1] at h_;cases h_) ?_
 intro k12 p10 p11 hq_ K22 hK23
 have hk12:=hq_.1
 have H:=hq_.2
 clear hq_
 rw [laws_heldSenderS.l0.eq_2] at H
 refine aw_grp1<|aw_grp1<|wk_start<|kv g0 mv<|kv g0 mv<|kv g0 (lnS lenE)<|kv g0 lss<|wk_end<|ac_next ?_
 by_cases c13 : p11 < (l0.length : Int)
 ·rw [if_pos c13] at H
  refine aw_ifT ?_ (decide_eq_true c13)
  refine aw_skip<|ac_next<|aw_grp1<|aw_block<|aw_grp1<|aw_grp1<|wk_start<|kv g0 mv<|kv g0 mv ?_
  obtain ⟨c14,H⟩:=of_if H
  refine kv g0 (ixS 65 (e65 (rd_T65 l0 p11)) c14 (getE (z:=z65) c14 c13))<|kv g0 (faR 0 0)<|kv g0 (ldR (.lit (.int .i64 ((rd_T65 l0 p11).f0))))<|kv g0 mv<|kv g0 neq<|wk_end<|ac_next ?_
  by_cases c15 : ((rd_T65 l0 p11).f0) = p10
  ·rw [if_pos c15] at H
   refine aw_ifF ?_ (eM c15)
   refine aw_skip<|ac_next<|aw_grp1<|wk_start<|kv g0 mv<|kv g0 add6<|kv g0 asg<|wk_end<|ac_next<|aw_grp1<|aw_grp1<|wk_start<|kv g0 mv<|kv g0 mv<|kv g0 (ixS 65 (e65 (rd_T65 l0 p11)) c14 (getE (z:=z65) c14 c13))<|kv g0 (faR 1 1)<|kv g0 (ldR (.lit (.int .i64 ((rd_T65 l0 p11).f1))))<|kv g0 mv<|kv g0 neq<|wk_end<|ac_next ?_
   by_cases c16 : ((rd_T65 l0 p11).f1) = (wrap64 (p10 + 1))
   ·rw [if_pos c16] at H
    refine aw_ifF ?_ (eM c16)
    refine aw_skip<|ac_next<|aw_grp1<|wk_start<|kv g0 mv<|kv g0 add6<|kv g0 asg<|wk_end<|ac_next<|aw_grp1<|wk_start<|kv g0 mv<|kv g0 mv<|kv g0 (ixS 65 (e65 (rd_T65 l0 p11)) c14 (getE (z:=z65) c14 c13))<|kv g0 (faR 2 2)<|kv g0 (ldR (.sl .o 4 (((rd_T65 l0 p11).f2).map e63)))<|kv g0 mv ?_
    obtain ⟨t17,A18,H⟩:=of_bind H
    refine kcS0 36 (.lit (.int .i64 t17)) [] g0 (cal (laws_heldItemS.ok A18) [] 9999 .n (hf:=Tryz.func173)) rfl rfl<|kv g0 asg<|wk_end<|ac_next<|aw_grp1<|aw_grp1<|wk_start<|kv g0 mv<|kv g0 lss<|wk_end<|ac_next ?_
    by_cases c19 : t17 < 0
    ·rw [if_pos c19] at H
     refine aw_ifT ?_ (decide_eq_true c19)
     refine aw_grp1<|wk_start<|kv g0 asg<|wk_end<|ac_next<|aw_ret<|ac_thenR<|ac_blkR<|ac_thenR<|ac_thenR<|ac_blkR<|ac_thenR ?_
     obtain rfl:=Option.some.inj H
     exact acr hE [.tmp 4] (.tmp .nil) (.one _) [] 9999
    rw [if_neg c19] at H
    refine aw_ifF ?_ (decide_eq_false c19)
    refine aw_skip<|ac_next<|aw_grp1<|aw_grp1<|wk_start<|kv g0 mv<|kv g0 mv<|kv g0 (ixS 65 (e65 (rd_T65 l0 p11)) c14 (getE (z:=z65) c14 c13))<|kv g0 (faR 3 3)<|kv g0 (ldR (.lit (.int .i64 ((rd_T65 l0 p11).f3))))<|kv g0 mv<|kv g0 neq<|wk_end<|ac_next ?_
    by_cases c20 : ((rd_T65 l0 p11).f3) = t17
    ·rw [if_pos c20] at H
     refine aw_ifF ?_ (eM c20)
     refine aw_skip<|ac_next<|aw_grp1<|wk_start<|kv g0 mv<|kv g0 add6<|kv g0 asg<|wk_end<|ac_next<|aw_grp1<|aw_grp1<|wk_start<|kv g0 mv<|kv g0 mv<|kv g0 (ixS 65 (e65 (rd_T65 l0 p11)) c14 (getE (z:=z65) c14 c13))<|kv g0 (faR 4 4)<|kv g0 (ldR (.lit (.int .i64 ((rd_T65 l0 p11).f4))))<|kv g0 mv<|kv g0 neq<|wk_end<|ac_next ?_
     by_cases c21 : ((rd_T65 l0 p11).f4) = (wrap64 (t17 + 1))
     ·rw [if_pos c21] at H
      refine aw_ifF ?_ (eM c21)
      refine aw_skip<|ac_next<|wk_start<|kv g0 mv<|kv g0 add6<|kv g0 asg<|wk_end<|ac_blkN<|ac_next<|wk_start<|kv g0 mv<|kv g0 add6<|kv g0 asg<|wk_end<|ac_k ?_
      exact acw hE [] 9999 (hK23 k12 (wrap64 ((wrap64 (t17 + 1)) + 1)) (wrap64 (p11 + 1)) (Nat.le_refl _) ⟨by omega,H⟩)
     rw [if_neg c21] at H
     refine aw_ifT ?_ (eN c21)
     refine aw_grp1<|wk_start<|kv g0 asg<|wk_end<|ac_next<|aw_ret<|ac_thenR<|ac_blkR<|ac_thenR<|ac_thenR<|ac_blkR<|ac_thenR ?_
     obtain rfl:=Option.some.inj H
     exact acr hE [.tmp 4] (.tmp .nil) (.one _) [] 9999
    rw [if_neg c20] at H
    refine aw_ifT ?_ (eN c20)
    refine aw_grp1<|wk_start<|kv g0 asg<|wk_end<|ac_next<|aw_ret<|ac_thenR<|ac_blkR<|ac_thenR<|ac_thenR<|ac_blkR<|ac_thenR ?_
    obtain rfl:=Option.some.inj H
    exact acr hE [.tmp 4] (.tmp .nil) (.one _) [] 9999
   rw [if_neg c16] at H
   refine aw_ifT ?_ (eN c16)
   refine aw_grp1<|wk_start<|kv g0 asg<|wk_end<|ac_next<|aw_ret<|ac_thenR<|ac_blkR<|ac_thenR<|ac_thenR<|ac_blkR<|ac_thenR ?_
   obtain rfl:=Option.some.inj H
   exact acr hE [.tmp 4] (.tmp .nil) (.one _) [] 9999
  rw [if_neg c15] at H
  refine aw_ifT ?_ (eN c15)
  refine aw_grp1<|wk_start<|kv g0 asg<|wk_end<|ac_next<|aw_ret<|ac_thenR<|ac_blkR<|ac_thenR<|ac_thenR<|ac_blkR<|ac_thenR ?_
  obtain rfl:=Option.some.inj H
  exact acr hE [.tmp 4] (.tmp .nil) (.one _) [] 9999
 rw [if_neg c13] at H
 refine aw_ifF ?_ (decide_eq_false c13)
 refine aw_exit<|ac_then<|ac_then<|ac_hit rfl<|ac_next<|aw_grp1<|wk_start<|kv g0 mv<|kv g0 asg<|wk_end<|ac_next<|aw_ret ?_
 obtain rfl:=Option.some.inj H
 exact acr hE [.tmp 4] (.tmp .nil) (.one _) [] 9999
/-! laws_heldEntryS -/
def laws_heldEntryS.l0 : Nat→(List S139)→Int→Int→Option (Int)
 | 0,_,_,_=>none
 | k11 + 1,l0,p9,p10=>if p10 < (l0.length : Int) then if 0 ≤ p10 then if ((rd_T139 l0 p10).f0) = p9 then if ((rd_T139 l0 p10).f1) = (wrap64 (p9 + 1)) then if ((rd_T139 l0 p10).f2.f0) = (wrap64 ((wrap64 (p9 + 1)) + 1)) then if ((rd_T139 l0 p10).f2.f1) = (wrap64 ((wrap64 ((wrap64 (p9 + 1)) + 1)) + 1)) then if ((rd_T139 l0 p10).f2.f2) = (wrap64 ((wrap64 ((wrap64 ((wrap64 (p9 + 1)) + 1)) + 1)) + 1)) then if ((rd_T139 l0 p10).f2.f3) = (wrap64 ((wrap64 ((wrap64 ((wrap64 ((wrap64 (p9 + 1)) + 1)) + 1)) + 1)) + 1)) then laws_heldEntryS.l0 k11 l0 (wrap64 ((wrap64 ((wrap64 ((wrap64 ((wrap64 ((wrap64 (p9 + 1)) + 1)) + 1)) + 1)) + 1)) + 1)) (wrap64 (p10 + 1)) else some (-1) else some (-1) else some (-1) else some (-1) else some (-1) else some (-1) else none else some p9
def laws_heldEntryS.f (k : Nat) (l0 : List S139) (a1 : Int) : Option (Int):=laws_heldEntryS.l0 k l0 a1 0
theorem laws_heldEntryS.ok {k : Nat} {l0 : List S139} {a1 : Int} {r : Int} (H : laws_heldEntryS.f k l0 a1 = some r) : ACalls Tryz.prog 174 [] [.sl .o 6 (l0.map e139),.lit (.int .i64 a1)] [] (.lit (.int .i64 r)):=by
 refine acalls (fn:=Tryz.f174) (nt:=71) Tryz.func174 rfl rfl (Nat.le_of_ble_eq_true rfl) fun E hE=>?_
 rw [laws_heldEntryS.f] at H
 refine aw_grp1<|wk_start<|kv g0 asg<|wk_end<|ac_next<|aw_grp1<|aw_grp1<|wk_start<|kv g0 asg<|wk_end<|ac_next<|aw_block ?_
 refine aw_loop2 (fun (k_ : Nat) (p9 : Int) (p10 : Int)=>k_ ≤ k∧laws_heldEntryS.l0 k_ l0 p9 p10 = some r) (fun (p9 : Int) (p10 : Int)=>⟨[(0,.sl .o 6 (l0.map e139)),(1,.lit (.int .i64 p9)),(5,.lit (.int .i64 p10))],[]⟩) k a1 0 ⟨Nat.le_refl _,H⟩ (fun K_ h_=>acw hE [] 9999 h_) (fun _ _=>by intro h_;have h_:=h_.2;rw [laws_heldEntryS.l0.eq_1] at h_;cases h_) ?_
 intro k11 p9 p10 hq_ K20 hK21
 have hk11:=hq_.1
 have H:=hq_.2
 clear hq_
 rw [laws_heldEntryS.l0.eq_2] at H
 refine aw_grp1<|aw_grp1<|wk_start<|kv g0 mv<|kv g0 mv<|kv g0 (lnS lenE)<|kv g0 lss<|wk_end<|ac_next ?_
 by_cases c12 : p10 < (l0.length : Int)
 ·rw [if_pos c12] at H
  refine aw_ifT ?_ (decide_eq_true c12)
  refine aw_skip<|ac_next<|aw_grp1<|aw_block<|aw_grp1<|aw_grp1<|wk_start<|kv g0 mv<|kv g0 mv ?_
  obtain ⟨c13,H⟩:=of_if H
  refine kv g0 (ixS 139 (e139 (rd_T139 l0 p10)) c13 (getE (z:=z139) c13 c12))<|kv g0 (faR 0 0)<|kv g0 (ldR (.lit (.int .i64 ((rd_T139 l0 p10).f0))))<|kv g0 mv<|kv g0 neq<|wk_end<|ac_next ?_
  by_cases c14 : ((rd_T139 l0 p10).f0) = p9
  ·rw [if_pos c14] at H
   refine aw_ifF ?_ (eM c14)
   refine aw_skip<|ac_next<|aw_grp1<|wk_start<|kv g0 mv<|kv g0 add6<|kv g0 asg<|wk_end<|ac_next<|aw_grp1<|aw_grp1<|wk_start<|kv g0 mv<|kv g0 mv<|kv g0 (ixS 139 (e139 (rd_T139 l0 p10)) c13 (getE (z:=z139) c13 c12))<|kv g0 (faR 1 1)<|kv g0 (ldR (.lit (.int .i64 ((rd_T139 l0 p10).f1))))<|kv g0 mv<|kv g0 neq<|wk_end<|ac_next ?_
   by_cases c15 : ((rd_T139 l0 p10).f1) = (wrap64 (p9 + 1))
   ·rw [if_pos c15] at H
    refine aw_ifF ?_ (eM c15)
    refine aw_skip<|ac_next<|aw_grp1<|wk_start<|kv g0 mv<|kv g0 add6<|kv g0 asg<|wk_end<|ac_next<|aw_grp1<|aw_grp1<|wk_start<|kv g0 mv<|kv g0 mv<|kv g0 (ixS 139 (e139 (rd_T139 l0 p10)) c13 (getE (z:=z139) c13 c12))<|kv g0 (faR 2 2)<|kv g0 (faR 0 2)<|kv g0 (ldR (.lit (.int .i64 ((rd_T139 l0 p10).f2.f0))))<|kv g0 mv<|kv g0 neq<|wk_end<|ac_next ?_
    by_cases c16 : ((rd_T139 l0 p10).f2.f0) = (wrap64 ((wrap64 (p9 + 1)) + 1))
    ·rw [if_pos c16] at H
     refine aw_ifF ?_ (eM c16)
     refine aw_skip<|ac_next<|aw_grp1<|wk_start<|kv g0 mv<|kv g0 add6<|kv g0 asg<|wk_end<|ac_next<|aw_grp1<|aw_grp1<|wk_start<|kv g0 mv<|kv g0 mv<|kv g0 (ixS 139 (e139 (rd_T139 l0 p10)) c13 (getE (z:=z139) c13 c12))<|kv g0 (faR 2 2)<|kv g0 (faR 1 3)<|kv g0 (ldR (.lit (.int .i64 ((rd_T139 l0 p10).f2.f1))))<|kv g0 mv<|kv g0 neq<|wk_end<|ac_next ?_
     by_cases c17 : ((rd_T139 l0 p10).f2.f1) = (wrap64 ((wrap64 ((wrap64 (p9 + 1)) + 1)) + 1))
     ·rw [if_pos c17] at H
      refine aw_ifF ?_ (eM c17)
      refine aw_skip<|ac_next<|aw_grp1<|wk_start<|kv g0 mv<|kv g0 add6<|kv g0 asg<|wk_end<|ac_next<|aw_grp1<|aw_grp1<|wk_start<|kv g0 mv<|kv g0 mv<|kv g0 (ixS 139 (e139 (rd_T139 l0 p10)) c13 (getE (z:=z139) c13 c12))<|kv g0 (faR 2 2)<|kv g0 (faR 2 4)<|kv g0 (ldR (.lit (.int .i64 ((rd_T139 l0 p10).f2.f2))))<|kv g0 mv<|kv g0 neq<|wk_end<|ac_next ?_
      by_cases c18 : ((rd_T139 l0 p10).f2.f2) = (wrap64 ((wrap64 ((wrap64 ((wrap64 (p9 + 1)) + 1)) + 1)) + 1))
      ·rw [if_pos c18] at H
       refine aw_ifF ?_ (eM c18)
       refine aw_skip<|ac_next<|aw_grp1<|wk_start<|kv g0 mv<|kv g0 add6<|kv g0 asg<|wk_end<|ac_next<|aw_grp1<|aw_grp1<|wk_start<|kv g0 mv<|kv g0 mv<|kv g0 (ixS 139 (e139 (rd_T139 l0 p10)) c13 (getE (z:=z139) c13 c12))<|kv g0 (faR 2 2)<|kv g0 (faR 3 5)<|kv g0 (ldR (.lit (.int .i64 ((rd_T139 l0 p10).f2.f3))))<|kv g0 mv<|kv g0 neq<|wk_end<|ac_next ?_
       by_cases c19 : ((rd_T139 l0 p10).f2.f3) = (wrap64 ((wrap64 ((wrap64 ((wrap64 ((wrap64 (p9 + 1)) + 1)) + 1)) + 1)) + 1))
       ·rw [if_pos c19] at H
        refine aw_ifF ?_ (eM c19)
        refine aw_skip<|ac_next<|wk_start<|kv g0 mv<|kv g0 add6<|kv g0 asg<|wk_end<|ac_blkN<|ac_next<|wk_start<|kv g0 mv<|kv g0 add6<|kv g0 asg<|wk_end<|ac_k ?_
        exact acw hE [] 9999 (hK21 k11 (wrap64 ((wrap64 ((wrap64 ((wrap64 ((wrap64 ((wrap64 (p9 + 1)) + 1)) + 1)) + 1)) + 1)) + 1)) (wrap64 (p10 + 1)) (Nat.le_refl _) ⟨by omega,H⟩)
       rw [if_neg c19] at H
       refine aw_ifT ?_ (eN c19)
       refine aw_grp1<|wk_start<|kv g0 asg<|wk_end<|ac_next<|aw_ret<|ac_thenR<|ac_blkR<|ac_thenR<|ac_thenR<|ac_blkR<|ac_thenR ?_
       obtain rfl:=Option.some.inj H
       exact acr hE [.tmp 4] (.tmp .nil) (.one _) [] 9999
      rw [if_neg c18] at H
      refine aw_ifT ?_ (eN c18)
      refine aw_grp1<|wk_start<|kv g0 asg<|wk_end<|ac_next<|aw_ret<|ac_thenR<|ac_blkR<|ac_thenR<|ac_thenR<|ac_blkR<|ac_thenR ?_
      obtain rfl:=Option.some.inj H
      exact acr hE [.tmp 4] (.tmp .nil) (.one _) [] 9999
     rw [if_neg c17] at H
     refine aw_ifT ?_ (eN c17)
     refine aw_grp1<|wk_start<|kv g0 asg<|wk_end<|ac_next<|aw_ret<|ac_thenR<|ac_blkR<|ac_thenR<|ac_thenR<|ac_blkR<|ac_thenR ?_
     obtain rfl:=Option.some.inj H
     exact acr hE [.tmp 4] (.tmp .nil) (.one _) [] 9999
    rw [if_neg c16] at H
    refine aw_ifT ?_ (eN c16)
    refine aw_grp1<|wk_start<|kv g0 asg<|wk_end<|ac_next<|aw_ret<|ac_thenR<|ac_blkR<|ac_thenR<|ac_thenR<|ac_blkR<|ac_thenR ?_
    obtain rfl:=Option.some.inj H
    exact acr hE [.tmp 4] (.tmp .nil) (.one _) [] 9999
   rw [if_neg c15] at H
   refine aw_ifT ?_ (eN c15)
   refine aw_grp1<|wk_start<|kv g0 asg<|wk_end<|ac_next<|aw_ret<|ac_thenR<|ac_blkR<|ac_thenR<|ac_thenR<|ac_blkR<|ac_thenR ?_
   obtain rfl:=Option.some.inj H
   exact acr hE [.tmp 4] (.tmp .nil) (.one _) [] 9999
  rw [if_neg c14] at H
  refine aw_ifT ?_ (eN c14)
  refine aw_grp1<|wk_start<|kv g0 asg<|wk_end<|ac_next<|aw_ret<|ac_thenR<|ac_blkR<|ac_thenR<|ac_thenR<|ac_blkR<|ac_thenR ?_
  obtain rfl:=Option.some.inj H
  exact acr hE [.tmp 4] (.tmp .nil) (.one _) [] 9999
 rw [if_neg c12] at H
 refine aw_ifF ?_ (decide_eq_false c12)
 refine aw_exit<|ac_then<|ac_then<|ac_hit rfl<|ac_next<|aw_grp1<|wk_start<|kv g0 mv<|kv g0 asg<|wk_end<|ac_next<|aw_ret ?_
 obtain rfl:=Option.some.inj H
 exact acr hE [.tmp 4] (.tmp .nil) (.one _) [] 9999
/-! laws_heldIntS -/
def laws_heldIntS.l0 : Nat→(List Int)→Int→Int→Option (Int)
 | 0,_,_,_=>none
 | k6 + 1,l0,p4,p5=>if p5 < (l0.length : Int) then if 0 ≤ p5 then if (rd l0 p5) = p4 then laws_heldIntS.l0 k6 l0 (wrap64 (p4 + 1)) (wrap64 (p5 + 1)) else some (-1) else none else some p4
def laws_heldIntS.f (k : Nat) (l0 : List Int) (a1 : Int) : Option (Int):=laws_heldIntS.l0 k l0 a1 0
theorem laws_heldIntS.ok {k : Nat} {l0 : List Int} {a1 : Int} {r : Int} (H : laws_heldIntS.f k l0 a1 = some r) : ACalls Tryz.prog 38 [] [.sl .o 1 (l0.map (eI .i64)),.lit (.int .i64 a1)] [] (.lit (.int .i64 r)):=by
 refine acalls (fn:=Tryz.f38) (nt:=21) Tryz.func38 rfl rfl (Nat.le_of_ble_eq_true rfl) fun E hE=>?_
 rw [laws_heldIntS.f] at H
 refine aw_grp1<|wk_start<|kv g0 asg<|wk_end<|ac_next<|aw_grp1<|aw_grp1<|wk_start<|kv g0 asg<|wk_end<|ac_next<|aw_block ?_
 refine aw_loop2 (fun (k_ : Nat) (p4 : Int) (p5 : Int)=>k_ ≤ k∧laws_heldIntS.l0 k_ l0 p4 p5 = some r) (fun (p4 : Int) (p5 : Int)=>⟨[(0,.sl .o 1 (l0.map (eI .i64))),(1,.lit (.int .i64 p4)),(5,.lit (.int .i64 p5))],[]⟩) k a1 0 ⟨Nat.le_refl _,H⟩ (fun K_ h_=>acw hE [] 9999 h_) (fun _ _=>by intro h_;have h_:=h_.2;rw [laws_heldIntS.l0.eq_1] at h_;cases h_) ?_
 intro k6 p4 p5 hq_ K10 hK11
 have hk6:=hq_.1
 have H:=hq_.2
 clear hq_
 rw [laws_heldIntS.l0.eq_2] at H
 refine aw_grp1<|aw_grp1<|wk_start<|kv g0 mv<|kv g0 mv<|kv g0 (lnS lenE)<|kv g0 lss<|wk_end<|ac_next ?_
 by_cases c7 : p5 < (l0.length : Int)
 ·rw [if_pos c7] at H
  refine aw_ifT ?_ (decide_eq_true c7)
  refine aw_skip<|ac_next<|aw_grp1<|aw_block<|aw_grp1<|aw_grp1<|wk_start<|kv g0 mv<|kv g0 mv ?_
  obtain ⟨c8,H⟩:=of_if H
  refine kv g0 (ixS 3 (eI .i64 (rd l0 p5)) c8 (getE (z:=(0 : Int)) c8 c7))<|kv g0 (ldR (.lit (.int .i64 (rd l0 p5))))<|kv g0 mv<|kv g0 neq<|wk_end<|ac_next ?_
  by_cases c9 : (rd l0 p5) = p4
  ·rw [if_pos c9] at H
   refine aw_ifF ?_ (eM c9)
   refine aw_skip<|ac_next<|wk_start<|kv g0 mv<|kv g0 add6<|kv g0 asg<|wk_end<|ac_blkN<|ac_next<|wk_start<|kv g0 mv<|kv g0 add6<|kv g0 asg<|wk_end<|ac_k ?_
   exact acw hE [] 9999 (hK11 k6 (wrap64 (p4 + 1)) (wrap64 (p5 + 1)) (Nat.le_refl _) ⟨by omega,H⟩)
  rw [if_neg c9] at H
  refine aw_ifT ?_ (eN c9)
  refine aw_grp1<|wk_start<|kv g0 asg<|wk_end<|ac_next<|aw_ret<|ac_thenR<|ac_blkR<|ac_thenR<|ac_thenR<|ac_blkR<|ac_thenR ?_
  obtain rfl:=Option.some.inj H
  exact acr hE [.tmp 4] (.tmp .nil) (.one _) [] 9999
 rw [if_neg c7] at H
 refine aw_ifF ?_ (decide_eq_false c7)
 refine aw_exit<|ac_then<|ac_then<|ac_hit rfl<|ac_next<|aw_grp1<|wk_start<|kv g0 mv<|kv g0 asg<|wk_end<|ac_next<|aw_ret ?_
 obtain rfl:=Option.some.inj H
 exact acr hE [.tmp 4] (.tmp .nil) (.one _) [] 9999
/-! laws_heldEarlyS -/
def laws_heldEarlyS.l0 : Nat→(List S154)→Int→Int→Option (Int)
 | 0,_,_,_=>none
 | k11 + 1,l0,p9,p10=>if p10 < (l0.length : Int) then if 0 ≤ p10 then if ((rd_T154 l0 p10).f0) = p9 then if ((rd_T154 l0 p10).f1) = (wrap64 (p9 + 1)) then if ((rd_T154 l0 p10).f2.f0) = (wrap64 ((wrap64 (p9 + 1)) + 1)) then if ((rd_T154 l0 p10).f2.f1) = (wrap64 ((wrap64 ((wrap64 (p9 + 1)) + 1)) + 1)) then if ((rd_T154 l0 p10).f2.f2) = (wrap64 ((wrap64 ((wrap64 ((wrap64 (p9 + 1)) + 1)) + 1)) + 1)) then if ((rd_T154 l0 p10).f2.f3) = (wrap64 ((wrap64 ((wrap64 ((wrap64 ((wrap64 (p9 + 1)) + 1)) + 1)) + 1)) + 1)) then laws_heldEarlyS.l0 k11 l0 (wrap64 ((wrap64 ((wrap64 ((wrap64 ((wrap64 ((wrap64 (p9 + 1)) + 1)) + 1)) + 1)) + 1)) + 1)) (wrap64 (p10 + 1)) else some (-1) else some (-1) else some (-1) else some (-1) else some (-1) else some (-1) else none else some p9
def laws_heldEarlyS.f (k : Nat) (l0 : List S154) (a1 : Int) : Option (Int):=laws_heldEarlyS.l0 k l0 a1 0
theorem laws_heldEarlyS.ok {k : Nat} {l0 : List S154} {a1 : Int} {r : Int} (H : laws_heldEarlyS.f k l0 a1 = some r) : ACalls Tryz.prog 175 [] [.sl .o 6 (l0.map e154),.lit (.int .i64 a1)] [] (.lit (.int .i64 r)):=by
 refine acalls (fn:=Tryz.f175) (nt:=71) Tryz.func175 rfl rfl (Nat.le_of_ble_eq_true rfl) fun E hE=>?_
 rw [laws_heldEarlyS.f] at H
 refine aw_grp1<|wk_start<|kv g0 asg<|wk_end<|ac_next<|aw_grp1<|aw_grp1<|wk_start<|kv g0 asg<|wk_end<|ac_next<|aw_block ?_
 refine aw_loop2 (fun (k_ : Nat) (p9 : Int) (p10 : Int)=>k_ ≤ k∧laws_heldEarlyS.l0 k_ l0 p9 p10 = some r) (fun (p9 : Int) (p10 : Int)=>⟨[(0,.sl .o 6 (l0.map e154)),(1,.lit (.int .i64 p9)),(5,.lit (.int .i64 p10))],[]⟩) k a1 0 ⟨Nat.le_refl _,H⟩ (fun K_ h_=>acw hE [] 9999 h_) (fun _ _=>by intro h_;have h_:=h_.2;rw [laws_heldEarlyS.l0.eq_1] at h_;cases h_) ?_
 intro k11 p9 p10 hq_ K20 hK21
 have hk11:=hq_.1
 have H:=hq_.2
 clear hq_
 rw [laws_heldEarlyS.l0.eq_2] at H
 refine aw_grp1<|aw_grp1<|wk_start<|kv g0 mv<|kv g0 mv<|kv g0 (lnS lenE)<|kv g0 lss<|wk_end<|ac_next ?_
 by_cases c12 : p10 < (l0.length : Int)
 ·rw [if_pos c12] at H
  refine aw_ifT ?_ (decide_eq_true c12)
  refine aw_skip<|ac_next<|aw_grp1<|aw_block<|aw_grp1<|aw_grp1<|wk_start<|kv g0 mv<|kv g0 mv ?_
  obtain ⟨c13,H⟩:=of_if H
  refine kv g0 (ixS 154 (e154 (rd_T154 l0 p10)) c13 (getE (z:=z154) c13 c12))<|kv g0 (faR 0 0)<|kv g0 (ldR (.lit (.int .i64 ((rd_T154 l0 p10).f0))))<|kv g0 mv<|kv g0 neq<|wk_end<|ac_next ?_
  by_cases c14 : ((rd_T154 l0 p10).f0) = p9
  ·rw [if_pos c14] at H
   refine aw_ifF ?_ (eM c14)
   refine aw_skip<|ac_next<|aw_grp1<|wk_start<|kv g0 mv<|kv g0 add6<|kv g0 asg<|wk_end<|ac_next<|aw_grp1<|aw_grp1<|wk_start<|kv g0 mv<|kv g0 mv<|kv g0 (ixS 154 (e154 (rd_T154 l0 p10)) c13 (getE (z:=z154) c13 c12))<|kv g0 (faR 1 1)<|kv g0 (ldR (.lit (.int .i64 ((rd_T154 l0 p10).f1))))<|kv g0 mv<|kv g0 neq<|wk_end<|ac_next ?_
   by_cases c15 : ((rd_T154 l0 p10).f1) = (wrap64 (p9 + 1))
   ·rw [if_pos c15] at H
    refine aw_ifF ?_ (eM c15)
    refine aw_skip<|ac_next<|aw_grp1<|wk_start<|kv g0 mv<|kv g0 add6<|kv g0 asg<|wk_end<|ac_next<|aw_grp1<|aw_grp1<|wk_start<|kv g0 mv<|kv g0 mv<|kv g0 (ixS 154 (e154 (rd_T154 l0 p10)) c13 (getE (z:=z154) c13 c12))<|kv g0 (faR 2 2)<|kv g0 (faR 0 2)<|kv g0 (ldR (.lit (.int .i64 ((rd_T154 l0 p10).f2.f0))))<|kv g0 mv<|kv g0 neq<|wk_end<|ac_next ?_
    by_cases c16 : ((rd_T154 l0 p10).f2.f0) = (wrap64 ((wrap64 (p9 + 1)) + 1))
    ·rw [if_pos c16] at H
     refine aw_ifF ?_ (eM c16)
     refine aw_skip<|ac_next<|aw_grp1<|wk_start<|kv g0 mv<|kv g0 add6<|kv g0 asg<|wk_end<|ac_next<|aw_grp1<|aw_grp1<|wk_start<|kv g0 mv<|kv g0 mv<|kv g0 (ixS 154 (e154 (rd_T154 l0 p10)) c13 (getE (z:=z154) c13 c12))<|kv g0 (faR 2 2)<|kv g0 (faR 1 3)<|kv g0 (ldR (.lit (.int .i64 ((rd_T154 l0 p10).f2.f1))))<|kv g0 mv<|kv g0 neq<|wk_end<|ac_next ?_
     by_cases c17 : ((rd_T154 l0 p10).f2.f1) = (wrap64 ((wrap64 ((wrap64 (p9 + 1)) + 1)) + 1))
     ·rw [if_pos c17] at H
      refine aw_ifF ?_ (eM c17)
      refine aw_skip<|ac_next<|aw_grp1<|wk_start<|kv g0 mv<|kv g0 add6<|kv g0 asg<|wk_end<|ac_next<|aw_grp1<|aw_grp1<|wk_start<|kv g0 mv<|kv g0 mv<|kv g0 (ixS 154 (e154 (rd_T154 l0 p10)) c13 (getE (z:=z154) c13 c12))<|kv g0 (faR 2 2)<|kv g0 (faR 2 4)<|kv g0 (ldR (.lit (.int .i64 ((rd_T154 l0 p10).f2.f2))))<|kv g0 mv<|kv g0 neq<|wk_end<|ac_next ?_
      by_cases c18 : ((rd_T154 l0 p10).f2.f2) = (wrap64 ((wrap64 ((wrap64 ((wrap64 (p9 + 1)) + 1)) + 1)) + 1))
      ·rw [if_pos c18] at H
       refine aw_ifF ?_ (eM c18)
       refine aw_skip<|ac_next<|aw_grp1<|wk_start<|kv g0 mv<|kv g0 add6<|kv g0 asg<|wk_end<|ac_next<|aw_grp1<|aw_grp1<|wk_start<|kv g0 mv<|kv g0 mv<|kv g0 (ixS 154 (e154 (rd_T154 l0 p10)) c13 (getE (z:=z154) c13 c12))<|kv g0 (faR 2 2)<|kv g0 (faR 3 5)<|kv g0 (ldR (.lit (.int .i64 ((rd_T154 l0 p10).f2.f3))))<|kv g0 mv<|kv g0 neq<|wk_end<|ac_next ?_
       by_cases c19 : ((rd_T154 l0 p10).f2.f3) = (wrap64 ((wrap64 ((wrap64 ((wrap64 ((wrap64 (p9 + 1)) + 1)) + 1)) + 1)) + 1))
       ·rw [if_pos c19] at H
        refine aw_ifF ?_ (eM c19)
        refine aw_skip<|ac_next<|wk_start<|kv g0 mv<|kv g0 add6<|kv g0 asg<|wk_end<|ac_blkN<|ac_next<|wk_start<|kv g0 mv<|kv g0 add6<|kv g0 asg<|wk_end<|ac_k ?_
        exact acw hE [] 9999 (hK21 k11 (wrap64 ((wrap64 ((wrap64 ((wrap64 ((wrap64 ((wrap64 (p9 + 1)) + 1)) + 1)) + 1)) + 1)) + 1)) (wrap64 (p10 + 1)) (Nat.le_refl _) ⟨by omega,H⟩)
       rw [if_neg c19] at H
       refine aw_ifT ?_ (eN c19)
       refine aw_grp1<|wk_start<|kv g0 asg<|wk_end<|ac_next<|aw_ret<|ac_thenR<|ac_blkR<|ac_thenR<|ac_thenR<|ac_blkR<|ac_thenR ?_
       obtain rfl:=Option.some.inj H
       exact acr hE [.tmp 4] (.tmp .nil) (.one _) [] 9999
      rw [if_neg c18] at H
      refine aw_ifT ?_ (eN c18)
      refine aw_grp1<|wk_start<|kv g0 asg<|wk_end<|ac_next<|aw_ret<|ac_thenR<|ac_blkR<|ac_thenR<|ac_thenR<|ac_blkR<|ac_thenR ?_
      obtain rfl:=Option.some.inj H
      exact acr hE [.tmp 4] (.tmp .nil) (.one _) [] 9999
     rw [if_neg c17] at H
     refine aw_ifT ?_ (eN c17)
     refine aw_grp1<|wk_start<|kv g0 asg<|wk_end<|ac_next<|aw_ret<|ac_thenR<|ac_blkR<|ac_thenR<|ac_thenR<|ac_blkR<|ac_thenR ?_
     obtain rfl:=Option.some.inj H
     exact acr hE [.tmp 4] (.tmp .nil) (.one _) [] 9999
    rw [if_neg c16] at H
    refine aw_ifT ?_ (eN c16)
    refine aw_grp1<|wk_start<|kv g0 asg<|wk_end<|ac_next<|aw_ret<|ac_thenR<|ac_blkR<|ac_thenR<|ac_thenR<|ac_blkR<|ac_thenR ?_
    obtain rfl:=Option.some.inj H
    exact acr hE [.tmp 4] (.tmp .nil) (.one _) [] 9999
   rw [if_neg c15] at H
   refine aw_ifT ?_ (eN c15)
   refine aw_grp1<|wk_start<|kv g0 asg<|wk_end<|ac_next<|aw_ret<|ac_thenR<|ac_blkR<|ac_thenR<|ac_thenR<|ac_blkR<|ac_thenR ?_
   obtain rfl:=Option.some.inj H
   exact acr hE [.tmp 4] (.tmp .nil) (.one _) [] 9999
  rw [if_neg c14] at H
  refine aw_ifT ?_ (eN c14)
  refine aw_grp1<|wk_start<|kv g0 asg<|wk_end<|ac_next<|aw_ret<|ac_thenR<|ac_blkR<|ac_thenR<|ac_thenR<|ac_blkR<|ac_thenR ?_
  obtain rfl:=Option.some.inj H
  exact acr hE [.tmp 4] (.tmp .nil) (.one _) [] 9999
 rw [if_neg c12] at H
 refine aw_ifF ?_ (decide_eq_false c12)
 refine aw_exit<|ac_then<|ac_then<|ac_hit rfl<|ac_next<|aw_grp1<|wk_start<|kv g0 mv<|kv g0 asg<|wk_end<|ac_next<|aw_ret ?_
 obtain rfl:=Option.some.inj H
 exact acr hE [.tmp 4] (.tmp .nil) (.one _) [] 9999
/-! laws_heldKeeper -/
def laws_heldKeeper.f (k : Nat) (l0_0 : List S139) (l0_1 : List Int) (l0_2 : List S154) (a0_3 : Int) (l0_4 : List Int) (a1 : Int) : Option (Int):=(laws_heldEntryS.f k l0_0 a1).bind fun t1=>if t1 < 0 then some (-1) else (laws_heldIntS.f k l0_1 t1).bind fun t4=>if t4 < 0 then some (-1) else (laws_heldEarlyS.f k l0_2 t4).bind fun t7=>if t7 < 0 then some (-1) else (laws_heldIntS.f k l0_4 t7).bind fun t10=>if t10 < 0 then some (-1) else some t10
theorem laws_heldKeeper.ok {k : Nat} {l0_0 : List S139} {l0_1 : List Int} {l0_2 : List S154} {a0_3 : Int} {l0_4 : List Int} {a1 : Int} {r : Int} (H : laws_heldKeeper.f k l0_0 l0_1 l0_2 a0_3 l0_4 a1 = some r) : ACalls Tryz.prog 89 [] [.agg [.sl .o 6 (l0_0.map e139),.sl .o 1 (l0_1.map (eI .i64)),.sl .o 6 (l0_2.map e154),.lit (.int .i64 a0_3),.sl .o 1 (l0_4.map (eI .i64))],.lit (.int .i64 a1)] [] (.lit (.int .i64 r)):=by
 refine acalls (fn:=Tryz.f89) (nt:=30) Tryz.func89 rfl rfl (Nat.le_of_ble_eq_true rfl) fun E hE=>?_
 rw [laws_heldKeeper.f] at H
 refine aw_grp1<|wk_start<|kb g0 (bxA 0)<|kv g0 asg<|wk_end<|ac_next<|aw_grp1<|wk_start<|kv g0 (faB 0 0)<|kv g0 ldB<|kv g0 mv ?_
 obtain ⟨t1,A2,H⟩:=of_bind H
 refine kcS0 8 (.lit (.int .i64 t1)) [] g0 (cal (laws_heldEntryS.ok A2) [] 9999 .n (hf:=Tryz.func174)) rfl rfl<|kv g0 asg<|wk_end<|ac_next<|aw_grp1<|aw_grp1<|wk_start<|kv g0 mv<|kv g0 lss<|wk_end<|ac_next ?_
 by_cases c3 : t1 < 0
 ·rw [if_pos c3] at H
  refine aw_ifT ?_ (decide_eq_true c3)
  refine aw_grp1<|wk_start<|kv g0 asg<|wk_end<|ac_next<|aw_ret<|ac_thenR ?_
  obtain rfl:=Option.some.inj H
  exact acr hE [.tmp 4] (.tmp .nil) (.one _) [] 9999
 rw [if_neg c3] at H
 refine aw_ifF ?_ (decide_eq_false c3)
 refine aw_skip<|ac_next<|aw_grp1<|wk_start<|kv g0 (faB 1 1)<|kv g0 ldB<|kv g0 mv ?_
 obtain ⟨t4,A5,H⟩:=of_bind H
 refine kcS0 14 (.lit (.int .i64 t4)) [] g0 (cal (laws_heldIntS.ok A5) [] 9999 .n (hf:=Tryz.func38)) rfl rfl<|kv g0 asg<|wk_end<|ac_next<|aw_grp1<|aw_grp1<|wk_start<|kv g0 mv<|kv g0 lss<|wk_end<|ac_next ?_
 by_cases c6 : t4 < 0
 ·rw [if_pos c6] at H
  refine aw_ifT ?_ (decide_eq_true c6)
  refine aw_grp1<|wk_start<|kv g0 asg<|wk_end<|ac_next<|aw_ret<|ac_thenR ?_
  obtain rfl:=Option.some.inj H
  exact acr hE [.tmp 4] (.tmp .nil) (.one _) [] 9999
 rw [if_neg c6] at H
 refine aw_ifF ?_ (decide_eq_false c6)
 refine aw_skip<|ac_next<|aw_grp1<|wk_start<|kv g0 (faB 2 2)<|kv g0 ldB<|kv g0 mv ?_
 obtain ⟨t7,A8,H⟩:=of_bind H
 refine kcS0 20 (.lit (.int .i64 t7)) [] g0 (cal (laws_heldEarlyS.ok A8) [] 9999 .n (hf:=Tryz.func175)) rfl rfl<|kv g0 asg<|wk_end<|ac_next<|aw_grp1<|aw_grp1<|wk_start<|kv g0 mv<|kv g0 lss<|wk_end<|ac_next ?_
 by_cases c9 : t7 < 0
 ·rw [if_pos c9] at H
  refine aw_ifT ?_ (decide_eq_true c9)
  refine aw_grp1<|wk_start<|kv g0 asg<|wk_end<|ac_next<|aw_ret<|ac_thenR ?_
  obtain rfl:=Option.some.inj H
  exact acr hE [.tmp 4] (.tmp .nil) (.one _) [] 9999
 rw [if_neg c9] at H
 refine aw_ifF ?_ (decide_eq_false c9)
 refine aw_skip<|ac_next<|aw_grp1<|wk_start<|kv g0 (faB 4 4)<|kv g0 ldB<|kv g0 mv ?_
 obtain ⟨t10,A11,H⟩:=of_bind H
 refine kcS0 26 (.lit (.int .i64 t10)) [] g0 (cal (laws_heldIntS.ok A11) [] 9999 .n (hf:=Tryz.func38)) rfl rfl<|kv g0 asg<|wk_end<|ac_next<|aw_grp1<|aw_grp1<|wk_start<|kv g0 mv<|kv g0 lss<|wk_end<|ac_next ?_
 by_cases c12 : t10 < 0
 ·rw [if_pos c12] at H
  refine aw_ifT ?_ (decide_eq_true c12)
  refine aw_grp1<|wk_start<|kv g0 asg<|wk_end<|ac_next<|aw_ret<|ac_thenR ?_
  obtain rfl:=Option.some.inj H
  exact acr hE [.tmp 4] (.tmp .nil) (.one _) [] 9999
 rw [if_neg c12] at H
 refine aw_ifF ?_ (decide_eq_false c12)
 refine aw_skip<|ac_next<|aw_grp1<|wk_start<|kv g0 mv<|kv g0 asg<|wk_end<|ac_next<|aw_ret ?_
 obtain rfl:=Option.some.inj H
 exact acr hE [.tmp 4] (.tmp .nil) (.one _) [] 9999
/-! laws_heldLetterS -/
def laws_heldLetterS.l0 : Nat→(List S151)→Int→Int→Option (Int)
 | 0,_,_,_=>none
 | k10 + 1,l0,p8,p9=>if p9 < (l0.length : Int) then if 0 ≤ p9 then if ((rd_T151 l0 p9).f0) = ((p8.tmod 3) == 0) then (laws_markText.f k10 (wrap64 (p8 + 1))).bind fun t14=>if (((rd_T151 l0 p9).f1).toList == t14.toList) = true then if ((rd_T151 l0 p9).f2) = (((wrap64 ((wrap64 (p8 + 1)) + 1)).tmod 3) == 0) then laws_heldLetterS.l0 k10 l0 (wrap64 ((wrap64 ((wrap64 (p8 + 1)) + 1)) + 1)) (wrap64 (p9 + 1)) else some (-1) else some (-1) else some (-1) else none else some p8
def laws_heldLetterS.f (k : Nat) (l0 : List S151) (a1 : Int) : Option (Int):=laws_heldLetterS.l0 k l0 a1 0
theorem laws_heldLetterS.ok {k : Nat} {l0 : List S151} {a1 : Int} {r : Int} (H : laws_heldLetterS.f k l0 a1 = some r) : ACalls Tryz.prog 90 [] [.sl .o 3 (l0.map e151),.lit (.int .i64 a1)] [] (.lit (.int .i64 r)):=by
 refine acalls (fn:=Tryz.f90) (nt:=45) Tryz.func90 rfl rfl (Nat.le_of_ble_eq_true rfl) fun E hE=>?_
 rw [laws_heldLetterS.f] at H
 refine aw_grp1<|wk_start<|kv g0 asg<|wk_end<|ac_next<|aw_grp1<|aw_grp1<|wk_start<|kv g0 asg<|wk_end<|ac_next<|aw_block ?_
 refine aw_loop2 (fun (k_ : Nat) (p8 : Int) (p9 : Int)=>k_ ≤ k∧laws_heldLetterS.l0 k_ l0 p8 p9 = some r) (fun (p8 : Int) (p9 : Int)=>⟨[(0,.sl .o 3 (l0.map e151)),(1,.lit (.int .i64 p8)),(5,.lit (.int .i64 p9))],[]⟩) k a1 0 ⟨Nat.le_refl _,H⟩ (fun K_ h_=>acw hE [] 9999 h_) (fun _ _=>by intro h_;have h_:=h_.2;rw [laws_heldLetterS.l0.eq_1] at h_;cases h_) ?_
 intro k10 p8 p9 hq_ K18 hK19
 have hk10:=hq_.1
 have H:=hq_.2
 clear hq_
 rw [laws_heldLetterS.l0.eq_2] at H
 refine aw_grp1<|aw_grp1<|wk_start<|kv g0 mv<|kv g0 mv<|kv g0 (lnS lenE)<|kv g0 lss<|wk_end<|ac_next ?_
 by_cases c11 : p9 < (l0.length : Int)
 ·rw [if_pos c11] at H
  refine aw_ifT ?_ (decide_eq_true c11)
  refine aw_skip<|ac_next<|aw_grp1<|aw_block<|aw_grp1<|aw_grp1<|wk_start<|kv g0 mv<|kv g0 mv ?_
  obtain ⟨c12,H⟩:=of_if H
  refine kv g0 (ixS 151 (e151 (rd_T151 l0 p9)) c12 (getE (z:=z151) c12 c11))<|kv g0 (faR 0 0)<|kv g0 (ldR (.lit (.bool ((rd_T151 l0 p9).f0))))<|kv g0 mv<|kv g0 (rem (by decide : (3 : Int) ≠ 0))<|kv g0 eql<|kv g0 bne<|wk_end<|ac_next ?_
  by_cases c13 : ((rd_T151 l0 p9).f0) = ((p8.tmod 3) == 0)
  ·rw [if_pos c13] at H
   refine aw_ifF ?_ (nF (eTb c13))
   refine aw_skip<|ac_next<|aw_grp1<|wk_start<|kv g0 mv<|kv g0 add6<|kv g0 asg<|wk_end<|ac_next<|aw_grp1<|aw_grp1<|wk_start<|kv g0 mv<|kv g0 mv<|kv g0 (ixS 151 (e151 (rd_T151 l0 p9)) c12 (getE (z:=z151) c12 c11))<|kv g0 (faR 1 1)<|kv g0 (ldR (.lit (.string ((rd_T151 l0 p9).f1))))<|kv g0 mv ?_
   obtain ⟨t14,A15,H⟩:=of_bind H
   refine kcS0 29 (.lit (.string t14)) [] g0 (cal (laws_markText.ok A15) [] 9999 .n (hf:=Tryz.func126)) rfl rfl<|kv g0 sne<|wk_end_draw hM (by kernel_rfl)<|ac_next ?_
   by_cases c16 : (((rd_T151 l0 p9).f1).toList == t14.toList) = true
   ·rw [if_pos c16] at H
    refine aw_ifF ?_ (nF c16)
    refine aw_skip<|ac_next<|aw_grp1<|wk_start<|kv g0 mv<|kv g0 add6<|kv g0 asg<|wk_end<|ac_next<|aw_grp1<|aw_grp1<|wk_start<|kv g0 mv<|kv g0 mv<|kv g0 (ixS 151 (e151 (rd_T151 l0 p9)) c12 (getE (z:=z151) c12 c11))<|kv g0 (faR 2 2)<|kv g0 (ldR (.lit (.bool ((rd_T151 l0 p9).f2))))<|kv g0 mv<|kv g0 (rem (by decide : (3 : Int) ≠ 0))<|kv g0 eql<|kv g0 bne<|wk_end<|ac_next ?_
    by_cases c17 : ((rd_T151 l0 p9).f2) = (((wrap64 ((wrap64 (p8 + 1)) + 1)).tmod 3) == 0)
    ·rw [if_pos c17] at H
     refine aw_ifF ?_ (nF (eTb c17))
     refine aw_skip<|ac_next<|wk_start<|kv g0 mv<|kv g0 add6<|kv g0 asg<|wk_end<|ac_blkN<|ac_next<|wk_start<|kv g0 mv<|kv g0 add6<|kv g0 asg<|wk_end<|ac_k ?_
     exact acw hE [] 9999 (hK19 k10 (wrap64 ((wrap64 ((wrap64 (p8 + 1)) + 1)) + 1)) (wrap64 (p9 + 1)) (Nat.le_refl _) ⟨by omega,H⟩)
    rw [if_neg c17] at H
    refine aw_ifT ?_ (nT (eFb c17))
    refine aw_grp1<|wk_start<|kv g0 asg<|wk_end<|ac_next<|aw_ret<|ac_thenR<|ac_blkR<|ac_thenR<|ac_thenR<|ac_blkR<|ac_thenR ?_
    obtain rfl:=Option.some.inj H
    exact acr hE [.tmp 4] (.tmp .nil) (.one _) [] 9999
   rw [if_neg c16] at H
   refine aw_ifT ?_ (nT (bF c16))
   refine aw_grp1<|wk_start<|kv g0 asg<|wk_end<|ac_next<|aw_ret<|ac_thenR<|ac_blkR<|ac_thenR<|ac_thenR<|ac_blkR<|ac_thenR ?_
   obtain rfl:=Option.some.inj H
   exact acr hE [.tmp 4] (.tmp .nil) (.one _) [] 9999
  rw [if_neg c13] at H
  refine aw_ifT ?_ (nT (eFb c13))
  refine aw_grp1<|wk_start<|kv g0 asg<|wk_end<|ac_next<|aw_ret<|ac_thenR<|ac_blkR<|ac_thenR<|ac_thenR<|ac_blkR<|ac_thenR ?_
  obtain rfl:=Option.some.inj H
  exact acr hE [.tmp 4] (.tmp .nil) (.one _) [] 9999
 rw [if_neg c11] at H
 refine aw_ifF ?_ (decide_eq_false c11)
 refine aw_exit<|ac_then<|ac_then<|ac_hit rfl<|ac_next<|aw_grp1<|wk_start<|kv g0 mv<|kv g0 asg<|wk_end<|ac_next<|aw_ret ?_
 obtain rfl:=Option.some.inj H
 exact acr hE [.tmp 4] (.tmp .nil) (.one _) [] 9999
/-! laws_heldSeenS -/
def laws_heldSeenS.l0 : Nat→(List S59)→Int→Int→Option (Int)
 | 0,_,_,_=>none
 | k9 + 1,l0,p7,p8=>if p8 < (l0.length : Int) then if 0 ≤ p8 then if ((rd_T59 l0 p8).f0) = p7 then if ((rd_T59 l0 p8).f1) = (wrap64 (p7 + 1)) then if ((rd_T59 l0 p8).f2) = (wrap64 ((wrap64 (p7 + 1)) + 1)) then if ((rd_T59 l0 p8).f3) = (((wrap64 ((wrap64 ((wrap64 (p7 + 1)) + 1)) + 1)).tmod 3) == 0) then laws_heldSeenS.l0 k9 l0 (wrap64 ((wrap64 ((wrap64 ((wrap64 (p7 + 1)) + 1)) + 1)) + 1)) (wrap64 (p8 + 1)) else some (-1) else some (-1) else some (-1) else some (-1) else none else some p7
def laws_heldSeenS.f (k : Nat) (l0 : List S59) (a1 : Int) : Option (Int):=laws_heldSeenS.l0 k l0 a1 0
theorem laws_heldSeenS.ok {k : Nat} {l0 : List S59} {a1 : Int} {r : Int} (H : laws_heldSeenS.f k l0 a1 = some r) : ACalls Tryz.prog 91 [] [.sl .o 4 (l0.map e59),.lit (.int .i64 a1)] [] (.lit (.int .i64 r)):=by
 refine acalls (fn:=Tryz.f91) (nt:=51) Tryz.func91 rfl rfl (Nat.le_of_ble_eq_true rfl) fun E hE=>?_
 rw [laws_heldSeenS.f] at H
 refine aw_grp1<|wk_start<|kv g0 asg<|wk_end<|ac_next<|aw_grp1<|aw_grp1<|wk_start<|kv g0 asg<|wk_end<|ac_next<|aw_block ?_
 refine aw_loop2 (fun (k_ : Nat) (p7 : Int) (p8 : Int)=>k_ ≤ k∧laws_heldSeenS.l0 k_ l0 p7 p8 = some r) (fun (p7 : Int) (p8 : Int)=>⟨[(0,.sl .o 4 (l0.map e59)),(1,.lit (.int .i64 p7)),(5,.lit (.int .i64 p8))],[]⟩) k a1 0 ⟨Nat.le_refl _,H⟩ (fun K_ h_=>acw hE [] 9999 h_) (fun _ _=>by intro h_;have h_:=h_.2;rw [laws_heldSeenS.l0.eq_1] at h_;cases h_) ?_
 intro k9 p7 p8 hq_ K16 hK17
 have hk9:=hq_.1
 have H:=hq_.2
 clear hq_
 rw [laws_heldSeenS.l0.eq_2] at H
 refine aw_grp1<|aw_grp1<|wk_start<|kv g0 mv<|kv g0 mv<|kv g0 (lnS lenE)<|kv g0 lss<|wk_end<|ac_next ?_
 by_cases c10 : p8 < (l0.length : Int)
 ·rw [if_pos c10] at H
  refine aw_ifT ?_ (decide_eq_true c10)
  refine aw_skip<|ac_next<|aw_grp1<|aw_block<|aw_grp1<|aw_grp1<|wk_start<|kv g0 mv<|kv g0 mv ?_
  obtain ⟨c11,H⟩:=of_if H
  refine kv g0 (ixS 59 (e59 (rd_T59 l0 p8)) c11 (getE (z:=z59) c11 c10))<|kv g0 (faR 0 0)<|kv g0 (ldR (.lit (.int .i64 ((rd_T59 l0 p8).f0))))<|kv g0 mv<|kv g0 neq<|wk_end<|ac_next ?_
  by_cases c12 : ((rd_T59 l0 p8).f0) = p7
  ·rw [if_pos c12] at H
   refine aw_ifF ?_ (eM c12)
   refine aw_skip<|ac_next<|aw_grp1<|wk_start<|kv g0 mv<|kv g0 add6<|kv g0 asg<|wk_end<|ac_next<|aw_grp1<|aw_grp1<|wk_start<|kv g0 mv<|kv g0 mv<|kv g0 (ixS 59 (e59 (rd_T59 l0 p8)) c11 (getE (z:=z59) c11 c10))<|kv g0 (faR 1 1)<|kv g0 (ldR (.lit (.int .i64 ((rd_T59 l0 p8).f1))))<|kv g0 mv<|kv g0 neq<|wk_end<|ac_next ?_
   by_cases c13 : ((rd_T59 l0 p8).f1) = (wrap64 (p7 + 1))
   ·rw [if_pos c13] at H
    refine aw_ifF ?_ (eM c13)
    refine aw_skip<|ac_next<|aw_grp1<|wk_start<|kv g0 mv<|kv g0 add6<|kv g0 asg<|wk_end<|ac_next<|aw_grp1<|aw_grp1<|wk_start<|kv g0 mv<|kv g0 mv<|kv g0 (ixS 59 (e59 (rd_T59 l0 p8)) c11 (getE (z:=z59) c11 c10))<|kv g0 (faR 2 2)<|kv g0 (ldR (.lit (.int .i64 ((rd_T59 l0 p8).f2))))<|kv g0 mv<|kv g0 neq<|wk_end<|ac_next ?_
    by_cases c14 : ((rd_T59 l0 p8).f2) = (wrap64 ((wrap64 (p7 + 1)) + 1))
    ·rw [if_pos c14] at H
     refine aw_ifF ?_ (eM c14)
     refine aw_skip<|ac_next<|aw_grp1<|wk_start<|kv g0 mv<|kv g0 add6<|kv g0 asg<|wk_end<|ac_next<|aw_grp1<|aw_grp1<|wk_start<|kv g0 mv<|kv g0 mv<|kv g0 (ixS 59 (e59 (rd_T59 l0 p8)) c11 (getE (z:=z59) c11 c10))<|kv g0 (faR 3 3)<|kv g0 (ldR (.lit (.bool ((rd_T59 l0 p8).f3))))<|kv g0 mv<|kv g0 (rem (by decide : (3 : Int) ≠ 0))<|kv g0 eql<|kv g0 bne<|wk_end<|ac_next ?_
     by_cases c15 : ((rd_T59 l0 p8).f3) = (((wrap64 ((wrap64 ((wrap64 (p7 + 1)) + 1)) + 1)).tmod 3) == 0)
     ·rw [if_pos c15] at H
      refine aw_ifF ?_ (nF (eTb c15))
      refine aw_skip<|ac_next<|wk_start<|kv g0 mv<|kv g0 add6<|kv g0 asg<|wk_end<|ac_blkN<|ac_next<|wk_start<|kv g0 mv<|kv g0 add6<|kv g0 asg<|wk_end<|ac_k ?_
      exact acw hE [] 9999 (hK17 k9 (wrap64 ((wrap64 ((wrap64 ((wrap64 (p7 + 1)) + 1)) + 1)) + 1)) (wrap64 (p8 + 1)) (Nat.le_refl _) ⟨by omega,H⟩)
     rw [if_neg c15] at H
     refine aw_ifT ?_ (nT (eFb c15))
     refine aw_grp1<|wk_start<|kv g0 asg<|wk_end<|ac_next<|aw_ret<|ac_thenR<|ac_blkR<|ac_thenR<|ac_thenR<|ac_blkR<|ac_thenR ?_
     obtain rfl:=Option.some.inj H
     exact acr hE [.tmp 4] (.tmp .nil) (.one _) [] 9999
    rw [if_neg c14] at H
    refine aw_ifT ?_ (eN c14)
    refine aw_grp1<|wk_start<|kv g0 asg<|wk_end<|ac_next<|aw_ret<|ac_thenR<|ac_blkR<|ac_thenR<|ac_thenR<|ac_blkR<|ac_thenR ?_
    obtain rfl:=Option.some.inj H
    exact acr hE [.tmp 4] (.tmp .nil) (.one _) [] 9999
   rw [if_neg c13] at H
   refine aw_ifT ?_ (eN c13)
   refine aw_grp1<|wk_start<|kv g0 asg<|wk_end<|ac_next<|aw_ret<|ac_thenR<|ac_blkR<|ac_thenR<|ac_thenR<|ac_blkR<|ac_thenR ?_
   obtain rfl:=Option.some.inj H
   exact acr hE [.tmp 4] (.tmp .nil) (.one _) [] 9999
  rw [if_neg c12] at H
  refine aw_ifT ?_ (eN c12)
  refine aw_grp1<|wk_start<|kv g0 asg<|wk_end<|ac_next<|aw_ret<|ac_thenR<|ac_blkR<|ac_thenR<|ac_thenR<|ac_blkR<|ac_thenR ?_
  obtain rfl:=Option.some.inj H
  exact acr hE [.tmp 4] (.tmp .nil) (.one _) [] 9999
 rw [if_neg c10] at H
 refine aw_ifF ?_ (decide_eq_false c10)
 refine aw_exit<|ac_then<|ac_then<|ac_hit rfl<|ac_next<|aw_grp1<|wk_start<|kv g0 mv<|kv g0 asg<|wk_end<|ac_next<|aw_ret ?_
 obtain rfl:=Option.some.inj H
 exact acr hE [.tmp 4] (.tmp .nil) (.one _) [] 9999
/-! laws_heldWorld -/
def laws_heldWorld.f (k : Nat) (l0_0 : List (List (List S234))) (l0_1 : List S67) (l0_2 : List S65) (l0_3 : List S139) (l0_4 : List Int) (l0_5 : List S154) (a0_6 : Int) (l0_7 : List Int) (l0_8 : List S151) (a0_9 : Int) (l0_10 : List Int) (l0_11 : List S59) (a1 : Int) : Option (Int):=(laws_heldInsSSS.f k l0_0 a1).bind fun t1=>if t1 < 0 then some (-1) else (laws_heldRingS.f k l0_1 t1).bind fun t4=>if t4 < 0 then some (-1) else (laws_heldSenderS.f k l0_2 t4).bind fun t7=>if t7 < 0 then some (-1) else (laws_heldKeeper.f k l0_3 l0_4 l0_5 a0_6 l0_7 t7).bind fun t10=>if t10 < 0 then some (-1) else (laws_heldLetterS.f k l0_8 t10).bind fun t13=>if t13 < 0 then some (-1) else (laws_heldIntS.f k l0_10 t13).bind fun t16=>if t16 < 0 then some (-1) else (laws_heldSeenS.f k l0_11 t16).bind fun t19=>if t19 < 0 then some (-1) else some t19
theorem laws_heldWorld.ok {k : Nat} {l0_0 : List (List (List S234))} {l0_1 : List S67} {l0_2 : List S65} {l0_3 : List S139} {l0_4 : List Int} {l0_5 : List S154} {a0_6 : Int} {l0_7 : List Int} {l0_8 : List S151} {a0_9 : Int} {l0_10 : List Int} {l0_11 : List S59} {a1 : Int} {r : Int} (H : laws_heldWorld.f k l0_0 l0_1 l0_2 l0_3 l0_4 l0_5 a0_6 l0_7 l0_8 a0_9 l0_10 l0_11 a1 = some r) : ACalls Tryz.prog 14 [] [.agg [.sl .o 1 (l0_0.map (eL 1 (eL 4 (e234)))),.sl .o 4 (l0_1.map e67),.sl .o 5 (l0_2.map e65),.sl .o 6 (l0_3.map e139),.sl .o 1 (l0_4.map (eI .i64)),.sl .o 6 (l0_5.map e154),.lit (.int .i64 a0_6),.sl .o 1 (l0_7.map (eI .i64)),.sl .o 3 (l0_8.map e151),.lit (.int .i64 a0_9),.sl .o 1 (l0_10.map (eI .i64)),.sl .o 4 (l0_11.map e59)],.lit (.int .i64 a1)] [] (.lit (.int .i64 r)):=by
 refine acalls (fn:=Tryz.f14) (nt:=48) Tryz.func14 rfl rfl (Nat.le_of_ble_eq_true rfl) fun E hE=>?_
 rw [laws_heldWorld.f] at H
 refine aw_grp1<|wk_start<|kb g0 (bxA 0)<|kv g0 asg<|wk_end<|ac_next<|aw_grp1<|wk_start<|kv g0 (faB 0 0)<|kv g0 ldB<|kv g0 mv ?_
 obtain ⟨t1,A2,H⟩:=of_bind H
 refine kcS0 8 (.lit (.int .i64 t1)) [] g0 (cal (laws_heldInsSSS.ok A2) [] 9999 .n (hf:=Tryz.func86)) rfl rfl<|kv g0 asg<|wk_end<|ac_next<|aw_grp1<|aw_grp1<|wk_start<|kv g0 mv<|kv g0 lss<|wk_end<|ac_next ?_
 by_cases c3 : t1 < 0
 ·rw [if_pos c3] at H
  refine aw_ifT ?_ (decide_eq_true c3)
  refine aw_grp1<|wk_start<|kv g0 asg<|wk_end<|ac_next<|aw_ret<|ac_thenR ?_
  obtain rfl:=Option.some.inj H
  exact acr hE [.tmp 4] (.tmp .nil) (.one _) [] 9999
 rw [if_neg c3] at H
 refine aw_ifF ?_ (decide_eq_false c3)
 refine aw_skip<|ac_next<|aw_grp1<|wk_start<|kv g0 (faB 1 1)<|kv g0 ldB<|kv g0 mv ?_
 obtain ⟨t4,A5,H⟩:=of_bind H
 refine kcS0 14 (.lit (.int .i64 t4)) [] g0 (cal (laws_heldRingS.ok A5) [] 9999 .n (hf:=Tryz.func87)) rfl rfl<|kv g0 asg<|wk_end<|ac_next<|aw_grp1<|aw_grp1<|wk_start<|kv g0 mv<|kv g0 lss<|wk_end<|ac_next ?_
 by_cases c6 : t4 < 0
 ·rw [if_pos c6] at H
  refine aw_ifT ?_ (decide_eq_true c6)
  refine aw_grp1<|wk_start<|kv g0 asg<|wk_end<|ac_next<|aw_ret<|ac_thenR ?_
  obtain rfl:=Option.some.inj H
  exact acr hE [.tmp 4] (.tmp .nil) (.one _) [] 9999
 rw [if_neg c6] at H
 refine aw_ifF ?_ (decide_eq_false c6)
 refine aw_skip<|ac_next<|aw_grp1<|wk_start<|kv g0 (faB 2 2)<|kv g0 ldB<|kv g0 mv ?_
 obtain ⟨t7,A8,H⟩:=of_bind H
 refine kcS0 20 (.lit (.int .i64 t7)) [] g0 (cal (laws_heldSenderS.ok A8) [] 9999 .n (hf:=Tryz.func88)) rfl rfl<|kv g0 asg<|wk_end<|ac_next<|aw_grp1<|aw_grp1<|wk_start<|kv g0 mv<|kv g0 lss<|wk_end<|ac_next ?_
 by_cases c9 : t7 < 0
 ·rw [if_pos c9] at H
  refine aw_ifT ?_ (decide_eq_true c9)
  refine aw_grp1<|wk_start<|kv g0 asg<|wk_end<|ac_next<|aw_ret<|ac_thenR ?_
  obtain rfl:=Option.some.inj H
  exact acr hE [.tmp 4] (.tmp .nil) (.one _) [] 9999
 rw [if_neg c9] at H
 refine aw_ifF ?_ (decide_eq_false c9)
 refine aw_skip<|ac_next<|aw_grp1<|wk_start<|kv g0 (faB 3 3)<|kv g0 (ldBA 5 [.sl .o 6 (l0_3.map e139),.sl .o 1 (l0_4.map (eI .i64)),.sl .o 6 (l0_5.map e154),.lit (.int .i64 a0_6),.sl .o 1 (l0_7.map (eI .i64))])<|kv g0 mv ?_
 obtain ⟨t10,A11,H⟩:=of_bind H
 refine kcS0 26 (.lit (.int .i64 t10)) [] g0 (cal (laws_heldKeeper.ok A11) [] 9999 .n (hf:=Tryz.func89)) rfl rfl<|kv g0 asg<|wk_end<|ac_next<|aw_grp1<|aw_grp1<|wk_start<|kv g0 mv<|kv g0 lss<|wk_end<|ac_next ?_
 by_cases c12 : t10 < 0
 ·rw [if_pos c12] at H
  refine aw_ifT ?_ (decide_eq_true c12)
  refine aw_grp1<|wk_start<|kv g0 asg<|wk_end<|ac_next<|aw_ret<|ac_thenR ?_
  obtain rfl:=Option.some.inj H
  exact acr hE [.tmp 4] (.tmp .nil) (.one _) [] 9999
 rw [if_neg c12] at H
 refine aw_ifF ?_ (decide_eq_false c12)
 refine aw_skip<|ac_next<|aw_grp1<|wk_start<|kv g0 (faB 8 8)<|kv g0 ldB<|kv g0 mv ?_
 obtain ⟨t13,A14,H⟩:=of_bind H
 refine kcS0 32 (.lit (.int .i64 t13)) [] g0 (cal (laws_heldLetterS.ok A14) [] 9999 .n (hf:=Tryz.func90)) rfl rfl<|kv g0 asg<|wk_end<|ac_next<|aw_grp1<|aw_grp1<|wk_start<|kv g0 mv<|kv g0 lss<|wk_end<|ac_next ?_
 by_cases c15 : t13 < 0
 ·rw [if_pos c15] at H
  refine aw_ifT ?_ (decide_eq_true c15)
  refine aw_grp1<|wk_start<|kv g0 asg<|wk_end<|ac_next<|aw_ret<|ac_thenR ?_
  obtain rfl:=Option.some.inj H
  exact acr hE [.tmp 4] (.tmp .nil) (.one _) [] 9999
 rw [if_neg c15] at H
 refine aw_ifF ?_ (decide_eq_false c15)
 refine aw_skip<|ac_next<|aw_grp1<|wk_start<|kv g0 (faB 10 10)<|kv g0 ldB<|kv g0 mv ?_
 obtain ⟨t16,A17,H⟩:=of_bind H
 refine kcS0 38 (.lit (.int .i64 t16)) [] g0 (cal (laws_heldIntS.ok A17) [] 9999 .n (hf:=Tryz.func38)) rfl rfl<|kv g0 asg<|wk_end<|ac_next<|aw_grp1<|aw_grp1<|wk_start<|kv g0 mv<|kv g0 lss<|wk_end<|ac_next ?_
 by_cases c18 : t16 < 0
 ·rw [if_pos c18] at H
  refine aw_ifT ?_ (decide_eq_true c18)
  refine aw_grp1<|wk_start<|kv g0 asg<|wk_end<|ac_next<|aw_ret<|ac_thenR ?_
  obtain rfl:=Option.some.inj H
  exact acr hE [.tmp 4] (.tmp .nil) (.one _) [] 9999
 rw [if_neg c18] at H
 refine aw_ifF ?_ (decide_eq_false c18)
 refine aw_skip<|ac_next<|aw_grp1<|wk_start<|kv g0 (faB 11 11)<|kv g0 ldB<|kv g0 mv ?_
 obtain ⟨t19,A20,H⟩:=of_bind H
 refine kcS0 44 (.lit (.int .i64 t19)) [] g0 (cal (laws_heldSeenS.ok A20) [] 9999 .n (hf:=Tryz.func91)) rfl rfl<|kv g0 asg<|wk_end<|ac_next<|aw_grp1<|aw_grp1<|wk_start<|kv g0 mv<|kv g0 lss<|wk_end<|ac_next ?_
 by_cases c21 : t19 < 0
 ·rw [if_pos c21] at H
  refine aw_ifT ?_ (decide_eq_true c21)
  refine aw_grp1<|wk_start<|kv g0 asg<|wk_end<|ac_next<|aw_ret<|ac_thenR ?_
  obtain rfl:=Option.some.inj H
  exact acr hE [.tmp 4] (.tmp .nil) (.one _) [] 9999
 rw [if_neg c21] at H
 refine aw_ifF ?_ (decide_eq_false c21)
 refine aw_skip<|ac_next<|aw_grp1<|wk_start<|kv g0 mv<|kv g0 asg<|wk_end<|ac_next<|aw_ret ?_
 obtain rfl:=Option.some.inj H
 exact acr hE [.tmp 4] (.tmp .nil) (.one _) [] 9999
/-! laws_FnExactCalmWorld -/
def laws_FnExactCalmWorld.f (k : Nat) (l0_0 : List (List (List S308))) (l0_1 : List S187) (l0_2 : List S190) (l0_3 : List S268) (l0_4 : List Int) (l0_5 : List S270) (a0_6 : Int) (l0_7 : List Int) (l0_8 : List S194) (a0_9 : Int) (l0_10 : List Int) (l0_11 : List S210) (a1 : Int) : Option (Bool):=(laws_szWorld.f k l0_0 l0_1 l0_2 l0_3 l0_4 l0_5 a0_6 l0_7 l0_8 a0_9 l0_10 l0_11 1048576).bind fun t1=>if t1 < 0 then some true else (laws_toWorld.f k l0_0 l0_1 l0_2 l0_3 l0_4 l0_5 a0_6 l0_7 l0_8 a0_9 l0_10 l0_11).bind fun t4=>((spec_CalmWorld.f k t4.1 t4.2.1 t4.2.2.1 t4.2.2.2.1 t4.2.2.2.2.1 t4.2.2.2.2.2.1 t4.2.2.2.2.2.2.1 t4.2.2.2.2.2.2.2.1 t4.2.2.2.2.2.2.2.2.1 t4.2.2.2.2.2.2.2.2.2.1 t4.2.2.2.2.2.2.2.2.2.2.1 t4.2.2.2.2.2.2.2.2.2.2.2 a1).bind fun t6=>(laws_toWorld.f k l0_0 l0_1 l0_2 l0_3 l0_4 l0_5 a0_6 l0_7 l0_8 a0_9 l0_10 l0_11).bind fun t8=>(impl_CalmWorld.f k t8.1 t8.2.1 t8.2.2.1 t8.2.2.2.1 t8.2.2.2.2.1 t8.2.2.2.2.2.1 t8.2.2.2.2.2.2.1 t8.2.2.2.2.2.2.2.1 t8.2.2.2.2.2.2.2.2.1 t8.2.2.2.2.2.2.2.2.2.1 t8.2.2.2.2.2.2.2.2.2.2.1 t8.2.2.2.2.2.2.2.2.2.2.2 a1).bind fun t10=>(laws_eqWorld.f k t10.1 t10.2.1 t10.2.2.1 t10.2.2.2.1 t10.2.2.2.2.1 t10.2.2.2.2.2.1 t10.2.2.2.2.2.2.1 t10.2.2.2.2.2.2.2.1 t10.2.2.2.2.2.2.2.2.1 t10.2.2.2.2.2.2.2.2.2.1 t10.2.2.2.2.2.2.2.2.2.2.1 t10.2.2.2.2.2.2.2.2.2.2.2 t6.1 t6.2.1 t6.2.2.1 t6.2.2.2.1 t6.2.2.2.2.1 t6.2.2.2.2.2.1 t6.2.2.2.2.2.2.1 t6.2.2.2.2.2.2.2.1 t6.2.2.2.2.2.2.2.2.1 t6.2.2.2.2.2.2.2.2.2.1 t6.2.2.2.2.2.2.2.2.2.2.1 t6.2.2.2.2.2.2.2.2.2.2.2).bind fun t12=>if t12 = true then (laws_toWorld.f k l0_0 l0_1 l0_2 l0_3 l0_4 l0_5 a0_6 l0_7 l0_8 a0_9 l0_10 l0_11).bind fun t15=>((laws_eqWorld.f k t8.1 t8.2.1 t8.2.2.1 t8.2.2.2.1 t8.2.2.2.2.1 t8.2.2.2.2.2.1 t8.2.2.2.2.2.2.1 t8.2.2.2.2.2.2.2.1 t8.2.2.2.2.2.2.2.2.1 t8.2.2.2.2.2.2.2.2.2.1 t8.2.2.2.2.2.2.2.2.2.2.1 t8.2.2.2.2.2.2.2.2.2.2.2 t15.1 t15.2.1 t15.2.2.1 t15.2.2.2.1 t15.2.2.2.2.1 t15.2.2.2.2.2.1 t15.2.2.2.2.2.2.1 t15.2.2.2.2.2.2.2.1 t15.2.2.2.2.2.2.2.2.1 t15.2.2.2.2.2.2.2.2.2.1 t15.2.2.2.2.2.2.2.2.2.2.1 t15.2.2.2.2.2.2.2.2.2.2.2).bind fun t17=>if t17 = true then (laws_markWorld.f k t8.1 t8.2.1 t8.2.2.1 t8.2.2.2.1 t8.2.2.2.2.1 t8.2.2.2.2.2.1 t8.2.2.2.2.2.2.1 t8.2.2.2.2.2.2.2.1 t8.2.2.2.2.2.2.2.2.1 t8.2.2.2.2.2.2.2.2.2.1 t8.2.2.2.2.2.2.2.2.2.2.1 t8.2.2.2.2.2.2.2.2.2.2.2 1).bind fun t20=>if t20.1 < 0 then some false else ((laws_eqWorld.f k t10.1 t10.2.1 t10.2.2.1 t10.2.2.2.1 t10.2.2.2.2.1 t10.2.2.2.2.2.1 t10.2.2.2.2.2.2.1 t10.2.2.2.2.2.2.2.1 t10.2.2.2.2.2.2.2.2.1 t10.2.2.2.2.2.2.2.2.2.1 t10.2.2.2.2.2.2.2.2.2.2.1 t10.2.2.2.2.2.2.2.2.2.2.2 t6.1 t6.2.1 t6.2.2.1 t6.2.2.2.1 t6.2.2.2.2.1 t6.2.2.2.2.2.1 t6.2.2.2.2.2.2.1 t6.2.2.2.2.2.2.2.1 t6.2.2.2.2.2.2.2.2.1 t6.2.2.2.2.2.2.2.2.2.1 t6.2.2.2.2.2.2.2.2.2.2.1 t6.2.2.2.2.2.2.2.2.2.2.2).bind fun t23=>if t23 = true then (laws_markWorld.f k t10.1 t10.2.1 t10.2.2.1 t10.2.2.2.1 t10.2.2.2.2.1 t10.2.2.2.2.2.1 t10.2.2.2.2.2.2.1 t10.2.2.2.2.2.2.2.1 t10.2.2.2.2.2.2.2.2.1 t10.2.2.2.2.2.2.2.2.2.1 t10.2.2.2.2.2.2.2.2.2.2.1 t10.2.2.2.2.2.2.2.2.2.2.2 1).bind fun t26=>(laws_heldWorld.f k t26.2.1 t26.2.2.1 t26.2.2.2.1 t26.2.2.2.2.1 t26.2.2.2.2.2.1 t26.2.2.2.2.2.2.1 t10.2.2.2.2.2.2.1 t26.2.2.2.2.2.2.2.1 t26.2.2.2.2.2.2.2.2.1 t10.2.2.2.2.2.2.2.2.2.1 t26.2.2.2.2.2.2.2.2.2.1 t26.2.2.2.2.2.2.2.2.2.2 1).bind fun t28=>if t28 < 0 then some false else if t28 = t26.1 then (laws_toWorld.f k l0_0 l0_1 l0_2 l0_3 l0_4 l0_5 a0_6 l0_7 l0_8 a0_9 l0_10 l0_11).bind fun t32=>((impl_CalmWorld.f k t32.1 t32.2.1 t32.2.2.1 t32.2.2.2.1 t32.2.2.2.2.1 t32.2.2.2.2.2.1 t32.2.2.2.2.2.2.1 t32.2.2.2.2.2.2.2.1 t32.2.2.2.2.2.2.2.2.1 t32.2.2.2.2.2.2.2.2.2.1 t32.2.2.2.2.2.2.2.2.2.2.1 t32.2.2.2.2.2.2.2.2.2.2.2 a1).bind fun t34=>(laws_eqWorld.f k t34.1 t34.2.1 t34.2.2.1 t34.2.2.2.1 t34.2.2.2.2.1 t34.2.2.2.2.2.1 t34.2.2.2.2.2.2.1 t34.2.2.2.2.2.2.2.1 t34.2.2.2.2.2.2.2.2.1 t34.2.2.2.2.2.2.2.2.2.1 t34.2.2.2.2.2.2.2.2.2.2.1 t34.2.2.2.2.2.2.2.2.2.2.2 t6.1 t6.2.1 t6.2.2.1 t6.2.2.2.1 t6.2.2.2.2.1 t6.2.2.2.2.2.1 t6.2.2.2.2.2.2.1 t6.2.2.2.2.2.2.2.1 t6.2.2.2.2.2.2.2.2.1 t6.2.2.2.2.2.2.2.2.2.1 t6.2.2.2.2.2.2.2.2.2.2.1 t6.2.2.2.2.2.2.2.2.2.2.2).bind fun t36=>if t36 = true then (laws_heldWorld.f k t26.2.1 t26.2.2.1 t26.2.2.2.1 t26.2.2.2.2.1 t26.2.2.2.2.2.1 t26.2.2.2.2.2.2.1 t10.2.2.2.2.2.2.1 t26.2.2.2.2.2.2.2.1 t26.2.2.2.2.2.2.2.2.1 t10.2.2.2.2.2.2.2.2.2.1 t26.2.2.2.2.2.2.2.2.2.1 t26.2.2.2.2.2.2.2.2.2.2 1).bind fun t39=>if t39 < 0 then some false else if t39 = t26.1 then some true else some false else some false) else some false else some false) else some false) else some false)
theorem laws_FnExactCalmWorld.ok {k : Nat} {l0_0 : List (List (List S308))} {l0_1 : List S187} {l0_2 : List S190} {l0_3 : List S268} {l0_4 : List Int} {l0_5 : List S270} {a0_6 : Int} {l0_7 : List Int} {l0_8 : List S194} {a0_9 : Int} {l0_10 : List Int} {l0_11 : List S210} {a1 : Int} {r : Bool} (H : laws_FnExactCalmWorld.f k l0_0 l0_1 l0_2 l0_3 l0_4 l0_5 a0_6 l0_7 l0_8 a0_9 l0_10 l0_11 a1 = some r) : ACalls Tryz.prog 3 [] [.agg [.sl .o 1 (l0_0.map (eL 1 (eL 4 (e308)))),.sl .o 4 (l0_1.map e187),.sl .o 5 (l0_2.map e190),.sl .o 6 (l0_3.map e268),.sl .o 1 (l0_4.map (eI .i64)),.sl .o 6 (l0_5.map e270),.lit (.int .i64 a0_6),.sl .o 1 (l0_7.map (eI .i64)),.sl .o 3 (l0_8.map e194),.lit (.int .i64 a0_9),.sl .o 1 (l0_10.map (eI .i64)),.sl .o 4 (l0_11.map e210)],.lit (.int .i64 a1)] [] (.lit (.bool r)):=by
 refine acalls (fn:=Tryz.f3) (nt:=74) Tryz.func3 rfl rfl (Nat.le_of_ble_eq_true rfl) fun E hE=>?_
 rw [laws_FnExactCalmWorld.f] at H
 refine aw_grp1<|wk_start<|kb g0 (bxA 0)<|kv g0 asg<|wk_end<|ac_next<|aw_grp1<|wk_start<|kv g0 asg<|wk_end<|ac_next<|aw_grp1<|wk_start<|kv g0 (ldBA 12 [.sl .o 1 (l0_0.map (eL 1 (eL 4 e308))),.sl .o 4 (l0_1.map e187),.sl .o 5 (l0_2.map e190),.sl .o 6 (l0_3.map e268),.sl .o 1 (l0_4.map (eI .i64)),.sl .o 6 (l0_5.map e270),.lit (.int .i64 a0_6),.sl .o 1 (l0_7.map (eI .i64)),.sl .o 3 (l0_8.map e194),.lit (.int .i64 a0_9),.sl .o 1 (l0_10.map (eI .i64)),.sl .o 4 (l0_11.map e210)])<|kv g0 mv ?_
 obtain ⟨t1,A2,H⟩:=of_bind H
 refine kcS0 15 (.lit (.int .i64 t1)) [] g0 (cal (laws_szWorld.ok A2) [] 9999 .n (hf:=Tryz.func8)) rfl rfl<|kv g0 asg<|wk_end<|ac_next<|aw_grp1<|aw_grp1<|wk_start<|kv g0 mv<|kv g0 lss<|wk_end<|ac_next ?_
 by_cases c3 : t1 < 0
 ·rw [if_pos c3] at H
  refine aw_ifT ?_ (decide_eq_true c3)
  refine aw_grp1<|wk_start<|kv g0 asg<|wk_end<|ac_next<|aw_ret<|ac_thenR ?_
  obtain rfl:=Option.some.inj H
  exact acr hE [.tmp 4] (.tmp .nil) (.one _) [] 9999
 rw [if_neg c3] at H
 refine aw_ifF ?_ (decide_eq_false c3)
 refine aw_skip<|ac_next<|aw_grp1<|wk_start<|kv g0 (ldBA 12 [.sl .o 1 (l0_0.map (eL 1 (eL 4 e308))),.sl .o 4 (l0_1.map e187),.sl .o 5 (l0_2.map e190),.sl .o 6 (l0_3.map e268),.sl .o 1 (l0_4.map (eI .i64)),.sl .o 6 (l0_5.map e270),.lit (.int .i64 a0_6),.sl .o 1 (l0_7.map (eI .i64)),.sl .o 3 (l0_8.map e194),.lit (.int .i64 a0_9),.sl .o 1 (l0_10.map (eI .i64)),.sl .o 4 (l0_11.map e210)]) ?_
 obtain ⟨t4,A5,H⟩:=of_bind H
 refine kcS10 19 (.agg [.row 1,.row 2,.row 3,.row 4,.row 5,.row 6,.lit (.int .i64 t4.2.2.2.2.2.2.1),.row 7,.row 8,.lit (.int .i64 t4.2.2.2.2.2.2.2.2.2.1),.row 9,.row 10]) [(1,.drow false [.own 147 [.own 234 []]] 145 1 (t4.1.map (eL 1 (eL 4 e234)))),(2,.drow false ds67 67 4 (t4.2.1.map e67)),(3,.drow false ds65 65 5 (t4.2.2.1.map e65)),(4,.row 139 6 (t4.2.2.2.1.map e139)),(5,.row 3 1 (t4.2.2.2.2.1.map (eI .i64))),(6,.row 154 6 (t4.2.2.2.2.2.1.map e154)),(7,.row 3 1 (t4.2.2.2.2.2.2.2.1.map (eI .i64))),(8,.row 151 3 (t4.2.2.2.2.2.2.2.2.1.map e151)),(9,.row 3 1 (t4.2.2.2.2.2.2.2.2.2.2.1.map (eI .i64))),(10,.row 59 4 (t4.2.2.2.2.2.2.2.2.2.2.2.map e59))] g0 (cal (laws_toWorld.ok A5) [1,2,3,4,5,6,7,8,9,10] 9999 .n (hf:=Tryz.func10)) rfl rfl<|kv g0 mv ?_
 obtain ⟨t6,A7,H⟩:=of_bind H
 refine kcS10 21 (.agg [.row 11,.row 12,.row 13,.row 14,.row 15,.row 16,.lit (.int .i64 t6.2.2.2.2.2.2.1),.row 17,.row 18,.lit (.int .i64 t6.2.2.2.2.2.2.2.2.2.1),.row 19,.row 20]) [(11,.row 145 1 (t6.1.map (eL 1 (eL 4 e234)))),(12,.row 67 4 (t6.2.1.map e67)),(13,.row 65 5 (t6.2.2.1.map e65)),(14,.row 139 6 (t6.2.2.2.1.map e139)),(15,.row 3 1 (t6.2.2.2.2.1.map (eI .i64))),(16,.row 154 6 (t6.2.2.2.2.2.1.map e154)),(17,.row 3 1 (t6.2.2.2.2.2.2.2.1.map (eI .i64))),(18,.row 151 3 (t6.2.2.2.2.2.2.2.2.1.map e151)),(19,.row 3 1 (t6.2.2.2.2.2.2.2.2.2.2.1.map (eI .i64))),(20,.row 59 4 (t6.2.2.2.2.2.2.2.2.2.2.2.map e59))] g0 (cal (spec_CalmWorld.ok A7) [11,12,13,14,15,16,17,18,19,20] 9999 .n (hf:=Tryz.func9)) rfl rfl<|kb g0 (alc 21 [.slice none 0 0,.slice none 0 0,.slice none 0 0,.slice none 0 0,.slice none 0 0,.slice none 0 0,.int .i64 0,.slice none 0 0,.slice none 0 0,.int .i64 0,.slice none 0 0,.slice none 0 0] [.lit (.slice none 0 0),.lit (.slice none 0 0),.lit (.slice none 0 0),.lit (.slice none 0 0),.lit (.slice none 0 0),.lit (.slice none 0 0),.lit (.int .i64 0),.lit (.slice none 0 0),.lit (.slice none 0 0),.lit (.int .i64 0),.lit (.slice none 0 0),.lit (.slice none 0 0)])<|ks g0 (stB 12 [.row 11,.row 12,.row 13,.row 14,.row 15,.row 16,.lit (.int .i64 t6.2.2.2.2.2.2.1),.row 17,.row 18,.lit (.int .i64 t6.2.2.2.2.2.2.2.2.2.1),.row 19,.row 20])<|wk_end<|ac_next<|aw_grp1<|wk_start<|kv g0 (ldBA 12 [.sl .o 1 (l0_0.map (eL 1 (eL 4 e308))),.sl .o 4 (l0_1.map e187),.sl .o 5 (l0_2.map e190),.sl .o 6 (l0_3.map e268),.sl .o 1 (l0_4.map (eI .i64)),.sl .o 6 (l0_5.map e270),.lit (.int .i64 a0_6),.sl .o 1 (l0_7.map (eI .i64)),.sl .o 3 (l0_8.map e194),.lit (.int .i64 a0_9),.sl .o 1 (l0_10.map (eI .i64)),.sl .o 4 (l0_11.map e210)]) ?_
 obtain ⟨t8,A9,H⟩:=of_bind H
 refine kcS10 23 (.agg [.row 22,.row 23,.row 24,.row 25,.row 26,.row 27,.lit (.int .i64 t8.2.2.2.2.2.2.1),.row 28,.row 29,.lit (.int .i64 t8.2.2.2.2.2.2.2.2.2.1),.row 30,.row 31]) [(22,.drow false [.own 147 [.own 234 []]] 145 1 (t8.1.map (eL 1 (eL 4 e234)))),(23,.drow false ds67 67 4 (t8.2.1.map e67)),(24,.drow false ds65 65 5 (t8.2.2.1.map e65)),(25,.row 139 6 (t8.2.2.2.1.map e139)),(26,.row 3 1 (t8.2.2.2.2.1.map (eI .i64))),(27,.row 154 6 (t8.2.2.2.2.2.1.map e154)),(28,.row 3 1 (t8.2.2.2.2.2.2.2.1.map (eI .i64))),(29,.row 151 3 (t8.2.2.2.2.2.2.2.2.1.map e151)),(30,.row 3 1 (t8.2.2.2.2.2.2.2.2.2.2.1.map (eI .i64))),(31,.row 59 4 (t8.2.2.2.2.2.2.2.2.2.2.2.map e59))] g0 (cal (laws_toWorld.ok A9) [22,23,24,25,26,27,28,29,30,31] 9999 .n (hf:=Tryz.func10)) rfl rfl<|kb g0 (alc 32 [.slice none 0 0,.slice none 0 0,.slice none 0 0,.slice none 0 0,.slice none 0 0,.slice none 0 0,.int .i64 0,.slice none 0 0,.slice none 0 0,.int .i64 0,.slice none 0 0,.slice none 0 0] [.lit (.slice none 0 0),.lit (.slice none 0 0),.lit (.slice none 0 0),.lit (.slice none 0 0),.lit (.slice none 0 0),.lit (.slice none 0 0),.lit (.int .i64 0),.lit (.slice none 0 0),.lit (.slice none 0 0),.lit (.int .i64 0),.lit (.slice none 0 0),.lit (.slice none 0 0)])<|ks g0 (stB 12 [.row 22,.row 23,.row 24,.row 25,.row 26,.row 27,.lit (.int .i64 t8.2.2.2.2.2.2.1),.row 28,.row 29,.lit (.int .i64 t8.2.2.2.2.2.2.2.2.2.1),.row 30,.row 31])<|wk_end<|ac_next<|aw_grp1<|wk_start<|kv g0 (ldBA 12 [.row 22,.row 23,.row 24,.row 25,.row 26,.row 27,.lit (.int .i64 t8.2.2.2.2.2.2.1),.row 28,.row 29,.lit (.int .i64 t8.2.2.2.2.2.2.2.2.2.1),.row 30,.row 31])<|kv g0 mv ?_
 obtain ⟨t10,A11,H⟩:=of_bind H
 refine kcS10 26 (.agg [.row 33,.row 34,.row 35,.row 36,.row 37,.row 38,.lit (.int .i64 t10.2.2.2.2.2.2.1),.row 39,.row 40,.lit (.int .i64 t10.2.2.2.2.2.2.2.2.2.1),.row 41,.row 42]) [(33,.drow false [.own 147 [.own 234 []]] 145 1 (t10.1.map (eL 1 (eL 4 e234)))),(34,.drow false ds67 67 4 (t10.2.1.map e67)),(35,.drow false ds65 65 5 (t10.2.2.1.map e65)),(36,.row 139 6 (t10.2.2.2.1.map e139)),(37,.row 3 1 (t10.2.2.2.2.1.map (eI .i64))),(38,.row 154 6 (t10.2.2.2.2.2.1.map e154)),(39,.row 3 1 (t10.2.2.2.2.2.2.2.1.map (eI .i64))),(40,.row 151 3 (t10.2.2.2.2.2.2.2.2.1.map e151)),(41,.row 3 1 (t10.2.2.2.2.2.2.2.2.2.2.1.map (eI .i64))),(42,.row 59 4 (t10.2.2.2.2.2.2.2.2.2.2.2.map e59))] g0 (cal (impl_CalmWorld.ok A11) [33,34,35,36,37,38,39,40,41,42] 9999 .n (hf:=Tryz.func11)) rfl rfl<|kb g0 (alc 43 [.slice none 0 0,.slice none 0 0,.slice none 0 0,.slice none 0 0,.slice none 0 0,.slice none 0 0,.int .i64 0,.slice none 0 0,.slice none 0 0,.int .i64 0,.slice none 0 0,.slice none 0 0] [.lit (.slice none 0 0),.lit (.slice none 0 0),.lit (.slice none 0 0),.lit (.slice none 0 0),.lit (.slice none 0 0),.lit (.slice none 0 0),.lit (.int .i64 0),.lit (.slice none 0 0),.lit (.slice none 0 0),.lit (.int .i64 0),.lit (.slice none 0 0),.lit (.slice none 0 0)])<|ks g0 (stB 12 [.row 33,.row 34,.row 35,.row 36,.row 37,.row 38,.lit (.int .i64 t10.2.2.2.2.2.2.1),.row 39,.row 40,.lit (.int .i64 t10.2.2.2.2.2.2.2.2.2.1),.row 41,.row 42])<|wk_end<|ac_next<|aw_grp1<|aw_grp1<|wk_start<|kv g0 (ldBA 12 [.row 33,.row 34,.row 35,.row 36,.row 37,.row 38,.lit (.int .i64 t10.2.2.2.2.2.2.1),.row 39,.row 40,.lit (.int .i64 t10.2.2.2.2.2.2.2.2.2.1),.row 41,.row 42])<|kv g0 (ldBA 12 [.row 11,.row 12,.row 13,.row 14,.row 15,.row 16,.lit (.int .i64 t6.2.2.2.2.2.2.1),.row 17,.row 18,.lit (.int .i64 t6.2.2.2.2.2.2.2.2.2.1),.row 19,.row 20]) ?_
 obtain ⟨t12,A13,H⟩:=of_bind H
 refine kcS0 29 (.lit (.bool t12)) [] g0 (cal (laws_eqWorld.ok A13) [] 9999 .n (hf:=Tryz.func12)) rfl rfl<|kv g0 not_<|wk_end<|ac_next ?_
 by_cases c14 : t12 = true
 ·rw [if_pos c14] at H
  refine aw_ifF ?_ (nF c14)
  refine aw_skip<|ac_next<|aw_grp1<|aw_grp1<|wk_start<|kv g0 (ldBA 12 [.row 22,.row 23,.row 24,.row 25,.row 26,.row 27,.lit (.int .i64 t8.2.2.2.2.2.2.1),.row 28,.row 29,.lit (.int .i64 t8.2.2.2.2.2.2.2.2.2.1),.row 30,.row 31])<|kv g0 (ldBA 12 [.sl .o 1 (l0_0.map (eL 1 (eL 4 e308))),.sl .o 4 (l0_1.map e187),.sl .o 5 (l0_2.map e190),.sl .o 6 (l0_3.map e268),.sl .o 1 (l0_4.map (eI .i64)),.sl .o 6 (l0_5.map e270),.lit (.int .i64 a0_6),.sl .o 1 (l0_7.map (eI .i64)),.sl .o 3 (l0_8.map e194),.lit (.int .i64 a0_9),.sl .o 1 (l0_10.map (eI .i64)),.sl .o 4 (l0_11.map e210)]) ?_
  obtain ⟨t15,A16,H⟩:=of_bind H
  refine kcS10 33 (.agg [.row 44,.row 45,.row 46,.row 47,.row 48,.row 49,.lit (.int .i64 t15.2.2.2.2.2.2.1),.row 50,.row 51,.lit (.int .i64 t15.2.2.2.2.2.2.2.2.2.1),.row 52,.row 53]) [(44,.drow false [.own 147 [.own 234 []]] 145 1 (t15.1.map (eL 1 (eL 4 e234)))),(45,.drow false ds67 67 4 (t15.2.1.map e67)),(46,.drow false ds65 65 5 (t15.2.2.1.map e65)),(47,.row 139 6 (t15.2.2.2.1.map e139)),(48,.row 3 1 (t15.2.2.2.2.1.map (eI .i64))),(49,.row 154 6 (t15.2.2.2.2.2.1.map e154)),(50,.row 3 1 (t15.2.2.2.2.2.2.2.1.map (eI .i64))),(51,.row 151 3 (t15.2.2.2.2.2.2.2.2.1.map e151)),(52,.row 3 1 (t15.2.2.2.2.2.2.2.2.2.2.1.map (eI .i64))),(53,.row 59 4 (t15.2.2.2.2.2.2.2.2.2.2.2.map e59))] g0 (cal (laws_toWorld.ok A16) [44,45,46,47,48,49,50,51,52,53] 9999 .n (hf:=Tryz.func10)) rfl rfl ?_
  obtain ⟨t17,A18,H⟩:=of_bind H
  refine kcS0 34 (.lit (.bool t17)) [] g0 (cal (laws_eqWorld.ok A18) [] 9999 .n (hf:=Tryz.func12)) rfl rfl<|kv g0 not_<|wk_end_draw hM (by kernel_rfl)<|ac_next ?_
  by_cases c19 : t17 = true
  ·rw [if_pos c19] at H
   refine aw_ifF ?_ (nF c19)
   refine aw_skip<|ac_next<|aw_grp1<|wk_start<|kv g0 asg<|wk_end<|ac_next<|aw_grp1<|wk_start<|kv g0 (ldBA 12 [.row 22,.row 23,.row 24,.row 25,.row 26,.row 27,.lit (.int .i64 t8.2.2.2.2.2.2.1),.row 28,.row 29,.lit (.int .i64 t8.2.2.2.2.2.2.2.2.2.1),.row 30,.row 31])<|kv g0 mv ?_
   obtain ⟨t20,A21,H⟩:=of_bind H
   refine kcS10 38 (.lit (.int .i64 t20.1)) [(22,.drow false [.own 147 [.own 234 []]] 145 1 (t20.2.1.map (eL 1 (eL 4 e234)))),(23,.drow false ds67 67 4 (t20.2.2.1.map e67)),(24,.drow false ds65 65 5 (t20.2.2.2.1.map e65)),(25,.row 139 6 (t20.2.2.2.2.1.map e139)),(26,.row 3 1 (t20.2.2.2.2.2.1.map (eI .i64))),(27,.row 154 6 (t20.2.2.2.2.2.2.1.map e154)),(28,.row 3 1 (t20.2.2.2.2.2.2.2.1.map (eI .i64))),(29,.row 151 3 (t20.2.2.2.2.2.2.2.2.1.map e151)),(30,.row 3 1 (t20.2.2.2.2.2.2.2.2.2.1.map (eI .i64))),(31,.row 59 4 (t20.2.2.2.2.2.2.2.2.2.2.map e59))] g0 (cal (laws_markWorld.ok A21) [22,23,24,25,26,27,28,29,30,31] 9999 .n (hf:=Tryz.func13)) rfl rfl<|kv g0 asg<|wk_end<|ac_next<|aw_grp1<|aw_grp1<|wk_start<|kv g0 mv<|kv g0 lss<|kv g0 mv ?_
   by_cases c22 : t20.1 < 0
   ·rw [if_pos c22] at H
    refine kx (hF (decide_eq_true c22)) ?_
    refine kx (hF (decide_eq_true c22)) ?_
    refine kx (hF (decide_eq_true c22)) ?_
    refine kx (hF (decide_eq_true c22)) ?_
    refine kv g0 (pkT (decide_eq_true c22))<|wk_end<|ac_next ?_
    refine aw_ifT ?_ rfl
    refine aw_grp1<|wk_start<|kv g0 asg<|wk_end<|ac_next<|aw_ret<|ac_thenR ?_
    obtain rfl:=Option.some.inj H
    exact acr hE [.tmp 4] (.tmp .nil) (.one _) [] 9999
   rw [if_neg c22] at H
   refine kv (g1 (decide_eq_false c22)) (ldBA 12 [.row 33,.row 34,.row 35,.row 36,.row 37,.row 38,.lit (.int .i64 t10.2.2.2.2.2.2.1),.row 39,.row 40,.lit (.int .i64 t10.2.2.2.2.2.2.2.2.2.1),.row 41,.row 42])<|kv (g1 (decide_eq_false c22)) (ldBA 12 [.row 11,.row 12,.row 13,.row 14,.row 15,.row 16,.lit (.int .i64 t6.2.2.2.2.2.2.1),.row 17,.row 18,.lit (.int .i64 t6.2.2.2.2.2.2.2.2.2.1),.row 19,.row 20]) ?_
   obtain ⟨t23,A24,H⟩:=of_bind H
   refine kcS0 44 (.lit (.bool t23)) [] (g1 (decide_eq_false c22)) (cal (laws_eqWorld.ok A24) [] 9999 .n (hf:=Tryz.func12)) rfl rfl<|kv (g1 (decide_eq_false c22)) not_ ?_
   refine kv g0 (pkF (decide_eq_false c22))<|wk_end<|ac_next ?_
   by_cases c25 : t23 = true
   ·rw [if_pos c25] at H
    refine aw_ifF ?_ (nF c25)
    refine aw_skip<|ac_next<|aw_grp1<|wk_start<|kv g0 asg<|wk_end<|ac_next<|aw_grp1<|wk_start<|kv g0 (ldBA 12 [.row 33,.row 34,.row 35,.row 36,.row 37,.row 38,.lit (.int .i64 t10.2.2.2.2.2.2.1),.row 39,.row 40,.lit (.int .i64 t10.2.2.2.2.2.2.2.2.2.1),.row 41,.row 42])<|kv g0 mv ?_
    obtain ⟨t26,A27,H⟩:=of_bind H
    refine kcS10 49 (.lit (.int .i64 t26.1)) [(33,.drow false [.own 147 [.own 234 []]] 145 1 (t26.2.1.map (eL 1 (eL 4 e234)))),(34,.drow false ds67 67 4 (t26.2.2.1.map e67)),(35,.drow false ds65 65 5 (t26.2.2.2.1.map e65)),(36,.row 139 6 (t26.2.2.2.2.1.map e139)),(37,.row 3 1 (t26.2.2.2.2.2.1.map (eI .i64))),(38,.row 154 6 (t26.2.2.2.2.2.2.1.map e154)),(39,.row 3 1 (t26.2.2.2.2.2.2.2.1.map (eI .i64))),(40,.row 151 3 (t26.2.2.2.2.2.2.2.2.1.map e151)),(41,.row 3 1 (t26.2.2.2.2.2.2.2.2.2.1.map (eI .i64))),(42,.row 59 4 (t26.2.2.2.2.2.2.2.2.2.2.map e59))] g0 (cal (laws_markWorld.ok A27) [33,34,35,36,37,38,39,40,41,42] 9999 .n (hf:=Tryz.func13)) rfl rfl<|kv g0 asg<|wk_end<|ac_next<|aw_grp1<|wk_start<|kv g0 asg<|wk_end<|ac_next<|aw_grp1<|wk_start<|kv g0 (ldBA 12 [.row 33,.row 34,.row 35,.row 36,.row 37,.row 38,.lit (.int .i64 t10.2.2.2.2.2.2.1),.row 39,.row 40,.lit (.int .i64 t10.2.2.2.2.2.2.2.2.2.1),.row 41,.row 42])<|kv g0 mv ?_
    obtain ⟨t28,A29,H⟩:=of_bind H
    refine kcS0 52 (.lit (.int .i64 t28)) [] g0 (cal (laws_heldWorld.ok A29) [] 9999 .n (hf:=Tryz.func14)) rfl rfl<|kv g0 asg<|wk_end<|ac_next<|aw_grp1<|aw_grp1<|wk_start<|kv g0 mv<|kv g0 lss<|wk_end<|ac_next ?_
    by_cases c30 : t28 < 0
    ·rw [if_pos c30] at H
     refine aw_ifT ?_ (decide_eq_true c30)
     refine aw_grp1<|wk_start<|kv g0 asg<|wk_end<|ac_next<|aw_ret<|ac_thenR ?_
     obtain rfl:=Option.some.inj H
     exact acr hE [.tmp 4] (.tmp .nil) (.one _) [] 9999
    rw [if_neg c30] at H
    refine aw_ifF ?_ (decide_eq_false c30)
    refine aw_skip<|ac_next<|aw_grp1<|aw_grp1<|wk_start<|kv g0 mv<|kv g0 mv<|kv g0 neq<|wk_end<|ac_next ?_
    by_cases c31 : t28 = t26.1
    ·rw [if_pos c31] at H
     refine aw_ifF ?_ (eM c31)
     refine aw_skip<|ac_next<|aw_grp1<|wk_start<|kv g0 (ldBA 12 [.sl .o 1 (l0_0.map (eL 1 (eL 4 e308))),.sl .o 4 (l0_1.map e187),.sl .o 5 (l0_2.map e190),.sl .o 6 (l0_3.map e268),.sl .o 1 (l0_4.map (eI .i64)),.sl .o 6 (l0_5.map e270),.lit (.int .i64 a0_6),.sl .o 1 (l0_7.map (eI .i64)),.sl .o 3 (l0_8.map e194),.lit (.int .i64 a0_9),.sl .o 1 (l0_10.map (eI .i64)),.sl .o 4 (l0_11.map e210)]) ?_
     obtain ⟨t32,A33,H⟩:=of_bind H
     refine kcS10 59 (.agg [.row 54,.row 55,.row 56,.row 57,.row 58,.row 59,.lit (.int .i64 t32.2.2.2.2.2.2.1),.row 60,.row 61,.lit (.int .i64 t32.2.2.2.2.2.2.2.2.2.1),.row 62,.row 63]) [(54,.drow false [.own 147 [.own 234 []]] 145 1 (t32.1.map (eL 1 (eL 4 e234)))),(55,.drow false ds67 67 4 (t32.2.1.map e67)),(56,.drow false ds65 65 5 (t32.2.2.1.map e65)),(57,.row 139 6 (t32.2.2.2.1.map e139)),(58,.row 3 1 (t32.2.2.2.2.1.map (eI .i64))),(59,.row 154 6 (t32.2.2.2.2.2.1.map e154)),(60,.row 3 1 (t32.2.2.2.2.2.2.2.1.map (eI .i64))),(61,.row 151 3 (t32.2.2.2.2.2.2.2.2.1.map e151)),(62,.row 3 1 (t32.2.2.2.2.2.2.2.2.2.2.1.map (eI .i64))),(63,.row 59 4 (t32.2.2.2.2.2.2.2.2.2.2.2.map e59))] g0 (cal (laws_toWorld.ok A33) [54,55,56,57,58,59,60,61,62,63] 9999 .n (hf:=Tryz.func10)) rfl rfl<|kv g0 mv ?_
     obtain ⟨t34,A35,H⟩:=of_bind H
     refine kcS10 61 (.agg [.row 64,.row 65,.row 66,.row 67,.row 68,.row 69,.lit (.int .i64 t34.2.2.2.2.2.2.1),.row 70,.row 71,.lit (.int .i64 t34.2.2.2.2.2.2.2.2.2.1),.row 72,.row 73]) [(64,.drow false [.own 147 [.own 234 []]] 145 1 (t34.1.map (eL 1 (eL 4 e234)))),(65,.drow false ds67 67 4 (t34.2.1.map e67)),(66,.drow false ds65 65 5 (t34.2.2.1.map e65)),(67,.row 139 6 (t34.2.2.2.1.map e139)),(68,.row 3 1 (t34.2.2.2.2.1.map (eI .i64))),(69,.row 154 6 (t34.2.2.2.2.2.1.map e154)),(70,.row 3 1 (t34.2.2.2.2.2.2.2.1.map (eI .i64))),(71,.row 151 3 (t34.2.2.2.2.2.2.2.2.1.map e151)),(72,.row 3 1 (t34.2.2.2.2.2.2.2.2.2.2.1.map (eI .i64))),(73,.row 59 4 (t34.2.2.2.2.2.2.2.2.2.2.2.map e59))] g0 (cal (impl_CalmWorld.ok A35) [64,65,66,67,68,69,70,71,72,73] 9999 .n (hf:=Tryz.func11)) rfl rfl<|kb g0 (alc 74 [.slice none 0 0,.slice none 0 0,.slice none 0 0,.slice none 0 0,.slice none 0 0,.slice none 0 0,.int .i64 0,.slice none 0 0,.slice none 0 0,.int .i64 0,.slice none 0 0,.slice none 0 0] [.lit (.slice none 0 0),.lit (.slice none 0 0),.lit (.slice none 0 0),.lit (.slice none 0 0),.lit (.slice none 0 0),.lit (.slice none 0 0),.lit (.int .i64 0),.lit (.slice none 0 0),.lit (.slice none 0 0),.lit (.int .i64 0),.lit (.slice none 0 0),.lit (.slice none 0 0)])<|ks g0 (stB 12 [.row 64,.row 65,.row 66,.row 67,.row 68,.row 69,.lit (.int .i64 t34.2.2.2.2.2.2.1),.row 70,.row 71,.lit (.int .i64 t34.2.2.2.2.2.2.2.2.2.1),.row 72,.row 73])<|wk_end<|ac_next<|aw_grp1<|aw_grp1<|wk_start<|kv g0 (ldBA 12 [.row 64,.row 65,.row 66,.row 67,.row 68,.row 69,.lit (.int .i64 t34.2.2.2.2.2.2.1),.row 70,.row 71,.lit (.int .i64 t34.2.2.2.2.2.2.2.2.2.1),.row 72,.row 73])<|kv g0 (ldBA 12 [.row 11,.row 12,.row 13,.row 14,.row 15,.row 16,.lit (.int .i64 t6.2.2.2.2.2.2.1),.row 17,.row 18,.lit (.int .i64 t6.2.2.2.2.2.2.2.2.2.1),.row 19,.row 20]) ?_
     obtain ⟨t36,A37,H⟩:=of_bind H
     refine kcS0 64 (.lit (.bool t36)) [] g0 (cal (laws_eqWorld.ok A37) [] 9999 .n (hf:=Tryz.func12)) rfl rfl<|kv g0 not_<|wk_end<|ac_next ?_
     by_cases c38 : t36 = true
     ·rw [if_pos c38] at H
      refine aw_ifF ?_ (nF c38)
      refine aw_skip<|ac_next<|aw_grp1<|wk_start<|kv g0 asg<|wk_end<|ac_next<|aw_grp1<|wk_start<|kv g0 (ldBA 12 [.row 33,.row 34,.row 35,.row 36,.row 37,.row 38,.lit (.int .i64 t10.2.2.2.2.2.2.1),.row 39,.row 40,.lit (.int .i64 t10.2.2.2.2.2.2.2.2.2.1),.row 41,.row 42])<|kv g0 mv ?_
      obtain ⟨t39,A40,H⟩:=of_bind H
      refine kcS0 68 (.lit (.int .i64 t39)) [] g0 (cal (laws_heldWorld.ok A40) [] 9999 .n (hf:=Tryz.func14)) rfl rfl<|kv g0 asg<|wk_end<|ac_next<|aw_grp1<|aw_grp1<|wk_start<|kv g0 mv<|kv g0 lss<|wk_end<|ac_next ?_
      by_cases c41 : t39 < 0
      ·rw [if_pos c41] at H
       refine aw_ifT ?_ (decide_eq_true c41)
       refine aw_grp1<|wk_start<|kv g0 asg<|wk_end<|ac_next<|aw_ret<|ac_thenR ?_
       obtain rfl:=Option.some.inj H
       exact acr hE [.tmp 4] (.tmp .nil) (.one _) [] 9999
      rw [if_neg c41] at H
      refine aw_ifF ?_ (decide_eq_false c41)
      refine aw_skip<|ac_next<|aw_grp1<|aw_grp1<|wk_start<|kv g0 mv<|kv g0 mv<|kv g0 neq<|wk_end<|ac_next ?_
      by_cases c42 : t39 = t26.1
      ·rw [if_pos c42] at H
       refine aw_ifF ?_ (eM c42)
       refine aw_skip<|ac_next<|aw_grp1<|wk_start<|kv g0 asg<|wk_end<|ac_next<|aw_ret ?_
       obtain rfl:=Option.some.inj H
       exact acr hE [.tmp 4] (.tmp .nil) (.one _) [] 9999
      rw [if_neg c42] at H
      refine aw_ifT ?_ (eN c42)
      refine aw_grp1<|wk_start<|kv g0 asg<|wk_end<|ac_next<|aw_ret<|ac_thenR ?_
      obtain rfl:=Option.some.inj H
      exact acr hE [.tmp 4] (.tmp .nil) (.one _) [] 9999
     rw [if_neg c38] at H
     refine aw_ifT ?_ (nT (bF c38))
     refine aw_grp1<|wk_start<|kv g0 asg<|wk_end<|ac_next<|aw_ret<|ac_thenR ?_
     obtain rfl:=Option.some.inj H
     exact acr hE [.tmp 4] (.tmp .nil) (.one _) [] 9999
    rw [if_neg c31] at H
    refine aw_ifT ?_ (eN c31)
    refine aw_grp1<|wk_start<|kv g0 asg<|wk_end<|ac_next<|aw_ret<|ac_thenR ?_
    obtain rfl:=Option.some.inj H
    exact acr hE [.tmp 4] (.tmp .nil) (.one _) [] 9999
   rw [if_neg c25] at H
   refine aw_ifT ?_ (nT (bF c25))
   refine aw_grp1<|wk_start<|kv g0 asg<|wk_end<|ac_next<|aw_ret<|ac_thenR ?_
   obtain rfl:=Option.some.inj H
   exact acr hE [.tmp 4] (.tmp .nil) (.one _) [] 9999
  rw [if_neg c19] at H
  refine aw_ifT ?_ (nT (bF c19))
  refine aw_grp1<|wk_start<|kv g0 asg<|wk_end<|ac_next<|aw_ret<|ac_thenR ?_
  obtain rfl:=Option.some.inj H
  exact acr hE [.tmp 4] (.tmp .nil) (.one _) [] 9999
 rw [if_neg c14] at H
 refine aw_ifT ?_ (nT (bF c14))
 refine aw_grp1<|wk_start<|kv g0 asg<|wk_end<|ac_next<|aw_ret<|ac_thenR ?_
 obtain rfl:=Option.some.inj H
 exact acr hE [.tmp 4] (.tmp .nil) (.one _) [] 9999
end Go.Proofs.YtkkglhhkpihmgaaGreat.PFnExactCalmWorld
